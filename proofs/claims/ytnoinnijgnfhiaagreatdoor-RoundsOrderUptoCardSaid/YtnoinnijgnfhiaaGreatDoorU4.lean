/- Written by shrink.py from texts of ours: comments struck, what is not reached left out, names short. -/
import Derived.Test.YtnoinnijgnfhiaaGreatDoorU3
import Derived.Test.YtnoinnijgnfhiaaGreatDoorU1
import Derived.Test.YtnoinnijgnfhiaaGreatDoorU2
import Derived.RangeFuncIn
import Derived.RangeFuncLeaves
import Derived.WalkKit
import Derived.ProofKit
import Derived.OpenShut
import Derived.JoinedCond
import Derived.WideKeyArgs
import Derived.Deep.DeepHandedRow
import Derived.Lib.LaidU8
import Derived.Lay
import Derived.MakeChecks
import Derived.LaidMore
import Derived.WideKeyElems2
import Derived.KernelRfl
import Derived.Lib.SlBytesConst
import Derived.Shelf.SortM.Plain
import Derived.Shelf.SortM.SortNone
import Derived.Shelf.Slices.CompactI
import Derived.Ground.SlgmProg
import Derived.Test.YtnoinnijgnfhiaaGreatDoorProg
namespace Go.Am
open Go
set_option linter.unusedSimpArgs false
set_option linter.unusedVariables false
set_option linter.unusedSectionVars false
inductive AFz (h h2:Ab):AO→AO→Prop
 | same (x:AO):AFz h h2 x x
 | rows (g st:Nat) (rs rs':List (List AV)) (hl:rs.length=rs'.length) (hr : ∀ r ∈ rs',Cm st r) (hc : ∀ i j,i<rs.length→j<st→Fz h h2 (cell rs i j) (cell rs' i j)):AFz h h2 (.rows g st rs) (.rows g st rs')
def HFz (h h2:Ab):Prop := ∀ o y,h2 o=some y → ∃ x,h o=some x∧AFz h h2 x y
theorem AFz.gen {h h2:Ab}{x y:AO}(k:AFz h h2 x y):x.gen=y.gen:=by cases k <;> rfl
theorem HFz.subG {h h2:Ab}(k:HFz h h2):Ahi h2 h:=fun o y e=>let ⟨x,h1,h2⟩:=k o y e; ⟨x,h1,h2.gen⟩
theorem Sim.fz {P:Program}[GW P]{B:Base P}{mu:Mu}{h h2:Ab}{w:World}(s:Sim B mu h w)(k:HFz h h2):Sim B mu h2 w:=by
 refine⟨s.base,s.muOk,s.fin,?_,?_,?_,?_,s.glob,fun o g x e=>by
  obtain⟨y,h1,hx⟩:=k o _ e
  cases hx with
  | same _=>exact s.blks o g x h1⟩
 ·obtain⟨N,hN⟩:=s.finh
  refine⟨N,fun o ho=>?_⟩
  cases hq:h2 o with
  | none=>rfl
  | some y=>obtain⟨x,h1,_⟩:=k o y hq; rw [hN o ho] at h1; cases h1
 ·intro o g st rs e
  obtain⟨x,h1,hx⟩:=k o _ e
  cases hx with
  | same _=>
   obtain⟨l,k1,k2,k3,k4,k5,k6⟩:=s.rows o g st rs h1
   exact⟨l,k1,k2,k3,k4,k5,fun i j hi hj=>let ⟨c,c1,c2⟩:=k6 i j hi hj; ⟨c,c1,Lx s k.subG (.same _) c2⟩⟩
  | rows _ _ rs0 _ hl hr hc=>
   obtain⟨l,k1,k2,k3,k4,k5,k6⟩:=s.rows o g st rs0 h1
   exact⟨l,k1,k2,k3,by rw [← hl]; exact k4,hr,fun i j hi hj=>let ⟨c,c1,c2⟩:=k6 i j (hl ▸ hi) hj; ⟨c,c1,Lx s k.subG (hc i j (hl ▸ hi) hj) c2⟩⟩
 ·intro o g es e
  obtain⟨x,h1,hx⟩:=k o _ e
  cases hx with
  | same _=>
   obtain⟨l,k1,k2,ens,clock,k3,k4,k5⟩:=s.maps o g es h1
   exact⟨l,k1,k2,ens,clock,k3,k4,fun i hi=>⟨Lx s k.subG (.same _) (k5 i hi).1,Lx s k.subG (.same _) (k5 i hi).2⟩⟩
 ·intro o o' x x' l l' e e' h1 h2 hb
  obtain⟨y,k1,k2⟩:=k _ _ e
  obtain⟨y',k1',k2'⟩:=k _ _ e'
  exact s.inj o o' y y' l l' k1 k1' (by rw [k2.gen]; exact h1) (by rw [k2'.gen]; exact h2) hb
section
variable {P:Program} [GW P] {f:FuncId} {n:Nat} {d:FK} {fr:Nat→AV} {ds:List AD} {h h2:Ab} {u:AU} {Q:QT} {k:List Item}
theorem Ajc {todo:List Item}{fr':Nat→AV}(hs:HFz h h2)(hz : ∀ t,Fz h h2 (fr t) (fr' t))(hr:Ex P f n d todo fr' ds h2 u Q):Ex P f n d todo fr ds h u Q:=by
 intro B mu w a cs p
 exact(hr B mu w a cs ⟨p.size,fun t=>Lx p.sim hs.subG (hz t) (p.fr t),p.ds.ext (Da.subG hs.subG),p.sim.fz hs,p.cs.ext (Da.subG hs.subG),p.rnd,p.fb⟩).ext (Da.subG hs.subG)
theorem Zx {fn:Func}{vs:List AV}{v':AV}(hf:P.funcs[f]? = some fn)(hx:J3 P h fr fn.results.toList=some vs)(hs:HFz h h2)(hz:Fz h h2 (Ku vs) v')(hu:d=false)(hq:Q (.ret v') h2 u):Sa P f n d .ret fr [] h u Q:=by
 intro B mu w a cs todo mode p hm
 obtain⟨c,h1,h2'⟩:=Vy p.sim p.fr hx
 have hd:a.defers=[]:=p.ds
 have hmode:=hm.ret_inv
 refine⟨.returned c,w,cs,_,.ret v',h2,mu,u,hq,Steps.refl P _,rfl,rfl,(by subst hu; exact⟨hmode,hd,fn,hf,h1⟩),Lx p.sim hs.subG hz h2',p.sim.fz hs,(Da.subG hs.subG).g,?_⟩
 subst hu
 rfl
end
inductive HL (h h2:Ab):List (Option AO)→List (Option AO)→Prop
 | nil:HL h h2 [] []
 | keep {x:Option AO} {xs ys:List (Option AO)} (r:HL h h2 xs ys):HL h h2 (x::xs) (x::ys)
 | drop {x:Option AO} {xs ys:List (Option AO)} (r:HL h h2 xs ys):HL h h2 (x::xs) (none::ys)
 | fz {g st:Nat} {row row':List AV} {xs ys:List (Option AO)} (hz:LF h h2 row row') (hl:row'.length=st) (hf:row'.all AV.flat=true) (r:HL h h2 xs ys):HL h h2 (some (.rows g st [row])::xs) (some (.rows g st [row'])::ys)
theorem HL.get {h h2:Ab}{xs ys:List (Option AO)}(k:HL h h2 xs ys):xs.length=ys.length ∧ ∀ (j:Nat) (y:AO),ys[j]? = some (some y) → ∃ x,xs[j]? = some (some x)∧AFz h h2 x y:=by
 induction k with
 | nil=>exact⟨rfl,fun j y e=>by simp at e⟩
 | keep r ih=>
  refine⟨by simp [ih.1],fun j y e=>?_⟩
  cases j with
  | zero=>simp only [List.getElem?_cons_zero,Option.some.injEq] at e; subst e; exact⟨y,by simp,.same _⟩
  | succ j=>simpa using ih.2 j y (by simpa using e)
 | drop r ih=>
  refine⟨by simp [ih.1],fun j y e=>?_⟩
  cases j with
  | zero=>simp at e
  | succ j=>simpa using ih.2 j y (by simpa using e)
 | @fz g st row row' xs ys hz hl hf r ih=>
  refine⟨by simp [ih.1],fun j y e=>?_⟩
  cases j with
  | zero=>
   simp only [List.getElem?_cons_zero,Option.some.injEq] at e
   subst e
   refine⟨.rows g st [row],by simp only [List.getElem?_cons_zero],.rows g st [row] [row'] rfl ?_ ?_⟩
   ·intro r hr
    rw [List.mem_singleton.1 hr]
    exact⟨hl,fun v hv=>List.all_eq_true.1 hf v hv⟩
   ·intro i j hi hj
    have:i=0:=by simpa using hi
    subst this
    have:=hz.all.2 j (by rw [hz.all.1,hl]; exact hj)
    simpa [cell] using this
  | succ j=>simpa using ih.2 j y (by simpa using e)
theorem HL.hfz {h0:Ab}{ids:List Nat}{N:Nat}{xs ys:List (Option AO)}(hI:Ids h0 ids N)(hl:xs.length=N)(k:HL (hp h0 ids xs) (hp h0 ids ys) xs ys):HFz (hp h0 ids xs) (hp h0 ids ys):=by
 intro o y e
 obtain⟨k1,k2⟩:=k.get
 by_cases ho:o ∈ ids
 ·obtain⟨j,hj,rfl⟩:=List.mem_iff_getElem.1 ho
  have ej:ids[j]=ix ids j:=by simp [ix,List.getD,hj]
  rw [ej] at e ⊢
  have hjl:j<ys.length:=by rw [← k1,hl,← hI.len]; exact hj
  have hy:=hI.at (xs:=ys) (j:=j) (x:=ys[j]) (by rw [← k1,hl]) (List.getElem?_eq_getElem hjl)
  rw [hy] at e
  obtain⟨x,hx,hz⟩:=k2 j y (by rw [List.getElem?_eq_getElem hjl,e])
  exact⟨x,hI.at hl hx,hz⟩
 ·rw [M8 ho] at e
  exact⟨y,by rw [M8 ho]; exact e,.same _⟩
section
variable {P:Program} [GW P] {f:FuncId} {n:Nat} {d:FK} {β:Type} {Q:Spec β} {m:R β} {ds:List AD} {u:AU} {k:List Item} {l:List (Nat×AV)} {all:List Oper}
variable {h0:Ab} {ids:List Nat} {xs:List (Option AO)} {N:Nat}
theorem Tz {todo:List Item}(ys:List (Option AO))(l':List (Nat×AV))(hI:Ids h0 ids N)(hl:xs.length=N)(hx:HL (hp h0 ids xs) (hp h0 ids ys) xs ys)(hf:FrFz (hp h0 ids xs) (hp h0 ids ys) l l')
  (hr:WR P f n d Q m todo (Ag l') ds (hp h0 ids ys) u):WR P f n d Q m todo (Ag l) ds (hp h0 ids xs) u:=fun hb=>Ajc (hx.hfz hI hl) hf.get (hr hb)
theorem Atc {ops:List Oper}(ys:List (Option AO))(l':List (Nat×AV))(hI:Ids h0 ids N)(hl:xs.length=N)(hx:HL (hp h0 ids xs) (hp h0 ids ys) xs ys)(hf:FrFz (hp h0 ids xs) (hp h0 ids ys) l l')
  (hr:WO P f n d Q k all m ops (Ag l') ds (hp h0 ids ys) u):WO P f n d Q k all m ops (Ag l) ds (hp h0 ids xs) u:=fun hb i hi=>Ajc (hx.hfz hI hl) hf.get (hr hb i hi)
end
def Qy:List Nat→List (Option AO)→List (Option AO)
 | [],xs=>xs
 | j::js,xs=>Qy js (xs.set j none)
def Ra:List Nat→List (Option AO)→List (Option AO)→List (Option AO)
 | j::js,y::ys,xs=>(Ra js ys (xs.set j none)).set j y
 | _,_,xs=>xs
def V3 (ids:List Nat):List Nat→List Nat
 | []=>[]
 | j::js=>ix ids j::V3 ids js
def Pt (N:Nat):List Nat→Bool
 | []=>true
 | j::js=>Nat.blt j N && !js.contains j&&Pt N js
theorem Amu : ∀ (js:List Nat) (xs:List (Option AO)),(Qy js xs).length=xs.length
 | [],_=>rfl
 | j::js,xs=>by rw [Qy,Amu js]; simp
theorem Ajg : ∀ (js:List Nat) (ys xs:List (Option AO)),(Ra js ys xs).length=xs.length
 | [],_,_=>by simp [Ra]
 | _::_,[],_=>by simp [Ra]
 | j::js,y::ys,xs=>by rw [Ra,List.length_set,Ajg js]; simp
theorem Ai2 : ∀ (js:List Nat) (xs:List (Option AO)) (i:Nat),xs[i]? = some none→(Qy js xs)[i]? = some none
 | [],_,_,h=>h
 | j::js,xs,i,h=>Ai2 js _ i (by
  rw [List.getElem?_set]
  split
  ·rename_i hq; subst hq
   rw [if_pos]
   rcases Nat.lt_or_ge j xs.length with hh | hh
   ·exact hh
   ·rw [List.getElem?_eq_none hh] at h; cases h
  ·exact h)
theorem Aot : ∀ (js:List Nat) (xs:List (Option AO)) (i:Nat),i ∈ js→i<xs.length→(Qy js xs)[i]? = some none
 | j::js,xs,i,hm,hi=>by
  rcases List.mem_cons.1 hm with rfl | hm
  ·exact Ai2 js _ i (by simp [hi])
  ·exact Aot js _ i hm (by simpa using hi)
section
variable {h0:Ab} {ids:List Nat} {N:Nat}
theorem Abt (hI:Ids h0 ids N) : ∀ {js:List Nat} {ys xs:List (Option AO)},xs.length=N→js.length=ys.length→Pt N js=true→hp (hp h0 ids (Qy js xs)) (V3 ids js) ys=hp h0 ids (Ra js ys xs)
 | [],[],xs,_,_,_=>rfl
 | j::js,y::ys,xs,hl,hj,hk=>by
  simp only [Pt,Bool.and_eq_true] at hk
  simp only [V3,hp,Qy,Ra]
  rw [Abt hI (js:=js) (ys:=ys) (xs:=xs.set j none) (by simpa using hl) (by simpa using hj) hk.2]
  rw [hI.set (by rw [Ajg]; simpa using hl) hk.1.1]
theorem Ids.sub' (hI:Ids h0 ids N){js:List Nat}{xs:List (Option AO)}(hl:xs.length=N)(hk:Pt N js=true):Ids (hp h0 ids (Qy js xs)) (V3 ids js) js.length:=by
 have hlt : ∀ {js:List Nat},Pt N js=true → ∀ j ∈ js,j<N:=by
  intro js
  induction js with
  | nil=>intro _ j hj; cases hj
  | cons i js ih=>
   intro hk j hj
   simp only [Pt,Bool.and_eq_true] at hk
   rcases List.mem_cons.1 hj with rfl | hj
   ·simpa using hk.1.1
   ·exact ih hk.2 j hj
 have hmem : ∀ {js:List Nat} {o:Nat},o ∈ V3 ids js → ∃ j ∈ js,o=ix ids j:=by
  intro js
  induction js with
  | nil=>intro o ho; cases ho
  | cons i js ih=>
   intro o ho
   rcases List.mem_cons.1 ho with rfl | ho
   ·exact⟨i,List.mem_cons_self ..,rfl⟩
   ·obtain⟨j,h1,h2⟩:=ih ho; exact⟨j,List.mem_cons_of_mem _ h1,h2⟩
 have hinj : ∀ {i j:Nat},i<N→j<N→ix ids i=ix ids j→i=j:=by
  intro i j hi hj e
  rw [← hI.len] at hi hj
  simp only [ix,List.getD,List.getElem?_eq_getElem hi,List.getElem?_eq_getElem hj,Option.getD_some] at e
  rcases Nat.lt_trichotomy i j with hh | hh | hh
  ·exact absurd e (List.pairwise_iff_getElem.1 hI.nodup i j hi hj hh)
  ·exact hh
  ·exact absurd e.symm (List.pairwise_iff_getElem.1 hI.nodup j i hj hi hh)
 refine⟨?_,?_,?_⟩
 ·have key : ∀ {js:List Nat},Pt N js=true→(V3 ids js).Nodup:=by
   intro js
   induction js with
   | nil=>intro _; exact List.nodup_nil
   | cons i js ih=>
    intro hk
    have hk':=hk
    simp only [Pt,Bool.and_eq_true] at hk
    refine List.nodup_cons.2 ⟨fun hm=>?_,ih hk.2⟩
    obtain⟨j,h1,h2⟩:=hmem hm
    have:=hinj (by simpa using hk.1.1) (hlt hk.2 j h1) h2
    subst this
    have:=hk.1.2
    simp [h1] at this
  exact key hk
 ·intro o ho
  obtain⟨j,h1,rfl⟩:=hmem ho
  exact hI.at (by rw [Amu]; exact hl) (Aot js xs j h1 (by rw [hl]; exact hlt hk j h1))
 ·clear hk
  induction js with
  | nil=>rfl
  | cons i js ih=>simp only [V3,List.length_cons]; rw [ih]
end
def Ed {α:Type}(S:α→AV→Ab→Prop)(h0:Ab)(m:R α):AR→Ab→Prop:=fun r h'=>match m with
 | .ok a => ∃ v,r=.ret v∧S a v h'
 | .pan v=>r=.panic v.av∧h'=h0
 | .bad=>False
def Ait {α:Type}(S:α→AV→Ab→Prop)(h0:Ab):Spec α:=⟨fun m=>m≠.bad,fun h=>h rfl,fun m r h' _=>Ed S h0 m r h'⟩
def tkf (ids:List Nat):Nat→Nat→List Nat
 | 0,_=>[]
 | k+1,j=>ix ids j::tkf ids k (j+1)
theorem Ad4 : ∀ (ids:List Nat) (k j:Nat),j+k≤ids.length→(ids.drop j).take k=tkf ids k j
 | ids,0,j,_=>by simp [tkf]
 | ids,k+1,j,h=>by
  have hj:j<ids.length:=by omega
  rw [List.drop_eq_getElem_cons hj,List.take_succ_cons,tkf,Ad4 ids k (j+1) (by omega)]
  simp [ix,List.getD,hj]
section
variable {P:Program} [GW P] {f:FuncId} {n:Nat} {α:Type} {m:R α} {S:α→AV→Ab→Prop} {h0:Ab}
theorem Ef {fn : Func} {c : Code} {args : List AV} {os0 : List Nat} {K : Nat} {xs : List (Option AO)} (N : Nat) (hf : P.funcs[f]? = some fn) (hb : fn.body = some c) (hn : fn.name ≠ "runtime.NumGoroutine") (hnt : fn.ntmps = n) (hl : Nat.ble args.length n = true)
  (hI0 : Ids h0 os0 K) (hx : xs.length = K)
  (hr : ∀ ids, (∀ j, Nat.blt j K = true → ix ids j = ix os0 j) → Ids h0 ids (K + N) → WR P f n false (Ait S h0) m [.code c] (Ag (Yn 0 args)) [] (hp h0 ids (xs ++ List.replicate N none)) .ret) :
  m ≠ .bad → Bm P f args (hp h0 os0 xs) (Ed S h0 m) := by
 intro hb'
 refine R7 hf hb hn hnt (by simpa using hl) ?_
 refine Acq N os0 fun os h1 h2 h3 h4 => ?_
 have hout : ∀ o ∈ os, o ∉ os0 := fun o ho => h4 o ho
 have hI : Ids h0 (os0 ++ os) (K + N) := by
  refine ⟨List.nodup_append.2 ⟨hI0.nodup, h2, fun a ha b hb hq => hout b hb (hq ▸ ha)⟩, fun o ho => ?_, by simp [hI0.len, h1]⟩
  rcases List.mem_append.1 ho with ho | ho
  ·exact hI0.fresh o ho
  ·have := h3 o ho
   rwa [M8 (hout o ho)] at this
 have e : hp h0 (os0 ++ os) (xs ++ List.replicate N none) = hp h0 os0 xs := by
  rw [Xv (by rw [hI0.len, hx]), Rh fun o ho => hI.fresh o (List.mem_append_right _ ho)]
 have := hr (os0 ++ os) (fun j hj => by
  have hj' : j < os0.length := by rw [hI0.len]; simpa using hj
  simp [ix, List.getD, List.getElem?_append_left hj']) hI hb'
 rw [e] at this
 refine T0 (fun t => ?_) this
 rcases Ui args 0 t with h | ⟨_, h⟩
 ·exact .inl h
 ·exact .inr h
section
variable {ids:List Nat} {xs:List (Option AO)} {K N:Nat} {l:List (Nat×AV)} {k:List Item} {u:AU}
theorem Acs (hI:Ids h0 ids (K+N)){ys:List (Option AO)}(hy:ys.length=K):hp h0 ids (ys++List.replicate N none)=hp h0 (tkf ids K 0) ys:=by
 have e:=Ad4 ids K 0 (by rw [hI.len]; omega)
 rw [List.drop_zero] at e
 rw [← e]
 have e2:ids=ids.take K++ids.drop K:=(List.take_append_drop K ids).symm
 conv=>lhs; rw [e2]
 rw [Xv (by rw [List.length_take,hI.len,hy]; omega),Rh fun o ho=>hI.fresh o (List.mem_of_mem_drop ho)]
theorem Fy {fn:Func}{a:α}{vs:List AV}{v:AV}(ys:List (Option AO))(hf:P.funcs[f]? = some fn)(hI:Ids h0 ids (K+N))(hl:xs.length=K+N)(hr:J3 P (hp h0 ids xs) (Ag l) fn.results.toList=some vs)
  (hy:ys.length=K) (hx:HL (hp h0 ids xs) (hp h0 ids (ys++List.replicate N none)) xs (ys++List.replicate N none)) (hz:Fz (hp h0 ids xs) (hp h0 ids (ys++List.replicate N none)) (Ku vs) v) (hS:S a v (hp h0 (tkf ids K 0) ys)) :
  WR P f n false (Ait S h0) (.ok a) (.code .ret::k) (Ag l) [] (hp h0 ids xs) u:=fun _=>by
 refine Ys (Zx hf hr (hx.hfz hI hl) hz rfl ⟨v,rfl,?_⟩)
 rw [Acs hI hy]; exact hS
theorem Ac1 {fn:Func}{a:α}{vs:List AV}{v:AV}(ys:List (Option AO))(hf:P.funcs[f]? = some fn)(hI:Ids h0 ids (K+N))(hl:xs.length=K+N)(hr:J3 P (hp h0 ids xs) (Ag l) fn.results.toList=some vs)
  (hy:ys.length=K) (hx:HL (hp h0 ids xs) (hp h0 ids (ys++List.replicate N none)) xs (ys++List.replicate N none)) (hz:Fz (hp h0 ids xs) (hp h0 ids (ys++List.replicate N none)) (Ku vs) v) (hS:S a v (hp h0 (tkf ids K 0) ys)) :
  WR P f n false (Ait S h0) (.ok a) [] (Ag l) [] (hp h0 ids xs) u:=fun _=>by
 refine Agt (Zx hf hr (hx.hfz hI hl) hz rfl ⟨v,rfl,?_⟩)
 rw [Acs hI hy]; exact hS
theorem E2 {fn:Func}{v:PV}{fr:Nat→AV}(hf:P.funcs[f]? = some fn)(hI:Ids h0 ids (K+N)):WU P f n false (Ait S h0) (.pan v) (.pan v.av false) fr [] (hp h0 ids xs) u:=fun _=>
 Aev hf (hI.sub xs) (.same _) ⟨rfl,rfl⟩
end
end
section
variable {P:Program} [GW P] {f:FuncId} {n:Nat} {d:FK} {β γ:Type} {Q:Spec β} {m:R β} {ds:List AD} {u:AU} {k:List Item} {l:List (Nat×AV)} {F:γ→R β}
variable {all r:List Oper} {ty:TypeId} {pos:String} {after:Array Edge} {h0:Ab} {ids:List Nat} {xs:List (Option AO)} {N:Nat}
theorem At2 {ops:List Oper}{fr:Nat→AV}(js:List Nat){xs zs:List (Option AO)}(ys:List (Option AO))(hI:Ids h0 ids N)(hl:xs.length=N)(hk:Pt N js=true)(hz:js.length=zs.length)(e:Ra js zs xs=ys)(hr:WO P f n d Q k all m ops fr ds (hp h0 ids ys) u) :
  WO P f n d Q k all m ops fr ds (hp (hp h0 ids (Qy js xs)) (V3 ids js) zs) u:=by
 subst e
 rw [Abt hI hl hz hk]; exact hr
theorem D8 {α:Type}{dst:Option Tmp}{x:Operand}{as0:List Operand}{ts:Array TypeId}{g:FuncId}{fst cap A:List AV}{gd:Option (Nat×Bool)}{mg:R α}{S:α→AV→Ab→Prop}{rest:α→R γ}{zs:List (Option AO)}(js:List Nat)(hI:Ids h0 ids N)(hl:xs.length=N)(hk:Pt N js=true)
  (hc:mg≠.bad→Bm P g A (hp (hp h0 ids (Qy js xs)) (V3 ids js) zs) (Ed S (hp h0 ids (Qy js xs)) mg)) (hz:js.length=zs.length) (e2:Ra js zs xs=xs)
  (ht:Fp n dst=true) (hw:D2 all (Ag l) ⟨dst,.call ⟨.value x,⟨as0⟩,ts⟩,ty,pos,after,gd⟩=some true) (hx:ev (Ag l) x=.func (.func g) fst cap) (ha:fst++E4 (Ag l) as0++cap=A)
  (hp' : ∀ v,mg=.pan v→WU P f n d Q (.pan v) (.pan v.av false) (Ag l) ds (hp h0 ids (Qy js xs)) u)
  (hk : ∀ a,mg=.ok a → ∀ v h',S a v h'→WO P f n d Q k all ((rest a).bind F) r (Fu (Ag l) dst v) ds h' u) :
  WO P f n d Q k all ((mg.bind rest).bind F) (⟨dst,.call ⟨.value x,⟨as0⟩,ts⟩,ty,pos,after,gd⟩::r) (Ag l) ds (hp h0 ids xs) u:=by
 rw [Abt hI hl hz ‹Pt N js=true›,e2] at hc
 refine Afe (R.bind_assoc _ _ _) (Q4 ht hw fun hb K U hK hU=>?_)
 simp only [Ho,hx]
 rw [ha]
 have hmb:mg≠.bad:=fun q=>by rw [q] at hb; exact Q.bad hb
 refine(hc hmb).mono fun r' h' hr=>?_
 cases hm:mg with
 | bad=>exact absurd hm hmb
 | ok a=>
  rw [hm] at hr hb hK
  obtain⟨v,rfl,hS⟩:=hr
  exact hK _ _ _ _ (hk a hm v h' hS)
 | pan v=>
  rw [hm] at hr hb hU
  obtain⟨rfl,rfl⟩:=hr
  exact hU _ _ _ _ _ (hp' v hm hb)
theorem Ew {ops:List Oper}{t:Nat}{v:AV}{h:Ab}(hr:WO P f n d Q k all m ops (Ag ((t,v)::l)) ds h u):WO P f n d Q k all m ops (Fu (Ag l) (some t) v) ds h u:=by rw [Ey]; exact hr
theorem Fr {α:Type}{pre:List (List Nat)}{plan:Er}{pend:Jl}{i:Nat}{dst:Option Tmp}{x:Operand}{as0:List Operand}{ts:Array TypeId}{g:FuncId}{fst cap A:List AV}{gd:Option (Nat×Bool)}{mg:R α}{S:α→AV→Ab→Prop}{rest:α→R γ}{zs:List (Option AO)}(js:List Nat)(hI:Ids h0 ids N)(hl:xs.length=N)(hk:Pt N js=true)
  (hc:mg≠.bad→Bm P g A (hp (hp h0 ids (Qy js xs)) (V3 ids js) zs) (Ed S (hp h0 ids (Qy js xs)) mg)) (hz:js.length=zs.length) (e2:Ra js zs xs=xs) (ho:all[i]? = some ⟨dst,.call ⟨.value x,⟨as0⟩,ts⟩,ty,pos,after,gd⟩)
  (ht:Fp n dst=true) (hw:D2 all (Ag l) ⟨dst,.call ⟨.value x,⟨as0⟩,ts⟩,ty,pos,after,gd⟩=some true) (hx:ev (Ag l) x=.func (.func g) fst cap) (ha:fst++E4 (Ag l) as0++cap=A)
  (hp' : ∀ v,mg=.pan v → ∀ fr,(∀ t,(all.any fun o=>o.dst==some t)=false→fr t=Ag l t)→WU P f n d Q (.pan v) (.pan v.av false) fr ds (hp h0 ids (Qy js xs)) u)
  (hk : ∀ a,mg=.ok a → ∀ v h',S a v h'→Ei P all pre i h' pend∧WP P f n d Q k all pre ((rest a).bind F) plan pend (Fu (Ag l) dst v) ds h' u) :
  WP P f n d Q k all pre ((mg.bind rest).bind F) ((true,i)::plan) pend (Ag l) ds (hp h0 ids xs) u:=by
 rw [Abt hI hl hz ‹Pt N js=true›,e2] at hc
 refine Af7 (R.bind_assoc _ _ _) (Xc ho ht hw fun hb K U hK hU=>?_)
 simp only [Ho,hx]
 rw [ha]
 have hmb:mg≠.bad:=fun q=>by rw [q] at hb; exact Q.bad hb
 refine(hc hmb).mono fun r' h' hr=>?_
 cases hm:mg with
 | bad=>exact absurd hm hmb
 | ok a=>
  rw [hm] at hr hb hK
  obtain⟨v,rfl,hS⟩:=hr
  obtain⟨k1,k2⟩:=hk a hm v h' hS
  exact hK _ _ _ _ k1 k2
 | pan v=>
  rw [hm] at hr hb hU
  obtain⟨rfl,rfl⟩:=hr
  exact hU _ _ _ _ _ (fun fr' hf=>hp' v hm fr' hf hb)
theorem Gl {pre:List (List Nat)}{plan:Er}{pend:Jl}{i:Nat}{fr:Nat→AV}(js:List Nat){xs zs:List (Option AO)}(ys:List (Option AO))(hI:Ids h0 ids N)(hl:xs.length=N)(hk:Pt N js=true)(hz:js.length=zs.length)(e:Ra js zs xs=ys)
  (hr:Ei P all pre i (hp h0 ids ys) pend∧WP P f n d Q k all pre m plan pend fr ds (hp h0 ids ys) u) :
  Ei P all pre i (hp (hp h0 ids (Qy js xs)) (V3 ids js) zs) pend∧WP P f n d Q k all pre m plan pend fr ds (hp (hp h0 ids (Qy js xs)) (V3 ids js) zs) u:=by
 subst e
 rw [Abt hI hl hz hk]; exact hr
theorem Gm {pre:List (List Nat)}{plan:Er}{pend:Jl}{t:Nat}{v:AV}{h:Ab}(hr:WP P f n d Q k all pre m plan pend (Ag ((t,v)::l)) ds h u):WP P f n d Q k all pre m plan pend (Fu (Ag l) (some t) v) ds h u:=by rw [Ey]; exact hr
end
end Go.Am
namespace Go.Am
open Go
set_option linter.unusedSimpArgs false
set_option linter.unusedVariables false
set_option linter.unusedSectionVars false
def cut {α:Type}(l:List α)(a b:Int):List α:=(l.drop a.toNat).take (b.toNat - a.toNat)
section
variable {P:Program} [GW P] {h:Ab} {t et:TypeId} {a b st:Nat} {z:List AV} {E:TI} {s:List UInt8} {k k':IntKind} {lo hi:Int} {α:Type} {e:α→List AV} {L:List α}
theorem Awh {n:Nat}(h1:0≤lo)(h2:lo≤(n:Int))(d:Nat):Ck (some (.int k lo)) d n=some lo.toNat:=by simp only [Ck]; rw [if_pos ⟨h1,h2⟩]
theorem Jf (hT:ti P t=some ⟨.sl et,a,b,z⟩)(hE:ti P et=some E)(hs:st=E.size)(hc:0≤lo∧lo≤(L.length:Int)):Et P h t (.sl st (L.map e)) (some (.int k lo)) none none=some (.sl st ((L.drop lo.toNat).map e)):=by
 simp only [Et,hT,hE,Ck]
 rw [if_pos hs]
 simp only [List.length_map]
 rw [if_pos hc]
 simp only [Option.some.injEq,AV.sl.injEq,true_and]
 rw [List.take_of_length_le (by simp),List.map_drop]
theorem M4 (hT:ti P t=some ⟨.sl et,a,b,z⟩)(hE:ti P et=some E)(hs:st=E.size)(hc:0≤hi∧hi≤(L.length:Int)):Et P h t (.sl st (L.map e)) none (some (.int k hi)) none=some (.sl st ((L.take hi.toNat).map e)):=by
 simp only [Et,hT,hE]
 rw [if_pos hs,Awh hc.1 (by simpa using hc.2)]
 simp only [Ck,List.drop_zero,Nat.sub_zero,List.map_take]
theorem Iz {m o g r c:Nat}{i:Int}(j:Nat)(hT:ti P t=some ⟨.arr m et,a,b,z⟩)(hE:ti P et=some E)(hi:i=(j:Int))(hj:Nat.blt j m=true):Dl P h t (.ptr o g r c) (.int k i)=some (.ptr o g r (c+j * E.size)):=by
 subst hi
 have:j<m:=by simpa using hj
 simp only [Dl,hT,hE]
 rw [if_pos ⟨by omega,by omega⟩,Int.toNat_natCast]
end
section
variable {P:Program} [GW P] {f:FuncId} {n:Nat} {d:FK} {β γ:Type} {Q:Spec β} {fr:Nat→AV} {ds:List AD} {h:Ab} {u:AU} {k:List Item} {F:γ→R β} {all:List Oper}
section
variable {r:List Oper} {l:List (Nat×AV)} {m:R β} {ty:TypeId} {pos:String} {after:Array Edge} {pre:List (List Nat)} {plan:Er} {pend:Jl} {i:Nat}
theorem Aoy {t j tj:Nat}{want:Bool}{op:Op}(hj:(all[j]?).bind (·.dst)=some tj)(hg:Ag l tj=.bool want)(ht:Nat.blt t n=true)(ho : ∀ (K:AV→List AD→Ab→AU→Prop) (U:AV→KT),Ho P d U (Ag l) ds h u op K=C5 P (Ag l) h op (fun v h'=>K v ds h' u))
  (hx : ∀ K:AV→Ab→Prop,(∀ v h',WO P f n d Q k all m r (Ag ((t,v)::l)) ds h' u→K v h')→C5 P (Ag l) h op K) :
  WO P f n d Q k all m (⟨some t,op,ty,pos,after,some (j,want)⟩::r) (Ag l) ds h u:=by
 refine Q4 (by simpa [Fp] using ht) (Pr hj hg) fun hb K U hK hU=>?_
 rw [ho]
 exact hx _ fun v h' hw=>hK _ _ _ _ (by rw [Ey]; exact hw)
theorem Apy {t j tj:Nat}{want:Bool}{op:Op}(ho:all[i]? = some ⟨some t,op,ty,pos,after,some (j,want)⟩)(hj:(all[j]?).bind (·.dst)=some tj)(hg:Ag l tj=.bool want)(ht:Nat.blt t n=true)(h1 : ∀ (K:AV→List AD→Ab→AU→Prop) (U:AV→KT),Ho P d U (Ag l) ds h u op K=C5 P (Ag l) h op (fun v h'=>K v ds h' u))
  (hx : ∀ K:AV→Ab→Prop,(∀ v h',Ei P all pre i h' pend→WP P f n d Q k all pre m plan pend (Ag ((t,v)::l)) ds h' u→K v h')→C5 P (Ag l) h op K) :
  WP P f n d Q k all pre m ((true,i)::plan) pend (Ag l) ds h u:=
 Xc ho (by simpa [Fp] using ht) (Pr hj hg) fun hb K U hK hU=>by
  rw [h1]
  exact hx _ fun v h' hp hw=>hK _ _ _ _ hp (by rw [Ey]; exact hw)
end
theorem Jb {pre:List (List Nat)}{plan:Er}{pend:Jl}{p:Prop}[Decidable p]{A B:R γ}(ht:p→WP P f n d Q k all pre (A.bind F) plan pend fr ds h u)(hf:¬ p→WP P f n d Q k all pre (B.bind F) plan pend fr ds h u):WP P f n d Q k all pre ((if p then A else B).bind F) plan pend fr ds h u:=by
 intro hb
 by_cases hp:p
 ·simp only [if_pos hp] at hb ⊢; exact ht hp hb
 ·simp only [if_neg hp] at hb ⊢; exact hf hp hb
theorem Vb {pre:List (List Nat)}{plan:Er}{pend:Jl}:WP P f n d Q k all pre ((R.bad:R γ).bind F) plan pend fr ds h u:=fun hb=>absurd hb Q.bad
end
def N6 (s:S2):List Int:=s.map fun b=>(b.toNat:Int)
section
variable {P:Program} [GW P] {h:Ab} {s t e:TypeId} {a b c d st:Nat} {z1 z2:List AV} {E:TI} {L:List Int}
theorem Av2 {P:Program}[GW P]{fr:Nat→AV}{x:Operand}{K:AV→Ab→Prop}{S:S2}{E:TI}(hS:ti P s=some ⟨.str,a,b,z1⟩)(hT:ti P t=some ⟨.sl e,c,d,z2⟩)(hE:ti P e=some E)(hk:E.k=.int .u8)(hx:ev fr x=.str S)(hl:S.length≤Bt)(hK:K (.sl 1 ((N6 S).map (rI .u8))) h):C5 P fr h (.convert s t x) K:=by
 simp only [C5,Zi,hS,hT,hE,hx]
 refine⟨hk,hl,?_⟩
 have:(N6 S).map (rI .u8)=S.map fun b=>[AV.int .u8 b.toNat]:=by simp [N6,rI,Function.comp_def]
 rw [this] at hK; exact hK
end
section
variable {P:Program} [GW P] {f:FuncId} {n:Nat} {d:FK} {β:Type} {Q:Spec β} {m:R β} {ds:List AD} {h:Ab} {u:AU} {k:List Item} {l:List (Nat×AV)} {all r:List Oper} {ty:TypeId} {pos:String} {after:Array Edge}
theorem Awc {t:Nat}{s T e:TypeId}{a b c d':Nat}{z1 z2:List AV}{E:TI}{x:Operand}{S:S2}(ht:Nat.blt t n=true)(hS:ti P s=some ⟨.str,a,b,z1⟩)(hT:ti P T=some ⟨.sl e,c,d',z2⟩)(hE:ti P e=some E)(hk:E.k=.int .u8)(hx:ev (Ag l) x=.str S)(hl:S.length≤Bt)
  (hK:WO P f n d Q k all m r (Ag ((t,.sl 1 ((N6 S).map (rI .u8)))::l)) ds h u):WO P f n d Q k all m (⟨some t,.convert s T x,ty,pos,after,none⟩::r) (Ag l) ds h u:=
 K6 ht (fun _ _=>rfl) fun K hK'=>Av2 hS hT hE hk hx hl (hK' _ _ hK)
end
section
variable {P:Program} [GW P] [GW P]
theorem Sz.mk {g : FuncId} {gf : Func} {gc : Code} (h1 : P.funcs[g]? = some gf) (h2 : gf.body = some gc) (h3 : gf.name ≠ "runtime.NumGoroutine") : Sz P g := ⟨gf, gc, h1, h2, h3⟩
theorem At3 {h:Ab}{mu:Mu}{w:World}{a:AV}{cargs:Array Value}(k:Ou h mu w [a] cargs.toList) : ∃ c,cargs = #[c]∧RV h mu w a c:=by
 obtain⟨l⟩:=cargs
 match l,k.1 with
 | [c],_=>exact⟨c,rfl,by simpa using k.2 0 (by simp)⟩
theorem Aqp {h:Ab}{mu:Mu}{w:World}{t:IntKind}{n:Int}{c:Value}(k:RV h mu w (.int t n) c):c=.int t n:=by cases k; rfl
end
end Go.Am
namespace Go.Am
open Go
set_option linter.unusedSimpArgs false
set_option linter.unusedVariables false
set_option linter.unusedSectionVars false
inductive HM (h h2:Ab):List (Option AO)→List (Option AO)→Prop
 | nil:HM h h2 [] []
 | keep {x:Option AO} {xs ys:List (Option AO)} (r:HM h h2 xs ys):HM h h2 (x::xs) (x::ys)
 | drop {x:Option AO} {xs ys:List (Option AO)} (r:HM h h2 xs ys):HM h h2 (x::xs) (none::ys)
 | own {α:Type} {e:α→List AV} {L:List α} {v:AV} {g st i:Nat} {y:α} {row:List AV} {xs ys:List (Option AO)} (hr : ∀ x,Cm st (e x)) (hz:LF h h2 row (e y)) (r:HM h h2 xs ys) :
   HM h h2 (Bb v g st ((L.map e).set i row)::xs) (Bb v g st ((L.set i y).map e)::ys)
theorem HM.get {h h2:Ab}{xs ys:List (Option AO)}(k:HM h h2 xs ys):xs.length=ys.length ∧ ∀ (j:Nat) (y:AO),ys[j]? = some (some y) → ∃ x,xs[j]? = some (some x)∧AFz h h2 x y:=by
 induction k with
 | nil=>exact⟨rfl,fun j y e=>by simp at e⟩
 | keep r ih=>
  refine⟨by simp [ih.1],fun j y e=>?_⟩
  cases j with
  | zero=>simp only [List.getElem?_cons_zero,Option.some.injEq] at e; subst e; exact⟨y,by simp,.same _⟩
  | succ j=>simpa using ih.2 j y (by simpa using e)
 | drop r ih=>
  refine⟨by simp [ih.1],fun j y e=>?_⟩
  cases j with
  | zero=>simp at e
  | succ j=>simpa using ih.2 j y (by simpa using e)
 | @own α e L v g st i y row xs ys hr hz r ih=>
  refine⟨by simp [ih.1],fun j z hz'=>?_⟩
  cases j with
  | succ j=>simpa using ih.2 j z (by simpa using hz')
  | zero=>
   simp only [List.getElem?_cons_zero,Option.some.injEq] at hz' ⊢
   have key:AFz h h2 (.rows g st ((L.map e).set i row)) (.rows g st ((L.set i y).map e)):=by
    refine .rows g st _ _ (by simp) (fun q hq=>?_) fun a b ha hb=>?_
    ·obtain⟨w,_,rfl⟩:=List.mem_map.1 hq
     exact hr w
    ·rw [List.map_set]
     by_cases hia:i=a
     ·subst hia
      have hlt:i<(L.map e).length:=by simpa using ha
      simp only [cell]
      have e1:((L.map e).set i row).getD i []=row:=by rw [List.getD_eq_getElem?_getD,List.getElem?_set_self hlt]; rfl
      have e2:((L.map e).set i (e y)).getD i []=e y:=by rw [List.getD_eq_getElem?_getD,List.getElem?_set_self hlt]; rfl
      rw [e1,e2]
      exact hz.all.2 b (by rw [hz.all.1,(hr y).1]; exact hb)
     ·simp only [cell]
      have e1:((L.map e).set i row).getD a []=(L.map e).getD a []:=by simp [List.getD,List.getElem?_set_ne hia]
      have e2:((L.map e).set i (e y)).getD a []=(L.map e).getD a []:=by simp [List.getD,List.getElem?_set_ne hia]
      rw [e1,e2]
      exact .same _
   unfold Bb at hz' ⊢
   split at hz'
   ·cases hz'
   ·rename_i hv
    cases hz'
    exact⟨_,rfl,key⟩
theorem HM.hfz {h0:Ab}{ids:List Nat}{N:Nat}{xs ys:List (Option AO)}(hI:Ids h0 ids N)(hl:xs.length=N)(k:HM (hp h0 ids xs) (hp h0 ids ys) xs ys):HFz (hp h0 ids xs) (hp h0 ids ys):=by
 intro o y e
 obtain⟨k1,k2⟩:=k.get
 by_cases ho:o ∈ ids
 ·obtain⟨j,hj,rfl⟩:=List.mem_iff_getElem.1 ho
  have ej:ids[j]=ix ids j:=by simp [ix,List.getD,hj]
  rw [ej] at e ⊢
  have hjl:j<ys.length:=by rw [← k1,hl,← hI.len]; exact hj
  have hy:=hI.at (xs:=ys) (j:=j) (x:=ys[j]) (by rw [← k1,hl]) (List.getElem?_eq_getElem hjl)
  rw [hy] at e
  obtain⟨x,hx,hz⟩:=k2 j y (by rw [List.getElem?_eq_getElem hjl,e])
  exact⟨x,hI.at hl hx,hz⟩
 ·rw [M8 ho] at e
  exact⟨y,by rw [M8 ho]; exact e,.same _⟩
end Go.Am
namespace Go.Am
open Go
set_option linter.unusedSimpArgs false
set_option linter.unusedVariables false
set_option linter.unusedSectionVars false
def Akg {α:Type}{n:Nat}(e:α→List AV)(v:Vector α n):(k:Nat)→k≤n→List AV→List AV
 | 0,_,acc=>acc
 | k+1,h,acc=>Akg e v k (Nat.le_of_succ_le h) (e (v[k]'(Nat.lt_of_succ_le h))++acc)
def rV {α:Type}{n:Nat}(e:α→List AV)(v:Vector α n):List AV:=Akg e v n (Nat.le_refl n) []
theorem Ami {α:Type}{n:Nat}(e:α→List AV)(v:Vector α n) : ∀ (k:Nat) (h:k≤n) (acc:List AV),Akg e v k h acc=(v.toList.take k).flatMap e++acc
 | 0,_,acc=>by simp [Akg]
 | k+1,h,acc=>by
  rw [Akg,Ami e v k _]
  have hk:k<v.toList.length:=by simp; omega
  rw [List.take_succ_eq_append_getElem hk]
  simp [List.flatMap_append]
theorem Afn {α:Type}{n:Nat}(e:α→List AV)(v:Vector α n):rV e v=v.toList.flatMap e:=by
 rw [rV,Ami,List.take_of_length_le (by simp),List.append_nil]
def A2 {α:Type}{n:Nat}(v:Vector α n)(i:Nat)(z:α):α:=v.toList.getD i z
def Nl {α:Type}{n:Nat}(v:Vector α n)(i:Nat)(x:α):Vector α n:=v.setIfInBounds i x
def B0 {α:Type}(n:Nat)(x:α):Vector α n:=Vector.replicate n x
section
variable {α:Type} {n:Nat} {e:α→List AV} {E:α→AV} {v:Vector α n} {i:Nat}
theorem Yl {s:Nat}(he : ∀ x,(e x).length=s) : ∀ l:List α,(l.flatMap e).length=l.length * s
 | []=>by simp
 | a::l=>by simp [he a,Yl he l,Nat.add_mul,Nat.add_comm]
theorem Ct {s m:Nat}(he : ∀ x,Cm s (e x))(hm:n * s=m)(v:Vector α n):Cm m (rV e v):=by
 refine⟨by rw [Afn,Yl fun x=>(he x).1]; simpa using hm,fun a ha=>?_⟩
 rw [Afn] at ha
 obtain⟨x,_,hx⟩:=List.mem_flatMap.1 ha
 exact(he x).2 a hx
theorem Cm.all {s:Nat}{r:List AV}(h:Cm s r):r.all AV.flat=true:=List.all_eq_true.2 h.2
theorem Qb (he : ∀ x,e x=[E x]):rV e v=v.toList.map E:=by
 rw [Afn]
 induction v.toList with
 | nil=>rfl
 | cons a l ih=>simp [he,ih]
theorem Hf (he : ∀ x,e x=[E x])(x:α):rV e (B0 n x)=List.replicate n (E x):=by rw [Qb he]; simp [B0]
theorem Fh (he : ∀ x,e x=[E x])(hi:i<n)(z:α):Hh (rV e v) i 1 false=some (E (A2 v i z)):=by
 have hl:i<v.toList.length:=by simpa using hi
 rw [Qb he]
 simp only [Hh,Bool.false_eq_true,if_false,List.length_map,hl,if_true,A2]
 congr 1
 simp [List.getD,List.getElem?_eq_getElem hl]
theorem Awg (he : ∀ x,e x=[E x])(hi:i<n)(x:α):R3 (rV e v) i [E x]=rV e (Nl v i x):=by
 have hl:i<v.toList.length:=by simpa using hi
 rw [Qb he,Qb he,Agn _ _ _ (by simp; omega)]
 have:(Nl v i x).toList=v.toList.set i x:=by simp [Nl]
 rw [this]
 simp only [putCells]
 clear this
 generalize v.toList=l at hl
 clear hi
 induction l generalizing i with
 | nil=>simp at hl
 | cons a l ih=>
  cases i with
  | zero=>simp
  | succ i=>simpa using ih (i:=i) (by simpa using hl)
end
section
variable {P:Program} [GW P] {h:Ab} {t et:TypeId} {a b:Nat} {z:List AV} {E:TI} {k:IntKind}
theorem Dc {m o g i:Nat}(hT:ti P t=some ⟨.arr m et,a,b,z⟩)(hE:ti P et=some E)(h1:E.size=1)(hi:i<m):Dl P h t (.ptr o g 0 0) (.int k (i:Int))=some (.ptr o g 0 i):=by
 simp only [Dl,hT,hE,h1]
 rw [if_pos ⟨Int.natCast_nonneg _,by omega⟩]
 simp
theorem H6 {m o g:Nat}{i:Int}(hT:ti P t=some ⟨.arr m et,a,b,z⟩)(hE:ti P et=some E)(h1:E.size=1)(hi:0≤i∧i<(m:Int)):Dl P h t (.ptr o g 0 0) (.int k i)=some (.ptr o g 0 i.toNat):=by
 simp only [Dl,hT,hE,h1]
 rw [if_pos ⟨hi.1,by omega⟩]
 simp
theorem I2 {i:Int}{m:Nat}(h:0≤i∧i<(m:Int)):i.toNat<m:=by omega
end
section
variable {P:Program} [GW P] {f:FuncId} {n:Nat} {d:FK} {β:Type} {Q:Spec β} {m:R β} {ds:List AD} {u:AU} {k:List Item} {l:List (Nat×AV)} {all r:List Oper} {ty:TypeId} {pos:String} {after:Array Edge} {h0:Ab} {ids:List Nat} {xs:List (Option AO)} {N:Nat}
theorem U8 {α:Type}{q g st j i:Nat}{e:α→List AV}{E:α→AV}{v:Vector α q}{x:α}{t:TypeId}{T:TI}(he : ∀ x,e x=[E x])(hI:Ids h0 ids N)(hl:xs.length=N)(hjn:Nat.blt j N=true)(hj:xs[j]? = some (some (.rows g st [rV e v])))(hT:ti P t=some T)(hs:T.size=1)(hq:q=st)(hi:i<q)
  (hc:(E x).cells=[E x]) (hok:(E x).ok=true) (hfl:(E x).flat=true) :
  O7 P (hp h0 ids xs) t (.ptr (ix ids j) g 0 i) (E x)=some (hp h0 ids (xs.set j (some (.rows g st [rV e (Nl v i x)])))):=by
 have hrl:(rV e v).length=st:=by rw [Afn,Yl (s:=1) fun x=>by rw [he]; rfl]; simpa using hq
 rw [J7 (rr:=0) (row:=rV e v) hI hl hjn hj rfl hT hok (by rw [hc,hs]; rfl) (by rw [hs]; simp; omega) hrl (by rw [hc]; simpa using hfl),hc,Awg he hi]
 rfl
theorem Ee {t:Nat}{e:TypeId}{T:TI}{j st:Nat}{row:List AV}(hI:Ids h0 ids N)(hl:xs.length=N)(hjn:Nat.blt j N=true)(hj:xs[j]? = some none)(ht:Nat.blt t n=true)(hT:ti P e=some T)(hz:T.z=row)(hr:Cm st row)
  (hk : ∀ g,WO P f n d Q k all m r (Ag ((t,.ptr (ix ids j) g 0 0)::l)) ds (hp h0 ids (xs.set j (some (.rows g st [row])))) u) :
  WO P f n d Q k all m (⟨some t,.alloc e,ty,pos,after,none⟩::r) (Ag l) ds (hp h0 ids xs) u:=by
 subst hz
 refine Ajp hI hl hjn hj ht hT hr.all fun g=>?_
 rw [hr.1]; exact hk g
end
theorem Pa {h h2:Ab} : ∀ l:List AV,LF h h2 l l
 | []=>.nil
 | a::l=>.cons (.same a) (Pa l)
def R.np {α:Type}:R α→R α
 | .pan _=>.bad
 | m=>m
theorem R.np_ne {α:Type}(m:R α)(v:PV):m.np≠.pan v:=by cases m <;> simp [R.np]
@[simp] theorem R.np_ok {α:Type}(a:α):(R.ok a).np=.ok a:=rfl
end Go.Am
namespace Go.Am
open Go
set_option linter.unusedSimpArgs false
set_option linter.unusedVariables false
set_option linter.unusedSectionVars false
section
variable {P:Program} [GW P] {f:FuncId} {n:Nat} {d:FK} {fr:Nat→AV} {ds:List AD} {h:Ab} {u:AU} {Q:QT} {k:List Item}
theorem Agr {l o g:Nat}{r:Loop}(hd:d.ro=some (l,o,g))(ho:h o=some (.blk g (.loop r)))(hs:r.state=.ready)(hr:Ex P f n d k fr ds (upd h o (some (.blk g (.loop { r with state:=.busy })))) u Q) :
  Ex P f n d (.beginRound::k) fr ds h u Q:=by
 intro B mu w a cs p
 obtain⟨loc,hl,rfl⟩:=p.rnd _ _ _ hd
 obtain⟨l0,hl0,_,hb⟩:=p.sim.blks _ _ _ ho
 rw [hl] at hl0; cases hl0
 have hrun:(Instr.beginRound loc.b).run P w=.ok () { w with heap:=w.heap.setIfInBounds loc.b (.loop { r with state:=.busy }) }:=by
  simp [Instr.beginRound,Instr.getLoop,getObj,setObj,Sem.run,Sem.run_bind,hb,hs]
 obtain⟨s',e'⟩:=p.sim.setB (x':=.loop { r with state:=.busy }) ho hl (fun _ _ _ hh=>by cases hh)
 exact .ext e' (.head (stepR_beginRound (by simp [b0,hd]) hrun) (hr B mu _ a cs (p.ext e' s')))
def Wc (fr:Nat→AV):List Nat→List AV→Nat→AV
 | p::ps,v::vs=>Wc (upd fr p v) ps vs
 | _,_=>fr
theorem Ajs {mu:Mu}{w:World} : ∀ (ps:List Nat) (args:List AV) (cargs:List Value) (fr:Nat→AV) (tmps:Array Value),tmps.size=n→(∀ p ∈ ps,p<n)→(∀ t,RV h mu w (fr t) (tmps.getD t undef))→Ou h mu w args cargs →
  (∀ t,RV h mu w (Wc fr ps args t) (((ps.zip cargs).foldl (fun tmps x=>tmps.setIfInBounds x.1 x.2) tmps).getD t undef))∧((ps.zip cargs).foldl (fun tmps x=>tmps.setIfInBounds x.1 x.2) tmps).size=n
 | [],_,_,fr,tmps,hs,_,hf,_=>⟨by simpa [Wc] using hf,by simpa using hs⟩
 | p::ps,[],[],fr,tmps,hs,_,hf,_=>⟨by simpa [Wc] using hf,by simpa using hs⟩
 | p::ps,[],c::cs,fr,tmps,hs,_,hf,ha=>by have:=ha.1; simp at this
 | p::ps,v::vs,[],fr,tmps,hs,_,hf,ha=>by have:=ha.1; simp at this
 | p::ps,v::vs,c::cs,fr,tmps,hs,hp,hf,ha=>by
  have hv:RV h mu w v c:=by simpa using ha.2 0 (by simp)
  have hp0:=hp p (List.mem_cons_self ..)
  refine Ajs ps vs cs (upd fr p v) (tmps.setIfInBounds p c) (by simpa using hs) (fun q hq=>hp q (List.mem_cons_of_mem _ hq)) (fun t=>?_) ⟨by have:=ha.1; simpa using this,fun i hi=>by simpa using ha.2 (i+1) (by simpa using hi)⟩
  unfold upd
  by_cases ht:t=p
  ·subst ht
   rw [if_pos rfl]
   simp [hs,hp0]; exact hv
  ·rw [if_neg ht]
   have:=hf t
   simpa [Array.getD_eq_getD_getElem?,Array.getElem?_setIfInBounds_ne (Ne.symm ht)] using this
theorem Avy {mu:Mu}{w:World}{M:Nat→Prop}{c:Code}{v:Value}(hc:jav c≠.tup [])(h:Rv w mu M (jav c) v):v=jv c:=by
 cases c with
 | ret=>have h:Rv w mu M (.bool true) v:=h; cases h; rfl
 | exit id=>have h:Rv w mu M (.int .u64 id) v:=h; cases h; rfl
 | _=>exact absurd rfl hc
theorem Awd {c:Code}{k:List Item}(hj:Vq c k=true):jv c≠undef:=by
 cases c <;> simp [Vq] at hj <;> simp [jv,undef]
theorem Aus {c c':Code}{k:List Item}(hj:Vq c k=true)(hc:jav c'≠.tup [])(h:jv c'=jv c):c=c':=by
 cases c with
 | ret=>
  cases c' with
  | ret=>rfl
  | exit id=>simp [jv] at h
  | _=>exact absurd rfl hc
 | exit id=>
  cases c' with
  | ret=>simp [jv] at h
  | exit id'=>
   have h:(id':Int)=(id:Int):=by simpa [jv] using h
   rw [Int.ofNat.inj h]
  | _=>exact absurd rfl hc
 | _=>simp [Vq] at hj
theorem Adl {y:YF}{o g:Nat}{r:Loop}{args:List AV}{K E:AV→Ab→Prop}(ho:h o=some (.blk g (.loop r)))(hrd:r.state=.ready)(hpe:r.pending=none)(hfn:r.fn=f)(hsz:r.tmps.size=n)(hps : ∀ p ∈ r.params.toList,p<n)
  (hy : ∀ {mu:Mu} {w:World} {l:Nat},y.F w mu (Ci h mu) l → ∀ t,RV h mu w (fr t) (r.tmps.getD t undef)) (hla:args.length=r.params.size)
  (hrun : ∀ l,Ex P f n ⟨false,some (l,o,g)⟩ [.code r.assign,.beginRound,.code r.body] (Wc fr r.params.toList args) [] h .ret (fun res h' _=>match res with
   | .ret v=>h' o=some (.blk g (.loop { r with state:=.busy }))∧((v=.tup []∧K (.bool true) (upd h' o (some (.blk g (.loop r))))) ∨ ∃ c,v=jav c∧jav c≠.tup []∧K (.bool false) (upd h' o (some (.blk g (.loop { r with state:=.done,pending:=some c })))))
   | .panic v=>E v h')):Y0 P y o g args h K E:=by
 intro B mu w loc cargs s hl hyF ha
 obtain⟨l0,hl0,_,hb⟩:=s.blks _ _ _ ho
 rw [hl] at hl0; cases hl0
 have hcs:cargs.size=r.params.size:=by have:=ha.1; simp at this; omega
 refine⟨r,hb,hcs,fun c cs=>?_⟩
 have hz:(r.params.zip cargs).foldl (fun tmps (t,a)=>tmps.setIfInBounds t a) r.tmps=(r.params.toList.zip cargs.toList).foldl (fun tmps x=>tmps.setIfInBounds x.1 x.2) r.tmps:=by
  rw [← Array.foldl_toList,Array.toList_zip]
 obtain⟨q1,q2⟩:=Ajs (n:=n) r.params.toList args cargs.toList fr r.tmps hsz hps (hy hyF) ha
 rw [← hz] at q1 q2
 generalize (r.params.zip cargs).foldl (fun tmps (t,a)=>tmps.setIfInBounds t a) r.tmps=tmps at q1 q2
 subst hfn
 obtain⟨e,w',cs',frm,res,h',mu',u',a1,a2,a3,a4,a5,a6,a7,a8,a9⟩:=hrun loc.b ⟨B.n,w.heap.size⟩ mu w { tmps:=tmps,defers:=[] } (c::cs) ⟨q2,q1,rfl,s.rebase rfl,trivial,(fun l' o' g' hh=>by cases hh; exact⟨loc,hl,rfl⟩),s.base,Nat.le_refl _⟩
 have a9':cs'=c::cs:=a9
 subst a9'
 replace a7:Sim B mu' h' w':=a7.rebase rfl
 replace a8:=a8.ext
 have hfr:(b0 r.fn ⟨false,some (loc.b,o,g)⟩).atR { tmps:=tmps,defers:=[] } [.code r.assign,.beginRound,.code r.body]=Frame.round loc.b r.fn tmps r.assign r.body .normal:=by
  simp [Frame.round,Frame.atR,b0,KD]
 rw [hfr] at a2
 cases e with
 | outgrown=>cases res <;> exact a6.elim
 | returned v=>
  cases res with
  | panic _=>exact a6.elim
  | ret v'=>
   obtain⟨g1,g2,g4,g3⟩:=(a5:frm.roundOf=some loc.b∧frm.mode=.run∧frm.defers=[]∧((v=undef∧frm.todo=[]) ∨ ∃ c k,frm.todo=.code c::k∧Vq c k=true∧v=jv c))
   obtain⟨k1,k2⟩:=a1
   have hl':=a8.mu _ _ _ hl
   obtain⟨l1,hl1,_,hb1⟩:=a7.blks _ _ _ k1
   rw [hl'] at hl1; cases hl1
   have hk:frm.kind=.normal:=by rw [a4]; rfl
   rcases k2 with⟨rfl,k2⟩ | ⟨jc,rfl,hjc,k2⟩
   ·
    have hv:v=undef:=by
     have hh:RV h' mu' w' (.tup []) v:=a6
     cases hh with
     | tup vs cs hlen _=>
      have:cs=[]:=by simpa using hlen.symm
      subst this; rfl
    have htodo:frm.todo=[]:=by
     rcases g3 with⟨_,h⟩ | ⟨c',k',_,hj,hv'⟩
     ·exact h
     ·exact absurd (hv'.symm.trans hv) (Awd hj)
    have hend:(Instr.endRound loc.b none).run P w'=.ok (.bool true) { w' with heap:=w'.heap.setIfInBounds loc.b (.loop r) }:=by
     have:({ r with state:=.ready,pending:=none }:Loop)=r:=by
      cases r; simp_all
     simp [Instr.endRound,Instr.getLoop,getObj,setObj,Sem.run,Sem.run_bind,hb1]
     rw [← this]
    obtain⟨s',e'⟩:=a7.setB (x':=.loop r) k1 hl' (fun _ _ _ hh=>by cases hh)
    have hfe:frm=frm.atR { tmps:=frm.tmps,defers:=[] } []:=by
     cases frm; simp_all [Frame.atR]
    refine⟨.returned (.bool true),_,.ret (.bool true),_,mu',k2,s',a8.trans e',.bool true,?_⟩
    refine Steps.trans a2 (.one ?_)
    rw [hfe]
    exact stepR_round_end (b:=frm) g1 hk hend
   ·
    have hv:v=jv jc:=Avy hjc a6
    obtain⟨c',k',htodo,hj,hcc⟩ : ∃ c k,frm.todo=.code c::k∧Vq c k=true∧v=jv c:=by
     rcases g3 with⟨h,_⟩ | h
     ·exfalso
      rw [hv] at h
      cases jc with
      | ret=>simp [jv,undef] at h
      | exit id=>simp [jv,undef] at h
      | _=>exact hjc rfl
     ·exact h
    have hcj:c'=jc:=Aus hj hjc (hv.symm.trans hcc)
    subst hcj
    have hend:(Instr.endRound loc.b (some c')).run P w'=.ok (.bool false) { w' with heap:=w'.heap.setIfInBounds loc.b (.loop { r with state:=.done,pending:=some c' }) }:=by
     simp [Instr.endRound,Instr.getLoop,getObj,setObj,Sem.run,Sem.run_bind,hb1]
    obtain⟨s',e'⟩:=a7.setB (x':=.loop { r with state:=.done,pending:=some c' }) k1 hl' (fun _ _ _ hh=>by cases hh)
    have hfe:frm=frm.atR { tmps:=frm.tmps,defers:=[] } (.code c'::k'):=by
     cases frm; simp_all [Frame.atR]
    refine⟨.returned (.bool false),_,.ret (.bool false),_,mu',k2,s',a8.trans e',.bool false,?_⟩
    refine Steps.trans a2 (.one ?_)
    unfold Vq at hj
    split at hj
    ·rw [hfe]
     exact stepR_round_ret (b:=frm) g1 hk hend
    ·rw [hfe]
     exact stepR_round_exit (b:=frm) g1 hk (by simpa using hj) hend
    ·cases hj
 | panicked chain=>
  cases res with
  | ret _=>exact a6.elim
  | panic v=>
   exact⟨.panicked chain,w',.panic v,h',mu',a1,a7,a8,a6,Steps.trans a2 (.one (step_leave_panicked a5))⟩
theorem Sim.take {B:Base P}{mu:Mu}{w:World}{b:Nat}{x:Option (List Deferred)}(s:Sim B mu h w)(hb:w.heap[b]? = some (.deferred x))(hm:¬ Ci h mu b)(hn:B.n≤b){n0:Nat}(hn0:n0≤b) :
  Sim B mu h { w with heap:=w.heap.setIfInBounds b (.deferred none) }∧Adz n0 h mu w h mu { w with heap:=w.heap.setIfInBounds b (.deferred none) }:=by
 have hlt:b<w.heap.size:=by
  rcases Nat.lt_or_ge b w.heap.size with hh | hh
  ·exact hh
  ·rw [Array.getElem?_eq_none hh] at hb; cases hb
 have hne : ∀ k,k≠b→(w.heap.setIfInBounds b (.deferred none))[k]? = w.heap[k]? := fun k hk=>Array.getElem?_setIfInBounds_ne (Ne.symm hk)
 have hself:(w.heap.setIfInBounds b (.deferred none))[b]? = some (.deferred none):=by simp [hlt]
 have ext:Adz n0 h mu w h mu { w with heap:=w.heap.setIfInBounds b (.deferred none) }:=
  ⟨rfl,rfl,rfl,by simp,fun k hk hkm=>⟨by
   by_cases hq:k=b
   ·subst hq; exact .inr ⟨hn0,_,_,hb,hself⟩
   ·exact .inl (hne k hq),hkm⟩,fun _ _ _ h=>h⟩
 have hcell : ∀ a:Addr,({ w with heap:=w.heap.setIfInBounds b (.deferred none) }:World).cell? a=w.cell? a:=fun a=>by
  by_cases hq:a.block=b
  ·unfold World.cell?
   show(match (w.heap.setIfInBounds b (.deferred none))[a.block]? with | some (.cells cells _ _)=>_ | _=>_)=_
   rw [hq,hself,hb]
  ·exact cell?_of_heap (hne _ hq)
 have hnb : ∀ {o x l},h o=some x→mu o x.gen=some l→l.b≠b:=fun h1 h2 hq=>hm ⟨_,_,_,h1,h2,hq⟩
 refine⟨⟨by simpa using s.base,fun o g l hl=>?_,s.fin,s.finh,fun o g st rs hx=>?_,fun o g es hx=>?_,s.inj,GW.step s.glob fun k hk=>hne k (by omega),fun o g x hx=>?_⟩,ext⟩
 ·obtain⟨h1,h2,h3⟩:=s.muOk o g l hl
  refine⟨h1,by simpa using h2,fun hc=>?_⟩
  obtain⟨cells,e,f,k1,k2,k3⟩:=h3 hc
  have:l.b≠b:=fun hq=>by rw [hq,hb] at k1; cases k1
  exact⟨cells,e,f,(hne _ this).trans k1,k2,k3⟩
 ·obtain⟨l,h1,h2,h3,h4,h5,h6⟩:=s.rows o g st rs hx
  refine⟨l,h1,h2,h3,h4,h5,fun i j hi hj=>?_⟩
  obtain⟨c,hc1,hc2⟩:=h6 i j hi hj
  exact⟨c,(hcell _).trans hc1,hc2.extG ext⟩
 ·obtain⟨l,h1,h2,ens,clock,h3,h4,h5⟩:=s.maps o g es hx
  exact⟨l,h1,h2,ens,clock,⟨(hne _ (hnb hx h1)).trans h3.1,h3.2⟩,h4,fun i hi=>⟨(h5 i hi).1.extG ext,(h5 i hi).2.extG ext⟩⟩
 ·obtain⟨l,h1,h2,h3⟩:=s.blks o g x hx
  exact⟨l,h1,h2,(hne _ (hnb hx h1)).trans h3⟩
theorem Ou.extG {n:Nat}{h h':Ab}{mu mu':Mu}{w w':World}(e:Adz n h mu w h' mu' w'){l:List AV}{cs:List Value}(k:Ou h mu w l cs):Ou h' mu' w' l cs:=⟨k.1,fun i hi=>(k.2 i hi).extG e⟩
theorem S3.extG {n:Nat}{h h':Ab}{mu mu':Mu}{w w':World}(e:Adz n h mu w h' mu' w'){u:AU}{m:FrameMode}(k:S3 h mu w u m):S3 h' mu' w' u m:=by
 unfold S3 at k ⊢
 split at k
 ·trivial
 ·exact⟨k.1,k.2.1,k.2.2.extG e⟩
 ·exact k.elim
theorem Asd {m:AU}(hr:Sa P f n d m fr ds h u Q)(hds:ds.all (fun d => !d.isStar)=true:=by rfl):Sa P f n d m fr (AD.star::ds) h u Q:=by
 intro B mu w a cs todo mode p hm
 have hp:=p.ds
 unfold Ry at hp
 obtain⟨c1,c2,hq,⟨bs,hnd,hbs,hall⟩,hrest⟩:=hp
 have hmr:mode≠.run:=by intro hh; subst hh; cases m <;> simp [S3] at hm
 have keep : ∀ {mu:Mu} {w w':World} {n0 fb:Nat} (e:Adz n0 h mu w h mu w') (ds:List AD) (cs:List Deferred),ds.all (fun d => !d.isStar)=true→Ry h mu w fb ds cs→Ry h mu w' fb ds cs:=by
  intro mu w w' n0 fb e ds
  induction ds with
  | nil=>intro cs _ hh; exact hh
  | cons d ds ih=>
   intro cs hal hh
   simp only [List.all_cons,Bool.and_eq_true,Bool.not_eq_true'] at hal
   unfold Ry at hh ⊢
   rw [hal.1] at hh ⊢
   obtain⟨c,c2,h1,⟨cap,h2,h2'⟩,h3⟩:=hh
   exact⟨c,c2,h1,⟨cap,h2,h2'.extG e⟩,ih c2 hal.2 h3⟩
 have key : ∀ (bs:List Nat) (w:World) (c1:List Deferred) (a:Act),Pre n d fr ds h u B mu w { a with defers:=c2 } cs→S3 h mu w m mode→a.defers=c1++c2→bs.Nodup→c1.map (·.target)=bs.map (fun b=>.collected b) →
   (∀ b ∈ bs,b<w.heap.size∧¬ Ci h mu b∧B.fb≤b∧w.heap[b]? = some (.deferred (some [])))→O4 P f d B h mu w cs Q (lone { (b0 f d).atR a todo with mode:=mode } cs w):=by
  intro bs
  induction bs with
  | nil=>
   intro w c1 a p hm hq _ hbs _
   have:c1=[]:=by simpa using hbs
   subst this
   have ha:({ a with defers:=c2 }:Act)=a:=by cases a; simp at hq; subst hq; rfl
   rw [ha] at p
   exact hr B mu w a cs todo mode p hm
  | cons b bs ih=>
   intro w c1 a p hm hq hnd hbs hall
   match c1,hbs with
   | dc::c1,hbs=>
    simp only [List.map_cons,List.cons.injEq] at hbs
    obtain⟨k1,k2,k3,k4⟩:=hall b (List.mem_cons_self ..)
    obtain⟨s',e'⟩:=p.sim.take k4 k2 (Nat.le_trans p.fb.1 k3) k3
    have hk:(Instr.takeDeferred b).run P w=.ok [] { w with heap:=w.heap.setIfInBounds b (.deferred none) }:=by
     simp [Instr.takeDeferred,getObj,setObj,Sem.run,Sem.run_bind,k4]
    have h1:=step_collected (P:=P) (fr:={ (b0 f d).atR a todo with mode:=mode }) (cs:=cs) (w:=w) hmr (d:=dc) (ds:=c1++c2) (by simpa [Frame.atR] using hq) hbs.1 hk
    have p':Pre n d fr ds h u B mu { w with heap:=w.heap.setIfInBounds b (.deferred none) } { a with defers:=c2 } cs:=
     ⟨p.size,fun t=>(p.fr t).extG e',keep e' ds c2 hds p.ds,s',by
      obtain⟨q,ro⟩:=d
      cases q with
      | false=>trivial
      | true=>obtain⟨c,r,h1,h2⟩:=p.cs; exact⟨c,r,h1,h2.extG e'⟩,p.rnd,p.fb.1,by simpa using p.fb.2⟩
    have hnd':=List.nodup_cons.1 hnd
    exact .extG e' (.head h1 (ih _ c1 { a with defers:=c1++c2 } p' (hm.extG e') rfl hnd'.2 hbs.2 (fun b' hb'=>by
     obtain⟨q1,q2,q3,q4⟩:=hall b' (List.mem_cons_of_mem _ hb')
     refine⟨by simpa using q1,q2,q3,?_⟩
     have hne:b'≠b:=fun hq=>hnd'.1 (hq ▸ hb')
     exact(Array.getElem?_setIfInBounds_ne (Ne.symm hne)).trans q4)))
 exact key bs w c1 a ⟨p.size,p.fr,hrest,p.sim,p.cs,p.rnd,p.fb⟩ hm hq hnd hbs hall
theorem Aq8 {todo:List Item}(hr:Ex P f n d todo fr (AD.star::ds) h u Q):Ex P f n d todo fr ds h u Q:=fun B mu w a cs p=>
 hr B mu w a cs ⟨p.size,p.fr,⟨[],a.defers,rfl,⟨[],List.nodup_nil,rfl,fun b hb=>by cases hb⟩,p.ds⟩,p.sim,p.cs,p.rnd,p.fb⟩
structure LpOk (f n:Nat)(params:Array Tmp)(assign body:Code)(r:Loop):Prop where
 ready:r.state=.ready
 pend:r.pending=none
 fn:r.fn=f
 size:r.tmps.size=n
 params:r.params=params
 assign:r.assign=assign
 body:r.body=body
theorem Aay {x:Operand}{params:Array Tmp}{assign body:Code}{gf:FuncId}{cap:List AV}(oL:Nat)(hro:d.ro=none)(hx:ev fr x=.func (.func gf) [] cap)(hoL:h oL=none)
  (hgo : ∀ (gL:Nat) (y:YF) (r:Loop),LpOk f n params assign body r→(∀ {mu:Mu} {w:World} {M:Nat→Prop} {l:Nat},y.F w mu M l → ∀ t,Rv w mu M (fr t) (r.tmps.getD t undef)) →
   Bm P gf ([.yld y oL gL]++cap) (upd h oL (some (.blk gL (.loop r)))) (fun res h'=>match res with
    | .ret _ => ∃ r':Loop,h' oL=some (.blk gL (.loop r'))∧r'.state≠.busy∧Ex P f n d ((r'.pending.map Item.code).toList++k) fr (AD.star::ds) (upd h' oL none) u Q
    | .panic v=>Sa P f n d (.pan v false) fr (AD.star::ds) (upd h' oL none) u Q)) :
  Ex P f n d (.code (.rangeFunc x params assign body)::k) fr (AD.star::ds) h u Q:=by
 intro B mu w a cs p
 obtain⟨s1,e1⟩:=p.sim.junk (.deferred (some []))
 obtain⟨gL,hgL⟩:=s1.fresh oL
 generalize hr:({ state:=.ready,pending:=none,fn:=f,tmps:=a.tmps,params:=params,assign:=assign,body:=body,defers:=w.heap.size }:Loop)=r
 obtain⟨s2,e2⟩:=s1.pushB (.loop r) hoL hgL
 have e12:=e1.trans e2
 have hsz1:(w.alloc (.deferred (some []))).heap.size=w.heap.size+1:=Eb ..
 have hent:(Instr.enterLoop (b0 f d).fn a.tmps params assign body (b0 f d).roundOf).run P w=.ok (w.heap.size+1,[{ target:=.collected w.heap.size,args := #[] }]) ((w.alloc (.deferred (some []))).alloc (.loop r)):=by
  have hro':(b0 f d).roundOf=none:=by simp [b0,hro]
  rw [hro',← hr,← hsz1]
  rfl
 have p2:=p.ext e12 s2
 let y:YF:=⟨fun w mu M l => ∀ t,Rv w mu M (fr t) (a.tmps.getD t undef),fun e hh t=>(hh t).extG e⟩
 have hcall:=hgo gL y r (by subst hr; exact⟨rfl,rfl,rfl,p.size,rfl,rfl,rfl⟩) (fun hh t=>by subst hr; exact hh t)
 obtain⟨hb,hcall⟩:=hcall
 have hxv:=On p2.fr x
 rw [hx] at hxv
 obtain⟨f2,c2,hfv,hf2,hc2⟩:=Aeg hxv
 have hf2':f2=[]:=by have:=hf2.1; simp at this; exact List.length_eq_zero_iff.1 this.symm
 subst hf2'
 have hinv:((resolve a.eval (rangeCall x (w.heap.size+1)) 0) >>= fun d=>invoke d.target d.args).run P ((w.alloc (.deferred (some []))).alloc (.loop r))=.ok (.enter gf (#[] ++ #[Value.func (.yield (w.heap.size+1)) #[] #[]]++c2.toArray)) ((w.alloc (.deferred (some []))).alloc (.loop r)):=by
  have:=Adq (P:=P) (ρ:=a.eval) (x:=x) (args := #[.const (.func (.yield (w.heap.size+1)) #[] #[])]) (ts := #[]) (ty:=0) (w:=(w.alloc (.deferred (some []))).alloc (.loop r)) hfv hb
  simpa [rangeCall,Act.eval] using this
 have hres : ∃ dd,(resolve a.eval (rangeCall x (w.heap.size+1)) 0).run P ((w.alloc (.deferred (some []))).alloc (.loop r))=.ok dd ((w.alloc (.deferred (some []))).alloc (.loop r))∧(invoke dd.target dd.args).run P ((w.alloc (.deferred (some []))).alloc (.loop r))=.ok (.enter gf (#[] ++ #[Value.func (.yield (w.heap.size+1)) #[] #[]]++c2.toArray)) ((w.alloc (.deferred (some []))).alloc (.loop r)):=by
  rw [Sem.run_bind] at hinv
  have hrr : ∃ dd,(resolve a.eval (rangeCall x (w.heap.size+1)) 0).run P ((w.alloc (.deferred (some []))).alloc (.loop r))=.ok dd ((w.alloc (.deferred (some []))).alloc (.loop r)):=by
   simp [rangeCall,resolve,hfv,Deferred.ofValue]
  obtain⟨dd,hdd⟩:=hrr
  refine⟨dd,hdd,?_⟩
  rw [hdd] at hinv
  simpa using hinv
 obtain⟨dd,hd1,hd2⟩:=hres
 have henter:=stepR_rangeFunc (P:=P) (b:=b0 f d) (a:=a) (k:=k) (cs:=cs) (w:=w) hent hd1 hd2
 have hlL:C0 mu oL gL ⟨(w.alloc (.deferred (some []))).heap.size,0,0,0,false⟩ oL gL=some ⟨(w.alloc (.deferred (some []))).heap.size,0,0,0,false⟩:=by
  simp [C0]
 have hargs:Ou (upd h oL (some (.blk gL (.loop r)))) (C0 mu oL gL ⟨(w.alloc (.deferred (some []))).heap.size,0,0,0,false⟩) ((w.alloc (.deferred (some []))).alloc (.loop r)) ([.yld y oL gL]++cap) (#[] ++ #[Value.func (.yield (w.heap.size+1)) #[] #[]]++c2.toArray).toList:=by
  simp only [Array.toList_append,List.nil_append]
  refine Ou.append ⟨rfl,fun i hi=>?_⟩ hc2
  have:i=0:=by simpa using hi
  subst this
  have hv:=Rv.yld (w:=(w.alloc (.deferred (some []))).alloc (.loop r)) (M:=Ci (upd h oL (some (.blk gL (.loop r)))) (C0 mu oL gL ⟨(w.alloc (.deferred (some []))).heap.size,0,0,0,false⟩)) y oL gL _ hlL (fun t=>p2.fr t)
  show Rv _ _ _ (.yld y oL gL) (.func (.yield (w.heap.size+1)) #[] #[])
  rw [← hsz1]
  exact hv
 obtain⟨e,w',frm,⟨res,h',mu',hQ,hs',hext,hE⟩,hcomes,hfn,hleave⟩:=hcall B _ _ _ s2 hargs ((b0 f d).atR { a with defers:=[{ target:=.collected w.heap.size,args := #[] }]++a.defers } (.inRangeFunc (w.heap.size+1)::k)::cs)
 have p3:=p2.ext hext hs'
 have hsubL:G4 (upd h' oL none) h':=fun o' y' hh=>by
  unfold upd at hh
  split at hh
  ·cases hh
  ·exact hh
 have hmark:Ry h' mu' w' B.fb (AD.star::ds) ([{ target:=.collected w.heap.size,args := #[] }]++a.defers):=by
  have hp0:=p.ds
  unfold Ry at hp0 ⊢
  obtain⟨c1,c2,hq,⟨bs,k1,k2,k3⟩,hrest⟩:=hp0
  have E:=e12.trans hext
  have hD:(w.alloc (.deferred (some []))).heap[w.heap.size]? = some (.deferred (some [])):=My
  have hD2:((w.alloc (.deferred (some []))).alloc (.loop r)).heap[w.heap.size]? = some (.deferred (some [])):=by rw [Cy (by rw [hsz1]; omega)]; exact hD
  have hDm:¬ Ci (upd h oL (some (.blk gL (.loop r)))) (C0 mu oL gL ⟨(w.alloc (.deferred (some []))).heap.size,0,0,0,false⟩) w.heap.size:=by
   rintro⟨o1,x1,l1,q1,q2,q3⟩
   by_cases ho1:o1=oL
   ·subst ho1
    rw [Ad2] at q1; cases q1
    rw [show(AO.blk gL (.loop r)).gen=gL from rfl,hlL] at q2; cases q2
    simp only at q3; rw [hsz1] at q3; omega
   ·rw [Af8 _ _ _ ho1] at q1
    have:mu o1 x1.gen=some l1:=by
     have:C0 mu oL gL ⟨(w.alloc (.deferred (some []))).heap.size,0,0,0,false⟩ o1 x1.gen=mu o1 x1.gen:=by simp [C0,ho1]
     rw [← this]; exact q2
    have:=(p.sim.muOk _ _ _ this).2.1
    omega
  have hsz2:((w.alloc (.deferred (some []))).alloc (.loop r)).heap.size=w.heap.size+2:=by rw [Eb,hsz1]
  obtain⟨j1,j2⟩:=hext.same w.heap.size (by rw [hsz2]; omega) hDm
  refine⟨{ target:=.collected w.heap.size,args := #[] }::c1,c2,by rw [hq]; rfl,⟨w.heap.size::bs,List.nodup_cons.2 ⟨fun hm=>by have:=(k3 _ hm).1; omega,k1⟩,by simp [k2],fun b hb=>?_⟩,hrest.ext E⟩
  rcases List.mem_cons.1 hb with rfl | hb
  ·exact⟨Nat.lt_of_lt_of_le (by rw [hsz2]; omega) hext.size,j2,p.fb.2,j1.trans hD2⟩
  ·obtain⟨q1,q2,q3,q4⟩:=k3 b hb
   obtain⟨s1,s2⟩:=E.same b q1 q2
   exact⟨Nat.lt_of_lt_of_le q1 E.size,s2,q3,s1.trans q4⟩
 have p4:Pre n d fr (AD.star::ds) h' u B mu' w' { a with defers:=[{ target:=.collected w.heap.size,args := #[] }]++a.defers } cs:=⟨p3.size,p3.fr,hmark,hs',p3.cs,p3.rnd,p3.fb⟩
 cases e with
 | outgrown=>cases res <;> exact hE.elim
 | returned c=>
  cases res with
  | panic v=>exact hE.elim
  | ret v=>
   obtain⟨r',hr',hst,hrun⟩:=hQ
   have hfin:=step_leave_returned hleave (c:=(b0 f d).atR { a with defers:=[{ target:=.collected w.heap.size,args := #[] }]++a.defers } (.inRangeFunc (w.heap.size+1)::k)) (cs:=cs)
   rw [finish_atR_inRangeFunc] at hfin
   have hlL':=hext.mu _ _ _ hlL
   rw [hsz1] at hlL'
   obtain⟨l1,hl1,_,hb1⟩:=hs'.blks _ _ _ hr'
   rw [hlL'] at hl1; cases hl1
   have hend:(Instr.endLoop (w.heap.size+1)).run P w'=.ok r'.pending { w' with heap:=w'.heap.setIfInBounds (w.heap.size+1) (.loop { r' with state:=.exhausted }) }:=by
    have hnb:(r'.state==.busy)=false:=by
     cases hq:r'.state with
     | busy=>exact absurd hq hst
     | ready=>rfl
     | done=>rfl
     | exhausted=>rfl
    simp [Instr.endLoop,Instr.getLoop,getObj,setObj,Sem.run,Sem.run_bind,hb1,hnb,hst]
   obtain⟨s5,e5⟩:=hs'.setB (x':=.loop { r' with state:=.exhausted }) hr' hlL' (fun _ _ _ hh=>by cases hh)
   have hsub5:G4 (upd h' oL none) (upd h' oL (some (.blk gL (.loop { r' with state:=.exhausted })))):=fun o' y' hh=>by
    unfold upd at hh ⊢
    split at hh
    ·cases hh
    ·rename_i hq; rw [if_neg hq]; exact hh
   have p5:=(p4.ext e5 s5).ext (Da.sub hsub5) (s5.sub hsub5)
   exact .ext (e12.trans hext) (.ext e5 (.ext (Da.sub hsub5) (.steps (.head henter (Steps.trans hcomes (.head hfin (.one (stepR_endRangeFunc hend))))) (hrun B mu' _ _ cs p5))))
 | panicked chain=>
  cases res with
  | ret v=>exact hE.elim
  | panic v=>
   have hfin:=step_leave_panicked hleave (c:=(b0 f d).atR { a with defers:=[{ target:=.collected w.heap.size,args := #[] }]++a.defers } (.inRangeFunc (w.heap.size+1)::k)) (cs:=cs)
   obtain⟨x',hx',x1,x2,x3⟩:=hE.panic_inv
   cases hx'
   rw [Frame.raise_atR] at hfin
   have p5:=p4.ext (Da.sub hsubL) (hs'.sub hsubL)
   have hu5:S3 (upd h' oL none) mu' w' (.pan v false) (.panicking [x']):=⟨x1,x2,x3.ext (Da.sub hsubL)⟩
   exact .ext (e12.trans hext) (.ext (Da.sub hsubL) (.steps (.head henter (Steps.trans hcomes (.one hfin))) (hQ B mu' w' _ cs _ _ p5 hu5)))
end
end Go.Am
namespace Go.Am
open Go
set_option linter.unusedSimpArgs false
set_option linter.unusedVariables false
set_option linter.unusedSectionVars false
def Vr {σ:Type}(St:σ→Ab→Prop)(m:R σ):AR→Ab→Prop:=fun r h'=>match m with
 | .ok s=>(∃ v,r=.ret v)∧St s h'
 | .pan v=>r=.panic v.av ∧ ∃ s,St s h'
 | .bad=>False
def Am8 {σ:Type}(St:σ→Ab→Prop):Spec σ:=⟨fun m=>m≠.bad,fun h=>h rfl,fun m r h' _=>Vr St m r h'⟩
section
variable {P:Program} [GW P] {f:FuncId} {n:Nat} {d:FK} {σ β γ:Type} {Q:Spec β} {ds:List AD} {h:Ab} {u:AU} {k:List Item} {l:List (Nat×AV)} {St:σ→Ab→Prop} {m:R σ}
theorem Ako {fn : Func} {c : Code} {args : List AV} (hf : P.funcs[f]? = some fn) (hb : fn.body = some c) (hn : fn.name ≠ "runtime.NumGoroutine") (hnt : fn.ntmps = n) (hl : Nat.ble args.length n = true)
  (hr : WR P f n false (Am8 St) m [.code c] (Ag (Yn 0 args)) [] h .ret) (hm : m ≠ .bad) : Bm P f args h (Vr St m) := by
 refine R7 hf hb hn hnt (by simpa using hl) ?_
 refine T0 (fun t => ?_) (hr hm)
 rcases Ui args 0 t with h | ⟨_, h⟩
 ·exact .inl h
 ·exact .inr h
theorem Al7 {fn:Func}{s:σ}{vs:List AV}{fr:Nat→AV}(hf:P.funcs[f]? = some fn)(hr:J3 P h fr fn.results.toList=some vs)(hs:St s h):WR P f n false (Am8 St) (.ok s) [] fr [] h u:=fun _=>
 Agt (Aug hf hr ⟨⟨_,rfl⟩,hs⟩)
theorem Ats {fn:Func}{v:PV}{fr:Nat→AV}{s:σ}(hf:P.funcs[f]? = some fn)(hs:St s h):WU P f n false (Am8 St) (.pan v) (.pan v.av false) fr [] h u:=fun _=>
 Aub hf ⟨rfl,s,hs⟩
def YOk (P:Program)[GW P](y:YF)(o g:Nat)(A:List AV)(St:σ→Ab→Prop)(b:σ→R σ):Prop:=
 ∀ s h,St s h → ∀ s',b s=.ok s'→Y0 P y o g A h (fun v h'=>v=.bool true∧St s' h') (fun _ _=>False)
section
variable {all r:List Oper} {ty:TypeId} {pos:String} {after:Array Edge} {F:γ→R β}
theorem Ael {t:Nat}{x:Operand}{as0:List Operand}{ts:Array TypeId}{y:YF}{o g:Nat}{A:List AV}{b:σ→R σ}{s:σ}{rest:σ→R γ}(ht:Nat.blt t n=true)(hx:ev (Ag l) x=.yld y o g)(ha:E4 (Ag l) as0=A)(hs:St s h)
  (hy:YOk P y o g A St b) (hnp : ∀ v,b s≠.pan v) (hk : ∀ s',b s=.ok s' → ∀ h',St s' h'→WO P f n d Q k all ((rest s').bind F) r (Ag ((t,.bool true)::l)) ds h' u) :
  WO P f n d Q k all (((b s).bind rest).bind F) (⟨some t,.call ⟨.value x,⟨as0⟩,ts⟩,ty,pos,after,none⟩::r) (Ag l) ds h u:=by
 refine Afe (R.bind_assoc _ _ _) (Q4 (by simpa [Fp] using ht) rfl fun hb K U hK hU=>?_)
 simp only [Ho,hx]
 rw [ha]
 cases hm:b s with
 | bad=>rw [hm] at hb; exact absurd hb Q.bad
 | pan v=>exact absurd hm (hnp v)
 | ok s'=>
  have hk':=hk s' hm
  rw [hm] at hK
  refine Uz (fun v h' hv=>?_) (fun _ _ hf=>hf.elim) (hy s h hs s' hm)
  obtain⟨rfl,hs'⟩:=hv
  exact hK _ _ _ _ (by rw [Ey]; exact hk' h' hs')
end
def Agh {σ:Type}(o g:Nat)(r:Loop)(St:σ→Ab→Prop):Spec σ:=⟨fun m => ∃ s:σ,m=.ok s,(fun h=>by obtain⟨s,h⟩:=h; cases h),fun m a h' _ => ∃ s:σ,m=.ok s∧a=.ret (.tup [])∧h' o=some (.blk g (.loop { r with state:=.busy }))∧St s (upd h' o (some (.blk g (.loop r))))⟩
theorem Ato {lo:Nat×Nat×Nat}{o g:Nat}{r:Loop}{s:σ}{fr:Nat→AV}(ho:h o=some (.blk g (.loop { r with state:=.busy })))(hs:St s (upd h o (some (.blk g (.loop r))))) :
  WR P f n ⟨false,some lo⟩ (Agh o g r St) (.ok s) [] fr [] h u:=by
 intro hV B mu w a cs p
 have hd:a.defers=[]:=p.ds
 refine⟨.returned undef,w,cs,_,.ret (.tup []),h,mu,u,⟨s,rfl,rfl,ho,hs⟩,Steps.refl P _,rfl,rfl,?_,.und,p.sim,(Ext.refl _ _ _).g,.refl p.cs⟩
 exact⟨rfl,rfl,hd,.inl ⟨rfl,rfl⟩⟩
theorem Anj {lo:Nat×Nat×Nat}{o g:Nat}{r:Loop}{v:PV}{m:AU}{fr:Nat→AV}:WU P f n ⟨false,some lo⟩ (Agh o g r St) (.pan v) m fr ds h u:=fun hV=>by obtain⟨s,h⟩:=hV; cases h
theorem Ab7 {y:YF}{o g:Nat}{r:Loop}{params:Array Tmp}{assign body:Code}{A:List AV}{b:σ→R σ}(hlp:LpOk f n params assign body r)(hps:params.toList.all (fun p=>Nat.blt p n)=true)(hla:A.length=params.size)
  (hy : ∀ {mu:Mu} {w:World} {M:Nat→Prop} {lo:Nat},y.F w mu M lo → ∀ t,Rv w mu M (Ag l t) (r.tmps.getD t undef)) (hat : ∀ s h,St s h→h o=some (.blk g (.loop r)))
  (hr : ∀ (lo:Nat) (s:σ) (h:Ab),St s h→WR P f n ⟨false,some (lo,o,g)⟩ (Agh o g r St) (b s) [.code assign,.beginRound,.code body] (Wc (Ag l) params.toList A) [] h .ret):YOk P y o g A St b:=by
 intro s h hs s' hb
 obtain⟨h1,h2,h3,h4,rfl,rfl,rfl⟩:=hlp
 refine Adl (f:=f) (n:=n) (fr:=Ag l) (hat s h hs) h1 h2 h3 h4 (fun p hp=>by have:=List.all_eq_true.1 hps p hp; simpa using this) (fun hF t=>hy hF t) hla fun lo=>?_
 refine Aee (hr lo s h hs ⟨s',hb⟩) fun a h' u' hq=>?_
 obtain⟨s2,e,rfl,hb1,hs2⟩:=hq
 rw [hb] at e; cases e
 exact⟨hb1,.inl ⟨rfl,rfl,hs2⟩⟩
theorem Vd : ∀ (ps:List Nat) (A:List AV) (l:List (Nat×AV)),Wc (Ag l) ps A=Ag ((ps.zip A).reverse++l)
 | [],_,l=>rfl
 | p::ps,[],l=>rfl
 | p::ps,v::A,l=>by
  rw [Wc]
  have:upd (Ag l) p v=Ag ((p,v)::l):=Ey l p v
  rw [this,Vd ps A]
  simp
section
variable {h0:Ab} {ids:List Nat} {xs:List (Option AO)} {N:Nat} {F:γ→R β}
theorem Aoj {lo:Nat×Nat×Nat}{o g:Nat}{r:Loop}{m:R σ}{todo:List Item}{fr:Nat→AV}(hr:WR P f n ⟨false,some lo⟩ (Agh o g r St) m todo fr ds h u):WR P f n ⟨false,some lo⟩ (Agh o g r St) m.np todo fr ds h u:=by
 intro hV
 cases m with
 | ok s=>exact hr hV
 | pan v=>obtain⟨s,h⟩:=hV; cases h
 | bad=>obtain⟨s,h⟩:=hV; cases h
theorem Afp {Q:Spec β}{m:R β}{todo:List Item}{fr:Nat→AV}(l':List (Nat×AV))(e:fr=Ag l')(hr:WR P f n d Q m todo (Ag l') ds h u):WR P f n d Q m todo fr ds h u:=e ▸ hr
theorem Rt {Q:Spec β}{m:R β}{lr jL g:Nat}{r:Loop}{fr:Nat→AV}(hI:Ids h0 ids N)(hl:xs.length=N)(hj:Nat.blt jL N=true)(hx:xs[jL]? = some (some (.blk g (.loop r))))(hs:r.state=.ready)
  (hr:WR P f n ⟨false,some (lr,ix ids jL,g)⟩ Q m k fr ds (hp h0 ids (xs.set jL (some (.blk g (.loop { r with state:=.busy }))))) u):WR P f n ⟨false,some (lr,ix ids jL,g)⟩ Q m (.beginRound::k) fr ds (hp h0 ids xs) u:=fun hb=>
 Agr rfl (hI.at hl hx) hs (by rw [hI.set hl hj]; exact hr hb)
theorem Wu {lo:Nat×Nat×Nat}{jL g:Nat}{r:Loop}{s:σ}{fr:Nat→AV}(hI:Ids h0 ids N)(hl:xs.length=N)(hj:Nat.blt jL N=true)(hx:xs[jL]? = some (some (.blk g (.loop { r with state:=.busy }))))(hs:St s (hp h0 ids (xs.set jL (some (.blk g (.loop r)))))) :
  WR P f n ⟨false,some lo⟩ (Agh (ix ids jL) g r St) (.ok s) [] fr [] (hp h0 ids xs) u:=Ato (hI.at hl hx) (by rw [hI.set hl hj]; exact hs)
theorem Ab4 {Q:Spec β}{m:R β}{todo:List Item}{fr:Nat→AV}{j:Nat}{y:Option AO}(ys:List (Option AO))(hI:Ids h0 ids N)(hl:xs.length=N)(hj:Nat.blt j N=true)(e:xs.set j y=ys)(hr:WR P f n d Q m todo fr ds (hp h0 ids ys) u):WR P f n d Q m todo fr ds (upd (hp h0 ids xs) (ix ids j) y) u:=by
 rw [hI.set hl hj,e]; exact hr
theorem Ab1 {Q:Spec β}{m:R β}{a:AU}{fr:Nat→AV}{j:Nat}{y:Option AO}(ys:List (Option AO))(hI:Ids h0 ids N)(hl:xs.length=N)(hj:Nat.blt j N=true)(e:xs.set j y=ys)(hr:WU P f n d Q m a fr ds (hp h0 ids ys) u):WU P f n d Q m a fr ds (upd (hp h0 ids xs) (ix ids j) y) u:=by
 rw [hI.set hl hj,e]; exact hr
end
theorem Ai0 {x:Operand}{params:Array Tmp}{assign body:Code}{gf:FuncId}{cap:List AV}{m:R σ}{rest:σ→R β}{h0:Ab}{ids:List Nat}{xs:List (Option AO)}{N:Nat}(jL:Nat)(St:Nat→Loop→σ→Ab→Prop)
  (hro:d.ro=none) (hx:ev (Ag l) x=.func (.func gf) [] cap) (hI:Ids h0 ids N) (hl:xs.length=N) (hjL:Nat.blt jL N=true) (hxL:xs[jL]? = some none)
  (hgo : ∀ (gL:Nat) (y:YF) (r:Loop),LpOk f n params assign body r→(∀ {mu:Mu} {w:World} {M:Nat→Prop} {lo:Nat},y.F w mu M lo → ∀ t,Rv w mu M (Ag l t) (r.tmps.getD t undef)) →
   (m≠.bad→Bm P gf ([.yld y (ix ids jL) gL]++cap) (hp h0 ids (xs.set jL (some (.blk gL (.loop r))))) (Vr (St gL r) m)) ∧
   (∀ s h',St gL r s h'→h' (ix ids jL)=some (.blk gL (.loop r))) ∧
   (∀ s,m=.ok s → ∀ h',St gL r s h'→WR P f n d Q (rest s) k (Ag l) (AD.star::ds) (upd h' (ix ids jL) none) u) ∧
   (∀ v,m=.pan v → ∀ s h',St gL r s h'→WU P f n d Q (.pan v) (.pan v.av false) (Ag l) (AD.star::ds) (upd h' (ix ids jL) none) u)) :
  WR P f n d Q (m.bind rest) (.code (.rangeFunc x params assign body)::k) (Ag l) (AD.star::ds) (hp h0 ids xs) u:=by
 intro hV
 refine Aay (ix ids jL) hro hx (hI.at hl hxL) fun gL y r hlp hyF=>?_
 obtain⟨c1,c2,c3,c4⟩:=hgo gL y r hlp hyF
 rw [hI.set hl hjL]
 have hmb:m≠.bad:=fun e=>by rw [e] at hV; exact Q.bad hV
 refine(c1 hmb).mono fun res h' hq=>?_
 cases hm:m with
 | bad=>exact absurd hm hmb
 | ok s=>
  rw [hm] at hq
  obtain⟨⟨v,rfl⟩,hs⟩:=hq
  refine⟨r,c2 s h' hs,by rw [hlp.ready]; exact fun e=>(by cases e),?_⟩
  rw [hlp.pend]
  refine c3 s hm h' hs ?_
  rw [hm] at hV; exact hV
 | pan v=>
  rw [hm] at hq
  obtain⟨rfl,s,hs⟩:=hq
  refine c4 v hm s h' hs ?_
  rw [hm] at hV; exact hV
theorem W7 {x:Operand}{params:Array Tmp}{assign body:Code}{gf:FuncId}{cap:List AV}{m:R σ}{rest:σ→R γ}{F:γ→R β}{h0:Ab}{ids:List Nat}{xs:List (Option AO)}{N:Nat}(jL:Nat)(St:Nat→Loop→σ→Ab→Prop)
  (hro:d.ro=none) (hx:ev (Ag l) x=.func (.func gf) [] cap) (hI:Ids h0 ids N) (hl:xs.length=N) (hjL:Nat.blt jL N=true) (hxL:xs[jL]? = some none)
  (hgo : ∀ (gL:Nat) (y:YF) (r:Loop),LpOk f n params assign body r→(∀ {mu:Mu} {w:World} {M:Nat→Prop} {lo:Nat},y.F w mu M lo → ∀ t,Rv w mu M (Ag l t) (r.tmps.getD t undef)) →
   (m≠.bad→Bm P gf ([.yld y (ix ids jL) gL]++cap) (hp h0 ids (xs.set jL (some (.blk gL (.loop r))))) (Vr (St gL r) m)) ∧
   (∀ s h',St gL r s h'→h' (ix ids jL)=some (.blk gL (.loop r))) ∧
   (∀ s,m=.ok s → ∀ h',St gL r s h'→WR P f n d Q ((rest s).bind F) k (Ag l) (AD.star::ds) (upd h' (ix ids jL) none) u) ∧
   (∀ v,m=.pan v → ∀ s h',St gL r s h'→WU P f n d Q (.pan v) (.pan v.av false) (Ag l) (AD.star::ds) (upd h' (ix ids jL) none) u)) :
  WR P f n d Q ((m.bind rest).bind F) (.code (.rangeFunc x params assign body)::k) (Ag l) (AD.star::ds) (hp h0 ids xs) u:=by
 rw [R.bind_assoc]
 exact Ai0 jL St hro hx hI hl hjL hxL hgo
theorem Hy {m:R β}{a:AU}{fr:Nat→AV}(hr:WU P f n d Q m a fr ds h u)(hds:ds.all (fun d => !d.isStar)=true:=by rfl):WU P f n d Q m a fr (AD.star::ds) h u:=fun hV=>Asd (hr hV) hds
theorem Aco {m:R β}{fr:Nat→AV}(hr:WR P f n d Q m k fr (AD.star::ds) h u):WR P f n d Q m k fr ds h u:=fun hV=>Aq8 (hr hV)
theorem S0 {m:R β}{fr:Nat→AV}(hr:WU P f n d Q m .ret fr ds h u)(hro:d.ro=none:=by rfl):WR P f n d Q m (.code .ret::k) fr ds h u:=fun hV=>Ys (hr hV) hro
end
section
variable {P:Program} [GW P] {f:FuncId} {n:Nat} {α:Type} {u:AU} {l:List (Nat×AV)} {h0:Ab} {ids:List Nat} {xs:List (Option AO)} {N K:Nat} {e:α→AV}
theorem Vk {fn:Func}{a:α}{vs:List AV}(hf:P.funcs[f]? = some fn)(hI:Ids h0 ids N)(hr:J3 P (hp h0 ids xs) (Ag l) fn.results.toList=some vs)(hz:Fz (hp h0 ids xs) h0 (Ku vs) (e a)) :
  WU P f n false (Yc e h0) (.ok a) .ret (Ag l) [] (hp h0 ids xs) u:=fun _=>Ad5 hf hr (hI.sub xs) hz rfl ⟨rfl,rfl⟩
end
section
variable {P:Program} [GW P] {f:FuncId} {n:Nat} {d:FK} {σ ε β γ:Type} {Q:Spec β} {ds:List AD} {h:Ab} {u:AU} {k:List Item} {l:List (Nat×AV)} {St:σ ⊕ ε→Ab→Prop}
def Abs (P:Program)[GW P](y:YF)(o g:Nat)(A:List AV)(St:σ ⊕ ε→Ab→Prop)(b:σ→R (σ ⊕ ε)):Prop:=
 ∀ s h,St (.inl s) h → ∀ x,b s=.ok x→Y0 P y o g A h (fun v h'=>v=.bool x.isLeft∧St x h') (fun _ _=>False)
section
variable {all r:List Oper} {ty:TypeId} {pos:String} {after:Array Edge} {F:γ→R β}
theorem Aqm {i:Nat}{pre:List (List Nat)}{plan:Er}{pend:Jl}{t:Nat}{x:Operand}{as0:List Operand}{ts:Array TypeId}{y:YF}{o g:Nat}{A:List AV}{b:σ→R (σ ⊕ ε)}{s:σ}{r1:σ→R γ}{r2:ε→R γ}(ho:all[i]? = some ⟨some t,.call ⟨.value x,⟨as0⟩,ts⟩,ty,pos,after,none⟩)(ht:Nat.blt t n=true)(hx:ev (Ag l) x=.yld y o g)(ha:E4 (Ag l) as0=A)(hs:St (.inl s) h)
  (hy:Abs P y o g A St b) (hnp : ∀ v,b s≠.pan v) (hpd : ∀ h',Ei P all pre i h' pend) (hk1 : ∀ s',b s=.ok (.inl s') → ∀ h',St (.inl s') h'→WP P f n d Q k all pre ((r1 s').bind F) plan pend (Ag ((t,.bool true)::l)) ds h' u)
  (hk2 : ∀ e,b s=.ok (.inr e) → ∀ h',St (.inr e) h'→WP P f n d Q k all pre ((r2 e).bind F) plan pend (Ag ((t,.bool false)::l)) ds h' u) :
  WP P f n d Q k all pre (((b s).bind (alt r1 r2)).bind F) ((true,i)::plan) pend (Ag l) ds h u:=by
 refine Af7 (R.bind_assoc _ _ _) (Xc ho (by simpa [Fp] using ht) rfl fun hb K U hK hU=>?_)
 simp only [Ho,hx]
 rw [ha]
 cases hm:b s with
 | bad=>rw [hm] at hb; exact absurd hb Q.bad
 | pan v=>exact absurd hm (hnp v)
 | ok z=>
  rw [hm] at hK
  refine Uz (fun v h' hv=>?_) (fun _ _ hf=>hf.elim) (hy s h hs z hm)
  obtain⟨rfl,hs'⟩:=hv
  cases z with
  | inl s'=>exact hK _ _ _ _ (hpd h') (by rw [Ey]; exact hk1 s' hm h' hs')
  | inr e=>exact hK _ _ _ _ (hpd h') (by rw [Ey]; exact hk2 e hm h' hs')
end
def Xs {σ ε:Type}(o g:Nat)(r:Loop)(St:σ ⊕ ε→Ab→Prop)(jm:ε→Code):Spec (σ ⊕ ε):=⟨fun m => ∃ s,m=.ok s,(fun h=>by obtain⟨s,h⟩:=h; cases h),fun m a h' _ => ∃ s,m=.ok s∧h' o=some (.blk g (.loop { r with state:=.busy })) ∧
 match s with
 | .inl _=>a=.ret (.tup [])∧St s (upd h' o (some (.blk g (.loop r))))
 | .inr e=>a=.ret (jav (jm e))∧jav (jm e)≠.tup []∧St s (upd h' o (some (.blk g (.loop { r with state:=.done,pending:=some (jm e) }))))⟩
section
variable {lo:Nat×Nat×Nat} {o g:Nat} {r:Loop} {jm:ε→Code} {fr:Nat→AV}
theorem Asf {s:σ}(ho:h o=some (.blk g (.loop { r with state:=.busy })))(hs:St (.inl s) (upd h o (some (.blk g (.loop r))))) :
  WR P f n ⟨false,some lo⟩ (Xs o g r St jm) (.ok (.inl s)) [] fr [] h u:=by
 intro hV B mu w a cs p
 have hd:a.defers=[]:=p.ds
 refine⟨.returned undef,w,cs,_,.ret (.tup []),h,mu,u,⟨_,rfl,ho,rfl,hs⟩,Steps.refl P _,rfl,rfl,?_,.und,p.sim,(Ext.refl _ _ _).g,.refl p.cs⟩
 exact⟨rfl,rfl,hd,.inl ⟨rfl,rfl⟩⟩
theorem Aru {e:ε}(hj:jm e=.ret)(ho:h o=some (.blk g (.loop { r with state:=.busy })))(hs:St (.inr e) (upd h o (some (.blk g (.loop { r with state:=.done,pending:=some .ret }))))) :
  WR P f n ⟨false,some lo⟩ (Xs o g r St jm) (.ok (.inr e)) (.code .ret::k) fr [] h u:=by
 intro hV B mu w a cs p
 have hd:a.defers=[]:=p.ds
 refine⟨.returned (.bool true),w,cs,_,.ret (.bool true),h,mu,u,⟨_,rfl,ho,by rw [hj]; rfl,by rw [hj]; simp [jav],by rw [hj]; exact hs⟩,Steps.refl P _,rfl,rfl,?_,.bool true,p.sim,(Ext.refl _ _ _).g,.refl p.cs⟩
 exact⟨rfl,rfl,hd,.inr ⟨.ret,k,rfl,rfl,rfl⟩⟩
theorem Awn {v:PV}{m:AU}:WU P f n ⟨false,some lo⟩ (Xs o g r St jm) (.pan v) m fr ds h u:=fun hV=>by obtain⟨s,h⟩:=hV; cases h
theorem Avx {m:R (σ ⊕ ε)}{todo:List Item}(hr:WR P f n ⟨false,some lo⟩ (Xs o g r St jm) m todo fr ds h u):WR P f n ⟨false,some lo⟩ (Xs o g r St jm) m.np todo fr ds h u:=by
 intro hV
 cases m with
 | ok s=>exact hr hV
 | pan v=>obtain⟨s,h⟩:=hV; cases h
 | bad=>obtain⟨s,h⟩:=hV; cases h
end
theorem Aol {y:YF}{o g:Nat}{r:Loop}{jm:ε→Code}{params:Array Tmp}{assign body:Code}{A:List AV}{b:σ→R (σ ⊕ ε)}(hlp:LpOk f n params assign body r)(hps:params.toList.all (fun p=>Nat.blt p n)=true)(hla:A.length=params.size)
  (hy : ∀ {mu:Mu} {w:World} {M:Nat→Prop} {lo:Nat},y.F w mu M lo → ∀ t,Rv w mu M (Ag l t) (r.tmps.getD t undef)) (hat : ∀ s h,St (.inl s) h→h o=some (.blk g (.loop r)))
  (hr : ∀ (lo:Nat) (s:σ) (h:Ab),St (.inl s) h→WR P f n ⟨false,some (lo,o,g)⟩ (Xs o g r St jm) (b s) [.code assign,.beginRound,.code body] (Wc (Ag l) params.toList A) [] h .ret):Abs P y o g A St b:=by
 intro s h hs x hb
 obtain⟨h1,h2,h3,h4,rfl,rfl,rfl⟩:=hlp
 refine Adl (f:=f) (n:=n) (fr:=Ag l) (hat s h hs) h1 h2 h3 h4 (fun p hp=>by have:=List.all_eq_true.1 hps p hp; simpa using this) (fun hF t=>hy hF t) hla fun lo=>?_
 refine Aee (hr lo s h hs ⟨x,hb⟩) fun a h' u' hq=>?_
 obtain⟨s2,e,hb1,hs2⟩:=hq
 rw [hb] at e; cases e
 cases x with
 | inl s'=>obtain⟨rfl,hs2⟩:=hs2; exact⟨hb1,.inl ⟨rfl,rfl,hs2⟩⟩
 | inr e=>obtain⟨rfl,hne,hs2⟩:=hs2; exact⟨hb1,.inr ⟨_,rfl,hne,rfl,hs2⟩⟩
section
variable {h0:Ab} {ids:List Nat} {xs:List (Option AO)} {N:Nat} {lo:Nat×Nat×Nat} {jL g:Nat} {r:Loop} {jm:ε→Code} {fr:Nat→AV}
theorem Aqf {s:σ}(hI:Ids h0 ids N)(hl:xs.length=N)(hj:Nat.blt jL N=true)(hx:xs[jL]? = some (some (.blk g (.loop { r with state:=.busy }))))(hs:St (.inl s) (hp h0 ids (xs.set jL (some (.blk g (.loop r)))))) :
  WR P f n ⟨false,some lo⟩ (Xs (ix ids jL) g r St jm) (.ok (.inl s)) [] fr [] (hp h0 ids xs) u:=Asf (hI.at hl hx) (by rw [hI.set hl hj]; exact hs)
theorem Ap8 {e:ε}(hjm:jm e=.ret)(hI:Ids h0 ids N)(hl:xs.length=N)(hj:Nat.blt jL N=true)(hx:xs[jL]? = some (some (.blk g (.loop { r with state:=.busy }))))(hs:St (.inr e) (hp h0 ids (xs.set jL (some (.blk g (.loop { r with state:=.done,pending:=some .ret })))))) :
  WR P f n ⟨false,some lo⟩ (Xs (ix ids jL) g r St jm) (.ok (.inr e)) (.code .ret::k) fr [] (hp h0 ids xs) u:=Aru hjm (hI.at hl hx) (by rw [hI.set hl hj]; exact hs)
end
theorem Aik {x:Operand}{params:Array Tmp}{assign body:Code}{gf:FuncId}{cap:List AV}{m:R (σ ⊕ ε)}{r1:σ→R γ}{r2:ε→R γ}{F:γ→R β}{h0:Ab}{ids:List Nat}{xs:List (Option AO)}{N:Nat}(jL:Nat)(jm:ε→Code)(St:Nat→Loop→σ ⊕ ε→Ab→Prop)
  (hro:d.ro=none) (hx:ev (Ag l) x=.func (.func gf) [] cap) (hI:Ids h0 ids N) (hl:xs.length=N) (hjL:Nat.blt jL N=true) (hxL:xs[jL]? = some none)
  (hgo : ∀ (gL:Nat) (y:YF) (r:Loop),LpOk f n params assign body r→(∀ {mu:Mu} {w:World} {M:Nat→Prop} {lo:Nat},y.F w mu M lo → ∀ t,Rv w mu M (Ag l t) (r.tmps.getD t undef)) →
   (m≠.bad→Bm P gf ([.yld y (ix ids jL) gL]++cap) (hp h0 ids (xs.set jL (some (.blk gL (.loop r))))) (Vr (St gL r) m)) ∧
   (∀ s h',St gL r (.inl s) h'→h' (ix ids jL)=some (.blk gL (.loop r))) ∧
   (∀ e h',St gL r (.inr e) h'→h' (ix ids jL)=some (.blk gL (.loop { r with state:=.done,pending:=some (jm e) }))) ∧
   (∀ s h',St gL r (.inl s) h'→WR P f n d Q ((r1 s).bind F) k (Ag l) (AD.star::ds) (upd h' (ix ids jL) none) u) ∧
   (∀ e h',St gL r (.inr e) h'→WR P f n d Q ((r2 e).bind F) (.code (jm e)::k) (Ag l) (AD.star::ds) (upd h' (ix ids jL) none) u) ∧
   (∀ v,m=.pan v → ∀ s h',St gL r s h'→WU P f n d Q (.pan v) (.pan v.av false) (Ag l) (AD.star::ds) (upd h' (ix ids jL) none) u)) :
  WR P f n d Q ((m.bind (alt r1 r2)).bind F) (.code (.rangeFunc x params assign body)::k) (Ag l) (AD.star::ds) (hp h0 ids xs) u:=by
 rw [R.bind_assoc]
 intro hV
 refine Aay (ix ids jL) hro hx (hI.at hl hxL) fun gL y r hlp hyF=>?_
 obtain⟨c1,c2,c2',c3,c3',c4⟩:=hgo gL y r hlp hyF
 rw [hI.set hl hjL]
 have hmb:m≠.bad:=fun e=>by rw [e] at hV; exact Q.bad hV
 refine(c1 hmb).mono fun res h' hq=>?_
 cases hm:m with
 | bad=>exact absurd hm hmb
 | ok s=>
  rw [hm] at hq
  obtain⟨⟨v,rfl⟩,hs⟩:=hq
  rw [hm] at hV
  cases s with
  | inl s=>
   refine⟨r,c2 s h' hs,by rw [hlp.ready]; exact fun e=>(by cases e),?_⟩
   rw [hlp.pend]
   exact c3 s h' hs hV
  | inr e=>
   refine⟨_,c2' e h' hs,fun hh=>(by cases hh),?_⟩
   exact c3' e h' hs hV
 | pan v=>
  rw [hm] at hq
  obtain⟨rfl,s,hs⟩:=hq
  refine c4 v hm s h' hs ?_
  rw [hm] at hV; exact hV
end
end Go.Am
namespace Go.Am
end Go.Am
namespace Go.Am
open Go Go.ChangeShapes Go.WideShapes Go.RowKit
set_option linter.unusedVariables false
set_option linter.unusedSectionVars false
set_option linter.unusedSimpArgs false
abbrev mu0:Mu:=fun _ _=>none
abbrev M0:Nat→Prop:=fun _=>False
def LR (w:World)(l:List AV)(cs:List Value):Prop:=l.length=cs.length ∧ ∀ i,i<l.length→Rv w mu0 M0 (l.getD i .und) (cs.getD i undef)
structure Bulk {H:Type}(bk:DataW H→Nat)(bks:List (DataW H)→Nat):Prop where
 one : ∀ d,1≤bk d
 str : ∀ l,bk (.lit (.string l))=l.length+1
 sl : ∀ e s,bks e+1≤bk (.slice e s)
 agg : ∀ l,bk (.agg l)=bks l+1
 nil:bks []=0
 cons : ∀ d l,bks (d::l)=bk d+bks l
structure Ty (τ:Type) where
 e:τ→List AV
 good:τ→Prop
 bulk:τ→Nat
section
variable {P:Program} [GW P]
def Pn {τ:Type}(P:Program)[GW P](t:TypeId)(T:Ty τ):Prop:=
 ∀ {H:Type} (enc:TypeId×Value→H) (w:World) (sp:Nat→Bool) (held:Bool) (fuel:Nat) (cs:List Value) (x:DataW H×List MemPlace) (bk:DataW H→Nat) (bks:List (DataW H)→Nat),
  Bulk bk bks→DataW.trod enc P w 0 sp held fuel t cs=some x→bk x.1≤Bt → ∃ a:τ,LR w (T.e a) cs∧T.good a∧T.bulk a≤bk x.1
theorem LR.nil {w:World}:LR w [] []:=⟨rfl,fun _ h=>absurd h (Nat.not_lt_zero _)⟩
theorem LR.one {w:World}{a:AV}{c:Value}(h:Rv w mu0 M0 a c):LR w [a] [c]:=⟨rfl,fun i hi=>by
 have:i=0:=by simpa using hi
 subst this; exact h⟩
theorem LR.cons {w:World}{a:AV}{c:Value}{l:List AV}{cs:List Value}(h:Rv w mu0 M0 a c)(k:LR w l cs):LR w (a::l) (c::cs):=⟨by simp [k.1],fun i hi=>by
 cases i with
 | zero=>exact h
 | succ i=>simpa using k.2 i (by simpa using hi)⟩
theorem LR.append {w:World} : ∀ {l:List AV} {cs:List Value} {l':List AV} {cs':List Value},LR w l cs→LR w l' cs'→LR w (l++l') (cs++cs')
 | [],[],_,_,_,h=>h
 | [],_::_,_,_,h,_=>by simp [LR] at h
 | _::_,[],_,_,h,_=>by simp [LR] at h
 | a::l,c::cs,l',cs',h,h'=>by
  refine LR.cons (by simpa using h.2 0 (by simp)) (LR.append (l:=l) (cs:=cs) ⟨by simpa using h.1,fun i hi=>by simpa using h.2 (i+1) (by simpa using hi)⟩ h')
def I4 (k:IntKind):Ty Int:=⟨fun n=>[.int k n],fun n=>(Lit.int k n).wf=true,fun _=>1⟩
def Ph {τ:Type}(st:Nat)(T:Ty τ):Ty (List τ):=⟨fun l=>[.sl st (l.map T.e)],fun l => ∀ a ∈ l,T.good a,fun l=>(l.map T.bulk).sum+1⟩
def As3:Ty Unit:=⟨fun _=>[],fun _=>True,fun _=>0⟩
def Aae {α β:Type}(A:Ty α)(B:Ty β):Ty (α×β):=⟨fun p=>A.e p.1++B.e p.2,fun p=>A.good p.1∧B.good p.2,fun p=>A.bulk p.1+B.bulk p.2⟩
theorem Ah8 {t:TypeId}{k:IntKind}(ht:P.underlying t=some (.int k)):Pn P t (I4 k):=by
 intro H enc w sp held fuel cs x bk bks B h hl
 obtain⟨n,rfl,rfl,hw⟩:=DataW.trod_int ht h
 exact⟨n,LR.one (.int k n),hw,B.one _⟩
theorem Ab8 {α:Type}{Q:Nat→α→Prop} : ∀ (n:Nat),(∀ i,i<n → ∃ a,Q i a) → ∃ l:List α,l.length=n ∧ ∀ i a,l[i]? = some a→Q i a
 | 0,_=>⟨[],rfl,fun i a h=>by simp at h⟩
 | n+1,h=>by
  obtain⟨l,hl,hq⟩:=Ab8 n fun i hi=>h i (Nat.lt_succ_of_lt hi)
  obtain⟨a,ha⟩:=h n (Nat.lt_succ_self n)
  refine⟨l++[a],by simp [hl],fun i b hb=>?_⟩
  by_cases hi:i<n
  ·rw [List.getElem?_append_left (by omega)] at hb; exact hq i b hb
  ·have hlt:=(List.getElem?_eq_some_iff.1 hb).1
   have:i=n:=by simp [hl] at hlt; omega
   subst this
   rw [List.getElem?_append_right (by omega),hl] at hb
   simp at hb; subst hb; exact ha
theorem Ad6 {H:Type}{bk:DataW H→Nat}{bks:List (DataW H)→Nat}(B:Bulk bk bks){d:DataW H} : ∀ {l:List (DataW H)},d ∈ l→bk d≤bks l
 | [],h=>by simp at h
 | x::l,h=>by
  rw [B.cons]
  rcases List.mem_cons.1 h with rfl | h
  ·omega
  ·have:=Ad6 B h; omega
theorem Akr {H:Type}{bk:DataW H→Nat}{bks:List (DataW H)→Nat}(B:Bulk bk bks) : ∀ (l:List (DataW H)),l.length≤bks l
 | []=>by simp
 | x::l=>by
  rw [B.cons]
  have h1:=B.one x
  have h2:=Akr B l
  simp; omega
theorem Aei {H τ:Type}{bk:DataW H→Nat}{bks:List (DataW H)→Nat}(B:Bulk bk bks){f:τ→Nat} : ∀ (l:List τ) (ds:List (DataW H)),l.length=ds.length→(∀ (i:Nat) a d,l[i]? = some a→ds[i]? = some d→f a≤bk d)→(l.map f).sum≤bks ds
 | [],[],_,_=>by simp
 | [],_::_,h,_=>by simp at h
 | _::_,[],h,_=>by simp at h
 | a::l,d::ds,h,hq=>by
  rw [B.cons]
  have h1:=hq 0 a d (by simp) (by simp)
  have h2:=Aei B l ds (by simpa using h) fun i a' d' ha hd=>hq (i+1) a' d' (by simpa using ha) (by simpa using hd)
  simp only [List.map_cons,List.sum_cons]
  omega
theorem Zm {τ:Type}{t e:TypeId}{st:Nat}{T:Ty τ}(ht:P.underlying t=some (.slice e))(hst:P.cellsOf e=st)(hpos:0<st)(hok : ∀ a,Cm st (T.e a))(h:Pn P e T):Pn P t (Ph st T):=by
 intro H enc w sp held fuel cs x bk bks B hx hl
 rcases DataW.trod_slice ht hx with⟨rfl,rfl⟩ | ⟨a,len,cap,elems,rest,n,_,rfl,rfl,_,hcap,_,hlen,hel,_⟩
 ·exact⟨[],LR.one (.sl0 st none 0),fun _ h=>absurd h (List.not_mem_nil),by simpa [Ph] using B.one _⟩
 ·rw [hst] at hel
  have hb:=B.sl (elems.map (·.1)) (rest.map (·.1))
  have hlenb:len≤Bt:=by
   have:=Akr B (elems.map (·.1))
   simp only [List.length_map] at this
   simp only at hl
   omega
  have key : ∀ i,i<len → ∃ a1:τ,∃ cs1 y,w.cells? 0 (a.add (i * st)) st=some cs1∧elems[i]? = some y∧LR w (T.e a1) cs1∧T.good a1∧T.bulk a1≤bk y.1:=by
   intro i hi
   have hE:=hel i hi
   have hi':i<elems.length:=by omega
   rw [List.getElem?_eq_getElem hi',Option.bind_eq_some_iff] at hE
   obtain⟨cs1,hc1,hy1⟩:=hE
   have hbi:bk (elems[i]).1≤bks (elems.map (·.1)):=Ad6 B (List.mem_map.2 ⟨_,List.getElem_mem hi',rfl⟩)
   obtain⟨a1,h1,h2,h3⟩:=h enc w sp held n cs1 _ bk bks B hy1 (by simp only at hl; omega)
   exact⟨a1,cs1,_,hc1,List.getElem?_eq_getElem hi',h1,h2,h3⟩
  obtain⟨l,hll,hq⟩:=Ab8 len key
  refine⟨l,LR.one ?_,fun a1 hm=>?_,?_⟩
  ·by_cases h0:len=0
   ·subst h0
    have:l=[]:=List.length_eq_zero_iff.1 hll
    subst this
    exact .sl0 st (some a) cap
   ·have hsp:a.spot=none:=by
     obtain⟨a1,cs1,y,hc1,_⟩:=key 0 (by omega)
     obtain⟨_,hcl,hc⟩:=World.cells?_some hc1
     have h00:=hc 0 hpos
     simp only [Nat.zero_mul,Addr.add,if_true] at h00
     rw [List.getElem?_eq_getElem (by omega)] at h00
     unfold World.cell? at h00
     split at h00
     ·split at h00
      ·cases h00
      ·rename_i hh; simpa using hh
     ·cases h00
    have hlt:a.block<w.heap.size:=by
     obtain⟨a1,cs1,y,hc1,_⟩:=key 0 (by omega)
     have:=World.cells?_block hc1 hpos
     simpa [Addr.add] using this
    have hadd : ∀ i j,(a.add (i * st)).add j=⟨a.block,a.off+i * st+j,none⟩:=by
     intro i j
     obtain⟨b,off,s⟩:=a
     simp only at hsp
     subst hsp
     unfold Addr.add
     split <;> split <;> simp_all
    have hcell : ∀ i j,i<l.length→j<st → ∃ a1 v,l[i]? = some a1∧w.cell? ⟨a.block,a.off+i * st+j,none⟩=some v∧Rv w mu0 M0 ((T.e a1).getD j .und) v:=by
     intro i j hi hj
     obtain⟨cs1,y,hc1,_,h1,_,_⟩:=hq i _ (List.getElem?_eq_getElem hi)
     obtain⟨_,hcl,hc⟩:=World.cells?_some hc1
     have:=hc j hj
     rw [hadd,List.getElem?_eq_getElem (by omega)] at this
     refine⟨_,_,List.getElem?_eq_getElem hi,this,?_⟩
     have hr:=h1.2 j (by rw [h1.1]; omega)
     rwa [List.getD_eq_getElem?_getD,List.getD_eq_getElem?_getD,List.getElem?_eq_getElem (l:=cs1) (by omega),Option.getD_some,← List.getD_eq_getElem?_getD] at hr
    have:=Rv.sl (w:=w) (mu:=mu0) (M:=M0) st (l.map T.e) a.block a.off cap (fun i j=>(w.cell? ⟨a.block,a.off+i * st+j,none⟩).getD undef) (by simpa [hll] using hcap) (by simpa [hll] using hlenb)
     (fun i j hi hj=>by
      obtain⟨_,v,_,hv,_⟩:=hcell i j (by simpa using hi) hj
      rw [hv]; rfl)
     (fun i j hi hj=>by
      obtain⟨a1,v,ha1,hv,hr⟩:=hcell i j (by simpa using hi) hj
      rw [hv]
      simp only [cell,List.getD_eq_getElem?_getD,List.getElem?_map,ha1,Option.map_some,Option.getD_some] at hr ⊢
      exact hr)
     (fun r hr=>by obtain⟨a1,_,rfl⟩:=List.mem_map.1 hr; exact hok a1) (fun h=>h) hlt
    rw [show(l.map T.e).length=len by simp [hll]] at this
    have e:a=⟨a.block,a.off,none⟩:=by cases a; simp only at hsp; subst hsp; rfl
    rw [e]
    exact this
  ·obtain⟨i,hi,rfl⟩:=List.mem_iff_getElem.1 hm
   obtain⟨_,_,_,_,_,hg,_⟩:=hq i _ (List.getElem?_eq_getElem hi)
   exact hg
  ·have:=Aei B (f:=T.bulk) l (elems.map (·.1)) (by simp [hll,hlen]) fun i a1 d ha hd=>by
    obtain⟨cs1,y,_,hy,_,_,hb1⟩:=hq i a1 ha
    rw [List.getElem?_map,hy] at hd
    simp only [Option.map_some,Option.some.injEq] at hd
    subst hd
    exact hb1
   show(l.map T.bulk).sum+1≤_
   simp only
   omega
def Afl {τ:Type}(P:Program)[GW P](off:Nat)(fs:List Field)(T:Ty τ)(tot:Nat):Prop:=
 ∀ {H:Type} (enc:TypeId×Value→H) (w:World) (sp:Nat→Bool) (held:Bool) (n:Nat) (cs:List Value) (xs:List (DataW H×List MemPlace)) (bk:DataW H→Nat) (bks:List (DataW H)→Nat),Bulk bk bks →
  xs.length=fs.length→(∀ (i:Nat) (f:Field),fs[i]? = some f→DataW.trod enc P w 0 sp held n f.type ((cs.drop f.offset).take (P.cellsOf f.type))=xs[i]?)→cs.length=tot→bks (xs.map (·.1))≤Bt →
  ∃ a:τ,LR w (T.e a) (cs.drop off)∧T.good a∧T.bulk a≤bks (xs.map (·.1))
theorem Avd {off tot:Nat}(h:off=tot):Afl P off [] As3 tot:=by
 intro H enc w sp held n cs xs bk bks B hl hx hc hb
 subst h
 refine⟨(),?_,trivial,Nat.zero_le _⟩
 rw [List.drop_of_length_le (by omega)]
 exact LR.nil
theorem Yy {τ σ:Type}{off tot c:Nat}{f:Field}{fs:List Field}{T:Ty τ}{S:Ty σ}{t:TypeId}(hf:f.offset=off)(ht:f.type=t)(hc:P.cellsOf t=c)(hle:Nat.ble (off+c) tot=true)(h:Pn P t T)(k:Afl P (off+c) fs S tot) :
  Afl P off (f::fs) (Aae T S) tot:=by
 intro H enc w sp held n cs xs bk bks B hl hx hcs hb
 subst ht
 cases xs with
 | nil=>simp at hl
 | cons x xs=>
  have hle:off+c≤tot:=by simpa using hle
  have h0:=hx 0 f rfl
  rw [hf,hc] at h0
  simp only [List.map_cons,B.cons] at hb
  obtain⟨a,h1,h2,h3⟩:=h enc w sp held n _ x bk bks B h0 (by omega)
  obtain⟨b,k1,k2,k3⟩:=k enc w sp held n cs xs bk bks B (by simpa using hl) (fun i g hg=>by simpa using hx (i+1) g (by simpa using hg)) hcs (by omega)
  refine⟨(a,b),?_,⟨h2,k2⟩,by simp only [List.map_cons,B.cons,Aae]; omega⟩
  have e:cs.drop off=(cs.drop off).take c++cs.drop (off+c):=by
   rw [← List.drop_drop,List.take_append_drop]
  rw [e]
  exact LR.append h1 k1
theorem Asg {τ σ:Type}{t:TypeId}{fs:Array Field}{T:Ty τ}{tot:Nat}{S:Ty σ}(ht:P.underlying t=some (.struct fs))(hc:P.cellsOf t=tot)(k:Afl P 0 fs.toList T tot)(mk:τ→σ)
  (he : ∀ p,S.e (mk p)=T.e p) (hg : ∀ p,T.good p→S.good (mk p)) (hb : ∀ p,S.bulk (mk p)≤T.bulk p+1):Pn P t S:=by
 intro H enc w sp held fuel cs x bk bks B h hl
 obtain⟨xs,n,rfl,rfl,h1,h2,h3⟩:=DataW.trod_struct ht h
 simp only [B.agg] at hl
 obtain⟨a,k1,k2,k3⟩:=k enc w sp held n cs xs bk bks B (by simpa using h2) (fun i f hf=>h3 i f (by simpa using hf)) (by omega) (by omega)
 refine⟨mk a,?_,hg _ k2,?_⟩
 ·rw [he]; simpa using k1
 ·have:=hb a; simp only [B.agg]; omega
end
theorem Axh {w w':World}{mu':Mu}{M':Nat→Prop}(h:Ext w mu0 M0 w' mu' M'):w.keptBut w' (fun _=>False)∧(∀ b,b<w.heap.size→w'.heap[b]? = w.heap[b]?):=by
 refine⟨⟨h.os,h.output,fun i hi=>?_⟩,fun b hb=>(h.same b hb (fun h=>h)).1⟩
 rw [(h.same i hi (fun h=>h)).1]
 cases w.heap[i]? with
 | none=>trivial
 | some o=>cases o <;> simp
theorem Ax4 {P:Program}[GW P](w:World)(hg:GW.n P≤w.heap.size∧GW.G P w.heap.size w):Sim (P:=P) ⟨w.heap.size,w.heap.size⟩ mu0 (fun _=>none) w:=
 ⟨Nat.le_refl _,fun _ _ _ h=>(by cases h),⟨0,fun _ _ _=>rfl⟩,⟨0,fun _ _=>rfl⟩,fun _ _ _ _ h=>(by cases h),fun _ _ _ h=>(by cases h),fun _ _ _ _ _ _ h=>(by cases h),hg,fun _ _ _ h=>(by cases h)⟩
theorem Aqw {P:Program}[GW P]{f:FuncId}{A:List AV}{m:R Bool}{args:Array Value}{w:World}(hc:CP P f A m (fun b=>AV.bool b))(hg:GW.n P≤w.heap.size∧GW.G P w.heap.size w)(hm:m=.ok true)(ha:LR w A args.toList) :
  Calls P f args w fun e w'=>e=.returned (.bool true)∧w.keptBut w' (fun _=>False)∧(∀ b,b<w.heap.size→w'.heap[b]? = w.heap[b]?):=by
 subst hm
 have h:=(hc (fun _=>none) (by simp)).2 ⟨w.heap.size,w.heap.size⟩ mu0 w args (Ax4 w hg) ⟨ha.1,fun i hi=>(ha.2 i hi).less (fun b hb=>by obtain⟨_,_,_,h,_⟩:=hb; cases h)⟩
 refine h.mono fun e w' ⟨r,h',mu',a1,a2,a3,a4⟩=>?_
 obtain⟨_,hr⟩:=a1
 simp only at hr
 subst hr
 refine⟨?_,Axh (mu':=mu') (M':=Ci h' mu') ⟨a3.os,a3.tape,a3.output,a3.size,fun b hb _=>a3.same b hb (fun hm=>by obtain⟨_,_,_,h,_⟩:=hm; cases h),a3.mu⟩⟩
 cases e with
 | returned v=>
  have a4':Rv w' mu' (Ci h' mu') (.bool true) v:=a4
  cases a4'
  rfl
 | panicked v=>exact a4.elim
 | outgrown=>exact a4.elim
theorem Av4 {w:World}{l:List AV}{c:Array Value}(h:LR w l (Value.agg c).cells.toList):Rv w mu0 M0 (.agg l) (.agg c):=by
 have h':LR w l c.toList:=h
 have:=Rv.agg (w:=w) (mu:=mu0) (M:=M0) l c.toList h'.1 h'.2
 simpa using this
theorem Ads {P:Program}[GW P]{W:World}{r:Reach}{b:Nat}{t:TypeId}{v:Value}{d:TypeDesc}(ht:P.underlying t=some d)(h1 : ∀ fs,d≠.struct fs)(h2 : ∀ n e,d≠.array n e)(h:Value.okWide P W r b t v) : ∀ cs,v≠.agg cs:=by
 intro cs e
 subst e
 unfold Value.okWide at h
 rw [ht] at h
 split at h
 ·rename_i fs he; exact h1 fs (Option.some.inj he)
 ·rename_i n x he; exact h2 n x (Option.some.inj he)
 ·unfold Cell.okWide at h
  revert h
  cases d <;> simp_all [Cell.ok]
theorem Amn {w:World}{a:AV}{v:Value}(h:LR w [a] v.cells.toList)(hv : ∀ cs,v≠.agg cs):Rv w mu0 M0 a v:=by
 have e:v.cells = #[v]:=by cases v <;> first | rfl | exact absurd rfl (hv _)
 rw [e] at h
 exact h.2 0 (by simp)
theorem Ahw {H:Type}{enc:TypeId×Value→H}{P:Program}[GW P](hl:laidOutB P=true){W W':World}{sp':Nat→Bool} : ∀ {ts:List TypeId} {vs:List Value} {ds:List (DataW H)} {ps:List MemPlace},
  (∀ t ∈ ts,P.readableRec t=true∧t<P.types.size)→DataW.TrodAll enc P W 0 (fun _=>true) true ts vs ds ps→(∀ p ∈ ps,W.sameAt W' p)→(∀ p ∈ ps,sp' p.block=true)→DataW.TrodAll enc P W' 0 sp' true ts vs ds ps
 | [],[],[],_,_,h,_,_=>h
 | [],_::_,_,_,_,h,_,_=>h.elim
 | [],[],_::_,_,_,h,_,_=>h.elim
 | _::_,[],_,_,_,h,_,_=>h.elim
 | _::_,_::_,[],_,_,h,_,_=>h.elim
 | t::ts,v::vs,d::ds,ps,hr,h,hs,hp=>by
  obtain⟨p,q,h1,h2,rfl⟩:=h
  refine⟨p,q,?_,Ahw hl (fun t ht=>hr t (List.mem_cons_of_mem _ ht)) h2 (fun x hx=>hs x (List.mem_append_right _ hx)) (fun x hx=>hp x (List.mem_append_right _ hx)),rfl⟩
  obtain⟨a,b⟩:=hr t (List.mem_cons_self ..)
  exact Go.WideElems.Trod_stays hl a b h1 (fun x hx=>hs x (List.mem_append_left _ hx)) (fun x hx=>hp x (List.mem_append_left _ hx))
theorem Asm {H:Type}{enc:TypeId×Value→H}{P:Program}[GW P]{f:FuncId}{fn:Func}{s:ChangeSpec}{W:World}{args:Array Value}{ds gs:List (DataW H)}{before:List MemPlace}{tb:TypeId}
  (hW:DataW.Whole enc P fn.params.toList s.vars false W args.toList ds gs before)
  (hl:laidOutB P=true) (hr : ∀ t ∈ fn.params.toList,P.readableRec t=true∧t<P.types.size) (hvs:s.vars=[]) (hrt:fn.resultTypes = #[tb]) (htb:P.underlying tb=some .bool)
  (hsp : ∀ ds:List (DataW H),ds.length=fn.params.size→s.fn H ds={ results:=[.lit (.bool true)],args:=ds })
  (hc:Calls P f args W fun e w'=>e=.returned (.bool true)∧W.keptBut w' (fun _=>False)∧(∀ b,b<W.heap.size→w'.heap[b]? = W.heap[b]?)) :
  Calls P f args W fun e W' => ∃ v,e=.returned v∧s.post enc P fn false true false false W args v W':=by
 refine hc.mono fun e W' ⟨he,hk,hs⟩=>?_
 subst he
 refine⟨_,rfl,?_⟩
 have hold : ∀ p ∈ before,(fun b=>decide (b<W.heap.size)) p.block=true:=fun p hp=>by simpa using hW.lt p hp
 obtain⟨pa,pv,hA,hV,rfl,hz,hn⟩:=id hW
 rw [hvs] at hV
 cases gs with
 | cons g gs=>exact hV.elim
 | nil=>
 have hV':pv=[]:=hV
 subst hV'
 have hlen:ds.length=fn.params.size:=by
  have : ∀ {ts:List TypeId} {vs:List Value} {ds:List (DataW H)} {ps:List MemPlace},DataW.TrodAll enc P W 0 (fun _=>true) true ts vs ds ps→ds.length=ts.length:=by
   intro ts
   induction ts with
   | nil=>intro vs ds ps h; cases vs <;> cases ds <;> first | rfl | exact h.elim
   | cons t ts ih=>
    intro vs ds ps h
    cases vs with
    | nil=>exact h.elim
    | cons v vs=>
     cases ds with
     | nil=>exact h.elim
     | cons d ds=>obtain⟨_,_,_,h2,_⟩:=h; simp [ih h2]
  simpa using this hA
 have hfn:s.fn H (ds++[])={ results:=[.lit (.bool true)],args:=ds }:=by rw [List.append_nil]; exact hsp ds hlen
 have hsame : ∀ p ∈ pa++[],W.sameAt W' p:=fun p hp=>by
  have hb:=hs p.block (hW.lt p hp)
  cases p with
  | cell b off=>exact cell?_of_heap (a:=⟨b,off,none⟩) hb
  | map b=>exact hb
 have hres : ∀ (b:Nat) (sp:Nat→Bool) (hd:Bool),DataW.TrodAll enc P W' b sp hd fn.resultTypes.toList ((Value.bool true).resultList fn.resultTypes.size) (s.fn H (ds++[])).results []:=by
  intro b sp hd
  rw [hfn,hrt]
  exact trodAll_cons_mk (shut_bool htb _) trodAll_mk0
 have hargs : ∀ sp:Nat→Bool,(∀ p ∈ pa++[],sp p.block=true)→DataW.TrodAll enc P W' 0 sp true fn.params.toList args.toList (s.fn H (ds++[])).args pa:=by
  intro sp hsp'
  rw [hfn]
  exact Ahw hl hr hA (fun p hp=>hsame p (by simpa using hp)) (fun p hp=>hsp' p (by simpa using hp))
 have hvars : ∀ sp:Nat→Bool,(∀ p ∈ pa++[],sp p.block=true)→DataW.TrodVars enc P W' sp s.vars (s.fn H (ds++[])).vars []:=by
  intro sp _
  rw [hfn,hvs]
  rfl
 refine⟨ds,[],pa++[],[],pa,[],hW,hres _ _ _,hargs _ hold,hvars _ hold,World.keptBut_mono (fun p hp=>hp.elim) hk,fun _=>?_⟩
 refine⟨ok_one hrt rfl (okWide_bool_mk htb _),_,_,([]++pa)++[],⟨[]++pa,[],trodAll_append (hargs _ (fun _ _=>rfl)) (hres _ _ _),hvars _ (fun _ _=>rfl),rfl,?_,?_⟩,?_⟩
 ·intro b off hp
  have hb:=hs b (hW.lt (.cell b off) (by simpa using hp))
  have:=hz b off (by simpa using hp)
  unfold World.frozen? at this ⊢
  rw [hb]; exact this
 ·intro ha; cases ha
 ·intro p hp _
  simpa using hp
end Go.Am
namespace Go.Am
open Go
set_option linter.unusedVariables false
set_option linter.unusedSectionVars false
theorem Al3 {P:Program}{W:World}{name:String}{k:IntKind}{zs:List Int}{g:Nat}{t e:TypeId}{n:Nat}(hg:P.globalNamed name=some g)(hty:(P.globals[g]?).map (·.type)=some t)(ht:P.underlying t=some (.array n e))(he:P.underlying e=some (.int k))(hce:P.cellsOf e=1)(hct:P.cellsOf t=n)
  (h:Lib.VarReads P W name (Lib.tabData k zs)):Lib.TabIs P W name k zs:=by
 obtain⟨g',t',cs,fuel,p,hg',ht',hvar,hd⟩:=h
 obtain rfl:=Option.some.inj (hg.symm.trans hg')
 obtain rfl:=Option.some.inj (hty.symm.trans ht')
 unfold Lib.TabIs
 rw [hvar,← Lib.cells_of_tab ht he hce hct hd]
theorem Aup {P:Program}{W:World}{name:String}{g:Nat}{d:DataW Unit}(hg:P.globalNamed name=some g)(h:Lib.VarReads P W name d):g<W.heap.size:=by
 obtain⟨g',t',cs,fuel,p,hg',ht',hvar,hd⟩:=h
 obtain rfl:=Option.some.inj (hg.symm.trans hg')
 unfold World.var? at hvar
 rw [hg] at hvar
 rcases Nat.lt_or_ge g W.heap.size with h | h
 ·exact h
 ·simp [Array.getElem?_eq_none h] at hvar
theorem Abk {H:Type}{enc:TypeId×Value→H}{C:Checked}{os:Os}{f:FuncId}{fn:Func}{s:OpenSpec}{conds:List PathCond}{apart:Bool}{laid:List (String×DataW Unit)}(modest:Bool)(w0:World)(args:Array Value)(hos:w0.os=os)
  (hsh:(w0.forCall (fun _ _=>0) ⟨#[],args,[]⟩).Shaped C.prog)
  (hok:Input.okWideB C.prog (w0.forCall (fun _ _=>0) ⟨#[],args,[]⟩) f ⟨#[],args,[]⟩=true)
  (hrow:s.preRow enc C.prog fn conds apart laid (w0.forCall (fun _ _=>0) ⟨#[],args,[]⟩).memory args) :
  ∃ (w:World) (tape:Tape) (i:Input),w.os=os∧(w.forCall tape i).Shaped C.prog∧i.vars=[]∧Input.okWide C.prog (w.forCall tape i) .any w.heap.size f i ∧
   s.preRow enc C.prog fn conds apart laid (w.forCall tape i).memory i.args∧({ modest:=modest }:Assume).holds C.prog (lone (Frame.enter C.prog f i.args .normal) [] (w.forCall tape i)):=
 ⟨w0,fun _ _=>0,⟨#[],args,[]⟩,hos,hsh,(Input.okWide_of_okWideB (base:=0) hok).1,(Input.okWide_of_okWideB hok).2,hrow,by
  simp only [Assume.holds]
  exact⟨by simp,by simp,fun _=>Modest.zero,by simp,by simp⟩⟩
end Go.Am
namespace Go.Am
open Go
set_option linter.unusedVariables false
set_option linter.unusedSectionVars false
section
variable {P:Program} [GW P] {h:Ab}
theorem Awy {t:TypeId}{T:TI}{b c:Nat}{row:List AV}{v:AV}(hr:GW.row P b=some row)(hT:ti P t=some T)(hv:Hh row c T.size T.k.agg=some v):Pq P h t (.gptr ⟨b,c,none⟩)=some v:=by simp only [Pq,hT,hr,hv]
end
structure FMapAt (w:World)(m g:Nat)(es:List (S2×AV)):Prop where
 ex : ∃ (b:Nat) (ens:Array MapEntry) (clock:Nat) (es2:List (S2×AV)),w.cell? ⟨g,0,none⟩=some (.map (some b))∧b<m∧w.heap[b]? = some (.map ens clock)∧es2.Perm es∧es2.length=ens.size ∧
  ∀ i,i<es2.length→(ens.getD i default).key=.string ⟨(es2.getD i ([],.und)).1.toArray⟩ ∧ ∃ k,(es2.getD i ([],.und)).2=.func (.func k) [] []∧(ens.getD i default).val=.func (.func k) #[] #[]
 nd:(es.map (·.1)).Nodup
theorem FMapAt.keep {w w':World}{m g:Nat}{es:List (S2×AV)}(k:FMapAt w m g es)(hg:g<m)(e : ∀ b,b<m→w'.heap[b]? = w.heap[b]?):FMapAt w' m g es:=by
 obtain⟨⟨b,ens,clock,es2,h1,h2,h3,h4,h5,h6⟩,hnd⟩:=k
 exact⟨⟨b,ens,clock,es2,by rw [cell?_of_heap (w:=w) (a:=⟨g,0,none⟩) (e g hg)]; exact h1,h2,by rw [e b h2]; exact h3,h4,h5,h6⟩,hnd⟩
theorem FMapAt.rv {w:World}{m g:Nat}{es:List (S2×AV)}(k:FMapAt w m g es)(hm:m≤w.heap.size){mu:Mu}{M:Nat→Prop}(hM : ∀ b,M b→m≤b) : ∃ x,w.cell? ⟨g,0,none⟩=some x∧Rv w mu M (.mapc es) x:=by
 obtain⟨⟨b,ens,clock,es2,h1,h2,h3,h4,h5,h6⟩,hnd⟩:=k
 refine⟨_,h1,.mapc es es2 h4 hnd b ens clock h3 h5 (fun i hi=>(h6 i hi).1) (fun i hi=>?_) (fun hb=>by have:=hM b hb; omega) (by omega)⟩
 obtain⟨_,k,e1,e2⟩:=h6 i hi
 rw [e1,e2]
 exact .func _ [] [] [] [] rfl rfl (fun i hi=>by simp at hi) (fun i hi=>by simp at hi)
open Go.ChangeShapes Go.WideShapes Go.WideElems
end Go.Am
namespace Go.Am
open Go
set_option linter.unusedVariables false
set_option linter.unusedSectionVars false
set_option linter.unusedSimpArgs false
abbrev AV.q (ids:List Nat)(j g:Nat):AV:=.ptr (ix ids j) g 0 0
abbrev AV.I (n:Int):AV:=.int .i64 n
abbrev Sc.I (n:Int):Sc:=.int .i64 n
section
variable (P:Program) [GW P]
def Amx:Op→Bool
 | .move _=>true
 | .assign _=>true
 | .pick _ _ _=>true
 | .build _ _=>true
 | .nilCheck _=>true
 | .binOp _ _ _ _ _=>true
 | .unOp _ _ _=>true
 | .makeInterface _ _=>true
 | .makeFunc _ _ _=>true
 | .fieldAddr _ _ _=>true
 | .field _ _ _=>true
 | .typeAssert _ _ _ _=>true
 | .extract _ _=>true
 | _=>false
def Akl (xs:List (Option AO))(fr:Nat→AV)(j:Nat)(op:Op):Option (AV×Option (Nat×Nat×Nat)):=
 match op with
 | .load t a=>match ev fr a with
  | .ptr o g r c=>match ti P t,xs[j]? with
   | some T,some (some (.rows g' st rs))=>match rs[r]? with
    | some row=>(Hh row c T.size T.k.agg).map fun v=>(v,some (o,g,g'))
    | none=>none
   | _,_=>none
  | .cp row c=>match ti P t with
   | some T=>(Hh row c T.size T.k.agg).map fun v=>(v,none)
   | none=>none
  | _=>none
 | op=>if Amx op then(Dy P fr hE op).map fun v=>(v,none) else none
def Px (n:Nat)(all:List Oper)(xs:List (Option AO)):List Oper→List Nat→List (Nat×AV)→Option (List (Nat×AV)×List (Nat×Nat)×List (Nat×Nat))
 | [],_,l=>some (l,[],[])
 | o::ops,hs,l=>if Fp n o.dst then match D2 all (Ag l) o,o.dst with
   | some true,some t=>match Akl P xs (Ag l) (hs.headD 0) o.op with
    | some (v,none)=>Px n all xs ops hs ((t,v)::l)
    | some (v,some (ob,g,g'))=>(Px n all xs ops hs.tail ((t,v)::l)).map fun r=>(r.1,(ob,g)::r.2.1,(hs.headD 0,g')::r.2.2)
    | none=>none
   | some false,some t=>Px n all xs ops hs ((t,.und)::l)
   | some false,none=>Px n all xs ops hs l
   | _,_=>none
  else none
def Amo (ops:List Oper)(ks:List Nat)(l:List (Nat×AV)):Bool:=ops.all fun o=>match o.dst with
 | none=>true
 | some t=>ks.contains t || !(l.any fun p=>Nat.beq t p.1)
end
section
variable {P:Program} [GW P] {f:FuncId} {n:Nat} {d:FK} {β γ:Type} {Q:Spec β} {m:R β} {ds:List AD} {h:Ab} {u:AU} {k:List Item} {l:List (Nat×AV)} {F:γ→R β}
variable {all:List Oper} {h0:Ab} {ids:List Nat} {xs:List (Option AO)} {N:Nat}
theorem Ro {fr:Nat→AV}{j:Nat}{op:Op}{v:AV}{q:Option (Nat×Nat×Nat)}(hI:Ids h0 ids N)(hl:xs.length=N)(hx:Akl P xs fr j op=some (v,q))(hq : ∀ o g g',q=some (o,g,g')→o=ix ids j∧g=g'):Dy P fr (hp h0 ids xs) op=some v:=by
 unfold Akl at hx
 split at hx
 ·rename_i t a
  show Pq P _ t (ev fr a)=_
  split at hx
  ·rename_i o g r c ha
   rw [ha]
   split at hx
   ·rename_i T g' st rs hT hj
    split at hx
    ·rename_i row hr
     simp only [Option.map_eq_some_iff,Prod.mk.injEq] at hx
     obtain⟨v',h1,rfl,rfl⟩:=hx
     obtain⟨rfl,rfl⟩:=hq _ _ _ rfl
     exact A6 hI hl hj hr hT h1
    ·cases hx
   ·cases hx
  ·rename_i row c ha
   rw [ha]
   split at hx
   ·rename_i T hT
    simp only [Option.map_eq_some_iff,Prod.mk.injEq] at hx
    obtain⟨v',h1,rfl,rfl⟩:=hx
    exact U4 hT h1
   ·cases hx
  ·cases hx
 split at hx
 ·rename_i hp
  simp only [Option.map_eq_some_iff,Prod.mk.injEq] at hx
  obtain⟨v',h1,rfl,rfl⟩:=hx
  revert h1
  cases op <;> first
   | exact id
   | (simp [Amx] at hp)
 ·cases hx
theorem Aca {rest:List Oper} : ∀ {ops:List Oper} {hs:List Nat} {l l':List (Nat×AV)} {A B:List (Nat×Nat)},Px P n all xs ops hs l=some (l',A,B)→A=B.map (fun q=>(ix ids q.1,q.2))→Ids h0 ids N→xs.length=N →
  WO P f n d Q k all m rest (Ag l') ds (hp h0 ids xs) u→WO P f n d Q k all m (ops++rest) (Ag l) ds (hp h0 ids xs) u
 | [],hs,l,l',A,B,hx,hA,hI,hl,hk=>by
  simp only [Px,Option.some.injEq,Prod.mk.injEq] at hx
  obtain⟨rfl,rfl,rfl⟩:=hx
  exact hk
 | o::ops,hs,l,l',A,B,hx,hA,hI,hl,hk=>by
  unfold Px at hx
  split at hx
  ·rename_i hd
   split at hx
   ·rename_i t hw ht
    rw [ht] at hd
    have step : ∀ {v:AV},Dy P (Ag l) (hp h0 ids xs) o.op=some v→WO P f n d Q k all m (ops++rest) (Ag ((t,v)::l)) ds (hp h0 ids xs) u→WO P f n d Q k all m (o::ops++rest) (Ag l) ds (hp h0 ids xs) u:=by
     intro v hv hk'
     refine Q4 (by rw [ht]; exact hd) hw fun hb K U hK hU=>Ahg (t:=ds) hv (hK _ _ _ _ ?_)
     rw [ht,Ey]; exact hk'
    split at hx
    ·rename_i v hr
     exact step (Ro hI hl hr (fun _ _ _ h=>by cases h)) (Aca hx hA hI hl hk)
    ·rename_i v ob g g' hr
     simp only [Option.map_eq_some_iff,Prod.mk.injEq] at hx
     obtain⟨⟨l1,A1,B1⟩,hx,rfl,rfl,rfl⟩:=hx
     simp only [List.map_cons,List.cons.injEq,Prod.mk.injEq] at hA
     exact step (Ro hI hl hr (fun o2 g2 g2' h=>by cases h; exact hA.1)) (Aca hx hA.2 hI hl hk)
    ·cases hx
   ·rename_i t hw ht
    rw [ht] at hd
    exact Al6 (by rw [ht]; exact hd) hw (by rw [ht,Ey]; exact Aca hx hA hI hl hk)
   ·rename_i hw ht
    exact Al6 (by rw [ht]; rfl) hw (by rw [ht]; exact Aca hx hA hI hl hk)
   ·cases hx
  ·cases hx
theorem Y2 {ops:List Oper}{ks:List Nat}{news:List (Nat×AV)} : ∀ {hs:List Nat} {l l':List (Nat×AV)} {A B:List (Nat×Nat)} {ops:List Oper},Px P n all xs ops hs l=some (l',A,B) → ∀ t,(∀ o ∈ ops,o.dst≠some t)→Ag l' t=Ag l t
 | hs,l,l',A,B,[],hx,t,ho=>by
  simp only [Px,Option.some.injEq,Prod.mk.injEq] at hx
  obtain⟨rfl,rfl,rfl⟩:=hx
  rfl
 | hs,l,l',A,B,o::ops,hx,t,ho=>by
  have ho' : ∀ o ∈ ops,o.dst≠some t:=fun q hq=>ho q (List.mem_cons_of_mem _ hq)
  have hne : ∀ {t':Nat} {v:AV},o.dst=some t'→Ag ((t',v)::l) t=Ag l t:=by
   intro t' v h
   have:t≠t':=fun e=>ho o (List.mem_cons_self ..) (e ▸ h)
   simp only [Ag]
   have:Nat.beq t t'=false:=by
    cases hq:Nat.beq t t' with
    | false=>rfl
    | true=>exact absurd (Nat.eq_of_beq_eq_true hq) this
   rw [this]; rfl
  unfold Px at hx
  split at hx
  ·split at hx
   ·rename_i t' hw ht
    split at hx
    ·rw [Y2 (ks:=ks) (news:=news) (ops:=ops) hx t ho',hne ht]
    ·simp only [Option.map_eq_some_iff,Prod.mk.injEq] at hx
     obtain⟨⟨l1,A1,B1⟩,hx,rfl,rfl,rfl⟩:=hx
     rw [Y2 (ks:=ks) (news:=news) (ops:=ops) hx t ho',hne ht]
    ·cases hx
   ·rename_i t' hw ht
    rw [Y2 (ks:=ks) (news:=news) (ops:=ops) hx t ho',hne ht]
   ·exact Y2 (ks:=ks) (news:=news) (ops:=ops) hx t ho'
   ·cases hx
  ·cases hx
theorem Ax1 {ops:List Oper}(K:Nat)(hs:List Nat)(news:List (Nat×AV))(hI:Ids h0 ids N)(hl:xs.length=N)
  (hc:(Px P n all xs (ops.take K) hs l).map (fun r=>(news.map (fun p=>Ag r.1 p.1),r.2.1,Amo (ops.take K) (news.map (·.1)) l))=some (news.map (·.2),((Px P n all xs (ops.take K) hs l).elim [] fun r=>r.2.2.map fun q=>(ix ids q.1,q.2)),true))
  (hk:WO P f n d Q k all m (ops.drop K) (Ag (news++l)) ds (hp h0 ids xs) u):WO P f n d Q k all m ops (Ag l) ds (hp h0 ids xs) u:=by
 cases hr:Px P n all xs (ops.take K) hs l with
 | none=>rw [hr] at hc; cases hc
 | some r=>
  obtain⟨l',A,B⟩:=r
  rw [hr] at hc
  simp only [Option.map_some,Option.elim_some,Option.some.injEq,Prod.mk.injEq] at hc
  obtain⟨h1,h2,h3⟩:=hc
  have:=Aca (rest:=ops.drop K) hr h2 hI hl (f:=f) (d:=d) (Q:=Q) (k:=k) (m:=m) (ds:=ds) (u:=u) (fun hb i hi=>T0 (fun t=>?_) (hk hb i hi))
  ·rwa [List.take_append_drop] at this
  ·
   have key : ∀ (ns:List (Nat×AV)),ns.map (fun p=>Ag l' p.1)=ns.map (·.2)→(∀ s,s ∈ ns.map (·.1)→s ∈ news.map (·.1))→(∀ s,s ∈ news.map (·.1)→s=t→s ∈ ns.map (·.1))→Ag (ns++l) t=.any∨Ag (ns++l) t=Ag l' t:=by
    intro ns
    induction ns with
    | nil=>
     intro _ _ hsub
     simp only [List.nil_append]
     by_cases hin:l.any (fun p=>Nat.beq t p.1)=true
     ·right
      symm
      refine Y2 (ks:=[]) (news:=[]) (ops:=ops.take K) hr t fun o ho hd=>?_
      have:=List.all_eq_true.1 h3 o ho
      rw [hd] at this
      simp only [Bool.or_eq_true,Bool.not_eq_true',List.contains_iff_mem] at this
      rcases this with hc | hc
      ·exact absurd (hsub t hc rfl) (by simp)
      ·rw [hc] at hin; cases hin
     ·left
      have : ∀ l:List (Nat×AV),l.any (fun p=>Nat.beq t p.1)≠true→Ag l t=.any:=by
       intro l
       induction l with
       | nil=>intro _; rfl
       | cons p l ih=>
        intro hne
        simp only [List.any_cons] at hne
        simp only [Ag]
        have h1:Nat.beq t p.1=false:=by cases hq:Nat.beq t p.1 with | false=>rfl | true=>exact absurd (by rw [hq]; rfl) hne
        rw [h1]
        exact ih (fun h=>hne (by rw [h,h1]; rfl))
      exact this l hin
    | cons p ns ih=>
     intro hv h4 h5
     simp only [List.map_cons,List.cons.injEq] at hv
     simp only [List.cons_append,Ag]
     cases hq:Nat.beq t p.1 with
     | true=>
      right
      have:t=p.1:=Nat.eq_of_beq_eq_true hq
      subst this
      exact hv.1.symm
     | false=>
      refine ih hv.2 (fun s hs=>h4 s (by simp [hs])) (fun s hs e=>?_)
      rcases List.mem_cons.1 (h5 s hs e) with h | h
      ·subst e; rw [h] at hq; simp at hq
      ·exact h
   exact key news h1 (fun s hs=>hs) (fun s hs _=>hs)
theorem Aa {ops:List Oper}(K:Nat)(hs:List Nat)(news:List (Nat×AV))(hk:WO P f n d Q k all m (ops.drop K) (Ag (news++l)) ds (hp h0 ids xs) u)(hI:Ids h0 ids N:=by assumption)(hl:xs.length=N:=by rfl)
  (hc:(Px P n all xs (ops.take K) hs l).map (fun r=>(news.map (fun p=>Ag r.1 p.1),r.2.1,Amo (ops.take K) (news.map (·.1)) l))=some (news.map (·.2),((Px P n all xs (ops.take K) hs l).elim [] fun r=>r.2.2.map fun q=>(ix ids q.1,q.2)),true):=by kernel_rfl):WO P f n d Q k all m ops (Ag l) ds (hp h0 ids xs) u:=Ax1 K hs news hI hl hc hk
theorem Ane {ops:List Oper}{t:Nat}{b b':Bool}(hb:b=b')(ht:Ag l t=.bool b)(hk:WO P f n d Q k all m ops (Ag ((t,.bool b')::l)) ds h u):WO P f n d Q k all m ops (Ag l) ds h u:=by
 subst hb
 refine fun hV i hi=>T0 (fun s=>?_) (hk hV i hi)
 right
 simp only [Ag]
 cases hq:Nat.beq s t with
 | true=>rw [Nat.eq_of_beq_eq_true hq,ht]; rfl
 | false=>rfl
theorem Hx {ops:List Oper}{fr:Nat→AV}(js:List Nat){zs ys:List (Option AO)}(hI:Ids h0 ids N)(hl:xs.length=N)(hk:Pt N js=true)(hz:js.length=zs.length)(hr:WO P f n d Q k all m ops fr ds (hp h0 ids ys) u)
  (e:Ra js zs xs=ys:=by first | (simp only [List.set_cons_zero,List.set_cons_succ,List.cons_append,List.nil_append,List.replicate_succ,List.replicate_zero,Ra,R3,Ux,AV.cells,AV.I,AV.q]; rfl) | rfl):WO P f n d Q k all m ops fr ds (hp (hp h0 ids (Qy js xs)) (V3 ids js) zs) u:=At2 js ys hI hl hk hz e hr
theorem A3 {todo:List Item}{l':List (Nat×AV)}(hr:WR P f n d Q m todo (Ag l') ds h u)(hx:FrIs l l':=by repeat (first | exact .nil | refine .cons rfl ?_)):WR P f n d Q m todo (Ag l) ds h u:=As1 l' hx hr
theorem A5 {ops:List Oper}{l':List (Nat×AV)}(hr:WO P f n d Q k all m ops (Ag l') ds h u)(hx:FrIs l l':=by repeat (first | exact .nil | refine .cons rfl ?_)):WO P f n d Q k all m ops (Ag l) ds h u:=Aoa l' hx hr
theorem Ar {todo:List Item}{fr:Nat→AV}{ys:List (Option AO)}(hr:WR P f n d Q m todo fr ds (hp h0 ids ys) u)(e:xs=ys:=by first | (simp only [List.set_cons_zero,List.set_cons_succ,List.cons_append,List.nil_append,List.replicate_succ,List.replicate_zero,Ra,R3,Ux,AV.cells,AV.I,AV.q]; rfl) | rfl) :
  WR P f n d Q m todo fr ds (hp h0 ids xs) u:=e ▸ hr
theorem Ax2 {ops:List Oper}{fr:Nat→AV}{ys:List (Option AO)}(hr:WO P f n d Q k all m ops fr ds (hp h0 ids ys) u)(e:xs=ys:=by first | (simp only [List.set_cons_zero,List.set_cons_succ,List.cons_append,List.nil_append,List.replicate_succ,List.replicate_zero,Ra,R3,Ux,AV.cells,AV.I,AV.q]; rfl) | rfl) :
  WO P f n d Q k all m ops fr ds (hp h0 ids xs) u:=e ▸ hr
end
section
variable {P:Program} [GW P] {fr:Nat→AV} {h:Ab} {all:List Oper} {pre:List (List Nat)} {pend:Jl} {ty:TypeId} {pos:String} {after:Array Edge} {i:Nat}
theorem W4 {j t jg tj:Nat}{want:Bool}{v:AV}{op:Op}(hj:(all[jg]?).bind (·.dst)=some tj)(ho:all[j]? = some ⟨some t,op,ty,pos,after,some (jg,want)⟩)(hg:fr tj=.bool want)(hv:Dy P fr h op=some v)(hr:Ei P all pre i h pend):Ei P all pre i h ((j,fr,v)::pend):=by
 refine⟨?_,hr⟩
 split
 ·trivial
 ·rw [ho]; simp only [aF,Pr hj hg,hv]
end
section
variable {P:Program} [GW P] {h:Ab} {all:List Oper} {pre:List (List Nat)} {pend:Jl} {i:Nat} {a b c d e f g o:Nat} {fa fb fc fd fe ff fg fo:Nat→AV} {va vb vc vd ve vf vg vo:AV}
theorem Hw (hc:(cl pre i a&&cl pre i b)=true)(hr:Ei P all pre i h pend):Ei P all pre i h ((a,fa,va)::(b,fb,vb)::pend):=by
 rw [Bool.and_eq_true] at hc
 exact Gu hc.1 (Gu hc.2 hr)
theorem Acx (hc:((cl pre i a&&cl pre i b)&&(cl pre i c&&cl pre i d))=true)(hr:Ei P all pre i h pend):Ei P all pre i h ((a,fa,va)::(b,fb,vb)::(c,fc,vc)::(d,fd,vd)::pend):=by
 rw [Bool.and_eq_true] at hc
 exact Hw hc.1 (Hw hc.2 hr)
theorem Al1 (hc:(((cl pre i a&&cl pre i b)&&(cl pre i c&&cl pre i d))&&((cl pre i e&&cl pre i f)&&(cl pre i g&&cl pre i o)))=true)(hr:Ei P all pre i h pend) :
  Ei P all pre i h ((a,fa,va)::(b,fb,vb)::(c,fc,vc)::(d,fd,vd)::(e,fe,ve)::(f,ff,vf)::(g,fg,vg)::(o,fo,vo)::pend):=by
 rw [Bool.and_eq_true] at hc
 exact Acx hc.1 (Acx hc.2 hr)
end
section
variable {P:Program} [GW P] {s ft:TypeId} {fs:List (Nat×TypeId)} {a b:Nat} {z:List AV} {F:TI}
theorem Nk {o g r:Nat}(c off i:Nat)(hT:ti P s=some ⟨.st fs,a,b,z⟩)(hf:fs[i]? = some (off,ft))(hF:ti P ft=some F)(h0:Nat.beq F.size 0=false):Ld P s (.ptr o g r c) i=some (.ptr o g r (c+off)):=Avj hT hf hF h0
end
theorem J {α:Sort _}{a:α}:a=a:=rfl
theorem FI {l l':List (Nat×AV)}(h:l'.map (fun p=>Ag l p.1)=l'.map (·.2)):FrIs l l':=by
 induction l' with
 | nil=>exact .nil
 | cons p r ih=>
  rw [List.map_cons,List.map_cons] at h
  injection h with h1 h2
  exact .cons h1 (ih h2)
end Go.Am
namespace Go.Am
open Go Go.ChangeShapes Go.WideShapes Go.RowKit
set_option linter.unusedVariables false
set_option linter.unusedSectionVars false
def Agi {τ:Type}(n:Nat)(T:Ty τ):Ty (Vector τ n):=⟨fun v=>rV T.e v,fun v => ∀ a ∈ v.toList,T.good a,fun v=>(v.toList.map T.bulk).sum+1⟩
theorem Al4 {τ:Type}{T:Ty τ}{w:World} : ∀ (l:List τ) (cs:List Value),l.length=cs.length→(∀ (i:Nat) a c,l[i]? = some a→cs[i]? = some c→LR w (T.e a) [c])→LR w (l.flatMap T.e) cs
 | [],[],_,_=>LR.nil
 | [],_::_,h,_=>by simp at h
 | _::_,[],h,_=>by simp at h
 | a::l,c::cs,h,k=>by
  rw [List.flatMap_cons]
  exact LR.append (cs:=[c]) (k 0 a c rfl rfl) (Al4 l cs (by simpa using h) fun i b d hb hd=>k (i+1) b d (by simpa using hb) (by simpa using hd))
theorem Aqo {P:Program}[GW P]{τ:Type}{t e:TypeId}{n:Nat}{T:Ty τ}(ht:P.underlying t=some (.array n e))(hc1:P.cellsOf e=1)(hct:P.cellsOf t=n)(h:Pn P e T):Pn P t (Agi n T):=by
 intro H enc w sp held fuel cs x bk bks B hx hl
 obtain⟨xs,m,rfl,rfl,h1,h2,h3⟩:=DataW.trod_array ht hx
 rw [hct] at h1
 simp only [B.agg] at hl
 have key : ∀ i,i<n → ∃ a:τ,∃ c y,cs[i]? = some c∧xs[i]? = some y∧LR w (T.e a) [c]∧T.good a∧T.bulk a≤bk y.1:=by
  intro i hi
  have hi1:i<cs.length:=by omega
  have hi2:i<xs.length:=by omega
  have h0:=h3 i hi
  rw [hc1,Nat.mul_one,List.getElem?_eq_getElem hi2,show(cs.drop i).take 1=[cs[i]] by rw [List.drop_eq_getElem_cons hi1]; rfl] at h0
  have hb:=Ad6 B (d:=(xs[i]).1) (l:=xs.map (·.1)) (List.mem_map.2 ⟨_,List.getElem_mem hi2,rfl⟩)
  obtain⟨a,k1,k2,k3⟩:=h enc w sp held m _ _ bk bks B h0 (by omega)
  exact⟨a,_,_,List.getElem?_eq_getElem hi1,List.getElem?_eq_getElem hi2,k1,k2,k3⟩
 obtain⟨l,hll,hq⟩:=Ab8 n key
 refine⟨⟨l.toArray,by simpa using hll⟩,?_,fun a ha=>?_,?_⟩
 ·show LR w (rV T.e _) cs
  rw [Afn]
  refine Al4 _ cs (by simp; omega) fun i a c ha hc=>?_
  obtain⟨c',y,k1,_,k2,_⟩:=hq i a (by simpa using ha)
  rw [hc] at k1; cases k1; exact k2
 ·have ha':a ∈ l:=by simpa using ha
  obtain⟨i,hi,rfl⟩:=List.mem_iff_getElem.1 ha'
  obtain⟨_,_,_,_,_,k,_⟩:=hq i _ (List.getElem?_eq_getElem hi)
  exact k
 ·have:=Aei B (f:=T.bulk) l (xs.map (·.1)) (by simp [hll,h2]) fun i a d ha hd=>by
   obtain⟨_,y,_,hy,_,_,hb⟩:=hq i a ha
   rw [List.getElem?_map,hy] at hd
   simp only [Option.map_some,Option.some.injEq] at hd
   subst hd; exact hb
  show((⟨l.toArray,_⟩:Vector τ n).toList.map T.bulk).sum+1≤_
  simp only [B.agg]
  have e:(⟨l.toArray,by simpa using hll⟩:Vector τ n).toList=l:=rfl
  rw [e]; omega
end Go.Am
namespace Go.Am
open Go
set_option linter.unusedVariables false
abbrev rJ:Int→List AV:=rI .i64
abbrev rU {n:Nat}:Vector Int n→List AV:=rV (rI .u8)
abbrev AV.K (l:List Int):AV:=.sl 1 (List.map (rI .i64) l)
abbrev AV.M {n:Nat}(l:List (Vector Int n)):AV:=.sl 32 (List.map (rV (rI .u8)) l)
abbrev AV.B (b:Bool):AV:=.bool b
abbrev AV.A (l:List AV):AV:=.agg l
abbrev wi (n:Int):Int:=IntKind.wrap .i64 n
abbrev wU (n:Int):Int:=IntKind.wrap .u32 n
theorem cb {a b:Bool}(h:a=b):AV.bool a=AV.bool b:=congrArg AV.bool h
theorem FrIs.r {l r:List (Nat×AV)}{t:Nat}(hr:FrIs l r):FrIs l ((t,Ag l t)::r):=.cons rfl hr
theorem FrIs.r2 {l r:List (Nat×AV)}{a b:Nat}(hr:FrIs l r):FrIs l ((a,Ag l a)::(b,Ag l b)::r):=.cons rfl (.cons rfl hr)
theorem FrIs.r4 {l r:List (Nat×AV)}{a b c e:Nat}(hr:FrIs l r):FrIs l ((a,Ag l a)::(b,Ag l b)::(c,Ag l c)::(e,Ag l e)::r):=.cons rfl (.cons rfl (.cons rfl (.cons rfl hr)))
theorem FrIs.o {l:List (Nat×AV)}{t:Nat}{v:AV}(hx:Ag l t=v):FrIs l [(t,v)]:=.cons hx .nil
theorem LF.s {h h2:Ab}{a:AV}{l l':List AV}(hr:LF h h2 l l'):LF h h2 (a::l) (a::l'):=.cons (.same _) hr
theorem LF.s2 {h h2:Ab}{a b:AV}:LF h h2 [a,b] [a,b]:=.cons (.same _) (.cons (.same _) .nil)
theorem LF.s1 {h h2:Ab}{a:AV}:LF h h2 [a] [a]:=.cons (.same _) .nil
theorem RowSim.s {a:AV}{l l':List AV}(hr:RowSim l l'):RowSim (a::l) (a::l'):=.cons (.same _) hr
theorem RowSim.s2 {a b:AV}:RowSim [a,b] [a,b]:=.cons (.same _) (.cons (.same _) .nil)
theorem RowSim.s1 {a:AV}:RowSim [a] [a]:=.cons (.same _) .nil
theorem FrFz.s {h h2:Ab}{l r:List (Nat×AV)}{t:Nat}(hr:FrFz h h2 l r):FrFz h h2 l ((t,Ag l t)::r):=.cons (.same _) hr
theorem FrFz.s2 {h h2:Ab}{l:List (Nat×AV)}{t s:Nat}:FrFz h h2 l [(t,Ag l t),(s,Ag l s)]:=.cons (.same _) (.cons (.same _) .nil)
theorem FrFz.s1 {h h2:Ab}{l:List (Nat×AV)}{t:Nat}:FrFz h h2 l [(t,Ag l t)]:=.cons (.same _) .nil
theorem ic {α:Type}{L:List α}{j:Nat}{x:α}(ha:L[j]? = some x)(hn:L.length≤Bt):AV.int .i64 (IntKind.i64.wrap ((j:Int)+1))=.int .i64 ((j+1:Nat):Int):=F3 (Au ha) hn
abbrev Aq (g st:Nat)(rs:List (List AV)):Option AO:=some (.rows g st rs)
section
variable {P:Program} [GW P] {f:FuncId} {n:Nat} {d:FK} {β:Type} {Q:Spec β} {m:R β} {ds:List AD} {h:Ab} {u:AU} {k:List Item} {l:List (Nat×AV)} {all r:List Oper} {ty:TypeId} {pos:String} {after:Array Edge}
theorem Y {id:Nat}{ops:List Oper}{y:Code}{fr:Nat→AV}(hx:WO P f n d Q (.code y::k) ops m ops fr ds h u):WR P f n d Q m (.code (.seq (.region id ⟨ops⟩ false) y)::k) fr ds h u:=Ac (Ai hx)
theorem Ap {t:Nat}{x:Operand}(v:AV)(hk:WO P f n d Q k all m r (Ag ((t,v)::l)) ds h u)(ht:Nat.blt t n=true:=by exact rfl)(hv:ev (Ag l) x=v:=by exact rfl):WO P f n d Q k all m (⟨some t,.move x,ty,pos,after,none⟩::r) (Ag l) ds h u:=
 Ax v ht (by rw [Ba,hv]) hk
theorem Ad {t:Nat}{x:Operand}(v:AV)(hk:WO P f n d Q k all m r (Ag ((t,v)::l)) ds h u)(ht:Nat.blt t n=true:=by exact rfl)(hv:ev (Ag l) x=v:=by exact rfl):WO P f n d Q k all m (⟨some t,.assign x,ty,pos,after,none⟩::r) (Ag l) ds h u:=
 Ax v ht (by rw [S1,hv]) hk
end
end Go.Am
namespace Go.Am
open Go
set_option linter.unusedVariables false
set_option linter.unusedSectionVars false
set_option linter.unusedSimpArgs false
def An9:Nat→Nat→Nat→List Nat
 | 0,_,_=>[]
 | f+1,i,m=>bif Nat.beq (m % 2) 1 then i::An9 f (i+1) (m / 2) else An9 f (i+1) (m / 2)
abbrev prL (A:List Nat):List (List Nat):=A.map (An9 A.length 0)
abbrev pR (i:Nat):Bool×Nat:=(false,i)
abbrev pE (i:Nat):Bool×Nat:=(true,i)
section
variable (P:Program) [GW P]
def Tx (n:Nat)(all:List Oper)(xs:List (Option AO)):Er→Nat→List Nat→List (Nat×AV)→Option (List (Nat×AV)×List (Nat×Nat)×List (Nat×Nat))
 | _,0,_,_=>some ([],[],[])
 | [],_+1,_,_=>none
 | (s,i)::plan,K+1,hs,l=>match all[i]? with
  | none=>none
  | some o=>if Fp n o.dst then match D2 all (Ag l) o,o.dst with
   | some true,some t=>if s then none else match Akl P xs (Ag l) (hs.headD 0) o.op with
    | some (v,none)=>(Tx n all xs plan K hs ((t,v)::l)).map fun r=>((t,v)::r.1,r.2)
    | some (v,some (ob,g,g'))=>(Tx n all xs plan K hs.tail ((t,v)::l)).map fun r=>((t,v)::r.1,(ob,g)::r.2.1,(hs.headD 0,g')::r.2.2)
    | none=>none
   | some false,some t=>(Tx n all xs plan K hs ((t,.und)::l)).map fun r=>((t,.und)::r.1,r.2)
   | _,_=>none
  else none
end
def frZ:List (Nat×AV)→List (Nat×AV)→List (Nat×AV)
 | [],l=>l
 | p::ns,l=>frZ ns (p::l)
def pdZ:Er→List (Nat×AV)→List (Nat×AV)→Jl→Jl
 | (s,i)::plan,(t,v)::ns,l,pend=>pdZ plan ns ((t,v)::l) (bif s then pend else(i,Ag l,v)::pend)
 | _,_,_,pend=>pend
section
variable (P:Program) [GW P]
def Wa (all:List Oper)(pre:List (List Nat))(i:Nat)(xs:List (Option AO)):Jl→List Nat→Option (List AV×List (Nat×Nat)×List (Nat×Nat))
 | [],_=>some ([],[],[])
 | (j,fr,v)::r,hs=>if cl pre i j then Wa all pre i xs r hs else match all[j]? with
  | none=>none
  | some o=>match D2 all fr o with
   | some true=>match Akl P xs fr (hs.headD 0) o.op with
    | some (w,none)=>(Wa all pre i xs r hs).map fun q=>(w::q.1,q.2)
    | some (w,some (ob,g,g'))=>(Wa all pre i xs r hs.tail).map fun q=>(w::q.1,(ob,g)::q.2.1,(hs.headD 0,g')::q.2.2)
    | none=>none
   | some false=>(Wa all pre i xs r hs).map fun q=>(.und::q.1,q.2)
   | none=>none
def Ae3 (pre:List (List Nat))(i:Nat):Jl→List AV
 | []=>[]
 | (j,_,v)::r=>if cl pre i j then Ae3 pre i r else v::Ae3 pre i r
def Asx (pre:List (List Nat))(i:Nat)(pend:Jl):Bool:=pend.all fun p=>cl pre i p.1
end
section
variable {P:Program} [GW P] {f:FuncId} {n:Nat} {d:FK} {β γ:Type} {Q:Spec β} {m:R β} {ds:List AD} {h:Ab} {u:AU} {k:List Item} {l:List (Nat×AV)} {F:γ→R β}
variable {all:List Oper} {h0:Ab} {ids:List Nat} {xs:List (Option AO)} {N:Nat} {pre:List (List Nat)} {i:Nat} {plan:Er} {pend:Jl}
theorem Dw (hc:Asx pre i pend=true:=by kernel_rfl):Ei P all pre i h pend:=by
 induction pend with
 | nil=>exact C3
 | cons p r ih=>
  simp only [Asx,List.all_cons,Bool.and_eq_true] at hc
  exact Gu hc.1 (ih hc.2)
theorem Ab5 : ∀ {pend:Jl} {hs:List Nat} {A B:List (Nat×Nat)},Wa P all pre i xs pend hs=some (Ae3 pre i pend,A,B)→A=B.map (fun q=>(ix ids q.1,q.2))→Ids h0 ids N→xs.length=N→Ei P all pre i (hp h0 ids xs) pend
 | [],_,_,_,_,_,_,_=>C3
 | (j,fr,v)::r,hs,A,B,hx,hA,hI,hl=>by
  unfold Wa Ae3 at hx
  by_cases hc:cl pre i j=true
  ·rw [if_pos hc,if_pos hc] at hx
   exact Gu hc (Ab5 hx hA hI hl)
  ·rw [if_neg hc,if_neg hc] at hx
   refine⟨?_,?_⟩
   ·rw [if_neg hc]
    split at hx
    ·cases hx
    rename_i o ho
    rw [ho]
    simp only [aF]
    split at hx
    ·rename_i hw
     rw [hw]
     simp only
     split at hx
     ·rename_i w hr
      simp only [Option.map_eq_some_iff,Prod.mk.injEq,List.cons.injEq] at hx
      obtain⟨q,_,⟨rfl,_⟩,_⟩:=hx
      exact Ro hI hl hr (fun _ _ _ h=>by cases h)
     ·rename_i w ob g g' hr
      simp only [Option.map_eq_some_iff,Prod.mk.injEq,List.cons.injEq] at hx
      obtain⟨q,_,⟨rfl,_⟩,rfl,rfl⟩:=hx
      simp only [List.map_cons,List.cons.injEq,Prod.mk.injEq] at hA
      exact Ro hI hl hr (fun o2 g2 g2' h=>by cases h; exact hA.1)
     ·cases hx
    ·rename_i hw
     rw [hw]
     simp only [Option.map_eq_some_iff,Prod.mk.injEq,List.cons.injEq] at hx
     obtain⟨q,_,⟨rfl,_⟩,_⟩:=hx
     rfl
    ·cases hx
   ·split at hx
    ·cases hx
    split at hx
    ·split at hx
     ·simp only [Option.map_eq_some_iff,Prod.mk.injEq,List.cons.injEq] at hx
      obtain⟨⟨q1,q2,q3⟩,hq,⟨_,h1⟩,h2⟩:=hx
      simp only at h1 h2
      subst h1; cases h2
      exact Ab5 hq hA hI hl
     ·simp only [Option.map_eq_some_iff,Prod.mk.injEq,List.cons.injEq] at hx
      obtain⟨⟨q1,q2,q3⟩,hq,⟨_,h1⟩,h2,h3⟩:=hx
      simp only at h1 h2 h3
      subst h1; subst h2; subst h3
      simp only [List.map_cons,List.cons.injEq,Prod.mk.injEq] at hA
      exact Ab5 hq hA.2 hI hl
     ·cases hx
    ·simp only [Option.map_eq_some_iff,Prod.mk.injEq,List.cons.injEq] at hx
     obtain⟨⟨q1,q2,q3⟩,hq,⟨_,h1⟩,h2⟩:=hx
     simp only at h1 h2
     subst h1; cases h2
     exact Ab5 hq hA hI hl
    ·cases hx
theorem D6 (hs:List Nat)(hI:Ids h0 ids N:=by assumption)(hl:xs.length=N:=by rfl)
  (hc:(Wa P all pre i xs pend hs).map (fun r=>(r.1,r.2.1))=some (Ae3 pre i pend,((Wa P all pre i xs pend hs).elim [] fun r=>r.2.2.map fun q=>(ix ids q.1,q.2))):=by kernel_rfl):Ei P all pre i (hp h0 ids xs) pend:=by
 cases hr:Wa P all pre i xs pend hs with
 | none=>rw [hr] at hc; cases hc
 | some r=>
  obtain⟨a,A,B⟩:=r
  rw [hr] at hc
  simp only [Option.map_some,Option.elim_some,Option.some.injEq,Prod.mk.injEq] at hc
  obtain⟨rfl,h2⟩:=hc
  exact Ab5 hr h2 hI hl
theorem Ack : ∀ {K:Nat} {plan:Er} {hs:List Nat} {l news:List (Nat×AV)} {A B:List (Nat×Nat)} {pend:Jl},Tx P n all xs plan K hs l=some (news,A,B)→A=B.map (fun q=>(ix ids q.1,q.2))→Ids h0 ids N→xs.length=N →
  WP P f n d Q k all pre m (plan.drop K) (pdZ plan news l pend) (Ag (frZ news l)) ds (hp h0 ids xs) u→WP P f n d Q k all pre m plan pend (Ag l) ds (hp h0 ids xs) u
 | 0,plan,hs,l,news,A,B,pend,hx,hA,hI,hl,hk=>by
  simp only [Tx,Option.some.injEq,Prod.mk.injEq] at hx
  obtain⟨rfl,rfl,rfl⟩:=hx
  have e:pdZ plan [] l pend=pend:=by
   cases plan with
   | nil=>rfl
   | cons p r=>cases p; rfl
  rw [e] at hk
  exact hk
 | K+1,[],hs,l,news,A,B,pend,hx,hA,hI,hl,hk=>by cases hx
 | K+1,(s,i)::plan,hs,l,news,A,B,pend,hx,hA,hI,hl,hk=>by
  unfold Tx at hx
  split at hx
  ·cases hx
  rename_i o ho
  split at hx
  ·rename_i hd
   split at hx
   ·rename_i t hw ht
    split at hx
    ·cases hx
    rename_i hs'
    have hs'':s=false:=by simpa using hs'
    subst hs''
    have step : ∀ {v:AV},Dy P (Ag l) (hp h0 ids xs) o.op=some v→WP P f n d Q k all pre m plan ((i,Ag l,v)::pend) (Ag ((t,v)::l)) ds (hp h0 ids xs) u→WP P f n d Q k all pre m ((false,i)::plan) pend (Ag l) ds (hp h0 ids xs) u:=by
     intro v hv hk' hb K' U hK
     simp only [J9,ho]
     refine⟨hd,?_⟩
     have e:aF P all (Ag l) (hp h0 ids xs) o=some v:=by simp only [aF,hw,hv]
     rw [e]
     simp only [ht,Ey]
     exact hk' hb K' U hK
    split at hx
    ·rename_i v hr
     simp only [Option.map_eq_some_iff,Prod.mk.injEq] at hx
     obtain⟨⟨q1,q2,q3⟩,hq,rfl,h2⟩:=hx
     simp only at h2
     cases h2
     exact step (Ro hI hl hr (fun _ _ _ h=>by cases h)) (Ack hq hA hI hl hk)
    ·rename_i v ob g g' hr
     simp only [Option.map_eq_some_iff,Prod.mk.injEq] at hx
     obtain⟨⟨q1,q2,q3⟩,hq,rfl,h2,h3⟩:=hx
     simp only at h2 h3
     subst h2; subst h3
     simp only [List.map_cons,List.cons.injEq,Prod.mk.injEq] at hA
     exact step (Ro hI hl hr (fun o2 g2 g2' h=>by cases h; exact hA.1)) (Ack hq hA.2 hI hl hk)
    ·cases hx
   ·rename_i t hw ht
    simp only [Option.map_eq_some_iff,Prod.mk.injEq] at hx
    obtain⟨⟨q1,q2,q3⟩,hq,rfl,h2⟩:=hx
    simp only at h2
    cases h2
    cases s with
    | true=>exact Ari ho hd hw (by rw [ht,Ey]; exact Ack hq hA hI hl hk)
    | false=>
     intro hb K' U hK
     simp only [J9,ho]
     refine⟨hd,?_⟩
     have e:aF P all (Ag l) (hp h0 ids xs) o=some .und:=by simp only [aF,hw]
     rw [e]
     simp only [ht,Ey]
     exact Ack hq hA hI hl hk hb K' U hK
   ·cases hx
  ·cases hx
theorem At (hs:List Nat)(news:List (Nat×AV))(hk:WP P f n d Q k all pre m (plan.drop news.length) (pdZ plan news l pend) (Ag (frZ news l)) ds (hp h0 ids xs) u)(hI:Ids h0 ids N:=by assumption)(hl:xs.length=N:=by rfl)
  (hc:(Tx P n all xs plan news.length hs l).map (fun r=>(r.1,r.2.1))=some (news,((Tx P n all xs plan news.length hs l).elim [] fun r=>r.2.2.map fun q=>(ix ids q.1,q.2))):=by kernel_rfl):WP P f n d Q k all pre m plan pend (Ag l) ds (hp h0 ids xs) u:=by
 cases hr:Tx P n all xs plan news.length hs l with
 | none=>rw [hr] at hc; cases hc
 | some r=>
  obtain⟨a,A,B⟩:=r
  rw [hr] at hc
  simp only [Option.map_some,Option.elim_some,Option.some.injEq,Prod.mk.injEq] at hc
  obtain⟨h1,h2⟩:=hc
  subst h1
  exact Ack hr h2 hI hl hk
theorem Cx {t:Nat}{b b':Bool}(hb:b=b')(ht:Ag l t=.bool b)(hk:WP P f n d Q k all pre m plan pend (Ag ((t,.bool b')::l)) ds h u):WP P f n d Q k all pre m plan pend (Ag l) ds h u:=by
 subst hb
 have e:Ag ((t,.bool b)::l)=Ag l:=by
  funext s
  simp only [Ag]
  cases hq:Nat.beq s t with
  | true=>rw [Nat.eq_of_beq_eq_true hq,ht]; rfl
  | false=>rfl
 rw [e] at hk
 exact hk
theorem By {id:Nat}{ops:List Oper}(A:List Nat)(plan:Er)(hm:P.follows .mixedOrders=true)(hx:WP P f n d Q k ops (prL A) m plan [] (Ag l) ds h u)(hp:Af4 ops (prL A) plan=true:=by kernel_rfl) :
  WR P f n d Q m (.code (.region id ⟨ops⟩ true)::k) (Ag l) ds h u:=Atv hm (prL A) plan hp hx
end
end Go.Am
namespace Go.Am
open Go
set_option linter.unusedVariables false
set_option linter.unusedSectionVars false
set_option linter.unusedSimpArgs false
inductive FAt:List (Nat×AV)→Nat→AV→Prop
 | here {k:Nat} {v:AV} {l:List (Nat×AV)}:FAt ((k,v)::l) k v
 | there {k a:Nat} {v w:AV} {l:List (Nat×AV)} (h:Nat.beq k a=false) (hr:FAt l k v):FAt ((a,w)::l) k v
inductive Kf (l:List (Nat×AV)):List Nat→List (Nat×AV)→Prop
 | nil:Kf l [] []
 | cons {k:Nat} {v:AV} {ks:List Nat} {r:List (Nat×AV)} (hx:FAt l k v) (hr:Kf l ks r):Kf l (k::ks) ((k,v)::r)
theorem FAt.get {l:List (Nat×AV)}{k:Nat}{v:AV}(h:FAt l k v):Ag l k=v:=by
 induction h with
 | @here k v l=>simp only [Ag,Nat.beq_refl,cond_true]
 | there h hr ih=>simp only [Ag,h,cond_false,ih]
theorem Kf.is {l:List (Nat×AV)}{ks:List Nat}{r:List (Nat×AV)}(h:Kf l ks r):FrIs l r:=by
 induction h with
 | nil=>exact .nil
 | cons hx hr ih=>exact .cons hx.get ih
def dpL:Nat→List (Option AO)→List (Option AO)
 | _,[]=>[]
 | m,x::xs=>(bif Nat.beq (m % 2) 1 then none else x)::dpL (m / 2) xs
theorem Acg : ∀ (m:Nat) (xs:List (Option AO)),Drops xs (dpL m xs)
 | _,[]=>.nil
 | m,x::xs=>by
  unfold dpL
  cases Nat.beq (m % 2) 1 with
  | true=>exact .drop (Acg _ xs)
  | false=>exact .keep (Acg _ xs)
section
variable {P:Program} [GW P] {f:FuncId} {n:Nat} {d:FK} {β γ:Type} {Q:Spec β} {m:R β} {ds:List AD} {h:Ab} {u:AU} {k:List Item} {l:List (Nat×AV)} {F:γ→R β}
variable {all r:List Oper} {h0:Ab} {ids:List Nat} {xs:List (Option AO)} {N:Nat} {ty:TypeId} {pos:String} {after:Array Edge} {i:Nat}
theorem Aw {t:Nat}{op:Op}(v:AV)(hk:WO P f n d Q k all m r (Ag ((t,v)::l)) ds h u)(ht:Nat.blt t n=true:=by exact rfl)(hv:Dy P (Ag l) h op=some v:=by kernel_rfl) :
  WO P f n d Q k all m (⟨some t,op,ty,pos,after,none⟩::r) (Ag l) ds h u:=Ax v ht hv hk
theorem Bl {α:Type}{e:α→List AV}{t:Nat}{st:Nat}{x:Operand}{tt:TypeId}(L:List α)(hk:WO P f n d Q k all m r (Ag ((t,.int .i64 (L.length:Int))::l)) ds h u)(ht:Nat.blt t n=true:=by exact rfl)(hx:ev (Ag l) x=.sl st (L.map e):=by exact rfl)
  (hT:((ti P tt).any fun T=>match T.k with | .sl _=>true | _=>false)=true:=by kernel_rfl) :
  WO P f n d Q k all m (⟨some t,.call ⟨.builtin .len,⟨[x]⟩,⟨[tt]⟩⟩,ty,pos,after,none⟩::r) (Ag l) ds h u:=by
 refine Ax _ ht (Ca ?_) hk
 rw [hx]
 cases hq:ti P tt with
 | none=>rw [hq] at hT; cases hT
 | some T=>
  obtain⟨K,a,b,z⟩:=T
  rw [hq] at hT
  cases K <;> first | exact Cw hq | cases hT
theorem oc {fn:Func}{α:Type}{t:Nat}{x:Operand}{aS:List Operand}{ts:Array TypeId}{g:FuncId}{fst cap:List AV}{gd:Option (Nat×Bool)}{A:List AV}{e':α→AV}{mg:R α}{β:Type}{e:β→AV}{rest:α→R γ}{F:γ→R β}(hc:mg≠.bad→Bm P g A (hp h0 ids xs) (Yi e' (hp h0 ids xs) mg))
  (hk : ∀ a,mg=.ok a→WO P f n false (Yc e h0) k all ((rest a).bind F) r (Ag ((t,e' a)::l)) ds (hp h0 ids xs) u)
  (hf:P.funcs[f]? = some fn:=by assumption) (hI:Ids h0 ids N:=by assumption)
  (hx:ev (Ag l) x=.func (.func g) fst cap:=by exact rfl) (ha:fst++E4 (Ag l) aS++cap=A:=by exact rfl)
  (ht:Nat.blt t n=true:=by exact rfl) (hw:D2 all (Ag l) ⟨some t,.call ⟨.value x,⟨aS⟩,ts⟩,ty,pos,after,gd⟩=some true:=by exact rfl)
  (hd:ds=[]∨ds=[AD.star]:=by first | exact .inl rfl | exact .inr rfl) :
  WO P f n false (Yc e h0) k all ((mg.bind rest).bind F) (⟨some t,.call ⟨.value x,⟨aS⟩,ts⟩,ty,pos,after,gd⟩::r) (Ag l) ds (hp h0 ids xs) u:=
 Ny A ht hw hx ha hc (fun v _=>by
  rcases hd with rfl | rfl
  ·exact Dt hf hI
  ·exact Hy (Dt hf hI)) hk
theorem H0 {fn:Func}{α:Type}{t:Nat}{x:Operand}{aS:List Operand}{ts:Array TypeId}{g:FuncId}{fst cap:List AV}{gd:Option (Nat×Bool)}{A:List AV}{e':α→AV}{mg:R α}{β:Type}{e:β→AV}{rest:α→R γ}{F:γ→R β}{pre:List (List Nat)}{plan:Er}{pend:Jl}
  (hc:mg≠.bad→Bm P g A (hp h0 ids xs) (Yi e' (hp h0 ids xs) mg)) (hk : ∀ a,mg=.ok a→WP P f n false (Yc e h0) k all pre ((rest a).bind F) plan pend (Ag ((t,e' a)::l)) ds (hp h0 ids xs) u)
  (hf:P.funcs[f]? = some fn:=by assumption) (hI:Ids h0 ids N:=by assumption)
  (ho:all[i]? = some ⟨some t,.call ⟨.value x,⟨aS⟩,ts⟩,ty,pos,after,gd⟩:=by exact rfl) (hx:ev (Ag l) x=.func (.func g) fst cap:=by exact rfl) (ha:fst++E4 (Ag l) aS++cap=A:=by exact rfl)
  (hw:D2 all (Ag l) ⟨some t,.call ⟨.value x,⟨aS⟩,ts⟩,ty,pos,after,gd⟩=some true:=by exact rfl) (ht:Nat.blt t n=true:=by exact rfl)
  (hpd:Ei P all pre i (hp h0 ids xs) pend:=by exact Dw) (hd:ds=[]∨ds=[AD.star]:=by first | exact .inl rfl | exact .inr rfl) :
  WP P f n false (Yc e h0) k all pre ((mg.bind rest).bind F) ((true,i)::plan) pend (Ag l) ds (hp h0 ids xs) u:=
 Nr A ho hw ht hx ha hc (fun v _ fr _=>by
  rcases hd with rfl | rfl
  ·exact Dt hf hI
  ·exact Hy (Dt hf hI)) hpd hk
theorem Axk {t:TypeId}{g st rr c j:Nat}{rs:List (List AV)}{row:List AV}{v:AV}(hI:Ids h0 ids N)(hl:xs.length=N)(hj:xs[j]? = some (some (.rows g st rs)))(hr:rs[rr]? = some row)
  (hc:(Nat.blt j N&&(ti P t).any (fun T=>Nat.beq v.cells.length T.size&&Nat.ble (c+T.size) st)&&v.ok&&Nat.beq row.length st&&v.cells.all AV.flat)=true) :
  O7 P (hp h0 ids xs) t (.ptr (ix ids j) g rr c) v=some (hp h0 ids (xs.set j (some (.rows g st (rs.set rr (R3 row c v.cells)))))):=by
 simp only [Bool.and_eq_true] at hc
 obtain⟨⟨⟨⟨h1,h2⟩,h3⟩,h4⟩,h5⟩:=hc
 cases hq:ti P t with
 | none=>rw [hq] at h2; cases h2
 | some T=>
  rw [hq] at h2
  simp only [Option.any_some,Bool.and_eq_true] at h2
  exact J7 hI hl h1 hj hr hq h3 (Nat.eq_of_beq_eq_true h2.1) h2.2 (Nat.eq_of_beq_eq_true h4) h5
theorem Bs {t:TypeId}{a x:Operand}{g st rr c j:Nat}{rs:List (List AV)}{row:List AV}(v:AV)(hk:WO P f n d Q k all m r (Ag l) ds (hp h0 ids (xs.set j (some (.rows g st (rs.set rr (R3 row c v.cells)))))) u)(hI:Ids h0 ids N:=by assumption)(hl:xs.length=N:=by exact rfl)
  (ha:ev (Ag l) a=.ptr (ix ids j) g rr c:=by exact rfl) (hx:ev (Ag l) x=v:=by exact rfl) (hj:xs[j]? = some (some (.rows g st rs)):=by exact rfl) (hr:rs[rr]? = some row:=by exact rfl)
  (hc:(Nat.blt j N&&(ti P t).any (fun T=>Nat.beq v.cells.length T.size&&Nat.ble (c+T.size) st)&&v.ok&&Nat.beq row.length st&&v.cells.all AV.flat)=true:=by kernel_rfl) :
  WO P f n d Q k all m (⟨none,.store t a x,ty,pos,after,none⟩::r) (Ag l) ds (hp h0 ids xs) u:=
 B8 (by rw [ha,hx]; exact Axk hI hl hj hr hc) hk
theorem B5 {t:Nat}{e:TypeId}{x:Operand}(j:Nat)(v:AV)(hk : ∀ g,WO P f n d Q k all m r (Ag ((t,.ptr (ix ids j) g 0 0)::l)) ds (hp h0 ids (xs.set j (some (.rows g v.cells.length [v.cells])))) u)(hI:Ids h0 ids N:=by assumption)(hl:xs.length=N:=by exact rfl)
  (hjn:Nat.blt j N=true:=by exact rfl) (hj:xs[j]? = some none:=by exact rfl) (ht:Nat.blt t n=true:=by exact rfl) (hx:ev (Ag l) x=v:=by exact rfl) (hok:v.ok=true:=by exact rfl) (hfl:v.cells.all AV.flat=true:=by exact rfl) :
  WO P f n d Q k all m (⟨some t,.box e x,ty,pos,after,none⟩::r) (Ag l) ds (hp h0 ids xs) u:=Avm hI hl hjn hj ht hx hok hfl hk
theorem Co {t:Nat}{e:TypeId}{T:TI}(j:Nat)(hT:ti P e=some T)(hk : ∀ g,WO P f n d Q k all m r (Ag ((t,.ptr (ix ids j) g 0 0)::l)) ds (hp h0 ids (xs.set j (some (.rows g T.z.length [T.z])))) u)(hI:Ids h0 ids N:=by assumption)(hl:xs.length=N:=by exact rfl)
  (hjn:Nat.blt j N=true:=by exact rfl) (hj:xs[j]? = some none:=by exact rfl) (ht:Nat.blt t n=true:=by exact rfl) (hfl:T.z.all AV.flat=true:=by exact rfl) :
  WO P f n d Q k all m (⟨some t,.alloc e,ty,pos,after,none⟩::r) (Ag l) ds (hp h0 ids xs) u:=Ajp hI hl hjn hj ht hT hfl hk
theorem B6 {todo:List Item}{l':List (Nat×AV)}(ks:List Nat)(hr:WR P f n d Q m todo (Ag l') ds h u)(hs:Kf l ks l':=by repeat (first | exact Kf.nil | exact FAt.here | apply FAt.there rfl | apply Kf.cons)):WR P f n d Q m todo (Ag l) ds h u:=As1 _ hs.is hr
theorem Cc {todo:List Item}{fr:Nat→AV}(b:Nat)(hr:WR P f n d Q m todo fr ds (hp h0 ids (dpL b xs)) u)(hI:Ids h0 ids N:=by assumption)(hl:xs.length=N:=by exact rfl) :
  WR P f n d Q m todo fr ds (hp h0 ids xs) u:=Atq _ hI hl (Acg b xs) hr
end
section
variable {P:Program} [GW P] {f:FuncId} {n:Nat} {α:Type} {u:AU} {l:List (Nat×AV)} {h0:Ab} {ids:List Nat} {xs:List (Option AO)} {N:Nat} {e:α→AV} {m m':R α} {k:List Item}
theorem ci {fn : Func} {args : List AV} (n N : Nat) (hf : P.funcs[f]? = some fn) (hm : m = m')
  (hr : ∀ (h0 : Ab) (ids : List Nat), Ids h0 ids N → P.funcs[f]? = some fn → WR P f n false (Yc e h0) (m'.bind R.ok) [.code (fn.body.getD .skip)] (Ag (Yn 0 args)) [] (hp h0 ids (List.replicate N none)) .ret)
  (hb : fn.body.isSome = true := by exact rfl) (hn : fn.name ≠ "runtime.NumGoroutine" := by decide) (hnt : fn.ntmps = n := by exact rfl) (hl : Nat.ble args.length n = true := by exact rfl) : CP P f args m e := by
 subst hm
 refine Art N hf (c := fn.body.getD .skip) ?_ hn hnt hl fun h0 ids hI => Ep (hr h0 ids hI hf)
 cases hq : fn.body with
 | none => rw [hq] at hb; cases hb
 | some c => rfl
theorem rt {fn:Func}{a:α}{vs:List AV}(hf:P.funcs[f]? = some fn:=by assumption)(hI:Ids h0 ids N:=by assumption)(hr:J3 P (hp h0 ids xs) (Ag l) fn.results.toList=some vs:=by exact rfl)(hz:Fz (hp h0 ids xs) h0 (Ku vs) (e a):=by exact .same _) :
  WR P f n false (Yc e h0) (.ok a) (.code .ret::k) (Ag l) [] (hp h0 ids xs) u:=Bu hf hI hr hz
end
section
variable {P:Program} [GW P] {f:FuncId} {n:Nat} {d:FK} {β γ:Type} {Q:Spec β} {m:R β} {ds:List AD} {h:Ab} {u:AU} {k:List Item} {l:List (Nat×AV)} {F:γ→R β}
variable {all:List Oper}
theorem B4 {ops:List Oper}{l':List (Nat×AV)}{b:Bool}(i c t:Nat)(ks:List Nat)(v:AV)(hc:Ag l c=.bool b)(hk:WO P f n d Q k all m (ops.drop i) (Ag (l'++[(t,v)])) ds h u)
  (ht:b=true→WO P f n d Q k all m (ops.drop i) (Ag (l'++[(t,v)])) ds h u→WO P f n d Q k all m ops (Ag ((c,.bool true)::l)) ds h u)
  (hf:b=false→WO P f n d Q k all m (ops.drop i) (Ag (l'++[(t,v)])) ds h u→WO P f n d Q k all m ops (Ag ((c,.bool false)::l)) ds h u) (hs:Kf l ks l':=by repeat (first | exact Kf.nil | exact FAt.here | apply FAt.there rfl | apply Kf.cons)):WO P f n d Q k all m ops (Ag l) ds h u:=
 Ar7 b (fun hb=>Ane hb hc (ht hb hk)) (fun hb=>Ane hb hc (hf hb hk))
theorem G5 {ops:List Oper}{l':List (Nat×AV)}{α:Type}{b:Bool}{A B:R α}{rest:α→R γ}(i c t:Nat)(ks:List Nat)(E:α→AV)(hc:Ag l c=.bool b)(hk : ∀ p,WO P f n d Q k all ((rest p).bind F) (ops.drop i) (Ag (l'++[(t,E p)])) ds h u)
  (ht:b=true→(∀ p,WO P f n d Q k all ((rest p).bind F) (ops.drop i) (Ag (l'++[(t,E p)])) ds h u)→WO P f n d Q k all (A.bind (Wx rest F)) ops (Ag ((c,.bool true)::l)) ds h u)
  (hf:b=false→(∀ p,WO P f n d Q k all ((rest p).bind F) (ops.drop i) (Ag (l'++[(t,E p)])) ds h u)→WO P f n d Q k all (B.bind (Wx rest F)) ops (Ag ((c,.bool false)::l)) ds h u) (hs:Kf l ks l':=by repeat (first | exact Kf.nil | exact FAt.here | apply FAt.there rfl | apply Kf.cons)):WO P f n d Q k all (((if b then A else B).bind rest).bind F) ops (Ag l) ds h u:=
 Auu (fun hb=>Ane hb hc (ht hb hk)) (fun hb=>Ane hb hc (hf hb hk))
theorem Cr {α:Type}{rest:α→R γ}{ops:List Oper}{a:α}{l':List (Nat×AV)}(hr:WO P f n d Q k all ((rest a).bind F) ops (Ag l') ds h u)(hx:FrIs l l':=by repeat (first | exact .nil | refine .cons rfl ?_)):WO P f n d Q k all ((R.ok a).bind (Wx rest F)) ops (Ag l) ds h u:=Ast (Aoa l' hx hr)
end
end Go.Am
namespace Go.Am
open Go
set_option linter.unusedSimpArgs false
set_option linter.unusedVariables false
set_option linter.unusedSectionVars false
section
variable {P:Program} [GW P] {f:FuncId} {n:Nat} {d:FK} {β:Type} {Q:Spec β} {m:R β} {ds:List AD} {h:Ab} {u:AU} {k:List Item} {l:List (Nat×AV)} {all r:List Oper}
variable {h0:Ab} {ids:List Nat} {xs:List (Option AO)} {N:Nat} {ty:TypeId} {pos:String} {after:Array Edge}
theorem Arf {e:TypeId}{x:Operand}{v:AV}{j o g' n':Nat}{fr:Nat→AV}{K:AV→Ab→Prop}(hv:Bp v o g' n')(hI:Ids h0 ids N)(hl:xs.length=N)(hjn:Nat.blt j N=true)(hj:xs[j]? = some none)(hx:ev fr x=v)
  (hk : ∀ g,K (.ptr (ix ids j) g 0 0) (hp h0 ids (xs.set j (some (.rows g 1 [[v]]))))):C5 P fr (hp h0 ids xs) (.box e x) K:=by
 refine Atr (v:=v) hI hl hjn hj hx hv.ok (by rw [hv.cells]; simp [hv.flat]) fun g=>?_
 rw [hv.cells]
 exact hk g
theorem Aud {t:Nat}{e:TypeId}{x:Operand}{v:AV}{j o g' n':Nat}(hv:Bp v o g' n')(hI:Ids h0 ids N)(hl:xs.length=N)(hjn:Nat.blt j N=true)(hj:xs[j]? = some none)(ht:Nat.blt t n=true)(hx:ev (Ag l) x=v)
  (hk : ∀ g,WO P f n d Q k all m r (Ag ((t,.ptr (ix ids j) g 0 0)::l)) ds (hp h0 ids (xs.set j (some (.rows g 1 [[v]])))) u) :
  WO P f n d Q k all m (⟨some t,.box e x,ty,pos,after,none⟩::r) (Ag l) ds (hp h0 ids xs) u:=
 K6 ht (fun _ _=>rfl) fun K hK=>Arf hv hI hl hjn hj hx fun g=>hK _ _ (hk g)
end
end Go.Am
namespace Go.Am
open Go
@[irreducible] def Sn:Nat:=4000000
theorem Aom (S:S2):(N6 S).map (rI .u8)=S.map fun b=>[.int .u8 (b.toNat:Int)]:=by
 simp only [N6,List.map_map]
 rfl
theorem At9 {P:Program}[GW P]{h:Ab}{S:S2}{n:Nat}{b:Bool}(hn:n=1)(hb:b=true):Fx P h n b (.str S)=some ((N6 S).map (rI .u8)):=by
 subst hn; subst hb
 rw [Aom]
 rfl
section
variable {P:Program} [GW P] {h:Ab} {α:Type} {e e':α→List AV} {L:List α} {x:α} {t et:TypeId} {a b st:Nat} {z:List AV} {E:TI} {k:IntKind}
theorem Aek {i:Nat}(he : ∀ x,e x=e' x)(hT:ti P t=some ⟨.sl et,a,b,z⟩)(hE:ti P et=some E)(hs:st=E.size)(hx:L[i]? = some x):Dl P h t (.sl st (L.map e)) (.int k (i:Int))=some (.cp (e' x) 0):=
 he x ▸ Cl hT hE hs hx
end
section
set_option linter.unusedVariables false
set_option linter.unusedSectionVars false
variable {P:Program} [GW P] {f:FuncId} {n:Nat} {d:FK} {α β:Type} {Q:Spec β} {m:R β} {ds:List AD} {h:Ab} {u:AU} {k:List Item} {l:List (Nat×AV)} {all r:List Oper}
theorem Atz {t et:TypeId}{a b st:Nat}{z:List AV}{E:TI}{L:List α}{e:α→List AV}{k k':IntKind}{i:Int}(hT:ti P t=some ⟨.sl et,a,b,z⟩)(hE:ti P et=some E)(hs:st=E.size)(hc:0≤i∧i≤(L.length:Int))(hp:i≠0) :
  Et P h t (.sl st (L.map e)) none (some (.int k i)) (some (.int k' i))=some (.slx st ((L.take i.toNat).map e)):=by
 unfold Et
 simp only [hT,hE]
 split
 ·rename_i q1 q2; cases q1; cases q2; exact absurd rfl hp
 ·rename_i q0 q1 q2; cases q0
 ·rename_i q0 q1 q2 _ _
  cases q1; cases q2
  cases q0
  rw [if_pos ⟨hs,hc.1,Int.le_refl _,by simpa using hc.2⟩]
  simp only [Ck,List.drop_zero,Nat.sub_zero,List.map_take,if_true]
 ·rename_i q _ _
  exact(q _ _ _ _ _ rfl rfl rfl).elim
theorem Arx {t et:TypeId}{a b st:Nat}{z:List AV}{E:TI}{rows:List (List AV)}{k k':IntKind}(hT:ti P t=some ⟨.sl et,a,b,z⟩)(hE:ti P et=some E) :
  Et P h t (.sl st rows) none (some (.int k 0)) (some (.int k' 0))=some .emp:=by
 simp only [Et,hT,hE]
end
theorem Ac0:Sn=4000000:=by unfold Sn; rfl
end Go.Am
namespace Go.Am
open Go
set_option linter.unusedSimpArgs false
set_option linter.unusedVariables false
set_option linter.unusedSectionVars false
def Axw {α β:Type}(st:Nat)(e:α→List AV)(eb:β→AV)(h:Ab)(o:Nat)(m:R (List α×β)):AR→Ab→Prop:=fun r h'=>match m with
 | .ok a => ∃ v g,r=.ret (.tup [v,eb a.2])∧Bp v o g a.1.length∧h'=upd h o (Bb v g st (a.1.map e))
 | .pan v=>r=.panic v.av∧h'=h
 | .bad=>False
def CPT {α β:Type}(P:Program)[GW P](g:FuncId)(args:List AV)(m:R (List α×β))(st:Nat)(e:α→List AV)(eb:β→AV):Prop := ∀ h o,h o=none→m≠.bad→Bm P g args h (Axw st e eb h o m)
theorem CPT.lend {α β:Type}{P:Program}[GW P]{g:FuncId}{args args':List AV}{m:R (List α×β)}{st:Nat}{e:α→List AV}{eb:β→AV}{h:Ab}(hc:CPT P g args' m st e eb)(hz:LFz h args args')(hr : ∀ x,Cm st (e x))(hfe : ∀ x,∀ c ∈ e x,Free c)(hfb : ∀ b,Free (eb b))(hb:m≠.bad) :
  Bm P g args h (Yi (fun p:List α×β=>AV.tup [.sl st (p.1.map e),eb p.2]) h m):=by
 obtain⟨hbody,hcall⟩:=hc hE 0 rfl hb
 refine⟨hbody,fun B mu w cargs s ha=>?_⟩
 obtain⟨hlen,hfz⟩:=hz.len
 have ha':Ou hE mu w args' cargs.toList:=⟨hlen ▸ ha.1,fun i hi=>J2 s (Wz h) (hfz i (hlen ▸ hi)) (ha.2 i (hlen ▸ hi))⟩
 refine(hcall B mu w cargs (s.sub (Wz h)) ha').mono ?_
 rintro en w' ⟨r,h1,mu',hq,hs',hext,hE'⟩
 have hs0:Sim B mu' hE w':=hs'.sub (Wz h1)
 have hext0:Da hE mu w hE mu' w':=hext.trans (Da.sub (Wz h1))
 obtain⟨k1,k2⟩:=s.back hs0 hext0
 cases hm:m with
 | bad=>exact absurd hm hb
 | pan v=>
  rw [hm] at hq
  obtain⟨rfl,rfl⟩:=hq
  refine⟨_,h,mu',⟨rfl,rfl⟩,k1,k2,?_⟩
  obtain⟨x,rfl,x1,x2,x3⟩:=hE'.panic_inv
  refine⟨x1,x2,?_⟩
  obtain⟨xv,xr,xg⟩:=x
  simp only [PV.av] at x3
  cases x3 with
  | iface _ _ c hc=>exact .iface _ _ c (v.x.free.rv hc)
 | ok a=>
  rw [hm] at hq
  obtain⟨v,g',rfl,hv,rfl⟩:=hq
  refine⟨_,h,mu',⟨rfl,rfl⟩,k1,k2,?_⟩
  cases en with
  | panicked _=>exact hE'.elim
  | outgrown=>exact hE'.elim
  | returned c=>
   have hE2:RV (upd hE 0 (Bb v g' st (a.1.map e))) mu' w' (.tup [v,eb a.2]) c:=hE'
   show RV h mu' w' (.tup [.sl st (a.1.map e),eb a.2]) c
   cases hE2 with
   | tup _ vs hl hp=>
    refine .tup _ vs hl fun i hi=>?_
    match i,hi with
    | 1,_=>exact(hfb a.2).rv (hp 1 (by simp))
    | 0,_=>
     have h0:RV (upd hE 0 (Bb v g' st (a.1.map e))) mu' w' v (vs.getD 0 undef):=hp 0 (by simp)
     show RV h mu' w' (.sl st (a.1.map e)) (vs.getD 0 undef)
     have hfz2:Fz (upd hE 0 (Bb v g' st (a.1.map e))) hE v (.sl st (a.1.map e)):=E5 hv (by simp [upd]) rfl hr
     have hc0:RV hE mu' w' (.sl st (a.1.map e)) (vs.getD 0 undef):=J2 hs' (Wz _) hfz2 h0
     generalize vs.getD 0 undef=c0 at h0 hc0
     rcases hv with⟨rfl,hn⟩ | rfl
     ·have:a.1=[]:=List.length_eq_zero_iff.1 hn
      rw [this] at hc0 ⊢
      cases h0
      exact .sl0 st _ _
     ·have hlive : ∀ {o x l},h o=some x→mu' o x.gen=some l→mu o x.gen=some l:=by
       intro o x l hx hl
       have : ∃ l,mu o x.gen=some l:=by
        cases x with
        | rows g st rs=>obtain⟨l,h1,_⟩:=s.rows _ _ _ _ hx; exact⟨l,h1⟩
        | mp g es=>obtain⟨l,h1,_⟩:=s.maps _ _ _ hx; exact⟨l,h1⟩
        | blk g x=>obtain⟨l,h1,_⟩:=s.blks _ _ _ hx; exact⟨l,h1⟩
       obtain⟨l',hl'⟩:=this
       have:=hext.mu _ _ _ hl'
       rw [hl] at this
       cases this
       exact hl'
      cases h0 with
      | ref _ _ _ _ cap l hmu hcells hcap hlim hsz=>
       have hnot:¬ Ci h mu' l.b:=by
        rintro⟨o',x,l',hx,hl',hbb⟩
        have hold:=(s.muOk _ _ _ (hlive hx hl')).2.1
        have:=(hext.same l'.b hold (by rintro⟨o2,x2,l2,hx2,_⟩; cases hx2)).2
        refine this ⟨0,.rows g' st (a.1.map e),l,by simp [upd,Bb],hmu,hbb.symm⟩
       have hcell : ∀ i j,i<(a.1.map e).length→j<st→Free (cell (a.1.map e) i j):=by
        intro i j hi hj
        rw [List.length_map] at hi
        have hrow:=hr (a.1[i])
        have hj':j<(e a.1[i]).length:=by have:=hrow.1; omega
        have:cell (a.1.map e) i j=(e a.1[i])[j]:=by
         unfold cell
         simp [List.getD,hi,hj']
        rw [this]
        exact hfe _ _ (List.getElem_mem hj')
       have hlen2:a.1.length=(a.1.map e).length:=(List.length_map _).symm
       rw [hlen2] at hc0 ⊢
       generalize a.1.map e=rows at hc0 hcell ⊢
       cases hc0 with
       | sl0=>exact .sl0 _ _ _
       | sl _ _ b off cap' vs' k3 k4 h1 h2 h3 h4 h5=>exact .sl st rows _ _ _ vs' k3 k4 h1 (fun i j hi hj=>(hcell i j hi hj).rv (h2 i j hi hj)) h3 hnot h5
end Go.Am
namespace Go.Am
open Go
set_option linter.unusedSimpArgs false
set_option linter.unusedVariables false
set_option linter.unusedSectionVars false
theorem Abd {h h2:Ab}{l l':List AV} : ∀ p:List AV,LF h h2 l l'→LF h h2 (p++l) (p++l')
 | [],hl=>hl
 | a::p,hl=>.cons (.same a) (Abd p hl)
section
variable {P:Program} [GW P] {t e:TypeId} {n a b:Nat} {z:List AV} {k:IntKind}
theorem Ah6 {rec:AV→AV→Option Bool}(hr : ∀ x y:Int,rec (.int k x) (.int k y)=some (x==y))(l l':List Int) : ∀ is:List Nat,(∀ i ∈ is,i<l.length∧i<l'.length) →
  Rc P rec 1 false (l.map (.int k)) (l'.map (.int k)) is=some (is.all fun i=>l.getD i 0==l'.getD i 0)
 | [],_=>rfl
 | i::is,h=>by
  have hi:=h i (List.mem_cons_self ..)
  have ih:=Ah6 hr l l' is (fun j hj=>h j (List.mem_cons_of_mem _ hj))
  have h1:Hh (l.map (.int k)) (i * 1) 1 false=some (.int k (l.getD i 0)):=by simp [Hh,hi.1,List.getD]
  have h2:Hh (l'.map (.int k)) (i * 1) 1 false=some (.int k (l'.getD i 0)):=by simp [Hh,hi.2,List.getD]
  simp only [Rc,h1,h2,hr,ih,List.all_cons]
  cases hq:(l.getD i 0==l'.getD i 0) <;> rfl
theorem Akv (l l':List Int) : ∀ (n:Nat),l.length=n→l'.length=n→((List.range n).all fun i=>l.getD i 0==l'.getD i 0)=(l==l'):=by
 intro n h1 h2
 rw [Bool.eq_iff_iff]
 simp only [List.all_eq_true,List.mem_range,beq_iff_eq]
 constructor
 ·intro h
  apply List.ext_getElem (by omega)
  intro i hi hi'
  have:=h i (by omega)
  simpa [List.getD,hi,hi'] using this
 ·rintro rfl i _; rfl
theorem As6 {s y:Nat}{z':List AV}(hT:ti P t=some ⟨.arr n e,a,b,z⟩)(hE:ti P e=some ⟨.int k,1,y,z'⟩)(v w:Vector Int n) :
  Rz P 20 t (.agg (rV (rI k) v)) (.agg (rV (rI k) w))=some (v==w):=by
 have hr : ∀ x y:Int,Rz P 19 e (.int k x) (.int k y)=some (x==y):=fun x y=>by simp [Rz,hE,Vt]
 have hv : ∀ v:Vector Int n,rV (rI k) v=v.toList.map (.int k):=fun v=>Qb (E:=fun x=>.int k x) (fun _=>rfl)
 rw [hv,hv]
 show(match ti P t with
  | none=>none
  | some T=>_)=_
 rw [hT]
 show(match ti P e with
  | none=>none
  | some E=>_)=_
 rw [hE]
 show Rc P (Rz P 19 e) 1 false _ _ (List.range n)=_
 rw [Ah6 hr _ _ _ (fun i hi=>by simpa using List.mem_range.1 hi),Akv _ _ n (by simp) (by simp)]
 congr 1
 rw [Bool.eq_iff_iff]
 simp only [beq_iff_eq]
 exact Vector.toList_inj
theorem Sq {y:Nat}{z':List AV}{v w:Vector Int n}(hT:ti P t=some ⟨.arr n e,a,b,z⟩)(hE:ti P e=some ⟨.int k,1,y,z'⟩) :
  Ke P .eql t (.agg (rV (rI k) v)) (.agg (rV (rI k) w))=some (.bool (v==w)):=by
 show(Rz P 20 t _ _).map _=_
 rw [As6 (s:=0) hT hE]; rfl
theorem Ahd {y:Nat}{z':List AV}{v w:Vector Int n}(hT:ti P t=some ⟨.arr n e,a,b,z⟩)(hE:ti P e=some ⟨.int k,1,y,z'⟩) :
  Ke P .neq t (.agg (rV (rI k) v)) (.agg (rV (rI k) w))=some (.bool (!(v==w))):=by
 show(Rz P 20 t _ _).map _=_
 rw [As6 (s:=0) hT hE]; rfl
theorem Ae9 {α:Type}(E:α→AV) : ∀ (l:List α) (n:Nat),l.length=n→Jz 1 n (l.map E)=l.map fun x=>[E x]
 | [],n,h=>by subst h; rfl
 | a::l,n,h=>by
  subst h
  simp only [List.length_cons,Jz,List.map_cons,List.take_succ_cons,List.take_zero,List.drop_succ_cons,List.drop_zero]
  rw [Ae9 E l _ rfl]
theorem Ac7 {α:Type}{h:Ab}{e':α→List AV}{E:α→AV}{F:TI}{v:Vector α n}(he : ∀ x,e' x=[E x])(hf : ∀ x,(E x).flat=true)(hT:ti P t=some ⟨.arr n e,a,b,z⟩)(hE:ti P e=some F)(h1:F.size=1)(hn:Nat.ble n Bt=true:=by rfl) :
  Et P h t (.cp (rV e' v) 0) none none none=some (.sl 1 (List.map e' v.toList)):=by
 have hl:(rV e' v).length=n:=by rw [Qb he]; simp
 have hfl:(rV e' v).all AV.flat=true:=by
  rw [Qb he]
  simp only [List.all_map,List.all_eq_true]
  intro x _; exact hf x
 simp only [Et,hT,hE,h1,Nat.mul_one,Nat.zero_add,hl,hfl,Nat.le_refl,and_self,and_true,Nat.le_of_ble_eq_true hn,if_true,Ck,Nat.sub_zero,List.drop_zero]
 rw [Qb he,Ae9 E v.toList n (by simp)]
 congr 2
 exact List.map_congr_left fun x _=>(he x).symm
end
def An3 (h' h:Ab):Prop := ∀ o x,h' o=some x→h o=some x ∨ ∃ g st rs k,x=.rows g st (rs.take k)∧h o=some (.rows g st rs)
theorem An3.g {h' h:Ab}(hs:An3 h' h):Ahi h' h:=fun o x e=>by
 rcases hs o x e with h1 | ⟨g,st,rs,k,rfl,h1⟩
 ·exact⟨x,h1,rfl⟩
 ·exact⟨_,h1,rfl⟩
theorem Aqi {rs:List (List AV)}{k i j:Nat}(hi:i<k):cell (rs.take k) i j=cell rs i j:=by simp [cell,List.getD,List.getElem?_take,hi]
theorem Sim.subT {P:Program}[GW P]{B:Base P}{mu:Mu}{h h':Ab}{w:World}(s:Sim B mu h w)(hs:An3 h' h):Sim B mu h' w:=by
 refine⟨s.base,s.muOk,s.fin,?_,?_,?_,?_,s.glob,?_⟩
 ·obtain⟨N,hN⟩:=s.finh
  refine⟨N,fun o ho=>?_⟩
  cases hq:h' o with
  | none=>rfl
  | some x=>obtain⟨y,h1,_⟩:=hs.g o x hq; rw [hN o ho] at h1; cases h1
 ·intro o g st rs e
  rcases hs _ _ e with e' | ⟨g',st',rs',k,hx,e'⟩
  ·obtain⟨l,h1,h2,h3,h4,h5,h6⟩:=s.rows o g st rs e'
   exact⟨l,h1,h2,h3,h4,h5,fun i j hi hj=>let ⟨c,hc,hr⟩:=h6 i j hi hj; ⟨c,hc,hr.less (Ci.subG hs.g)⟩⟩
  ·cases hx
   obtain⟨l,h1,h2,h3,h4,h5,h6⟩:=s.rows o g st rs' e'
   have hle:(rs'.take k).length * st≤rs'.length * st:=Nat.mul_le_mul_right _ (by simp; omega)
   refine⟨l,h1,h2,h3,by omega,fun r hr=>h5 r (List.mem_of_mem_take hr),fun i j hi hj=>?_⟩
   have hi':i<k∧i<rs'.length:=by simp at hi; omega
   obtain⟨c,hc,hr⟩:=h6 i j hi'.2 hj
   rw [Aqi hi'.1]
   exact⟨c,hc,hr.less (Ci.subG hs.g)⟩
 ·intro o g es e
  rcases hs _ _ e with e' | ⟨_,_,_,_,hx,_⟩
  ·obtain⟨l,h1,h2,ens,clock,h3,h4,h5⟩:=s.maps o g es e'
   exact⟨l,h1,h2,ens,clock,h3,h4,fun i hi=>⟨(h5 i hi).1.less (Ci.subG hs.g),(h5 i hi).2.less (Ci.subG hs.g)⟩⟩
  ·cases hx
 ·intro o o' x x' l l' e e' h1 h2 hb
  obtain⟨y,k1,k2⟩:=hs.g o x e
  obtain⟨y',k1',k2'⟩:=hs.g o' x' e'
  exact s.inj o o' y y' l l' k1 k1' (by rw [k2]; exact h1) (by rw [k2']; exact h2) hb
 ·intro o g x e
  rcases hs _ _ e with e' | ⟨_,_,_,_,hx,_⟩
  ·exact s.blks o g x e'
  ·cases hx
section
variable {P:Program} [GW P] {f:FuncId} {n:Nat} {d:FK} {α β:Type} {Q:Spec β} {m:R β} {ds:List AD} {h h2:Ab} {u:AU} {k:List Item} {l:List (Nat×AV)} {all r:List Oper} {h0:Ab} {ids:List Nat} {xs:List (Option AO)} {N:Nat}
theorem Aq6 {Q:QT}{todo:List Item}{fr:Nat→AV}(hs:An3 h2 h)(hr:Ex P f n d todo fr ds h2 u Q):Ex P f n d todo fr ds h u Q:=by
 intro B mu w a cs p
 have e:=Da.subG (mu:=mu) (w:=w) hs.g
 exact(hr B mu w a cs ⟨p.size,fun t=>(p.fr t).ext e,p.ds.ext e,p.sim.subT hs,p.cs.ext e,p.rnd,p.fb⟩).ext e
theorem Ae5 {t j g st:Nat}{T et ty:TypeId}{pos:String}{after:Array Edge}{a b:Nat}{z:List AV}{E:TI}{L:List α}{e:α→List AV}{k1:IntKind}{i:Int}{x hi:Operand}{v:AV}
  (ht:Nat.blt t n=true) (hI:Ids h0 ids N) (hl:xs.length=N) (hjn:Nat.blt j N=true) (hx:ev (Ag l) x=v) (hv:Bp v (ix ids j) g L.length) (hj:xs[j]? = some (Bb v g st (L.map e))) (hh:ev (Ag l) hi=.int k1 i)
  (hT:ti P T=some ⟨.sl et,a,b,z⟩) (hE:ti P et=some E) (hs:st=E.size) (hc:0≤i∧i≤(L.length:Int))
  (hk : ∀ v',Bp v' (ix ids j) g (L.take i.toNat).length→WO P f n d Q k all m r (Ag ((t,v')::l)) ds (hp h0 ids (xs.set j (Bb v' g st ((L.take i.toNat).map e)))) u) :
  WO P f n d Q k all m (⟨some t,.slice T x none (some hi) none,ty,pos,after,none⟩::r) (Ag l) ds (hp h0 ids xs) u:=by
 have hjl:j<xs.length:=by rw [hl]; simpa using hjn
 rcases hv with⟨rfl,hn⟩ | rfl
 ·have hL:L=[]:=List.eq_nil_of_length_eq_zero hn
  subst hL
  have hi0:i=0:=by simp at hc; omega
  subst hi0
  refine Ax .emp ht ?_ ?_
  ·show Et P _ T (ev (Ag l) x) none (some (ev (Ag l) hi)) none=_
   rw [hx,hh]
   simp only [Et,hT,hE,Ck]
   rfl
  ·have:=hk .emp (.inl ⟨rfl,rfl⟩)
   have e:xs.set j (Bb .emp g st ((([]:List α).take (0:Int).toNat).map e))=xs:=by
    apply List.ext_getElem?
    intro q
    rw [List.getElem?_set]
    split
    ·rename_i hq; subst hq; rw [hj]; simp [hjl]
    ·rfl
   rwa [e] at this
 ·have hlen:(L.take i.toNat).length=i.toNat:=by simp; omega
  refine Ax (.ref (ix ids j) g 0 i.toNat) ht ?_ ?_
  ·show Et P _ T (ev (Ag l) x) none (some (ev (Ag l) hi)) none=_
   rw [hx,hh]
   have hat:hp h0 ids xs (ix ids j)=some (.rows g st (L.map e)):=Ae8 hI.nodup (hI.len.trans hl.symm) hj
   have hb:Ck (some (.int k1 i)) L.length L.length=some i.toNat:=by simp only [Ck]; rw [if_pos ⟨hc.1,hc.2⟩]
   simp only [Et,hT,hE,hb,hat,Ck,hs,Nat.zero_add,Nat.sub_zero]
   simp [hc.1,hc.2]
  ·have hk':=hk (.ref (ix ids j) g 0 i.toNat) (.inr (by rw [hlen]))
   intro hb q hq
   refine Aq6 (fun o y hy=>?_) (hk' hb q hq)
   rw [← Akq hI.nodup (hI.len.trans hl.symm) hjl] at hy
   simp only [upd] at hy
   split at hy
   ·rename_i ho
    subst ho
    refine .inr ⟨g,st,L.map e,i.toNat,?_,Ae8 hI.nodup (hI.len.trans hl.symm) hj⟩
    cases hy
    rw [List.map_take]
   ·exact .inl hy
end
section
variable {P:Program} [GW P] {f:FuncId} {n:Nat} {d:FK} {α β:Type} {Q:Spec β} {m:R β} {ds:List AD} {h:Ab} {u:AU} {k:List Item} {l:List (Nat×AV)} {all r:List Oper} {h0:Ab} {ids:List Nat} {xs:List (Option AO)} {N:Nat} {fr:Nat→AV}
theorem Agc {v:AV}{t:TypeId}{x:Operand}(hv:Aed P t (ev fr x)=some v):Dy P fr h (.call ⟨.builtin .cap,⟨[x]⟩,⟨[t]⟩⟩)=some v:=hv
theorem Ac4 {t et:TypeId}{a b:Nat}{z:List AV}(hT:ti P t=some ⟨.sl et,a,b,z⟩):Aed P t .emp=some (.int .i64 0):=by simp only [Aed,hT]
theorem Aml {t et:TypeId}{a b:Nat}{z:List AV}{E:TI}{kk:IntKind}(hT:ti P t=some ⟨.sl et,a,b,z⟩)(hE:ti P et=some E):Et P h t .emp none (some (.int kk 0)) none=some .emp:=by
 simp only [Et,hT,hE,Ck]; rfl
theorem Afw {e:α→List AV}{y:α}{i:Int}{st j t:Nat}{sT xT et ty:TypeId}{pos:String}{after:Array Edge}{a1 b1 a2 b2:Nat}{z1 z2:List AV}{E:TI}{s x:Operand}{kx k1:IntKind}(hI:Ids h0 ids N)(hl:xs.length=N)(hjn:Nat.blt j N=true)(ht:Nat.blt t n=true)
  (hs:ev (Ag l) s=.emp) (hx:ev (Ag l) x=.int k1 i) (hj:xs[j]? = some none)
  (hS:ti P sT=some ⟨.sl et,a1,b1,z1⟩) (hX:ti P xT=some ⟨.int kx,a2,b2,z2⟩) (hE:ti P et=some E) (hz:E.z=e y) (hfl:E.z.all AV.flat=true) (hst:st=E.size) (hsz:Nat.blt 0 E.size=true) (hby:Nat.blt 0 E.bytes=true) (hlim:0<i∧i.toNat * E.bytes≤Bt)
  (hk : ∀ v' g',Bp v' (ix ids j) g' (List.replicate i.toNat y).length→WO P f n d Q k all m r (Ag ((t,v')::l)) ds (hp h0 ids (xs.set j (Bb v' g' st ((List.replicate i.toNat y).map e)))) u) :
  WO P f n d Q k all m (⟨some t,.call ⟨.builtin .append,⟨[s,x]⟩,⟨[sT,xT]⟩⟩,ty,pos,after,none⟩::r) (Ag l) ds (hp h0 ids xs) u:=
 K6 ht (fun _ _=>rfl) fun K hK=>by
  have hsz':0<E.size:=by simpa using hsz
  have hby':0<E.bytes:=by simpa using hby
  simp only [C5,Jp,E4,List.map]
  refine .inr (.inl ⟨hs,k1,i,hx,?_⟩)
  simp only [Si,hS,hX,hE]
  refine⟨hsz',hby',hfl,hlim.1,hlim.2,Jh (ix ids j) (hI.at hl hj) fun g'=>?_⟩
  rw [hI.set hl hjn]
  have:=hk (.ref (ix ids j) g' 0 i.toNat) g' (.inr (by simp))
  simp only [Bb,List.map_replicate] at this
  rw [← hst,hz]
  exact hK _ _ this
theorem An2 {t:Nat}{T et ty:TypeId}{pos:String}{after:Array Edge}{a b st:Nat}{z:List AV}{E:TI}{L:List α}{e:α→List AV}{k0 k1 k2:IntKind}{lo hi:Int}{x xl xh xm:Operand}
  (ht:Nat.blt t n=true) (hx:ev (Ag l) x=.sl st (L.map e)) (h0':ev (Ag l) xl=.int k0 lo) (hh:ev (Ag l) xh=.int k1 hi) (hm:ev (Ag l) xm=.int k2 hi) (hT:ti P T=some ⟨.sl et,a,b,z⟩) (hE:ti P et=some E) (hs:st=E.size) (hc:0≤lo∧lo≤hi∧hi≤(L.length:Int))
  (hk:WO P f n d Q k all m r (Ag ((t,.sl st ((cut L lo hi).map e))::l)) ds h u):WO P f n d Q k all m (⟨some t,.slice T x (some xl) (some xh) (some xm),ty,pos,after,none⟩::r) (Ag l) ds h u:=by
 by_cases hp:hi=0
 ·subst hp
  have hl0:lo=0:=by omega
  subst hl0
  have hcut:cut L 0 0=[]:=by simp [cut]
  rw [hcut] at hk
  refine Ax .emp ht ?_ ?_
  ·show Et P h T (ev (Ag l) x) (some (ev (Ag l) xl)) (some (ev (Ag l) xh)) (some (ev (Ag l) xm))=_
   rw [hx,h0',hh,hm]
   simp only [Et,hT,hE]
  ·intro hb i hi'
   refine Wn (G4.refl _) (fun s=>?_) rfl rfl (hk hb i hi')
   simp only [Ag]
   cases hq:Nat.beq s t with
   | true=>exact .emp _
   | false=>exact .same _
 ·refine Ax (.slx st ((cut L lo hi).map e)) ht ?_ ?_
  ·show Et P h T (ev (Ag l) x) (some (ev (Ag l) xl)) (some (ev (Ag l) xh)) (some (ev (Ag l) xm))=_
   rw [hx,h0',hh,hm]
   unfold Et
   simp only [hT,hE]
   split
   ·rename_i q0 q1 q2; cases q0
   ·rename_i q0 q1 q2; cases q1; exact absurd rfl hp
   ·rename_i q0 q1 q2 _ _
    cases q1; cases q2
    cases q0
    rw [if_pos ⟨hs,by omega,Int.le_refl _,by simpa using hc.2.2⟩]
    have hb:Ck (some (.int k0 lo)) 0 hi.toNat=some lo.toNat:=by simp only [Ck]; rw [if_pos ⟨hc.1,by omega⟩]
    simp only [hb,if_true]
    congr 1
    simp [cut,List.map_drop,List.map_take]
   ·rename_i q _ _
    exact(q _ _ _ _ _ rfl rfl rfl).elim
  ·intro hb i hi'
   refine Wn (G4.refl _) (fun s=>?_) rfl rfl (hk hb i hi')
   simp only [Ag]
   cases hq:Nat.beq s t with
   | true=>exact .slx _ _
   | false=>exact .same _
end
section
variable {P:Program} [GW P] {f:FuncId} {n:Nat} {d:FK} {β:Type} {Q:Spec β} {m:R β} {ds:List AD} {h:Ab} {u:AU} {k:List Item} {fr:Nat→AV}
theorem All {b:Frame}{a:Act}{cs:List Frame}{w:World}{c:Code}:step P (lone (b.atR a (.code (.scope c)::k)) cs w)=.next (lone (b.atR a (.code c::.inScope c::k)) cs w):=step_lone_go (by simp [stepG,stepG.exec,Frame.atR])
theorem Ajr {c:Code}(hr:WR P f n d Q m (.code c::.inScope c::k) fr ds h u):WR P f n d Q m (.code (.scope c)::k) fr ds h u:=fun hb=>Oo (fun _ _ _=>All) (hr hb)
theorem Akx {l:Nat}(hr:WR P f n d Q m k fr ds h u):WR P f n d Q m (.code (.label l)::k) fr ds h u:=fun hb=>Oo (fun _ _ _=>stepR_label) (hr hb)
end
def R1 {α:Type}{n:Nat}(v:Vector α n)(c:Nat)(l:List α):Vector α n:=Vector.ofFn fun i=>if c≤i.val then l.getD (i.val - c) v[i] else v[i]
theorem Alo {α:Type}{n:Nat}(v:Vector α n)(c:Nat)(l:List α)(h:c+l.length≤n):(R1 v c l).toList=v.toList.take c++(l++v.toList.drop (c+l.length)):=by
 apply List.ext_getElem (by simp; omega)
 intro i h1 h2
 have hi:i<n:=by simpa using h1
 simp only [R1,Vector.getElem_toList,Vector.getElem_ofFn]
 split
 ·rename_i hc
  rw [List.getElem_append_right (by simp; omega)]
  simp only [List.length_take,Vector.length_toList,Nat.min_eq_left (show c≤n by omega)]
  by_cases hil:i - c<l.length
  ·rw [List.getElem_append_left hil]; simp [List.getD,hil]
  ·rw [List.getElem_append_right (by omega)]
   simp only [List.getElem_drop,Vector.getElem_toList]
   simp only [List.getD,List.getElem?_eq_none (show l.length≤i - c by omega),Option.getD_none]
   show v[i]=_
   congr 1
   omega
 ·rename_i hc
  rw [List.getElem_append_left (by simp; omega)]
  simp
theorem Asp {α:Type}{n c:Nat}{e:α→List AV}{E:α→AV}{v:Vector α n}{l:List α}(he : ∀ x,e x=[E x])(h:c+l.length≤n):putCells (rV e v) c ((l.map e).map (·.getD 0 .und))=rV e (R1 v c l):=by
 rw [Qb he,Qb he,Alo _ _ _ h]
 have h1:(l.map e).map (·.getD 0 .und)=l.map E:=by simp [he]
 rw [h1]
 simp [putCells,List.map_take,List.map_drop]
section
variable {P:Program} [GW P] {f:FuncId} {n:Nat} {d:FK} {α β:Type} {Q:Spec β} {m:R β} {ds:List AD} {h:Ab} {u:AU} {k:List Item} {l:List (Nat×AV)} {all r:List Oper} {h0:Ab} {ids:List Nat} {xs:List (Option AO)} {N:Nat} {fr:Nat→AV} {j g:Nat}
theorem Ahh {t e:TypeId}{q a1 b1:Nat}{z:List AV}{F:TI}{row:List AV}{lo hi:Option AV}{a b:Nat}(hI:Ids h0 ids N)(hl:xs.length=N)(hj:xs[j]? = some (some (.rows g q [row])))(hT:ti P t=some ⟨.arr q e,a1,b1,z⟩)(hE:ti P e=some F)(h1:F.size=1)
  (hb:Ck hi q q=some b) (ha:Ck lo 0 b=some a) (hn:Nat.ble q Bt=true:=by rfl) (ha0:(Nat.beq a 0||Nat.blt a q)=true:=by rfl) :
  Et P (hp h0 ids xs) t (.ptr (ix ids j) g 0 0) lo hi none=some (.refc (ix ids j) g 0 a (b - a) (q - a)):=by
 have hat:hp h0 ids xs (ix ids j)=some (.rows g q [row]):=hI.at hl hj
 have ha0':a=0∨a<q:=by simpa using ha0
 simp only [Et,hT,hE,hb,ha,hat]
 rw [if_pos ⟨trivial,h1,Nat.le_of_ble_eq_true hn,by simp,by omega,ha0'⟩]
 simp
theorem Aje {q c len cap:Nat}{e:α→List AV}{E:α→AV}{v:Vector α q}{b:Bool}(he : ∀ x,e x=[E x])(ho:h j=some (.rows g q [rV e v]))(hf:Nat.ble (c+len) q=true) :
    Fx P h 1 b (.refc j g 0 c len cap)=some (((v.toList.drop c).take len).map e):=by
  have hf':c+len≤q:=Nat.le_of_ble_eq_true hf
  unfold Fx
  simp only [ho]
  rw [if_pos ⟨trivial,trivial,by simp,hf'⟩]
  congr 1
  simp only [List.getD_cons_zero]
  rw [Qb he,← List.map_drop]
  have key : ∀ (l:List α) (k:Nat),k≤l.length→Jz 1 k (l.map E)=(l.take k).map e:=by
    intro l
    induction l with
    | nil => intro k hk; have : k = 0 := by simpa using hk
             subst this; rfl
    | cons a l ih=>
      intro k hk
      cases k with
      | zero=>rfl
      | succ k=>simp only [Jz,List.map_cons,List.take_succ_cons,List.take_zero,List.drop_succ_cons,List.drop_zero,he]; rw [ih k (by simpa using hk)]
  exact key _ _ (by simp; omega)
theorem Ald {q:Nat}{e:α→List AV}{E1:α→AV}{v:Vector α q}{L2:List α}{j2:Nat}{sT xT et:TypeId}{a1 b1 a2 b2:Nat}{z1 z2:List AV}{E:TI}{s x:Operand}{K2:TK}{K:AV→Ab→Prop}(he : ∀ x,e x=[E1 x])(hI:Ids h0 ids N)(hl:xs.length=N)(hjn:Nat.blt j2 N=true)
  (hs:ev fr s=.refc (ix ids j) g 0 0 q q) (hj:xs[j]? = some (some (.rows g q [rV e v]))) (hj2:xs[j2]? = some none)
  (hxv:Fx P (hp h0 ids xs) E.size (decide (E.k=.int .u8)) (ev fr x)=some (L2.map e))
  (hS:ti P sT=some ⟨.sl et,a1,b1,z1⟩) (hX:ti P xT=some ⟨K2,a2,b2,z2⟩) (hK2:K2.many=true) (hE:ti P et=some E) (hst:E.size=1) (hby:Nat.blt 0 E.bytes=true) (hlim:L2.length≠0∧(q+L2.length) * E.bytes≤Bt)
  (hk : ∀ v' g',Bp v' (ix ids j2) g' (v.toList++L2).length→K v' (hp h0 ids (xs.set j2 (Bb v' g' 1 ((v.toList++L2).map e))))) :
  C5 P fr (hp h0 ids xs) (.call ⟨.builtin .append,⟨[s,x]⟩,⟨[sT,xT]⟩⟩) K:=by
 have hby':0<E.bytes:=by simpa using hby
 have hsrc:Fx P (hp h0 ids xs) E.size false (.refc (ix ids j) g 0 0 q q)=some (v.toList.map e):=by
  rw [hst,Aje he (hI.at hl hj) (by simp),List.drop_zero,List.take_of_length_le (by simp)]
 rw [hst] at hxv hsrc
 simp only [C5,Jp,E4,List.map]
 refine .inl ?_
 simp only [Nx,hS,hX,hE,hs,hxv,hK2,hby',true_and,hsrc,hst,Nat.lt_one_iff,List.length_map]
 refine⟨by omega,hlim.2,Jh (ix ids j2) (hI.at hl hj2) fun g'=>?_⟩
 rw [hI.set hl hjn]
 have:=hk (.ref (ix ids j2) g' 0 (q+L2.length)) g' (.inr (by simp))
 simp only [Bb,List.map_append] at this
 exact this
theorem Anw {q:Nat}{e:α→List AV}{E1:α→AV}{v:Vector α q}{L2:List α}{j2 t:Nat}{sT xT et ty:TypeId}{pos:String}{after:Array Edge}{a1 b1 a2 b2:Nat}{z1 z2:List AV}{E:TI}{s x:Operand}{K2:TK}(he : ∀ x,e x=[E1 x])(hI:Ids h0 ids N)(hl:xs.length=N)(hjn:Nat.blt j2 N=true)(ht:Nat.blt t n=true)
  (hs:ev (Ag l) s=.refc (ix ids j) g 0 0 q q) (hj:xs[j]? = some (some (.rows g q [rV e v]))) (hj2:xs[j2]? = some none)
  (hxv:Fx P (hp h0 ids xs) E.size (decide (E.k=.int .u8)) (ev (Ag l) x)=some (L2.map e))
  (hS:ti P sT=some ⟨.sl et,a1,b1,z1⟩) (hX:ti P xT=some ⟨K2,a2,b2,z2⟩) (hK2:K2.many=true) (hE:ti P et=some E) (hst:E.size=1) (hby:Nat.blt 0 E.bytes=true) (hlim:L2.length≠0∧(q+L2.length) * E.bytes≤Bt)
  (hk : ∀ v' g',Bp v' (ix ids j2) g' (v.toList++L2).length→WO P f n d Q k all m r (Ag ((t,v')::l)) ds (hp h0 ids (xs.set j2 (Bb v' g' 1 ((v.toList++L2).map e)))) u) :
  WO P f n d Q k all m (⟨some t,.call ⟨.builtin .append,⟨[s,x]⟩,⟨[sT,xT]⟩⟩,ty,pos,after,none⟩::r) (Ag l) ds (hp h0 ids xs) u:=
 K6 ht (fun _ _=>rfl) fun K hK=>Ald he hI hl hjn hs hj hj2 hxv hS hX hK2 hE hst hby hlim fun v' g' hv'=>hK _ _ (hk v' g' hv')
theorem Ahn {q c len cap:Nat}{e:α→List AV}{E1:α→AV}{v:Vector α q}{L:List α}{dT xT et:TypeId}{a1 b1:Nat}{z1:List AV}{E:TI}{dd x:Operand}{K:AV→Ab→Prop}(he : ∀ x,e x=[E1 x])(hI:Ids h0 ids N)(hl:xs.length=N)(hjn:Nat.blt j N=true)
  (hd:ev fr dd=.refc (ix ids j) g 0 c len cap) (hj:xs[j]? = some (some (.rows g q [rV e v]))) (hxv:Fx P (hp h0 ids xs) E.size false (ev fr x)=some (L.map e))
  (hT:ti P dT=some ⟨.sl et,a1,b1,z1⟩) (hE:ti P et=some E) (h1:E.size=1) (hf:Nat.ble (c+len) q=true) (hle:L.length≤len)
  (hk:K (.int .i64 (L.length:Int)) (hp h0 ids (xs.set j (some (.rows g q [rV e (R1 v c L)]))))) :
  C5 P fr (hp h0 ids xs) (.call ⟨.builtin .copy,⟨[dd,x]⟩,⟨[dT,xT]⟩⟩) K:=by
 have hf':c+len≤q:=Nat.le_of_ble_eq_true hf
 have hat:hp h0 ids xs (ix ids j)=some (.rows g q [rV e v]):=hI.at hl hj
 rw [h1] at hxv
 simp only [C5,Jp,E4,List.map]
 simp only [Aaj,hT,hE,hxv,hd,h1,hat,List.length_map,true_and]
 refine⟨hle,by simp,hf',?_⟩
 rw [hI.set hl hjn]
 simp only [List.getD_cons_zero,List.set_cons_zero]
 rw [Asp he (by omega)]
 exact hk
theorem Asi {q c len cap t:Nat}{e:α→List AV}{E1:α→AV}{v:Vector α q}{L:List α}{dT xT et ty:TypeId}{pos:String}{after:Array Edge}{a1 b1:Nat}{z1:List AV}{E:TI}{dd x:Operand}(he : ∀ x,e x=[E1 x])(hI:Ids h0 ids N)(hl:xs.length=N)(hjn:Nat.blt j N=true)(ht:Nat.blt t n=true)
  (hd:ev (Ag l) dd=.refc (ix ids j) g 0 c len cap) (hj:xs[j]? = some (some (.rows g q [rV e v]))) (hxv:Fx P (hp h0 ids xs) E.size false (ev (Ag l) x)=some (L.map e))
  (hT:ti P dT=some ⟨.sl et,a1,b1,z1⟩) (hE:ti P et=some E) (h1:E.size=1) (hf:Nat.ble (c+len) q=true) (hle:L.length≤len)
  (hk:WO P f n d Q k all m r (Ag ((t,.int .i64 (L.length:Int))::l)) ds (hp h0 ids (xs.set j (some (.rows g q [rV e (R1 v c L)])))) u) :
  WO P f n d Q k all m (⟨some t,.call ⟨.builtin .copy,⟨[dd,x]⟩,⟨[dT,xT]⟩⟩,ty,pos,after,none⟩::r) (Ag l) ds (hp h0 ids xs) u:=
 K6 ht (fun _ _=>rfl) fun K hK=>Ahn he hI hl hjn hd hj hxv hT hE h1 hf hle (hK _ _ hk)
theorem Ao9 {q c len cap:Nat}{e:α→List AV}{E1:α→AV}{v:Vector α q}{b:Bool}{E:TI}(he : ∀ x,e x=[E1 x])(h1:E.size=1)(ho:h j=some (.rows g q [rV e v]))(hf:Nat.ble (c+len) q=true) :
  Fx P h E.size b (.refc j g 0 c len cap)=some (((v.toList.drop c).take len).map e):=by rw [h1]; exact Aje he ho hf
theorem Asb {q nn t:Nat}{e:α→List AV}{E1:α→AV}{y:α}{sT et ty:TypeId}{pos:String}{after:Array Edge}{a1 b1:Nat}{z1:List AV}{E:TI}{ln cp:Operand}{ki kc:IntKind}(he : ∀ x,e x=[E1 x])(hI:Ids h0 ids N)(hl:xs.length=N)(hjn:Nat.blt j N=true)(hj:xs[j]? = some none)(ht:Nat.blt t n=true)
  (hS:ti P sT=some ⟨.sl et,a1,b1,z1⟩) (hE:ti P et=some E) (h1:ev (Ag l) ln=.int ki (nn:Int)) (h2:ev (Ag l) cp=.int kc (q:Int)) (hle:Nat.ble nn q=true) (hlim:Nat.ble (q * E.bytes) Bt=true) (hs1:E.size=1) (hby:Nat.blt 0 E.bytes=true) (hz:E.z=e y) (hfl:E.z.all AV.flat=true)
  (hk : ∀ g',WO P f n d Q k all m r (Ag ((t,.refc (ix ids j) g' 0 0 nn q)::l)) ds (hp h0 ids (xs.set j (some (.rows g' q [rV e (B0 q y)])))) u) :
  WO P f n d Q k all m (⟨some t,.makeSlice sT ln cp,ty,pos,after,none⟩::r) (Ag l) ds (hp h0 ids xs) u:=
 K6 ht (fun _ _=>rfl) fun K hK=>by
  have hby':0<E.bytes:=by simpa using hby
  have hle':nn≤q:=Nat.le_of_ble_eq_true hle
  have hlim':q * E.bytes≤Bt:=Nat.le_of_ble_eq_true hlim
  simp only [C5,U0,hS,hE,h1,h2]
  refine⟨by omega,hby',hfl,by omega,by omega,by simpa using hlim',.inr ⟨hs1,Jh (ix ids j) (hI.at hl hj) fun g'=>?_⟩⟩
  rw [hI.set hl hjn]
  have hg:E.z.getD 0 .und=E1 y:=by rw [hz,he]; rfl
  rw [hg]
  have:=hk g'
  rw [Hf he] at this
  simpa using hK _ _ this
theorem Ao1 {t et:TypeId}{a1 b1 o r len cap:Nat}{z:List AV}{E:TI}{kk:IntKind}{i:Int}(hT:ti P t=some ⟨.sl et,a1,b1,z⟩)(hE:ti P et=some E)(h1:E.size=1)(hi:0≤i∧i<(len:Int)):Dl P h t (.refc o g r 0 len cap) (.int kk i)=some (.ptr o g r i.toNat):=by
 simp only [Dl,hT,hE]
 rw [if_pos ⟨h1,hi.1,hi.2⟩,Nat.zero_add]
theorem Un {t et:TypeId}{a1 b1 o r c len cap:Nat}{z:List AV}(hT:ti P t=some ⟨.sl et,a1,b1,z⟩):Sl P h t (.refc o g r c len cap)=some (.int .i64 (len:Int)):=by simp only [Sl,hT]
theorem Aha {t et:TypeId}{a1 b1 o r c len cap:Nat}{z:List AV}{E:TI}{lo hi:Option AV}{a b:Nat}(hT:ti P t=some ⟨.sl et,a1,b1,z⟩)(hE:ti P et=some E)(h1:E.size=1)(hb:Ck hi len cap=some b)(ha:Ck lo 0 b=some a)(hle:len≤cap)(h0':a=0∨a<cap) :
  Et P h t (.refc o g r c len cap) lo hi none=some (.refc o g r (c+a) (b - a) (cap - a)):=by
 simp only [Et,hT,hE,hb,ha]
 rw [if_pos ⟨h1,hle,h0'⟩]
theorem Ag9 {kk:IntKind}{i:Int}{x y:Nat}(h:0≤i∧i≤(y:Int)):Ck (some (.int kk i)) x y=some i.toNat:=by simp only [Ck]; rw [if_pos h]
theorem Ag7 {x y:Nat}:Ck none x y=some x:=rfl
end
end Go.Am
namespace Go.Am
open Go
open Go.ChangeShapes Go.WideShapes Go.WideElems
set_option linter.unusedSimpArgs false
set_option linter.unusedVariables false
set_option linter.unusedSectionVars false
def Ae1:AV→Option Value
 | .int k n=>some (.int k n)
 | .bool b=>some (.bool b)
 | .nilf=>some .nilFunc
 | .func (.func k) [] []=>some (.func (.func k) #[] #[])
 | _=>none
theorem Apo {v:AV}{x:Value}(h:Ae1 v=some x)(w:World)(mu:Mu)(M:Nat→Prop):Rv w mu M v x:=by
 unfold Ae1 at h
 split at h <;> cases h
 ·exact .int _ _
 ·exact .bool _
 ·exact .nilf
 ·exact .func _ [] [] [] [] rfl rfl (fun i hi=>by simp at hi) (fun i hi=>by simp at hi)
def U7 (w:World)(g:Nat)(row:List AV):Prop := ∀ j,j<row.length → ∃ x,Ae1 (row.getD j .und)=some x∧w.cell? ⟨g,j,none⟩=some x
theorem U7.keep {w w':World}{m g:Nat}{row:List AV}(k:U7 w g row)(hg:g<m)(e : ∀ b,b<m→w'.heap[b]? = w.heap[b]?):U7 w' g row:=fun j hj=>by
 obtain⟨x,h1,h2⟩:=k j hj
 exact⟨x,h1,by rw [cell?_of_heap (w:=w) (a:=⟨g,j,none⟩) (e g hg)]; exact h2⟩
theorem U7.rv {w:World}{g:Nat}{row:List AV}(k:U7 w g row)(mu:Mu)(M:Nat→Prop) : ∀ j,j<row.length → ∃ x,w.cell? ⟨g,j,none⟩=some x∧Rv w mu M (row.getD j .und) x:=fun j hj=>by
 obtain⟨x,h1,h2⟩:=k j hj
 exact⟨x,h2,Apo h1 _ _ _⟩
theorem Yh {P:Program}{W:World}{name:String}{g j:Nat}{cs:Array Value}{x:Value}(hg:P.globalNamed name=some g)(h:W.var? P name=some cs)(hx:cs[j]? = some x):W.cell? ⟨g,j,none⟩=some x:=by
 unfold World.var? at h
 rw [hg] at h
 simp only [Option.bind_some] at h
 split at h
 ·rename_i cells e f hb
  cases h
  unfold World.cell?
  rw [hb]
  simpa using hx
 ·cases h
theorem Am1 {P:Program}{W:World}{name:String}{k:IntKind}{zs:List Int}{g:Nat}(hg:P.globalNamed name=some g)(h:Lib.TabIs P W name k zs):U7 W g (zs.map (.int k)):=fun j hj=>by
 rw [List.length_map] at hj
 refine⟨.int k zs[j],by simp [List.getD,hj,Ae1],Yh hg h ?_⟩
 simp [hj]
def Aip:Option (S2×FuncId)→AV
 | none=>.nilf
 | some x=>.func (.func x.2) [] []
def Afd:Option (S2×FuncId)→DataW (List UInt8)
 | none=>.nil
 | some x=>.held x.1
def Av7 (P:Program)(l:List (Option (S2×FuncId))):Bool:=l.all fun
 | none=>true
 | some x => !x.1.isEmpty&&((List.range P.funcs.size).filter fun f=>(P.funcs[f]?).any (·.name.toUTF8.data.toList==x.1))==[x.2]
theorem At0 {P:Program}{W:World}{name:String}{d:DataW Unit}{l:List (Option (S2×FuncId))}{g:Nat}{t e:TypeId}{n:Nat}{ps rs:Array TypeId}{va:Bool}(h:funcsAt P W name d)(hd:d.funcsOut=.agg (l.map Afd))(hg:P.globalNamed name=some g)(hty:(P.globals[g]?).map (·.type)=some t)
  (ht:P.underlying t=some (.array n e)) (he:P.underlying e=some (.func ps rs va)) (hce:P.cellsOf e=1) (hct:P.cellsOf t=n) (hok:Av7 P l=true):U7 W g (l.map Aip):=by
 obtain⟨g',t',cs,fuel,p,hg',ht',hvar,hr⟩:=h
 obtain rfl:=Option.some.inj (hg.symm.trans hg')
 obtain rfl:=Option.some.inj (hty.symm.trans ht')
 rw [hd] at hr
 cases fuel with
 | zero=>simp [DataW.trod] at hr
 | succ fuel=>
  simp only [DataW.trod,ht,hce,hct,Nat.mul_one] at hr
  split at hr
  ·rename_i hl
   obtain⟨xs,hm,hx⟩:=Option.map_eq_some_iff.1 hr
   have hxs:xs.map (·.1)=l.map Afd:=by
    have:=congrArg Prod.fst hx
    simpa using this
   have hxl:xs.length=n:=by simpa using Lib.mapM_length hm
   have hll:l.length=n:=by
    have:=congrArg List.length hxs
    simp at this
    omega
   intro j hj
   rw [List.length_map] at hj
   obtain⟨b,hb,hf⟩:=Lib.mapM_at hm j j (List.getElem?_range (by omega))
   have h2:(xs.map (·.1))[j]? = some b.1:=by rw [List.getElem?_map,hb]; rfl
   rw [hxs] at h2
   have hlj:l[j]? = some l[j]:=List.getElem?_eq_getElem hj
   rw [List.getElem?_map,hlj] at h2
   replace h2:Afd l[j]=b.1:=Option.some.inj h2
   obtain⟨v,hv⟩ : ∃ v,cs.toList[j]? = some v:=⟨_,List.getElem?_eq_getElem (by omega)⟩
   have hone:(cs.toList.drop j).take 1=[v]:=by
    apply List.ext_getElem?
    intro i
    rw [List.getElem?_take,List.getElem?_drop]
    cases i with
    | zero=>simpa using hv
    | succ i=>simp
   rw [hone] at hf
   have hcs:cs[j]? = some v:=by simpa using hv
   have hget:(l.map Aip).getD j .und=Aip l[j]:=by simp [List.getD,hj]
   rw [hget]
   have hokj:=List.all_eq_true.1 hok l[j] (List.getElem_mem hj)
   obtain⟨b1,b2⟩:=b
   simp only at h2
   subst h2
   generalize l[j]=y at hf hokj
   cases y with
   | none=>
    cases fuel with
    | zero=>simp [DataW.trod] at hf
    | succ fuel=>
     refine⟨.nilFunc,rfl,Yh hg hvar ?_⟩
     rw [hcs]
     simp only [DataW.trod,he,Afd] at hf
     cases v <;> simp at hf
     rfl
   | some y=>
    obtain⟨y1,y2⟩:=y
    simp only [Bool.and_eq_true,beq_iff_eq,Bool.not_eq_true'] at hokj
    cases y1 with
    | nil=>simp at hokj
    | cons b0 r0=>
     have:=func_of_trod he hokj.2 hf
     subst this
     exact⟨_,rfl,Yh hg hvar hcs⟩
  ·cases hr
section
variable {P:Program} [GW P] {h:Ab} {t et:TypeId} {a b:Nat} {z:List AV} {E:TI} {k:IntKind} {g m:Nat} {row:List AV}
theorem Akb {i:Nat}(hr:GW.row P g=some row)(hT:ti P t=some ⟨.arr m et,a,b,z⟩)(hE:ti P et=some E)(h1:E.size=1)(hi:i<m):Dl P h t (.gptr ⟨g,0,none⟩) (.int k (i:Int))=some (.cp row i):=by
 simp only [Dl,hT,hE,h1,hr]
 rw [if_pos ⟨Int.natCast_nonneg _,by omega⟩]
 simp
theorem Yp {i:Int}(j:Nat)(hr:GW.row P g=some row)(hT:ti P t=some ⟨.arr m et,a,b,z⟩)(hE:ti P et=some E)(h1:E.size=1)(hi:i=(j:Int))(hj:Nat.blt j m=true):Dl P h t (.gptr ⟨g,0,none⟩) (.int k i)=some (.cp row j):=by
 subst hi
 exact Akb hr hT hE h1 (by simpa using hj)
end
end Go.Am
namespace Go.Am
open Go
set_option linter.unusedSimpArgs false
set_option linter.unusedVariables false
set_option linter.unusedSectionVars false
section
variable {P:Program} [GW P] {h:Ab} {h0:Ab} {ids:List Nat} {xs:List (Option AO)} {N:Nat} {j g:Nat}
theorem Ajz {t et:TypeId}{a1 b1 o r c len cap:Nat}{z:List AV}{E:TI}{kk:IntKind}{i:Int}(hT:ti P t=some ⟨.sl et,a1,b1,z⟩)(hE:ti P et=some E)(h1:E.size=1)(hi:0≤i∧i<(len:Int)):Dl P h t (.refc o g r c len cap) (.int kk i)=some (.ptr o g r (c+i.toNat)):=by
 simp only [Dl,hT,hE]
 rw [if_pos ⟨h1,hi.1,hi.2⟩]
theorem As4 {c len q:Nat}{i:Int}(hi:0≤i∧i<(len:Int))(hf:c+len≤q):c+i.toNat<q:=by omega
theorem Amk {t e:TypeId}{q a1 b1 k:Nat}{z:List AV}{F:TI}{row:List AV}{lo hi:Int}{k1 k2:IntKind}(hI:Ids h0 ids N)(hl:xs.length=N)(hj:xs[j]? = some (some (.rows g q [row])))(hT:ti P t=some ⟨.arr q e,a1,b1,z⟩)(hE:ti P e=some F)(h1:F.size=1)
  (hk:hi=lo+(k:Int)) (hb:0≤lo∧lo+(k:Int)≤(q:Int)) (k0:Nat.blt 0 k=true:=by rfl) (hn:Nat.ble q Bt=true:=by rfl) :
  Et P (hp h0 ids xs) t (.ptr (ix ids j) g 0 0) (some (.int k1 lo)) (some (.int k2 hi)) none=some (.refc (ix ids j) g 0 lo.toNat k (q - lo.toNat)):=by
 have hat:hp h0 ids xs (ix ids j)=some (.rows g q [row]):=hI.at hl hj
 have k0':0<k:=by simpa using k0
 subst hk
 have e1:Ck (some (.int k2 (lo+(k:Int)))) q q=some (lo+(k:Int)).toNat:=by simp only [Ck]; rw [if_pos ⟨by omega,hb.2⟩]
 have e2:Ck (some (.int k1 lo)) 0 (lo+(k:Int)).toNat=some lo.toNat:=by simp only [Ck]; rw [if_pos ⟨hb.1,by omega⟩]
 simp only [Et,hT,hE,e1,e2,hat]
 rw [if_pos ⟨trivial,h1,Nat.le_of_ble_eq_true hn,by simp,by omega,by omega⟩]
 congr 2 <;> omega
theorem Aqg {lo:Int}{k q:Nat}(hb:0≤lo∧lo+(k:Int)≤(q:Int)):lo.toNat+k≤q:=by omega
theorem Amt {h2:Ab}{α:Type}{o q c len cap:Nat}{e:α→List AV}{E:α→AV}{v:Vector α q}(he : ∀ x,e x=[E x])(hf : ∀ x,(E x).flat=true)(h1:h o=some (.rows g q [rV e v]))(h2':h2 o=none)(hfit:c+len≤q) :
  Fz h h2 (.refc o g 0 c len cap) (.sl 1 (((v.toList.drop c).take len).map e)):=by
 have e1:(((v.toList.drop c).take len).map e)=((((v.toList.drop c).take len).map E).map fun v=>[v]):=by
  rw [List.map_map]; exact List.map_congr_left fun x _=>he x
 rw [e1]
 refine Fz.refc o g 0 c len cap q [rV e v] _ h1 h2' (by simp) hfit (by simp; omega) (fun x hx=>?_) (fun j hj=>?_)
 ·obtain⟨y,_,rfl⟩:=List.mem_map.1 hx; exact hf y
 ·have:cell [rV e v] 0 (c+j)=(((v.toList.drop c).take len).map E).getD j .und:=by
   rw [Qb he]
   have hlen:v.toList.length=q:=by simp
   have hb:c+j<v.toList.length:=by omega
   simp [cell,List.getD,List.getElem?_take,hj,List.getElem?_drop,List.getElem?_eq_getElem hb]
  rw [this]; exact .same _
theorem Alz {α:Type}{t et:TypeId}{m i a b:Nat}{z:List AV}{E':TI}{e:α→List AV}{E:α→AV}{v:Vector α m}{k:IntKind}(he : ∀ x,e x=[E x])(hT:ti P t=some ⟨.arr m et,a,b,z⟩)(hE:ti P et=some E')(h1:E'.size=1)(hg:E'.k.agg=false)(hi:i<m)(y:α):Td P t (.agg (rV e v)) (.int k (i:Int))=some (E (A2 v i y)):=by
 simp only [Td,hT,hE,h1,hg]
 rw [if_pos ⟨Int.natCast_nonneg _,by omega⟩]
 simpa using Fh he hi y
def slx0 (st:Nat)(rows:List (List AV)):AV:=match rows with | []=>.emp | _::_=>.slx st rows
theorem Aiv {α:Type}{t et:TypeId}{a b st:Nat}{z:List AV}{E:TI}{L:List α}{e:α→List AV}{k k':IntKind}{i:Int}(hT:ti P t=some ⟨.sl et,a,b,z⟩)(hE:ti P et=some E)(hs:st=E.size)(hc:0≤i∧i≤(L.length:Int)) :
  Et P h t (.sl st (L.map e)) none (some (.int k i)) (some (.int k' i))=some (slx0 st ((L.take i.toNat).map e)):=by
 by_cases hp:i=0
 ·subst hp
  rw [Arx hT hE]; rfl
 ·rw [Atz hT hE hs hc hp]
  cases L with
  | nil=>simp at hc; omega
  | cons x l=>
   obtain⟨n,hn⟩ : ∃ n,i.toNat=n+1:=⟨i.toNat - 1,by omega⟩
   rw [hn]; rfl
theorem Agp {h2:Ab}{st:Nat}{rows:List (List AV)}:Fz h h2 (slx0 st rows) (.sl st rows):=by
 cases rows with
 | nil=>exact .emp _
 | cons r l=>exact .slx _ _
end
end Go.Am
namespace Go.Am
open Go
set_option linter.unusedSimpArgs false
set_option linter.unusedVariables false
set_option linter.unusedSectionVars false
structure ObjSt {σ:Type}(StO:Ab→σ→Ab→Prop)(av:List Nat):Prop where
 up : ∀ (h1:Ab) (s:σ) (h:Ab) (o:Nat) (y:Option AO),o ∉ av→StO h1 s h→StO (upd h1 o y) s (upd h o y)
 fr : ∀ (h1:Ab) (s:σ) (h:Ab) (o:Nat),o ∉ av→StO h1 s h→h o=h1 o
section
variable {σ:Type} {StO:Ab→σ→Ab→Prop} {av:List Nat} {h1 h:Ab} {s:σ} {N:Nat}
theorem ObjSt.ups (hO:ObjSt StO av) : ∀ {ids:List Nat} {xs:List (Option AO)},(∀ o ∈ ids,o ∉ av)→StO h1 s h→StO (hp h1 ids xs) s (hp h ids xs)
 | [],xs,_,hs=>by cases xs <;> exact hs
 | o::ids,[],_,hs=>hs
 | o::ids,x::xs,hv,hs=>hO.up _ _ _ _ x (hv o (List.mem_cons_self ..)) (hO.ups (fun q hq=>hv q (List.mem_cons_of_mem _ hq)) hs)
theorem As7 {h:Ab} : ∀ {ids:List Nat} {xs ys:List (Option AO)},ids.Nodup→ids.length=xs.length→ids.length=ys.length→hp (hp h ids ys) ids xs=hp h ids xs
 | [],xs,ys,_,_,_=>by cases xs <;> cases ys <;> rfl
 | o::ids,x::xs,y::ys,hn,h1,h2=>by
  have hn':=List.nodup_cons.1 hn
  funext q
  simp only [hp]
  unfold upd
  by_cases hq:q=o
  ·rw [if_pos hq,if_pos hq]
  ·rw [if_neg hq,if_neg hq]
   by_cases hm:q ∈ ids
   ·have key : ∀ {g g':Ab} {is:List Nat} {zs:List (Option AO)},q ∈ is→is.length=zs.length→hp g is zs q=hp g' is zs q:=by
     intro g g' is
     induction is with
     | nil=>intro zs hm _; cases hm
     | cons a is ih=>
      intro zs hm hl
      cases zs with
      | nil=>simp at hl
      | cons z zs=>
       simp only [hp]
       unfold upd
       by_cases hqa:q=a
       ·rw [if_pos hqa,if_pos hqa]
       ·rw [if_neg hqa,if_neg hqa]
        rcases List.mem_cons.1 hm with hm | hm
        ·exact absurd hm hqa
        ·exact ih hm (by simpa using hl)
    exact key hm (by simpa using h1)
   ·rw [M8 hm,M8 hm,if_neg hq,M8 hm]
theorem Alx {h:Ab} : ∀ {ids:List Nat} {xs:List (Option AO)},ids.Nodup→ids.length=xs.length→(∀ (j:Nat) (x:Option AO),xs[j]? = some x→h (ix ids j)=x)→hp h ids xs=h
 | [],xs,_,_,_=>by cases xs <;> rfl
 | o::ids,x::xs,hn,hl,hx=>by
  have hn':=List.nodup_cons.1 hn
  simp only [hp]
  rw [Alx hn'.2 (by simpa using hl) (fun j y e=>by have:=hx (j+1) y (by simpa using e); simpa [ix] using this)]
  funext q
  unfold upd
  split
  ·rename_i hq; subst hq; exact(hx 0 x rfl).symm
  ·rfl
theorem ObjSt.fresh (hO:ObjSt StO av){ids:List Nat}(hv : ∀ o ∈ ids,o ∉ av)(hI:Ids h ids N)(hs:StO h1 s h):Ids h1 ids N:=⟨hI.nodup,fun o ho=>(hO.fr _ _ _ _ (hv o ho) hs).symm.trans (hI.fresh o ho),hI.len⟩
theorem Ao3 {ids:List Nat}{j:Nat}(hj:j<ids.length):ix ids j ∈ ids:=by
 simp only [ix,List.getD,List.getElem?_eq_getElem hj,Option.getD_some]
 exact List.getElem_mem _
theorem ObjSt.down (hO:ObjSt StO av){ids:List Nat}{xs:List (Option AO)}{s':σ}{h':Ab}(hv : ∀ o ∈ ids,o ∉ av)(hI:Ids h ids N)(hs:StO h1 s h)(hl:xs.length=N)(hs':StO (hp h1 ids xs) s' h') :
  ∃ h2,StO h1 s' h2∧Ids h2 ids N∧h'=hp h2 ids xs:=by
 have hI1:=hO.fresh hv hI hs
 have hle:ids.length=xs.length:=hI.len.trans hl.symm
 have hrl:ids.length=(List.replicate N (none:Option AO)).length:=by rw [List.length_replicate]; exact hI.len
 have hat : ∀ {g:Ab} {xs:List (Option AO)} {j:Nat} {x:Option AO},ids.length=xs.length→xs[j]? = some x→hp g ids xs (ix ids j)=x:=fun hl hx=>Ae8 hI.nodup hl hx
 refine⟨hp h' ids (List.replicate N none),?_,⟨hI.nodup,fun o ho=>?_,hI.len⟩,?_⟩
 ·have:=hO.ups (xs:=List.replicate N none) hv hs'
  rwa [As7 hI.nodup hrl hle,Rh hI1.fresh] at this
 ·obtain⟨j,hj,rfl⟩:=List.mem_iff_getElem.1 ho
  have e:ids[j]=ix ids j:=by simp [ix,List.getD,hj]
  rw [e]
  exact hat hrl (by rw [List.getElem?_replicate]; simp; rw [← hI.len]; exact hj)
 ·rw [As7 hI.nodup hle hrl]
  refine(Alx hI.nodup hle fun j x hx=>?_).symm
  have hj:j<ids.length:=by
   rw [hle]
   rcases Nat.lt_or_ge j xs.length with h | h
   ·exact h
   ·rw [List.getElem?_eq_none h] at hx; cases hx
  rw [hO.fr _ _ _ _ (hv _ (Ao3 hj)) hs']
  exact hat hle hx
end
theorem Ac2 {h1:Ab}{o:Nat}{y:Option AO} : ∀ {ids:List Nat} {xs:List (Option AO)},o ∉ ids→upd (hp h1 ids xs) o y=hp (upd h1 o y) ids xs
 | [],xs,_=>by cases xs <;> rfl
 | a::ids,[],_=>rfl
 | a::ids,x::xs,ho=>by
  simp only [List.mem_cons,not_or] at ho
  simp only [hp]
  rw [← Ac2 ho.2]
  exact(Aki _ _ _ (Ne.symm ho.1))
theorem Ids.updc {h1:Ab}{ids:List Nat}{N o:Nat}{y:Option AO}(ho:o ∉ ids)(hI:Ids h1 ids N):Ids (upd h1 o y) ids N:=⟨hI.nodup,fun q hq=>by
 have hne:q≠o:=by intro e; subst e; exact ho hq
 rw [Af8 _ _ _ hne]
 exact hI.fresh q hq,hI.len⟩
theorem Ids.avoid {h1:Ab}{ids:List Nat}{N o:Nat}(xs:List (Option AO))(ho:o ∉ ids):hp h1 ids xs o=h1 o:=M8 ho
def Aiq {α:Type}(S:α→AV→Ab→Prop):Spec α:=⟨fun m => ∃ a:α,m=.ok a,(fun h=>by obtain⟨a,h⟩:=h; cases h),fun m r h' _ => ∃ a:α,m=.ok a ∧ ∃ v,r=.ret v∧S a v h'⟩
section
variable {P:Program} [GW P] {f:FuncId} {n:Nat} {α:Type} {m:R α} {S:α→AV→Ab→Prop} {h0:Ab}
theorem X4 {fn : Func} {c : Code} {args : List AV} {os0 : List Nat} {K : Nat} {xs : List (Option AO)} {av : List Nat} (N : Nat) (hf : P.funcs[f]? = some fn) (hb : fn.body = some c) (hn : fn.name ≠ "runtime.NumGoroutine") (hnt : fn.ntmps = n) (hl : Nat.ble args.length n = true)
  (hI0 : Ids h0 os0 K) (hv0 : ∀ o ∈ os0, o ∉ av) (hx : xs.length = K)
  (hr : ∀ ids, (∀ j, Nat.blt j K = true → ix ids j = ix os0 j) → Ids h0 ids (K + N) → (∀ o ∈ ids, o ∉ av) → WR P f n false (Aiq S) m [.code c] (Ag (Yn 0 args)) [] (hp h0 ids (xs ++ List.replicate N none)) .ret) :
  m.np ≠ .bad → Bm P f args (hp h0 os0 xs) (Ed S h0 m.np) := by
 intro hb'
 refine R7 hf hb hn hnt (by simpa using hl) ?_
 refine Acq N (os0 ++ av) fun os h1 h2 h3 h4 => ?_
 have hout : ∀ o ∈ os, o ∉ os0 := fun o ho hm => h4 o ho (List.mem_append_left _ hm)
 have hI : Ids h0 (os0 ++ os) (K + N) := by
  refine ⟨List.nodup_append.2 ⟨hI0.nodup, h2, fun a ha b hb hq => hout b hb (hq ▸ ha)⟩, fun o ho => ?_, by simp [hI0.len, h1]⟩
  rcases List.mem_append.1 ho with ho | ho
  ·exact hI0.fresh o ho
  ·have := h3 o ho
   rwa [M8 (hout o ho)] at this
 have e : hp h0 (os0 ++ os) (xs ++ List.replicate N none) = hp h0 os0 xs := by
  rw [Xv (by rw [hI0.len, hx]), Rh fun o ho => hI.fresh o (List.mem_append_right _ ho)]
 have hV : ∃ a : α, m = .ok a := by
  cases hm : m with
  | ok a => exact ⟨a, rfl⟩
  | pan v => rw [hm] at hb'; exact absurd rfl hb'
  | bad => rw [hm] at hb'; exact absurd rfl hb'
 have := hr (os0 ++ os) (fun j hj => by
  have hj' : j < os0.length := by rw [hI0.len]; simpa using hj
  simp [ix, List.getD, List.getElem?_append_left hj']) hI (fun o ho => by
   rcases List.mem_append.1 ho with ho | ho
   ·exact hv0 o ho
   ·exact fun hm => h4 o ho (List.mem_append_right _ hm)) hV
 rw [e] at this
 refine T0 (fun t => ?_) (Aee this fun a h' u' hq => ?_)
 ·rcases Ui args 0 t with h | ⟨_, h⟩
  ·exact .inl h
  ·exact .inr h
 ·obtain ⟨a2, e2, v, rfl, hS⟩ := hq
  rw [e2]
  exact ⟨v, rfl, hS⟩
section
variable {ids:List Nat} {xs:List (Option AO)} {K N:Nat} {l:List (Nat×AV)} {k:List Item} {u:AU}
theorem Wr {fn:Func}{a:α}{vs:List AV}{v:AV}(ys:List (Option AO))(hf:P.funcs[f]? = some fn)(hI:Ids h0 ids (K+N))(hl:xs.length=K+N)(hr:J3 P (hp h0 ids xs) (Ag l) fn.results.toList=some vs)
  (hy:ys.length=K) (hx:HL (hp h0 ids xs) (hp h0 ids (ys++List.replicate N none)) xs (ys++List.replicate N none)) (hz:Fz (hp h0 ids xs) (hp h0 ids (ys++List.replicate N none)) (Ku vs) v) (hS:S a v (hp h0 (tkf ids K 0) ys)) :
  WR P f n false (Aiq S) (.ok a) (.code .ret::k) (Ag l) [] (hp h0 ids xs) u:=fun _=>by
 refine Ys (Zx hf hr (hx.hfz hI hl) hz rfl ⟨a,rfl,v,rfl,?_⟩)
 rw [Acs hI hy]; exact hS
theorem Ags {fn:Func}{a:α}{vs:List AV}{v:AV}(ys:List (Option AO))(hf:P.funcs[f]? = some fn)(hI:Ids h0 ids (K+N))(hl:xs.length=K+N)(hr:J3 P (hp h0 ids xs) (Ag l) fn.results.toList=some vs)
  (hy:ys.length=K) (hx:HL (hp h0 ids xs) (hp h0 ids (ys++List.replicate N none)) xs (ys++List.replicate N none)) (hz:Fz (hp h0 ids xs) (hp h0 ids (ys++List.replicate N none)) (Ku vs) v) (hS:S a v (hp h0 (tkf ids K 0) ys)) :
  WR P f n false (Aiq S) (.ok a) [] (Ag l) [] (hp h0 ids xs) u:=fun _=>by
 refine Agt (Zx hf hr (hx.hfz hI hl) hz rfl ⟨a,rfl,v,rfl,?_⟩)
 rw [Acs hI hy]; exact hS
theorem Z0 {d:FK}{v:PV}{a:AU}{fr:Nat→AV}{ds:List AD}{h:Ab}:WU P f n d (Aiq S) (.pan v) a fr ds h u:=fun hV=>by obtain⟨s,h⟩:=hV; cases h
theorem Ids.tkf (hI:Ids h0 ids (K+N)):Ids h0 (tkf ids K 0) K:=by
 have e:=Ad4 ids K 0 (by rw [hI.len]; omega)
 rw [List.drop_zero] at e
 rw [← e]
 exact⟨(List.take_sublist K ids).nodup hI.nodup,fun o ho=>hI.fresh o (List.mem_of_mem_take ho),by rw [List.length_take,hI.len]; omega⟩
end
end
section
variable {P:Program} [GW P] {f:FuncId} {n:Nat} {d:FK} {σ ε β γ:Type} {Q:Spec β} {ds:List AD} {u:AU} {k:List Item} {l:List (Nat×AV)}
variable {all r:List Oper} {ty:TypeId} {pos:String} {after:Array Edge} {F:γ→R β} {h0 hb:Ab} {ids av:List Nat} {xs:List (Option AO)} {N:Nat}
section
variable {StO:Ab→σ→Ab→Prop} {b:σ→R σ} {s:σ} {rest:σ→R γ} {t:Nat} {x:Operand} {aS:List Operand} {ts:Array TypeId} {y:YF} {o g:Nat} {A:List AV}
theorem Aqj (hO:ObjSt StO av)(hv : ∀ o ∈ ids,o ∉ av)(hs:StO hb s h0)(hI:Ids h0 ids N)(hl:xs.length=N)(ht:Nat.blt t n=true)(hx:ev (Ag l) x=.yld y o g)(ha:E4 (Ag l) aS=A)
  (hy : ∀ h1,YOk P y o g A (StO h1) b) (hnp : ∀ v,b s≠.pan v) (hk : ∀ s',b s=.ok s' → ∀ h0,StO hb s' h0→Ids h0 ids N→WO P f n d Q k all ((rest s').bind F) r (Ag ((t,.bool true)::l)) ds (hp h0 ids xs) u) :
  WO P f n d Q k all (((b s).bind rest).bind F) (⟨some t,.call ⟨.value x,⟨aS⟩,ts⟩,ty,pos,after,none⟩::r) (Ag l) ds (hp h0 ids xs) u:=
 Ael (St:=StO (hp hb ids xs)) ht hx ha (hO.ups hv hs) (hy _) hnp fun s' hs' h' hh=>by
  obtain⟨h2,a1,a2,rfl⟩:=hO.down hv hI hs hl hh
  exact hk s' hs' h2 a1 a2
end
section
variable {StO:Ab→σ ⊕ ε→Ab→Prop} {b:σ→R (σ ⊕ ε)} {s:σ} {r1:σ→R γ} {r2:ε→R γ} {t:Nat} {x:Operand} {aS:List Operand} {ts:Array TypeId} {y:YF} {o g:Nat} {A:List AV}
theorem Aoe {i:Nat}{pre:List (List Nat)}{plan:Er}{pend:Jl}(hO:ObjSt StO av)(hv : ∀ o ∈ ids,o ∉ av)(hs:StO hb (.inl s) h0)(hI:Ids h0 ids N)(hl:xs.length=N)(ho:all[i]? = some ⟨some t,.call ⟨.value x,⟨aS⟩,ts⟩,ty,pos,after,none⟩)(ht:Nat.blt t n=true)(hx:ev (Ag l) x=.yld y o g)(ha:E4 (Ag l) aS=A)
  (hy : ∀ h1,Abs P y o g A (StO h1) b) (hnp : ∀ v,b s≠.pan v) (hpd : ∀ h',Ei P all pre i h' pend) (hk1 : ∀ s',b s=.ok (.inl s') → ∀ h0,StO hb (.inl s') h0→Ids h0 ids N→WP P f n d Q k all pre ((r1 s').bind F) plan pend (Ag ((t,.bool true)::l)) ds (hp h0 ids xs) u)
  (hk2 : ∀ e,b s=.ok (.inr e) → ∀ h0,StO hb (.inr e) h0→Ids h0 ids N→WP P f n d Q k all pre ((r2 e).bind F) plan pend (Ag ((t,.bool false)::l)) ds (hp h0 ids xs) u) :
  WP P f n d Q k all pre (((b s).bind (alt r1 r2)).bind F) ((true,i)::plan) pend (Ag l) ds (hp h0 ids xs) u:=
 Aqm (St:=StO (hp hb ids xs)) ho ht hx ha (hO.ups hv hs) (hy _) hnp hpd (fun s' hs' h' hh=>by
  obtain⟨h2,a1,a2,rfl⟩:=hO.down hv hI hs hl hh
  exact hk1 s' hs' h2 a1 a2) fun s' hs' h' hh=>by
  obtain⟨h2,a1,a2,rfl⟩:=hO.down hv hI hs hl hh
  exact hk2 s' hs' h2 a1 a2
end
section
variable {dst:Option Tmp} {x:Operand} {aS:List Operand} {ts:Array TypeId} {g:FuncId} {fst cap A:List AV} {gd:Option (Nat×Bool)} {mg:R (σ ⊕ ε)} {S:σ ⊕ ε→AV→Ab→Prop} {r1:σ→R γ} {r2:ε→R γ} {zs:List (Option AO)}
theorem Apb (js:List Nat)(hI:Ids h0 ids N)(hl:xs.length=N)(hk:Pt N js=true)
  (hc:mg≠.bad→Bm P g A (hp (hp h0 ids (Qy js xs)) (V3 ids js) zs) (Ed S (hp h0 ids (Qy js xs)) mg)) (hz:js.length=zs.length) (e2:Ra js zs xs=xs)
  (ht:Fp n dst=true) (hw:D2 all (Ag l) ⟨dst,.call ⟨.value x,⟨aS⟩,ts⟩,ty,pos,after,gd⟩=some true) (hx:ev (Ag l) x=.func (.func g) fst cap) (ha:fst++E4 (Ag l) aS++cap=A)
  (hp' : ∀ v,mg=.pan v→WU P f n d Q (.pan v) (.pan v.av false) (Ag l) ds (hp h0 ids (Qy js xs)) u)
  (hk1 : ∀ a,mg=.ok (.inl a) → ∀ v h',S (.inl a) v h'→WO P f n d Q k all ((r1 a).bind F) r (Fu (Ag l) dst v) ds h' u)
  (hk2 : ∀ a,mg=.ok (.inr a) → ∀ v h',S (.inr a) v h'→WO P f n d Q k all ((r2 a).bind F) r (Fu (Ag l) dst v) ds h' u) :
  WO P f n d Q k all ((mg.bind (alt r1 r2)).bind F) (⟨dst,.call ⟨.value x,⟨aS⟩,ts⟩,ty,pos,after,gd⟩::r) (Ag l) ds (hp h0 ids xs) u:=
 D8 js hI hl hk hc hz e2 ht hw hx ha hp' fun a=>match a with
  | .inl a=>hk1 a
  | .inr a=>hk2 a
theorem Aoo {pre:List (List Nat)}{plan:Er}{pend:Jl}{i:Nat}(js:List Nat)(hI:Ids h0 ids N)(hl:xs.length=N)(hk:Pt N js=true)
  (hc:mg≠.bad→Bm P g A (hp (hp h0 ids (Qy js xs)) (V3 ids js) zs) (Ed S (hp h0 ids (Qy js xs)) mg)) (hz:js.length=zs.length) (e2:Ra js zs xs=xs) (ho:all[i]? = some ⟨dst,.call ⟨.value x,⟨aS⟩,ts⟩,ty,pos,after,gd⟩)
  (ht:Fp n dst=true) (hw:D2 all (Ag l) ⟨dst,.call ⟨.value x,⟨aS⟩,ts⟩,ty,pos,after,gd⟩=some true) (hx:ev (Ag l) x=.func (.func g) fst cap) (ha:fst++E4 (Ag l) aS++cap=A)
  (hp' : ∀ v,mg=.pan v → ∀ fr,(∀ t,(all.any fun o=>o.dst==some t)=false→fr t=Ag l t)→WU P f n d Q (.pan v) (.pan v.av false) fr ds (hp h0 ids (Qy js xs)) u)
  (hk1 : ∀ a,mg=.ok (.inl a) → ∀ v h',S (.inl a) v h'→Ei P all pre i h' pend∧WP P f n d Q k all pre ((r1 a).bind F) plan pend (Fu (Ag l) dst v) ds h' u)
  (hk2 : ∀ a,mg=.ok (.inr a) → ∀ v h',S (.inr a) v h'→Ei P all pre i h' pend∧WP P f n d Q k all pre ((r2 a).bind F) plan pend (Fu (Ag l) dst v) ds h' u) :
  WP P f n d Q k all pre ((mg.bind (alt r1 r2)).bind F) ((true,i)::plan) pend (Ag l) ds (hp h0 ids xs) u:=
 Fr js hI hl hk hc hz e2 ho ht hw hx ha hp' fun a=>match a with
  | .inl a=>hk1 a
  | .inr a=>hk2 a
end
end
section
variable {h0:Ab} {ids av:List Nat} {N:Nat}
theorem Aff {js:List Nat}(hI:Ids h0 ids N)(hk:Pt N js=true)(hv : ∀ o ∈ ids,o ∉ av) : ∀ o ∈ V3 ids js,o ∉ av:=by
 induction js with
 | nil=>intro o ho; cases ho
 | cons j js ih=>
  simp only [Pt,Bool.and_eq_true] at hk
  intro o ho
  rcases List.mem_cons.1 ho with rfl | ho
  ·exact hv _ (Ao3 (by rw [hI.len]; simpa using hk.1.1))
  ·exact ih hk.2 o ho
theorem Aoq {α:Type}{S:α→AV→Ab→Prop}{St:α→Ab→Prop}{m:R α}{a:AR}{h':Ab}(hp : ∀ v,m≠.pan v)(hS : ∀ a v h',S a v h'→St a h')(h:Ed S h0 m a h'):Vr St m a h':=by
 cases hm:m with
 | ok x=>rw [hm] at h; obtain⟨v,rfl,h⟩:=h; exact⟨⟨v,rfl⟩,hS _ _ _ h⟩
 | pan v=>exact absurd hm (hp v)
 | bad=>rw [hm] at h; exact h.elim
theorem Apl {α:Type}{A:Prop}{St:α→Ab→Prop}{m:R α}{a:AR}{h':Ab}(h:Vr (fun s h=>A∧St s h) m a h'):Vr St m a h':=by
 cases hm:m with
 | ok x=>rw [hm] at h; exact⟨h.1,h.2.2⟩
 | pan v=>rw [hm] at h; obtain⟨h1,s,h2⟩:=h; exact⟨h1,s,h2.2⟩
 | bad=>rw [hm] at h; exact h.elim
end
section
variable {P:Program} [GW P] {f:FuncId} {n:Nat} {d:FK} {α β:Type} {Q:Spec β} {m:R β} {ds:List AD} {h:Ab} {u:AU} {k:List Item} {l:List (Nat×AV)} {all r:List Oper} {fr:Nat→AV}
theorem X9 {h0:Ab}{ids:List Nat}{xs:List (Option AO)}{N j:Nat}{e:α→List AV}{L L2:List α}{st:Nat}{sT xT et:TypeId}{a1 b1 a2 b2:Nat}{z1 z2:List AV}{E:TI}{s x:Operand}{K2:TK}{K:AV→Ab→Prop}(hok : ∀ y:α,Cm st (e y))(hI:Ids h0 ids N)(hl:xs.length=N)(hj:xs[j]? = some none)(hs:ev fr s=slx0 st (L.map e))
  (hxv:Fx P (hp h0 ids xs) E.size (decide (E.k=.int .u8)) (ev fr x)=some (L2.map e))
  (hS:ti P sT=some ⟨.sl et,a1,b1,z1⟩) (hX:ti P xT=some ⟨K2,a2,b2,z2⟩) (hK2:K2.many=true) (hE:ti P et=some E) (hst:st=E.size) (hsz:Nat.blt 0 E.size=true) (hby:Nat.blt 0 E.bytes=true) (hlim:L2.length≠0∧(L.length+L2.length) * E.bytes≤Bt)
  (hk:K (.sl st ((L++L2).map e)) (hp h0 ids xs)):C5 P fr (hp h0 ids xs) (.call ⟨.builtin .append,⟨[s,x]⟩,⟨[sT,xT]⟩⟩) K:=by
 have hsz':0<E.size:=by simpa using hsz
 have hby':0<E.bytes:=by simpa using hby
 have ho:hp h0 ids xs (ix ids j)=none:=hI.at hl hj
 simp only [C5,Jp,E4,List.map]
 refine .inr (.inr ?_)
 have key : ∀ (rows:List (List AV)),rows=(L++L2).map e → ∀ g,∃ v2 h2,G4 h2 (upd (hp h0 ids xs) (ix ids j) (some (.rows g E.size rows)))∧Fz (upd (hp h0 ids xs) (ix ids j) (some (.rows g E.size rows))) h2 (.ref (ix ids j) g 0 rows.length) v2∧K v2 h2:=by
  intro rows hr g
  refine⟨_,hp h0 ids xs,fun q y hq=>?_,?_,hk⟩
  ·unfold upd
   split
   ·rename_i hqo; subst hqo; rw [ho] at hq; cases hq
   ·exact hq
  ·subst hst
   rw [← hr]
   refine Fz.ref _ g 0 rows.length E.size rows rows (Ad2 ..) ho rfl (by simp) (fun r hr'=>?_) (fun i j hi hj=>?_)
   ·rw [hr] at hr'
    obtain⟨y,_,rfl⟩:=List.mem_map.1 hr'
    exact hok y
   ·rw [Nat.zero_add]; exact .same _
 simp only [Nx,hS,hX,hE,hs,hxv,hK2,hsz',hby',true_and,List.length_map]
 cases L with
 | nil=>
  simp only [List.map_nil,slx0]
  rw [if_neg hlim.1]
  refine⟨by simpa using hlim.2,Jh (ix ids j) ho fun g=>?_⟩
  have:=key (L2.map e) (by simp) g
  simpa using this
 | cons a L=>
  simp only [List.map_cons,slx0]
  refine⟨hst,hlim.1,by simpa using hlim.2,Jh (ix ids j) ho fun g=>?_⟩
  have:=key (e a::L.map e++L2.map e) (by simp) g
  simpa [Nat.add_right_comm] using this
end
def Q8 (st:Nat)(rows:List (List AV)):AV:=match rows with | []=>.snil | _::_=>.sl st rows
theorem Ary {st:Nat}{rows:List (List AV)}:(Q8 st rows).flat=true:=by cases rows <;> rfl
theorem Aut {st:Nat}{rows:List (List AV)}:(Q8 st rows).ok=true:=by cases rows <;> rfl
theorem Abn {st:Nat}{rows:List (List AV)}:(Q8 st rows).cells=[Q8 st rows]:=by cases rows <;> rfl
theorem Auz {h h2:Ab}{st:Nat}{rows:List (List AV)}:Fz h h2 (Q8 st rows) (.sl st rows):=by
 cases rows with
 | nil=>exact .snil _
 | cons r l=>exact .same _
theorem Au0 {α:Type}{st:Nat}{L:List α}{e:α→List AV}(h:L.length≠0):AV.sl st (L.map e)=Q8 st (L.map e):=by
 cases L with
 | nil=>exact absurd rfl h
 | cons x l=>rfl
section
variable {P:Program} [GW P] {f:FuncId} {n:Nat} {d:FK} {α β:Type} {Q:Spec β} {m:R β} {ds:List AD} {h:Ab} {u:AU} {k:List Item} {l:List (Nat×AV)} {all r:List Oper} {ty ty2:TypeId} {pos:String} {after:Array Edge} {t:Nat} {x:Operand} {T et:TypeId} {a b st:Nat} {z:List AV} {e:α→List AV} {L:List α}
theorem Att (ht:Nat.blt t n=true)(hT:ti P T=some ⟨.sl et,a,b,z⟩)(hx:ev (Ag l) x=Q8 st (L.map e))(hk:WO P f n d Q k all m r (Ag ((t,.bool L.isEmpty)::l)) ds h u) :
  WO P f n d Q k all m (⟨some t,.binOp .eql T x (.const (.slice none 0 0)) ty2,ty,pos,after,none⟩::r) (Ag l) ds h u:=
 K6 ht (fun _ _=>rfl) fun K hK=>by
  simp only [C5]
  cases L with
  | nil=>
   refine⟨by rw [hx]; rfl,?_⟩
   simp only [Te,Qn,if_true,hT,hx]
   exact hK _ _ hk
  | cons y L=>
   refine⟨by rw [hx]; rfl,?_⟩
   simp only [Te,Qn,if_true,hT,hx,Q8,List.map_cons]
   intro c hc
   rw [hc (by simp)]
   exact hK _ _ hk
theorem Arq (ht:Nat.blt t n=true)(hT:ti P T=some ⟨.sl et,a,b,z⟩)(hx:ev (Ag l) x=Q8 st (L.map e))(hk:WO P f n d Q k all m r (Ag ((t,.bool (!L.isEmpty))::l)) ds h u) :
  WO P f n d Q k all m (⟨some t,.binOp .neq T x (.const (.slice none 0 0)) ty2,ty,pos,after,none⟩::r) (Ag l) ds h u:=
 K6 ht (fun _ _=>rfl) fun K hK=>by
  simp only [C5]
  cases L with
  | nil=>
   refine⟨by rw [hx]; rfl,?_⟩
   simp only [Te,Qn,if_true,hT,hx]
   exact hK _ _ hk
  | cons y L=>
   refine⟨by rw [hx]; rfl,?_⟩
   simp only [Te,Qn,if_true,hT,hx,Q8,List.map_cons]
   intro c hc
   rw [hc (by simp)]
   exact hK _ _ hk
theorem Aui {h0:Ab}{ids:List Nat}{xs:List (Option AO)}{N:Nat}{t:TypeId}{T:TI}{g st rr c j n':Nat}{rs rows:List (List AV)}{row:List AV}(hI:Ids h0 ids N)(hl:xs.length=N)(hjn:Nat.blt j N=true)(hj:xs[j]? = some (some (.rows g st rs)))(hr:rs[rr]? = some row)(hT:ti P t=some T)
  (hlen:Nat.beq 1 T.size=true) (hc:Nat.ble (c+T.size) st=true) (hrl:row.length=st) :
  O7 P (hp h0 ids xs) t (.ptr (ix ids j) g rr c) (Q8 n' rows)=some (hp h0 ids (xs.set j (some (.rows g st (rs.set rr (R3 row c [Q8 n' rows])))))):=by
 have:=J7 (P:=P) (v:=Q8 n' rows) hI hl hjn hj hr hT Aut (by rw [Abn]; exact Nat.eq_of_beq_eq_true hlen) hc hrl (by rw [Abn]; simp [Ary])
 rw [Abn] at this
 exact this
end
theorem Aqa {P:Program}[GW P]{f:FuncId}{n:Nat}{d:FK}{β:Type}{Q:Spec β}{m:R β}{ds:List AD}{h0:Ab}{ids:List Nat}{xs:List (Option AO)}{N:Nat}{u:AU}{k:List Item}{l:List (Nat×AV)}{all r:List Oper}{ty:TypeId}{pos:String}{after:Array Edge}{t:Nat}{e:TypeId}{T:TI}{j:Nat}
  (hI:Ids h0 ids N) (hl:xs.length=N) (hjn:Nat.blt j N=true) (hj:xs[j]? = some none) (ht:Nat.blt t n=true) (hT:ti P e=some T) (hfl:T.z.all AV.flat=true)
  (hk : ∀ g,WO P f n d Q k all m r (Ag ((t,.ptr (ix ids j) g 0 0)::l)) ds (hp h0 ids (xs.set j (some (.rows g (T.z.map AV.nilx).length [T.z.map AV.nilx])))) u) :
  WO P f n d Q k all m (⟨some t,.alloc e,ty,pos,after,none⟩::r) (Ag l) ds (hp h0 ids xs) u:=
 K6 ht (fun _ _=>rfl) fun K hK=>Ann hI hl hjn hj hT hfl fun g=>hK _ _ (hk g)
end Go.Am
namespace Go.Am
open Go
set_option linter.unusedSimpArgs false
set_option linter.unusedVariables false
set_option linter.unusedSectionVars false
theorem Kb {P:Program}[GW P]{t:TypeId}{k k':IntKind}{a b c:Int}(hb:decide (0≤b)=true)(hc:2 ^ (min b.toNat k.bits)=c):Ke P .shr t (.int k a) (.int k' b)=some (.int k (a.fdiv c)):=by
 have hb':0≤b:=by simpa using hb
 simp only [Ke,if_pos hb',hc]
def Aeb (a:Int):List Int→List Int
 | []=>[a]
 | b::l=>if a≤b then a::b::l else b::Aeb a l
def K9:List Int→List Int
 | []=>[]
 | a::l=>Aeb a (K9 l)
theorem Abj (a:Int) : ∀ l,(Aeb a l).Perm (a::l)
 | []=>.refl _
 | b::l=>by
  unfold Aeb
  split
  ·exact .refl _
  ·exact((Abj a l).cons b).trans (.swap a b l)
theorem Tc : ∀ l,(K9 l).Perm l
 | []=>.refl _
 | a::l=>(Abj a (K9 l)).trans ((Tc l).cons a)
theorem Adu (a:Int) : ∀ l:List Int,l.Pairwise (· ≤ ·)→(Aeb a l).Pairwise (· ≤ ·)
 | [],_=>by simp [Aeb]
 | b::l,h=>by
  have h':=List.pairwise_cons.1 h
  unfold Aeb
  split
  ·rename_i hab
   refine List.pairwise_cons.2 ⟨fun x hx=>?_,h⟩
   rcases List.mem_cons.1 hx with rfl | hx
   ·exact hab
   ·have:=h'.1 x hx; omega
  ·rename_i hab
   refine List.pairwise_cons.2 ⟨fun x hx=>?_,Adu a l h'.2⟩
   rcases List.mem_cons.1 ((Abj a l).mem_iff.1 hx) with rfl | hx
   ·omega
   ·exact h'.1 x hx
theorem Xb : ∀ l:List Int,(K9 l).Pairwise (· ≤ ·)
 | []=>.nil
 | a::l=>Adu a _ (Xb l)
theorem Aas : ∀ {a b:List Int},a.Perm b→a.Pairwise (· ≤ ·)→b.Pairwise (· ≤ ·)→a=b
 | [],b,h,_,_=>by rw [List.Perm.nil_eq h]
 | x::a,[],h,_,_=>by have:=h.length_eq; simp at this
 | x::a,y::b,h,ha,hb=>by
  have ha':=List.pairwise_cons.1 ha
  have hb':=List.pairwise_cons.1 hb
  have h1:x=y:=by
   have hx:x ∈ y::b:=h.mem_iff.1 (List.mem_cons_self ..)
   have hy:y ∈ x::a:=h.mem_iff.2 (List.mem_cons_self ..)
   rcases List.mem_cons.1 hx with e | hx
   ·exact e
   ·rcases List.mem_cons.1 hy with e | hy
    ·exact e.symm
    ·have:=ha'.1 y hy; have:=hb'.1 x hx; omega
  subst h1
  rw [Aas (List.Perm.cons_inv h) ha'.2 hb'.2]
theorem Ask (l:List Int):K9 l=l.mergeSort fun x y=>decide (x≤y):=by
 refine Aas ((Tc l).trans (List.mergeSort_perm l _).symm) (Xb l) ?_
 have:=List.pairwise_mergeSort (le:=fun x y:Int=>decide (x≤y)) (fun a b c h1 h2=>by simp at *; omega) (fun a b=>by simp; omega) l
 exact this.imp fun h=>by simpa using h
def T2 (l:List Int):R Unit:=if l.length≤Bt then .ok () else .bad
def Rd {α:Type}(b:Nat)(L:List α)(i:Int)(V:List α):R (List α):=
 if 0≤i∧i≤(L.length:Int)∧0<V.length∧(L.length+V.length) * b≤Bt then .ok (L.take i.toNat++V++L.drop i.toNat) else .bad
theorem Aja (l:List Int):(K9 l).length=l.length:=(Tc l).length_eq
theorem Bp.sort {v:AV}{o g:Nat}{L:List Int}(h:Bp v o g L.length):Bp v o g (K9 L).length:=by rw [Aja]; exact h
section
variable {P:Program} [GW P] {B:Base P} {h:Ab} {mu:Mu} {w:World}
theorem An4 (s:Sim B mu h w){o g:Nat}{L:List Int}(hx:h o=some (.rows g 1 (L.map (rI .i64)))){l:Loc}(hl:mu o g=some l):Sort.Holds (Value.int .i64) w l.b l.base L.toArray∧l.b<w.heap.size:=by
 obtain⟨l',cells,e,f,k1,k2,k3,k4,k5,k6,k7,k8,k9⟩:=s.obj hx
 rw [hl] at k1; cases k1
 have hsz:l.base+L.length≤l.size:=by simpa using k4
 refine⟨fun j hj=>?_,(s.muOk _ _ _ hl).2.1⟩
 have hj':j<L.length:=by simpa using hj
 obtain⟨x,hx1,hx2⟩:=k9 j 0 (by simpa using hj') (by omega)
 have e3:cell (L.map (rI .i64)) j 0=.int .i64 (L[j]):=by simp [cell,rI,List.getD,List.getElem?_eq_getElem hj']
 rw [e3] at hx2
 have:=Aqp hx2
 subst this
 constructor
 ·unfold World.cell?
  rw [k6]
  have:cells[l.base+j]? = some (.int .i64 L[j]):=by simpa using hx1
  simp [this,hj']
 ·unfold World.frozen?
  rw [k6]
  have:=k8 (l.base+j) (by omega)
  cases hq:(decide (f.1≤l.base+j)&&decide (l.base+j<f.2)) with
  | false=>exact hq
  | true=>
   simp only [Bool.and_eq_true,decide_eq_true_eq] at hq
   exact absurd hq this
theorem Asr (s:Sim B mu h w){o g:Nat}{L L2:List Int}(hx:h o=some (.rows g 1 (L.map (rI .i64)))){l:Loc}(hl:mu o g=some l){M:List Int}(hM:M.length=L.length)(h2 : ∀ i (hi:i<L2.length),M[i]? = some L2[i]){w':World}
  (hw : ∃ n os,w'=Sort.grow (Sort.putRow (Value.int .i64) (Sort.ahead w n) l.b l.base M.toArray) os) :
  Sim B mu (upd h o (some (.rows g 1 (L2.map (rI .i64))))) w'∧Da h mu w (upd h o (some (.rows g 1 (L2.map (rI .i64))))) mu w':=by
 obtain⟨n,os,rfl⟩:=hw
 obtain⟨l',cells,e,f,k1,k2,k3,k4,k5,k6,k7,k8,k9⟩:=s.obj hx
 rw [hl] at k1; cases k1
 have hsz:l.base+L.length≤l.size:=by simpa using k4
 have hl2:L2.length≤M.length:=by
  rcases Nat.lt_or_ge M.length L2.length with hh | hh
  ·have:=h2 M.length hh
   rw [List.getElem?_eq_none (Nat.le_refl _)] at this; cases this
  ·exact hh
 have hb:l.b<w.heap.size:=(s.muOk _ _ _ hl).2.1
 have hput:=Sim.put (w':=Sort.putRow (Value.int .i64) (Sort.ahead w n) l.b l.base M.toArray) (rs':=L2.map (rI .i64)) (l':=l) (g':=g) (cells':=Sort.putCells (Value.int .i64) l.base M.toArray cells) (e:=e) (f:=f) s hx hl rfl rfl rfl
  (by simp [Sort.putRow,Sort.mapBlock,Sort.ahead])
  (fun b hbne=>by
   simp only [Sort.putRow,Sort.mapBlock,Sort.ahead,Array.getElem?_modify]
   rw [if_neg (fun hh=>hbne hh.symm)])
  (by
   simp only [Sort.putRow,Sort.mapBlock,Sort.ahead,Array.getElem?_modify,if_true,k6,Option.map_some]
   rfl)
  (by simp [Sort.putCells,k7]) k8 (.inl ⟨rfl,rfl⟩) rfl rfl k2
  (by rw [k3]; simp; omega)
  (by
   intro r hr
   rw [k3]
   obtain⟨x,_,rfl⟩:=List.mem_map.1 hr
   exact Bo x)
  (by
   intro i j hi hj
   rw [k3] at hj
   have hj0:j=0:=by omega
   subst hj0
   have hi':i<L2.length:=by simpa using hi
   have e3:cell (L2.map (rI .i64)) i 0=.int .i64 (L2[i]):=by simp [cell,rI,List.getD,List.getElem?_eq_getElem hi']
   refine⟨.int .i64 L2[i],?_,by rw [e3]; exact .int _ _⟩
   have hM1:=h2 i hi'
   have hc:l.base+i<cells.size:=by rw [k7]; omega
   rw [k3]
   have e4:(M.toArray)[l.base+i * 1+0 - l.base]! = L2[i]:=by
    rw [show l.base+i * 1+0 - l.base=i by omega]
    simp [hM1]
   unfold Sort.putCells
   rw [Array.getElem?_mapIdx,Array.getElem?_eq_getElem (by omega)]
   simp only [Option.map_some]
   rw [if_pos ⟨by omega,by simp; omega⟩,e4])
 rw [k3] at hput
 have e1:C0 mu o g l=mu:=by
  funext o1 g1
  unfold C0
  split
  ·rename_i hh; obtain⟨rfl,rfl⟩:=hh; exact hl.symm
  ·rfl
 rw [e1] at hput
 obtain⟨q1,q2⟩:=Below.ext (w':=Sort.grow (Sort.putRow (Value.int .i64) (Sort.ahead w n) l.b l.base M.toArray) os) hput.1 ⟨rfl,rfl,rfl,by simp,fun i hi=>Sort.heap_grow_old _ _ hi⟩
 exact⟨q1,hput.2.trans q2⟩
theorem Ahe {v:AV}{o g n:Nat}(hv:Bp v o g n){c:Value}(hr:RV h mu w v c):(∃ a,v=.emp∧n=0∧c=.slice a 0 0) ∨ ∃ l cap,v=.ref o g 0 n∧mu o g=some l∧n≤Bt∧n≤cap∧l.base+cap * l.st≤l.size∧c=.slice (some ⟨l.b,l.base,none⟩) n cap:=by
 rcases hv with⟨rfl,rfl⟩ | rfl
 ·cases hr with
  | emp a=>exact .inl ⟨a,rfl,rfl,rfl⟩
 ·cases hr with
  | ref _ _ _ _ cap l hl hc hcap hlim hsz=>
   refine .inr ⟨l,cap,rfl,hl,hlim,hcap,by simpa using hsz,by simp⟩
theorem Am5 {sf:Nat}{L:List Int}{v:AV}{h0:Ab}{o g:Nat}(hI0:Ids h0 [o] 1)(hb:Sz P sf)(hv:Bp v o g L.length)
  (hs : ∀ (blk off cap:Nat) (zs:List Int) (w:World),Sort.Holds (Value.int .i64) w blk off zs.toArray→blk<w.heap.size→zs.length<4611686018427387904 →
   Calls P sf #[.slice (some ⟨blk,off,none⟩) zs.length cap] w fun e w'=>e=.returned (.tuple #[]) ∧ ∃ n os,w'=Sort.grow (Sort.putRow (Value.int .i64) (Sort.ahead w n) blk off (zs.mergeSort fun x y=>decide (x≤y)).toArray) os)
  (hn : ∀ (p:Option Addr) (cap:Nat) (w:World),Calls P sf #[.slice p 0 cap] w fun e w'=>e=.returned (.tuple #[])∧w'=w) :
  T2 L≠.bad→Bm P sf [v] (hp h0 [o] [Bb v g 1 (L.map (rI .i64))]) (Ed (fun _ v' h'=>v'=.tup []∧h'=hp h0 [o] [Bb v g 1 ((K9 L).map (rI .i64))]) h0 (T2 L)):=by
 intro hne
 unfold T2 at hne ⊢
 split at hne
 case isFalse=>exact absurd rfl hne
 rename_i hlim
 rw [if_pos hlim]
 refine⟨hb,fun B mu w cargs s ha=>?_⟩
 obtain⟨c,rfl,hc⟩:=At3 ha
 rcases Ahe hv hc with⟨a,rfl,hn0,rfl⟩ | ⟨l,cap,rfl,hl,_,hcap,hsz,rfl⟩
 ·have hL:L=[]:=List.eq_nil_of_length_eq_zero hn0
  subst hL
  refine(hn a 0 w).mono ?_
  rintro e w' ⟨rfl,rfl⟩
  exact⟨.ret (.tup []),_,mu,⟨_,rfl,rfl,rfl⟩,s,Ext.refl _ _ _,.tup _ _ rfl fun i hi=>by simp at hi⟩
 ·have hx:hp h0 [o] [Bb (.ref o g 0 L.length) g 1 (L.map (rI .i64))] o=some (.rows g 1 (L.map (rI .i64))):=hI0.at (xs:=[_]) rfl (j:=0) rfl
  obtain⟨hH,hblk⟩:=An4 s hx hl
  refine(hs l.b l.base cap L w hH hblk (by simp only [Bt] at hlim; omega)).mono ?_
  rintro e w' ⟨rfl,n,os,rfl⟩
  obtain⟨q1,q2⟩:=Asr s hx hl (L2:=K9 L) (M:=L.mergeSort fun x y=>decide (x≤y)) (List.length_mergeSort _) (fun i hi=>by rw [← Ask]; exact List.getElem?_eq_getElem hi) ⟨n,os,rfl⟩
  have e5:upd (hp h0 [o] [Bb (.ref o g 0 L.length) g 1 (L.map (rI .i64))]) o (some (.rows g 1 ((K9 L).map (rI .i64))))=hp h0 [o] [some (.rows g 1 ((K9 L).map (rI .i64)))]:=hI0.set rfl (j:=0) rfl
  rw [e5] at q1 q2
  exact⟨.ret (.tup []),_,mu,⟨_,rfl,rfl,rfl⟩,q1,q2,.tup _ _ rfl fun i hi=>by simp at hi⟩
theorem Ahm (s:Sim B mu h w){o g st:Nat}{rs:List (List AV)}(hx:h o=some (.rows g st rs)){l:Loc}(hl:mu o g=some l) : ∃ (cs:List Value) (cells:Array Value) (e:TypeId) (f:Nat×Nat),
  w.heap[l.b]? = some (.cells cells e f)∧cells.size=l.size∧Ri f l.size∧l.cells=true∧l.st=st∧l.base+rs.length * st≤l.size∧l.b<w.heap.size∧(∀ r ∈ rs,Cm st r) ∧
  cs.length=rs.length * st∧(∀ j v,cs[j]? = some v→w.cell? ⟨l.b,l.base+j,none⟩=some v)∧(∀ i j,i<rs.length→j<st→RV h mu w (cell rs i j) (cs.getD (i * st+j) undef))∧(∀ v ∈ cs,v.oneCell'=true):=by
 obtain⟨l',cells,e,f,k1,k2,k3,k4,k5,k6,k7,k8,k9⟩:=s.obj hx
 rw [hl] at k1; cases k1
 have hlen:((cells.toList.drop l.base).take (rs.length * st)).length=rs.length * st:=by
  rw [List.length_take,List.length_drop,show cells.toList.length=cells.size from Array.length_toList]; omega
 have hget : ∀ j,j<rs.length * st→((cells.toList.drop l.base).take (rs.length * st))[j]? = cells[l.base+j]? := fun j hj=>by
  rw [List.getElem?_take,if_pos hj,List.getElem?_drop,Array.getElem?_toList]
 have hrv : ∀ i j,i<rs.length→j<st→RV h mu w (cell rs i j) (((cells.toList.drop l.base).take (rs.length * st)).getD (i * st+j) undef):=fun i j hi hj=>by
  obtain⟨c,c1,c2⟩:=k9 i j hi hj
  have:=Hz (st:=st) hi hj
  rw [Dh (x:=c) (by rw [hget _ this,← Nat.add_assoc]; exact c1)]
  exact c2
 refine⟨(cells.toList.drop l.base).take (rs.length * st),cells,e,f,k6,k7,k8,k2,k3,k4,(s.muOk _ _ _ hl).2.1,k5,hlen,fun j v hj=>?_,hrv,fun u hu=>?_⟩
 ·have hj':j<rs.length * st:=by
   rw [← hlen]
   rcases Nat.lt_or_ge j ((cells.toList.drop l.base).take (rs.length * st)).length with hh | hh
   ·exact hh
   ·rw [List.getElem?_eq_none hh] at hj; cases hj
  rw [hget j hj'] at hj
  unfold World.cell?
  rw [k6]
  simpa using hj
 ·obtain⟨q,hq,rfl⟩:=List.mem_iff_getElem.1 hu
  rw [hlen] at hq
  obtain⟨d1,d2,d3⟩:=Wp hq
  have hr:=hrv _ _ d1 d2
  rw [d3,Dh (List.getElem?_eq_getElem (by rw [hlen]; exact hq))] at hr
  refine hr.one ?_
  have hrow:=k5 _ (List.getElem_mem d1)
  have hcell:cell rs (q / st) (q % st)=(rs[q / st])[q % st]'(by rw [hrow.1]; exact d2):=by
   simp [cell,List.getD,d1,hrow.1,d2]
  rw [hcell]
  exact hrow.2 _ (List.getElem_mem _)
def Ki (h:Ab)(mu:Mu)(w:World)(st:Nat)(rs:List (List AV))(cs:List Value):Prop:=cs.length=rs.length * st ∧ ∀ i j,i<rs.length→j<st→RV h mu w (cell rs i j) (cs.getD (i * st+j) undef)
theorem Ani {a b:List Value}{i:Nat}(h:i<a.length):(a++b).getD i undef=a.getD i undef:=by simp [List.getD,List.getElem?_append_left h]
theorem Any {a b:List Value}{i:Nat}(h:a.length≤i):(a++b).getD i undef=b.getD (i - a.length) undef:=by simp [List.getD,List.getElem?_append_right h]
theorem Ki.app {st:Nat}{rs rs':List (List AV)}{cs cs':List Value}(h1:Ki h mu w st rs cs)(h2:Ki h mu w st rs' cs'):Ki h mu w st (rs++rs') (cs++cs'):=by
 refine⟨by rw [List.length_append,List.length_append,h1.1,h2.1,Nat.add_mul],fun i j hi hj=>?_⟩
 rw [Sb]
 split
 ·rename_i hl
  have:=Hz (st:=st) hl hj
  rw [Ani (by rw [h1.1]; exact this)]
  exact h1.2 i j hl hj
 ·rename_i hl
  have hle:rs.length * st≤i * st:=Nat.mul_le_mul_right _ (by omega)
  rw [Any (by rw [h1.1]; omega),h1.1]
  have e:i * st+j - rs.length * st=(i - rs.length) * st+j:=by
   have:i * st=rs.length * st+(i - rs.length) * st:=by rw [← Nat.add_mul]; congr 1; omega
   omega
  rw [e]
  exact h2.2 _ _ (by rw [List.length_append] at hi; omega) hj
theorem Anb {rs:List (List AV)}{n i j:Nat}(h:i<n):cell (rs.take n) i j=cell rs i j:=by
 unfold cell; simp [List.getD,List.getElem?_take,h]
theorem Ao7 {rs:List (List AV)}{n i j:Nat}:cell (rs.drop n) i j=cell rs (n+i) j:=by
 unfold cell; simp [List.getD,List.getElem?_drop]
theorem Ki.take {st n:Nat}{rs:List (List AV)}{cs:List Value}(h1:Ki h mu w st rs cs)(hn:n≤rs.length):Ki h mu w st (rs.take n) (cs.take (n * st)):=by
 have hm:n * st≤rs.length * st:=Nat.mul_le_mul_right _ hn
 refine⟨by rw [List.length_take,List.length_take,h1.1,Nat.min_eq_left hm,Nat.min_eq_left hn],fun i j hi hj=>?_⟩
 rw [List.length_take] at hi
 have:=Hz (st:=st) (show i<n by omega) hj
 rw [Anb (by omega)]
 have e:(cs.take (n * st)).getD (i * st+j) undef=cs.getD (i * st+j) undef:=by simp [List.getD,List.getElem?_take,this]
 rw [e]
 exact h1.2 i j (by omega) hj
theorem Ki.drop {st n:Nat}{rs:List (List AV)}{cs:List Value}(h1:Ki h mu w st rs cs)(hn:n≤rs.length):Ki h mu w st (rs.drop n) (cs.drop (n * st)):=by
 refine⟨by rw [List.length_drop,List.length_drop,h1.1,Nat.sub_mul],fun i j hi hj=>?_⟩
 rw [List.length_drop] at hi
 rw [Ao7]
 have e:(cs.drop (n * st)).getD (i * st+j) undef=cs.getD ((n+i) * st+j) undef:=by
  simp only [List.getD,List.getElem?_drop]
  rw [show n * st+(i * st+j)=(n+i) * st+j by rw [Nat.add_mul]; omega]
 rw [e]
 exact h1.2 (n+i) j (by omega) hj
theorem Alh {h':Ab}{mu':Mu}{w':World}{st:Nat}{rs:List (List AV)}{cs:List Value}(hR:Ki h' mu' w' st rs cs)(hr : ∀ r ∈ rs,Cm st r){b off cap:Nat}(hcap:rs.length≤cap)(hlim:rs.length≤Bt)
  (hc : ∀ j v,cs[j]? = some v→w'.cell? ⟨b,off+j,none⟩=some v) (hb:b<w'.heap.size) (hm:¬ Ci h' mu' b):RV h' mu' w' (.sl st rs) (.slice (some ⟨b,off,none⟩) rs.length cap):=by
 refine .sl st rs b off cap (fun i j=>cs.getD (i * st+j) undef) hcap hlim (fun i j hi hj=>?_) (fun i j hi hj=>hR.2 i j hi hj) hr hm hb
 have:=Hz (st:=st) hi hj
 rw [Nat.add_assoc]
 exact hc _ _ (by rw [List.getD_eq_getElem?_getD,List.getElem?_eq_getElem (by rw [hR.1]; exact this)]; rfl)
theorem Al0 {h1 h2:Ab}{w':World}{k:Nat}{rs:List (List AV)}{cs:List Value}(s':Sim B mu h1 w')(e:Da h mu w h1 mu w')(hsub:G4 h2 h1)(hR:Ki h mu w k rs cs)(hr : ∀ r ∈ rs,Cm k r){b off cap:Nat}(hcap:rs.length≤cap)(hlim:rs.length≤Bt)
  (hc : ∀ j v,cs[j]? = some v→w'.cell? ⟨b,off+j,none⟩=some v) (hb:b<w'.heap.size) (hm:¬ Ci h2 mu b):Sim B mu h2 w'∧Da h mu w h2 mu w'∧RV h2 mu w' (.sl k rs) (.slice (some ⟨b,off,none⟩) rs.length cap):=by
 have e2:Da h mu w h2 mu w':=e.trans (Da.subG hsub.g)
 exact⟨s'.sub hsub,e2,Alh ⟨hR.1,fun i j hi hj=>(hR.2 i j hi hj).ext e2⟩ hr hcap hlim hc hb hm⟩
theorem An8 (s:Sim B mu h w){h2:Ab}(hsub:G4 h2 h){o g st:Nat}{rs:List (List AV)}(hx:h o=some (.rows g st rs)){l:Loc}(hl:mu o g=some l)(h2o:h2 o=none):¬ Ci h2 mu l.b:=by
 rintro⟨o',x',l',q1,q2,q3⟩
 have:=s.inj o' o _ _ l' l (hsub _ _ q1) hx q2 hl q3
 subst this
 rw [h2o] at q1; cases q1
theorem Atl (s:Sim B mu h w){o g st:Nat}{rs:List (List AV)}(hx:h o=some (.rows g st rs)){l:Loc}(hl:mu o g=some l)(hlc:l.cells=true)(hls:l.st=st)(hbase:l.base≤l.size){w':World}{cells':Array Value}{e:TypeId}{f:Nat×Nat}
  (h1:w'.os=w.os) (h2:w'.tape=w.tape) (h3:w'.output=w.output) (h4:w'.heap.size=w.heap.size) (h5 : ∀ b,b≠l.b→w'.heap[b]? = w.heap[b]?) (h6:w'.heap[l.b]? = some (.cells cells' e f)) (h7:cells'.size=l.size) (h8:Ri f l.size) :
  Sim B mu (upd h o (some (.rows g st []))) w'∧Da h mu w (upd h o (some (.rows g st []))) mu w':=by
 have:=Sim.put (rs':=[]) (l':=l) (g':=g) s hx hl h1 h2 h3 h4 h5 h6 h7 h8 (.inl ⟨rfl,rfl⟩) rfl rfl hlc (by simpa using hbase) (fun r hr=>by cases hr) (fun i j hi hj=>by simp at hi)
 have e1:C0 mu o g l=mu:=by
  funext o1 g1
  unfold C0
  split
  ·rename_i hh; obtain⟨rfl,rfl⟩:=hh; exact hl.symm
  ·rfl
 rw [e1,hls] at this
 exact this
theorem Ajt {b:Nat}{cells:Array Value}{e:TypeId}{f:Nat×Nat}(hq:w.heap[b]? = some (.cells cells e f)):w.shape? b=some (e,cells.size):=by
 unfold World.shape?; rw [hq]
theorem Acy {b n:Nat}{cells:Array Value}{e:TypeId}{f:Nat×Nat}(hq:w.heap[b]? = some (.cells cells e f))(hu:Ri f n){i:Nat}(hi:i≤n):w.frozen? ⟨b,i,none⟩=false:=by
 unfold World.frozen?
 rw [hq]
 have:=hu i hi
 cases hd:(decide (f.1≤i)&&decide (i<f.2)) with
 | false=>exact hd
 | true=>
  simp only [Bool.and_eq_true,decide_eq_true_eq] at hd
  exact absurd hd this
theorem Amj {b i:Nat}{cells:Array Value}{e:TypeId}{f:Nat×Nat}(hq:w.heap[b]? = some (.cells cells e f))(hi:i<cells.size):(w.cell? ⟨b,i,none⟩).isSome=true:=by
 unfold World.cell?; rw [hq]; simp [hi]
theorem Acv {b i:Nat}{cells:Array Value}{e:TypeId}{f:Nat×Nat}(hq:w.heap[b]? = some (.cells cells e f)):w.cell? ⟨b,i,none⟩=cells[i]? := by
 unfold World.cell?; rw [hq]; simp
theorem Aph {a b c:AV}{cargs:Array Value}(k:Ou h mu w [a,b,c] cargs.toList) : ∃ x y z,cargs = #[x,y,z]∧RV h mu w a x∧RV h mu w b y∧RV h mu w c z:=by
 obtain⟨l⟩:=cargs
 match l,k.1 with
 | [x,y,z],_=>exact⟨x,y,z,rfl,by simpa using k.2 0 (by simp),by simpa using k.2 1 (by simp),by simpa using k.2 2 (by simp)⟩
theorem Aef (x:Array Value){et:TypeId}:((w.drew.alloc (.cells x et)).heap)[w.heap.size]? = some (.cells x et (0,0)):=My (w:=w.drew)
theorem Aax {x:Obj}{i:Nat}(hi:i<w.heap.size):(w.alloc x).heap[i]? = w.heap[i]? := Cy hi
theorem Adi (x:Obj):RowKit.Below w.heap.size w (w.drew.alloc x):=⟨rfl,rfl,rfl,by show w.heap.size≤(w.drew.alloc x).heap.size; rw [Eb]; exact Nat.le_succ _,fun i hi=>Aax (w:=w.drew) hi⟩
theorem Ag4 {cs vs:List Value}{q:Nat}(hq:q≤cs.length){A:Nat→Option Value}(h1 : ∀ j,j<q → ∀ v,cs[j]? = some v→A j=some v)(h2 : ∀ j v,vs[j]? = some v→A (q+j)=some v)(h3 : ∀ j v,cs[q+j]? = some v→A (q+vs.length+j)=some v) :
  ∀ j v,(cs.take q++vs++cs.drop q)[j]? = some v→A j=some v:=by
 intro j v hj
 have ht:(cs.take q).length=q:=by rw [List.length_take]; omega
 by_cases a1:j<q
 ·rw [List.append_assoc,List.getElem?_append_left (by rw [ht]; exact a1),List.getElem?_take,if_pos a1] at hj
  exact h1 j a1 v hj
 ·by_cases a2:j<q+vs.length
  ·rw [List.getElem?_append_left (by rw [List.length_append,ht]; exact a2),List.getElem?_append_right (by rw [ht]; omega),ht] at hj
   have:=h2 _ v hj
   rwa [show q+(j - q)=j by omega] at this
  ·rw [List.getElem?_append_right (by rw [List.length_append,ht]; omega),List.length_append,ht,List.getElem?_drop] at hj
   have:=h3 _ v hj
   rwa [show q+vs.length+(j - (q+vs.length))=j by omega] at this
theorem Aj4 {sf k by' et:Nat}{J:Array Value}{α:Type}{e:α→List AV}(hok : ∀ x,Cm k (e x))(hk:0<k)(hby:k≤by'){L V:List α}{i:Int}{v v2:AV}{h0:Ab}{o o1 g g2:Nat}(hI0:Ids h0 [o,o1] 2)(hb:Sz P sf)(hv:Bp v o g L.length)(hv2:Bp v2 o1 g2 V.length)
  (wShift : ∀ (b off n c i vb voff m vc:Nat) (cs vs:List Value) (w:World),i<n→0<m→n+m≤c→n+m≤9223372036854775807→vb≠b→cs.length=n * k→vs.length=m * k →
   (∀ j v,cs[j]? = some v→w.cell? ⟨b,off+j,none⟩=some v)→(∀ j,j<(n+m) * k→(w.cell? ⟨b,off+j,none⟩).isSome=true)→(∀ j,j<(n+m) * k→w.frozen? ⟨b,off+j,none⟩=false) →
   (∀ j v,vs[j]? = some v→w.cell? ⟨vb,voff+j,none⟩=some v)→(∀ v ∈ cs,v.oneCell'=true)→(∀ v ∈ vs,v.oneCell'=true) →
   ∀ (tA tB:TypeId) (kA kB:Nat),w.shape? vb=some (tA,kA)→w.shape? b=some (tB,kB)→kB≠0→w.frozen? ⟨vb,voff,none⟩=false→w.frozen? ⟨vb,kA,none⟩=false →
   Calls P sf #[.slice (some ⟨b,off,none⟩) n c,.int .i64 i,.slice (some ⟨vb,voff,none⟩) m vc] w fun e w'=>
    e=.returned (.slice (some ⟨b,off,none⟩) (n+m) c)∧w'=(w.drew.setCells b (off+(i+m) * k) (cs.drop (i * k))).setCells b (off+i * k) vs)
  (wGrow : ∀ (b off n c i vb voff m vc:Nat) (cs vs:List Value) (w:World),i<n→0<m→n≤c→c<n+m→(n+m) * by'≤140737488355328→cs.length=n * k→vs.length=m * k →
   (∀ j v,cs[j]? = some v→w.cell? ⟨b,off+j,none⟩=some v)→(∀ j v,vs[j]? = some v→w.cell? ⟨vb,voff+j,none⟩=some v)→(∀ v ∈ cs,v.oneCell'=true)→(∀ v ∈ vs,v.oneCell'=true) →
   Calls P sf #[.slice (some ⟨b,off,none⟩) n c,.int .i64 i,.slice (some ⟨vb,voff,none⟩) m vc] w fun e w'=>
    e=.returned (.slice (some ⟨w.heap.size,0,none⟩) (n+m) (grownCap w (n+m) c et)) ∧
    w'=(((w.alloc (.cells ((cs.take (i * k)).toArray++Builtin.zeroCells J (n+m - i)++Builtin.zeroCells J (grownCap w (n+m) c et - (n+m))) et)).drew.setCells w.heap.size (i * k) vs).drew).setCells w.heap.size ((i+m) * k) (cs.drop (i * k)))
  (wRoom : ∀ (b off n c vb voff m vc:Nat) (vs:List Value) (w:World),0<m→n+m≤c→n+m≤9223372036854775807→vs.length=m * k→(∀ j,j<m * k→(w.cell? ⟨b,off+n * k+j,none⟩).isSome=true)→(∀ j,j<m * k→w.frozen? ⟨b,off+n * k+j,none⟩=false) →
   (∀ j v,vs[j]? = some v→w.cell? ⟨vb,voff+j,none⟩=some v)→(∀ v ∈ vs,v.oneCell'=true) →
   Calls P sf #[.slice (some ⟨b,off,none⟩) n c,.int .i64 n,.slice (some ⟨vb,voff,none⟩) m vc] w fun e w'=>e=.returned (.slice (some ⟨b,off,none⟩) (n+m) c)∧w'=w.setCells b (off+n * k) vs)
  (wEnd : ∀ (base:Option Addr) (n c vb voff m vc:Nat) (cs vs:List Value) (w:World),0<m→n≤c→c<n+m→(n+m) * by'≤140737488355328→cs.length=n * k→vs.length=m * k→(base=none→n=0) →
   (∀ a,base=some a → ∀ j v,cs[j]? = some v→w.cell? (a.add j)=some v)→(∀ j v,vs[j]? = some v→w.cell? ⟨vb,voff+j,none⟩=some v)→(∀ v ∈ vs,v.oneCell'=true) →
   Calls P sf #[.slice base n c,.int .i64 n,.slice (some ⟨vb,voff,none⟩) m vc] w fun e w'=>
    e=.returned (.slice (some ⟨w.heap.size,0,none⟩) (n+m) (grownCap w (n+m) c et))∧w'=w.drew.alloc (.cells (cs.toArray++vs.toArray++Builtin.zeroCells J (grownCap w (n+m) c et - (n+m))) et))
  (hzz:J.size=k) :
  Rd by' L i V≠.bad→Bm P sf [v,.int .i64 i,v2] (hp h0 [o,o1] [Bb v g k (L.map e),Bb v2 g2 k (V.map e)])
   (Ed (fun a_ v' h'=>v'=.sl k (a_.map e)∧h'=hp h0 [o,o1] [none,none]) h0 (Rd by' L i V)):=by
 intro hne
 unfold Rd at hne ⊢
 split at hne
 case isFalse=>exact absurd rfl hne
 rename_i hc
 rw [if_pos hc]
 obtain⟨hi0,hiL,hV,hlim⟩:=hc
 obtain⟨p,rfl⟩ : ∃ p:Nat,i=(p:Int):=⟨i.toNat,by omega⟩
 have hpL:p≤L.length:=by omega
 rw [Int.toNat_natCast]
 have hv2r:=hv2.isRef hV
 subst hv2r
 have hlim':(L.length+V.length) * by'≤140737488355328:=hlim
 have hnm:L.length+V.length≤Bt:=Nat.le_trans (Nat.le_mul_of_pos_right _ (by omega)) hlim
 have hokL : ∀ (X:List α),∀ r ∈ X.map e,Cm k r:=fun X r hr=>by obtain⟨x,_,rfl⟩:=List.mem_map.1 hr; exact hok x
 refine⟨hb,fun B mu w cargs s ha=>?_⟩
 obtain⟨c0,c1,c2,rfl,hc0,hc1,hc2⟩:=Aph ha
 have:=Aqp hc1
 subst this
 generalize hH:hp h0 [o,o1] [Bb v g k (L.map e),Bb (.ref o1 g2 0 V.length) g2 k (V.map e)]=H at s hc0 hc2 ha
 have hx2:H o1=some (.rows g2 k (V.map e)):=by rw [← hH]; exact hI0.at (xs:=[_,_]) rfl (j:=1) rfl
 rcases Ahe hv2 hc2 with⟨a,h1,_,_⟩ | ⟨l2,cap2,_,hl2,_,hcap2,hsz2,rfl⟩
 ·cases h1
 obtain⟨vs,cells2,e2,f2,z1,z2,z3,z4,z5,z6,z7,z8,vlen,vcell,vrv,vone⟩:=Ahm s hx2 hl2
 rw [List.length_map] at vlen z6
 have hsub:G4 (hp h0 [o,o1] [none,none]) H:=by rw [← hH]; exact Drops.sub (.drop (.drop .nil)) hI0.len
 have hRV:Ki H mu w k (V.map e) vs:=⟨by rw [List.length_map]; exact vlen,vrv⟩
 have hnone:hp h0 [o,o1] [none,none] o=none:=hI0.at (xs:=[none,none]) rfl (j:=0) rfl
 have hlenR:((L.take p++V++L.drop p).map e).length=L.length+V.length:=by simp; omega
 have hmapR:(L.take p++V++L.drop p).map e=(L.map e).take p++V.map e++(L.map e).drop p:=by simp [List.map_take,List.map_drop]
 have hnew : ∀ (w':World) (cap:Nat) (csN:List Value) (cells':Array Value) (te:TypeId) (fe:Nat×Nat),Ki H mu w k ((L.take p++V++L.drop p).map e) csN→RowKit.Below w.heap.size w w'→L.length+V.length≤cap→w'.heap[w.heap.size]? = some (.cells cells' te fe)→(∀ (j:Nat) (v:Value),csN[j]? = some v→cells'[j]? = some v) →
   ∃ r h' mu',Ed (fun(a_:List α) v' h'=>v'=.sl k (a_.map e)∧h'=hp h0 [o,o1] [none,none]) h0 (.ok (L.take p++V++L.drop p)) r h'∧Sim B mu' h' w'∧Da H mu w h' mu' w'∧ERv h' mu' w' r (.returned (.slice (some ⟨w.heap.size,0,none⟩) (L.length+V.length) cap)):=by
  intro w' cap csN cells' te fe hR hbel hcap hq hcells
  obtain⟨s',e'⟩:=Below.ext s hbel
  have hN:w.heap.size<w'.heap.size:=by
   rcases Nat.lt_or_ge w.heap.size w'.heap.size with hh | hh
   ·exact hh
   ·rw [Array.getElem?_eq_none hh] at hq; cases hq
  obtain⟨t1,t2,t3⟩:=Al0 s' e' hsub hR (hokL _) (b:=w.heap.size) (off:=0) (cap:=cap) (by rw [hlenR]; exact hcap) (by rw [hlenR]; exact hnm) (fun j v hj=>by rw [Acv hq,Nat.zero_add]; exact hcells j v hj) hN (fun hm=>by have:=Ci.lt s (Ci.sub hsub _ hm); omega)
  rw [hlenR] at t3
  exact⟨.ret (.sl k ((L.take p++V++L.drop p).map e)),_,mu,⟨_,rfl,rfl,rfl⟩,t1,t2,t3⟩
 rcases Ahe hv hc0 with⟨a,rfl,hn0,rfl⟩ | ⟨l,cap,rfl,hl,_,hcap,hsz,rfl⟩
 ·have hL:L=[]:=List.eq_nil_of_length_eq_zero hn0
  subst hL
  have hp0:p=0:=by simpa using hpL
  subst hp0
  refine(wEnd a 0 0 l2.b l2.base V.length cap2 [] vs w hV (Nat.le_refl _) (by omega) (by simpa using hlim') (by simp) vlen (fun _=>rfl) (fun a _ j v hj=>by simp at hj) vcell vone).mono ?_
  rintro ee w' ⟨rfl,rfl⟩
  have hge:=grownCap_ge w (0+V.length) 0 et
  have:=hnew (w.drew.alloc (.cells (([]:List Value).toArray++vs.toArray++Builtin.zeroCells J (grownCap w (0+V.length) 0 et - (0+V.length))) et)) (grownCap w (0+V.length) 0 et) vs _ et (0,0) (by simpa using hRV) (Adi _) (by simpa using hge) (Aef _) (fun j v hj=>by
   have hlt:j<vs.length:=by
    rcases Nat.lt_or_ge j vs.length with hh | hh
    ·exact hh
    ·rw [List.getElem?_eq_none hh] at hj; cases hj
   rw [Array.getElem?_append_left (by simpa using hlt)]
   simpa using hj)
  simpa using this
 ·have hx:H o=some (.rows g k (L.map e)):=by rw [← hH]; exact hI0.at (xs:=[_,_]) rfl (j:=0) rfl
  obtain⟨cs,cells,ee,f,y1,y2,y3,y4,y5,y6,y7,y8,clen,ccell,crv,cone⟩:=Ahm s hx hl
  rw [List.length_map] at clen y6
  have hRL:Ki H mu w k (L.map e) cs:=⟨by rw [List.length_map]; exact clen,crv⟩
  have hne2:l2.b≠l.b:=fun hh=>by
   have h1:=s.inj o1 o _ _ l2 l hx2 hx hl2 hl hh
   have h2:=hI0.nodup
   rw [h1] at h2
   simp at h2
  have hRR:Ki H mu w k ((L.take p++V++L.drop p).map e) (cs.take (p * k)++vs++cs.drop (p * k)):=by
   rw [hmapR]
   exact(Ki.app (Ki.app (hRL.take (by rw [List.length_map]; exact hpL)) hRV) (hRL.drop (by rw [List.length_map]; exact hpL)))
  have hpk:p * k≤cs.length:=by rw [clen]; exact Nat.mul_le_mul_right _ hpL
  rw [y5] at hsz
  have hadd:(L.length+V.length) * k=L.length * k+V.length * k:=Nat.add_mul _ _ _
  have hpmk:(p+V.length) * k=p * k+V.length * k:=Nat.add_mul _ _ _
  have hold : ∀ (w':World) (cells':Array Value),w'.os=w.os→w'.tape=w.tape→w'.output=w.output→w'.heap.size=w.heap.size→(∀ b,b≠l.b→w'.heap[b]? = w.heap[b]?)→w'.heap[l.b]? = some (.cells cells' ee f)→cells'.size=l.size→L.length+V.length≤cap →
    (∀ (j:Nat) (v:Value),(cs.take (p * k)++vs++cs.drop (p * k))[j]? = some v→cells'[l.base+j]? = some v) →
    ∃ r h' mu',Ed (fun(a_:List α) v' h'=>v'=.sl k (a_.map e)∧h'=hp h0 [o,o1] [none,none]) h0 (.ok (L.take p++V++L.drop p)) r h'∧Sim B mu' h' w'∧Da H mu w h' mu' w'∧ERv h' mu' w' r (.returned (.slice (some ⟨l.b,l.base,none⟩) (L.length+V.length) cap)):=by
   intro w' cells' u1 u2 u3 u4 u5 u6 u7 hroom hcells
   obtain⟨s',e'⟩:=Atl s hx hl y4 y5 (by omega) u1 u2 u3 u4 u5 u6 u7 y3
   have hsub':G4 (hp h0 [o,o1] [none,none]) (upd H o (some (.rows g k []))):=by
    intro q x hq
    unfold upd
    split
    ·rename_i hh; subst hh; rw [hnone] at hq; cases hq
    ·exact hsub q x hq
   obtain⟨t1,t2,t3⟩:=Al0 s' e' hsub' hRR (hokL _) (b:=l.b) (off:=l.base) (cap:=cap) (by rw [hlenR]; exact hroom) (by rw [hlenR]; exact hnm) (fun j v hj=>by rw [Acv u6]; exact hcells j v hj) (by rw [u4]; exact y7) (An8 s hsub hx hl hnone)
   rw [hlenR] at t3
   exact⟨.ret (.sl k ((L.take p++V++L.drop p).map e)),_,mu,⟨_,rfl,rfl,rfl⟩,t1,t2,t3⟩
  by_cases hpn:p<L.length
  ·by_cases hroom:L.length+V.length≤cap
   ·have hck:(L.length+V.length) * k≤cap * k:=Nat.mul_le_mul_right _ hroom
    have hm1:p * k+1≤L.length * k:=by have:=Nat.mul_le_mul_right k (show p+1≤L.length by omega); rw [Nat.add_mul] at this; omega
    refine(wShift l.b l.base L.length cap p l2.b l2.base V.length cap2 cs vs w hpn hV hroom (by simp only [Bt] at hnm; omega) hne2 clen vlen ccell (fun j hj=>Amj y1 (by rw [y2]; omega)) (fun j hj=>Acy y1 y3 (by omega)) vcell cone vone e2 ee cells2.size cells.size (Ajt z1) (Ajt y1) (by rw [y2]; omega) (Acy z1 z3 (by omega)) (Acy z1 z3 (by rw [z2]; exact Nat.le_refl _))).mono ?_
    rintro en w' ⟨rfl,rfl⟩
    have hdl:(cs.drop (p * k)).length=L.length * k - p * k:=by rw [List.length_drop,clen]
    obtain⟨ca,q1,q2,q3,q4,q5,q6,q7,q8,q9⟩:=Iu l.b (cs.drop (p * k)) (l.base+(p+V.length) * k) w.drew cells ee f y1 (by rw [y2,hdl]; omega)
    obtain⟨cb,r1,r2,r3,r4,r5,r6,r7,r8,r9⟩:=Iu l.b vs (l.base+p * k) _ ca ee f q1 (by rw [q2,y2,vlen]; omega)
    refine hold _ cb (r7.trans q7) (r8.trans q8) (r9.trans q9) (r6.trans q6) (fun b hb=>(r5 b hb).trans (q5 b hb)) r1 (by rw [r2,q2,y2]) hroom ?_
    refine Ag4 hpk (fun j hj v hjv=>?_) (fun j v hjv=>?_) (fun j v hjv=>?_)
    ·rw [r4 _ (.inl (by omega)),q4 _ (.inl (by omega)),← Acv y1]
     exact ccell j v hjv
    ·have hlt:=Au hjv
     rw [← Nat.add_assoc,r3 j hlt]; exact hjv
    ·have hlt:=Au hjv
     rw [r4 _ (.inr (by omega)),show l.base+(p * k+vs.length+j)=l.base+(p+V.length) * k+j by omega,q3 j (by rw [hdl]; omega),List.getElem?_drop]
     exact hjv
   ·have hroom':cap<L.length+V.length:=by omega
    have hm1:p * k+1≤L.length * k:=by have:=Nat.mul_le_mul_right k (show p+1≤L.length by omega); rw [Nat.add_mul] at this; omega
    refine(wGrow l.b l.base L.length cap p l2.b l2.base V.length cap2 cs vs w hpn hV hcap hroom' hlim' clen vlen ccell vcell cone vone).mono ?_
    rintro en w' ⟨rfl,rfl⟩
    have hge:=grownCap_ge w (L.length+V.length) cap et
    have hdl:(cs.drop (p * k)).length=L.length * k - p * k:=by rw [List.length_drop,clen]
    have htl:(cs.take (p * k)).length=p * k:=by rw [List.length_take]; omega
    have hpm:(L.length+V.length - p) * k=L.length * k+V.length * k - p * k:=by rw [Nat.sub_mul,hadd]
    generalize hROW:(cs.take (p * k)).toArray++Builtin.zeroCells J (L.length+V.length - p)++Builtin.zeroCells J (grownCap w (L.length+V.length) cap et - (L.length+V.length))=ROW
    have hRs:(L.length+V.length) * k≤ROW.size:=by
     rw [← hROW]
     simp only [Array.size_append,size_zc,List.size_toArray,htl,hzz]
     omega
    have hRg : ∀ j v,j<p * k→cs[j]? = some v→ROW[j]? = some v:=fun j v hj hjv=>by
     rw [← hROW,Array.append_assoc,Array.getElem?_append_left (by rw [List.size_toArray,htl]; exact hj)]
     simp [List.getElem?_take,hj,hjv]
    obtain⟨ca,q1,q2,q3,q4,q5,q6,q7,q8,q9⟩:=Iu w.heap.size vs (p * k) (w.alloc (.cells ROW et)).drew ROW et (0,0) (Aef (w:=w) _) (by rw [vlen]; omega)
    obtain⟨cb,r1,r2,r3,r4,r5,r6,r7,r8,r9⟩:=Iu w.heap.size (cs.drop (p * k)) ((p+V.length) * k) ((w.alloc (.cells ROW et)).drew.setCells w.heap.size (p * k) vs).drew ca et (0,0) q1 (by rw [q2,hdl]; omega)
    refine hnew _ _ (cs.take (p * k)++vs++cs.drop (p * k)) cb et (0,0) hRR ⟨r7.trans q7,r8.trans q8,r9.trans q9,?_,fun i hi=>?_⟩ hge r1 ?_
    ·rw [r6]
     show w.heap.size≤((w.alloc (.cells ROW et)).drew.setCells w.heap.size (p * k) vs).heap.size
     rw [q6]
     show w.heap.size≤(w.alloc (.cells ROW et)).heap.size
     rw [Eb]; omega
    ·rw [r5 i (by omega)]
     show((w.alloc (.cells ROW et)).drew.setCells w.heap.size (p * k) vs).heap[i]? = _
     rw [q5 i (by omega)]
     exact Aax hi
    ·refine Ag4 hpk (fun j hj v hjv=>?_) (fun j v hjv=>?_) (fun j v hjv=>?_)
     ·rw [r4 _ (.inl (by omega)),q4 _ (.inl (by omega))]
      exact hRg j v hj hjv
     ·have hlt:=Au hjv
      rw [r4 _ (.inl (by omega)),q3 j hlt]; exact hjv
     ·have hlt:=Au hjv
      rw [show p * k+vs.length+j=(p+V.length) * k+j by omega,r3 j (by rw [hdl]; omega),List.getElem?_drop]
      exact hjv
  ·have hpe:p=L.length:=by omega
   subst hpe
   have htk:cs.take (L.length * k)=cs:=List.take_of_length_le (by omega)
   have hdk:cs.drop (L.length * k)=[]:=List.drop_eq_nil_of_le (by omega)
   by_cases hroom:L.length+V.length≤cap
   ·have hck:(L.length+V.length) * k≤cap * k:=Nat.mul_le_mul_right _ hroom
    refine(wRoom l.b l.base L.length cap l2.b l2.base V.length cap2 vs w hV hroom (by simp only [Bt] at hnm; omega) vlen (fun j hj=>Amj y1 (by rw [y2]; omega)) (fun j hj=>Acy y1 y3 (by omega)) vcell vone).mono ?_
    rintro en w' ⟨rfl,rfl⟩
    obtain⟨cb,r1,r2,r3,r4,r5,r6,r7,r8,r9⟩:=Iu l.b vs (l.base+L.length * k) w cells ee f y1 (by rw [y2,vlen]; omega)
    refine hold _ cb r7 r8 r9 r6 r5 r1 (by rw [r2,y2]) hroom ?_
    refine Ag4 hpk (fun j hj v hjv=>?_) (fun j v hjv=>?_) (fun j v hjv=>?_)
    ·rw [r4 _ (.inl (by omega)),← Acv y1]
     exact ccell j v hjv
    ·have hlt:=Au hjv
     rw [← Nat.add_assoc,r3 j hlt]; exact hjv
    ·have hlt:=Au hjv; omega
   ·have hroom':cap<L.length+V.length:=by omega
    refine(wEnd (some ⟨l.b,l.base,none⟩) L.length cap l2.b l2.base V.length cap2 cs vs w hV hcap hroom' hlim' clen vlen (fun h=>by cases h) (fun a ha j v hj=>by cases ha; rw [Id]; exact ccell j v hj) vcell vone).mono ?_
    rintro en w' ⟨rfl,rfl⟩
    have hge:=grownCap_ge w (L.length+V.length) cap et
    refine hnew _ _ (cs.take (L.length * k)++vs++cs.drop (L.length * k)) _ et (0,0) hRR (Adi _) hge (Aef _) ?_
    rw [htk,hdk,List.append_nil]
    intro j v hj
    have hlt:=Au hj
    rw [Array.getElem?_append_left (by simpa using hlt)]
    simpa using hj
end
end Go.Am
namespace Go.Am
open Go
set_option linter.unusedVariables false
set_option linter.unusedSectionVars false
def Ej (k:IntKind)(a b:Int):Int:=k.wrap (BitVec.ofInt k.bits a &&& BitVec.ofInt k.bits b).toNat
def Mg (k:IntKind)(a b:Int):Int:=k.wrap (BitVec.ofInt k.bits a ||| BitVec.ofInt k.bits b).toNat
def C2 (k:IntKind)(a b:Int):Int:=k.wrap (BitVec.ofInt k.bits a ^^^ BitVec.ofInt k.bits b).toNat
def Qo (k:IntKind)(a b:Int):Int:=k.wrap (a * 2 ^ (min b.toNat k.bits))
def O9 (k:IntKind)(a b:Int):Int:=a.fdiv (2 ^ (min b.toNat k.bits))
theorem S7 {P:Program}[GW P]{t:TypeId}{k:IntKind}{a b:Int}:Ke P .and t (.int k a) (.int k b)=some (.int k (Ej k a b)):=by simp [Ke,Ej]
theorem Wv {P:Program}[GW P]{t:TypeId}{k:IntKind}{a b:Int}:Ke P .or t (.int k a) (.int k b)=some (.int k (Mg k a b)):=by simp [Ke,Mg]
theorem Kx {P:Program}[GW P]{t:TypeId}{k:IntKind}{a b:Int}:Ke P .xor t (.int k a) (.int k b)=some (.int k (C2 k a b)):=by simp [Ke,C2]
theorem Aam {P:Program}[GW P]{t:TypeId}{k k':IntKind}{a b:Int}(hb:0≤b):Ke P .shl t (.int k a) (.int k' b)=some (.int k (Qo k a b)):=by simp only [Ke,if_pos hb,Qo]
theorem Z5 {P:Program}[GW P]{t:TypeId}{k k':IntKind}{a b:Int}(hb:0≤b):Ke P .shr t (.int k a) (.int k' b)=some (.int k (O9 k a b)):=by simp only [Ke,if_pos hb,O9]
end Go.Am
namespace Go.Am
open Go
set_option linter.unusedVariables false
set_option linter.unusedSectionVars false
set_option linter.unusedSimpArgs false
def Io {α σ ε:Type}(body:α→σ→R (σ ⊕ ε)):List α→σ→R (σ ⊕ ε)
 | [],s=>.ok (.inl s)
 | a::l,s=>(body a s).bind (alt (fun s'=>Io body l s') (fun e=>.ok (.inr e)))
open Classical in
noncomputable def Z1 {α σ ε : Type} (body : α → σ → R (σ ⊕ ε)) (M : List α) (s : σ) : R (σ ⊕ ε) := if ∀ L, L.Perm M → Io body L s = Io body M s then Io body M s else .bad
theorem Arp {α σ ε:Type}{body:α→σ→R (σ ⊕ ε)}{M:List α}{s:σ}(h : ∀ L,L.Perm M→Io body L s=Io body M s):Z1 body M s=Io body M s:=if_pos h
theorem Ar5 {α σ ε:Type}{body:α→σ→R (σ ⊕ ε)}{M:List α}{s:σ}(h:Z1 body M s≠.bad):(∀ L,L.Perm M→Io body L s=Io body M s)∧Z1 body M s=Io body M s:=by
 unfold Z1 at h ⊢
 split
 ·exact⟨‹_›,rfl⟩
 ·rename_i hn; rw [if_neg hn] at h; exact absurd rfl h
section
variable {α:Type}
def Akm (o:Nat)(E:α→AV×AV)(M:List α)(v:AV)(x:AO)(R:List α):Prop:=
 (∃ (g b clock:Nat) (ens:Array MapEntry) (seen:Array Nat) (I:List Nat),v=.itm o g b clock ens (M.map E)∧x=.blk g (.mapIter (some b) clock seen clock)∧(ens.toList.map (·.born)).Nodup∧M.length=ens.size∧I.Nodup ∧
  (∀ i,i ∈ I↔i<M.length∧(ens.getD i default).born ∉ seen)∧R.Perm (I.filterMap (M[·]?))) ∨
 (M=[]∧R=[] ∧ ∃ g,v=.it o g∧x=.blk g (.mapIter none 0 #[] 0))
def Air (o:Nat)(E:α→AV×AV)(M:List α)(v:AV)(x:AO)(R:List α)(a:α):Prop:=
 Akm o E M v x R ∧ ∃ (g b clock:Nat) (ens:Array MapEntry) (seen:Array Nat) (i:Nat),v=.itm o g b clock ens (M.map E)∧M[i]? = some a∧x=.blk g (.mapIter (some b) clock (seen.push (ens.getD i default).born) clock)
theorem Air.ok {o:Nat}{E:α→AV×AV}{M:List α}{v:AV}{x:AO}{R:List α}{a:α}(h:Air o E M v x R a):Akm o E M v x R:=h.1
theorem An7 (M:List α):M.Perm ((List.range M.length).filterMap (M[·]?)):=by
 have:(List.range M.length).filterMap (M[·]?)=M:=by
  apply List.ext_getElem?
  intro i
  induction M generalizing i with
  | nil=>simp
  | cons a M ih=>
   rw [List.length_cons,List.range_succ_eq_map,List.filterMap_cons]
   simp only [List.getElem?_cons_zero,List.filterMap_map]
   cases i with
   | zero=>rfl
   | succ i=>
    rw [List.getElem?_cons_succ,List.getElem?_cons_succ,← ih i]
    rfl
 rw [this]
theorem Asl {ens:Array MapEntry}(hn:(ens.toList.map (·.born)).Nodup){i j:Nat}(hi:i<ens.size)(hj:j<ens.size)(e:(ens.getD i default).born=(ens.getD j default).born):i=j:=by
 have h1:(ens.toList.map (·.born))[i]? = some (ens.getD i default).born:=by simp [Array.getD,hi]
 have h2:(ens.toList.map (·.born))[j]? = some (ens.getD j default).born:=by simp [Array.getD,hj]
 rw [← e] at h2
 exact(List.getElem?_inj (by simpa using hi) hn).1 (h1.trans h2.symm)
end
section
variable {P:Program} [GW P] {f:FuncId} {n:Nat} {d:FK} {β γ:Type} {Q:Spec β} {m:R β} {ds:List AD} {h:Ab} {u:AU} {k:List Item} {l:List (Nat×AV)} {F:γ→R β} {fr:Nat→AV}
variable {all r:List Oper} {h0:Ab} {ids:List Nat} {xs:List (Option AO)} {N:Nat} {ty:TypeId} {pos:String} {after:Array Edge} {α:Type} {E:α→AV×AV} {M:List α}
theorem Akh {m m':R γ}{ops:List Oper}(e:m=m')(hr:WO P f n d Q k all (m'.bind F) ops fr ds h u):WO P f n d Q k all (m.bind F) ops fr ds h u:=e ▸ hr
theorem Arn {t j:Nat}{mt kt et:TypeId}{a b:Nat}{z:List AV}{x:Operand}(hI:Ids h0 ids N)(hl:xs.length=N)(hjn:Nat.blt j N=true)(hj:xs[j]? = some none)(ht:Nat.blt t n=true)(hT:ti P mt=some ⟨.map kt et,a,b,z⟩)(hx:ev (Ag l) x=.mapi (M.map E))
  (hk : ∀ v xo,Akm (ix ids j) E M v xo M→WO P f n d Q k all m r (Ag ((t,v)::l)) ds (hp h0 ids (xs.set j (some xo))) u) :
  WO P f n d Q k all m (⟨some t,.range mt x,ty,pos,after,none⟩::r) (Ag l) ds (hp h0 ids xs) u:=by
 refine K6 ht (fun _ _=>rfl) fun K hK=>?_
 simp only [C5,hx,Acd]
 refine⟨⟨_,hT,_,_,rfl⟩,ix ids j,hI.at hl hj,fun g=>⟨fun b clock ens hs hlen=>hK _ _ ?_,fun he=>hK _ _ ?_⟩⟩
 ·rw [hI.set hl hjn]
  have hlen':M.length=ens.size:=by simpa using hlen
  exact hk _ _ (.inl ⟨g,b,clock,ens,#[],List.range M.length,rfl,rfl,hs.2.1,hlen',List.nodup_range,fun i=>by simp,An7 M⟩)
 ·rw [hI.set hl hjn]
  have:M=[]:=by simpa using he
  subst this
  exact hk _ _ (.inr ⟨rfl,rfl,g,rfl,rfl⟩)
theorem At6 {t j:Nat}{x:Operand}{v:AV}{xo:AO}{R:List α}(hI:Ids h0 ids N)(hl:xs.length=N)(hjn:Nat.blt j N=true)(hj:xs[j]? = some (some xo))(ht:Nat.blt t n=true)(hv:ev (Ag l) x=v)(hi:Akm (ix ids j) E M v xo R)
  (hk0:R=[]→WO P f n d Q k all m r (Ag ((t,.tup [.bool false])::l)) ds (hp h0 ids xs) u)
  (hk1 : ∀ a R' xo',R.Perm (a::R')→Air (ix ids j) E M v xo' R' a→WO P f n d Q k all m r (Ag ((t,.tup [.bool true,(E a).1,(E a).2])::l)) ds (hp h0 ids (xs.set j (some xo'))) u) :
  WO P f n d Q k all m (⟨some t,.next x false,ty,pos,after,none⟩::r) (Ag l) ds (hp h0 ids xs) u:=by
 refine K6 ht (fun _ _=>rfl) fun K hK=>?_
 simp only [C5,hv]
 rcases hi with⟨g,b,clock,ens,seen,I,rfl,rfl,hn,hlen,hd,hI',hp⟩ | ⟨rfl,rfl,g,rfl,rfl⟩
 ·refine⟨seen,hI.at hl hj,fun hall=>hK _ _ (hk0 ?_),fun i hi hns=>hK _ _ ?_⟩
  ·have:I=[]:=by
    cases I with
    | nil=>rfl
    | cons i I=>
     have:=(hI' i).1 (List.mem_cons_self ..)
     exact absurd (hall i (by simpa using this.1)) this.2
   subst this
   simpa using hp
  ·have hi':i<M.length:=by simpa using hi
   have hm:i ∈ I:=(hI' i).2 ⟨hi',hns⟩
   obtain⟨a,ha⟩ : ∃ a,M[i]? = some a:=⟨M[i],List.getElem?_eq_getElem hi'⟩
   have hE:(M.map E).getD i (.und,.und)=E a:=by simp [List.getD,ha]
   rw [hE,hI.set hl hjn]
   have hperm:R.Perm (a::(I.erase i).filterMap (M[·]?)):=by
    refine hp.trans ?_
    have:=(List.perm_cons_erase hm).filterMap (M[·]?)
    rwa [List.filterMap_cons,ha] at this
   refine hk1 a ((I.erase i).filterMap (M[·]?)) _ hperm ⟨.inl ⟨g,b,clock,ens,seen.push (ens.getD i default).born,I.erase i,rfl,rfl,hn,hlen,hd.erase i,fun i'=>?_,.refl _⟩,g,b,clock,ens,seen,i,rfl,ha,rfl⟩
   rw [hd.mem_erase_iff,hI' i',Array.mem_push]
   constructor
   ·rintro⟨hne,h1,h2⟩
    refine⟨h1,?_⟩
    rintro(h3 | h3)
    ·exact h2 h3
    ·exact hne (Asl hn (by omega) (by omega) h3)
   ·rintro⟨h1,h2⟩
    exact⟨fun e=>h2 (.inr (by rw [e])),h1,fun h3=>h2 (.inl h3)⟩
 ·exact⟨hI.at hl hj,hK _ _ (hk0 rfl)⟩
theorem Asu {t j:Nat}{x:Operand}{v:AV}{xo:AO}{R:List α}{a:α}(hI:Ids h0 ids N)(hl:xs.length=N)(hj:xs[j]? = some (some xo))(ht:Nat.blt t n=true)(hv:ev (Ag l) x=v)(hi:Air (ix ids j) E M v xo R a)
  (hk:WO P f n d Q k all m r (Ag ((t,.tup [(E a).1,(E a).2])::l)) ds (hp h0 ids xs) u) :
  WO P f n d Q k all m (⟨some t,.entry x,ty,pos,after,none⟩::r) (Ag l) ds (hp h0 ids xs) u:=by
 refine K6 ht (fun _ _=>rfl) fun K hK=>?_
 simp only [C5,hv]
 obtain⟨_,g,b,clock,ens,seen,i,rfl,ha,rfl⟩:=hi
 have hi':i<M.length:=Au ha
 have hE:(M.map E).getD i (.und,.und)=E a:=by simp [List.getD,ha]
 refine⟨seen,i,by simpa using hi',hI.at hl hj,hK _ _ ?_⟩
 rw [hE]
 exact hk
open Classical in
theorem At5 {σ ε : Type} {c : Code} (M : List α) (body : α → σ → R (σ ⊕ ε)) (rest : σ ⊕ ε → R γ) (St : List α → σ → (Nat → AV) → Ab → Prop) (s0 : σ) (hp : ∀ L, L.Perm M → Io body L s0 = Io body M s0) (hs : St M s0 fr h)
  (round : ∀ (Z : List α) (W : List α → σ → R (σ ⊕ ε)), (∀ Z s fr h, St Z s fr h → WR P f n d Q (((W Z s).bind rest).bind F) (.inLoop c :: k) fr ds h u) → ∀ s fr h, St Z s fr h → ∀ m,
   (Z = [] → m = (rest (.inl s)).bind F) → (∀ a Z', Z.Perm (a :: Z') → m = (body a s).bind (Yv (W Z') rest F)) → WR P f n d Q m (.code c :: .inLoop c :: k) fr ds h u) :
  WR P f n d Q (((Io body M s0).bind rest).bind F) (.code (.loop c) :: k) fr ds h u := by
 let Inv : List α → σ → Prop := fun Z s => ∃ p : List α, (p ++ Z).Perm M ∧ ∀ Z', Io body (p ++ Z') s0 = Io body Z' s
 have key : ∀ (q : Nat) (Z : List α) (s : σ) (fr : Nat → AV) (h : Ab), Z.length = q → Inv Z s → St Z s fr h → WR P f n d Q (((Io body Z s).bind rest).bind F) (.inLoop c :: k) fr ds h u := by
  intro q
  induction q with
  | zero =>
   intro Z s fr h hq hi hs hb
   obtain rfl := List.eq_nil_of_length_eq_zero hq
   refine Ve (round [] (fun _ _ => .bad) (fun _ _ _ _ _ hb => absurd hb Q.bad) s fr h hs _ (fun _ => rfl) (fun a Z' hp => ?_) hb)
   exact absurd hp.length_eq (by simp)
  | succ q ih =>
   intro Z s fr h hq hi hs hb
   obtain ⟨p, hpm, hpe⟩ := hi
   refine Ve (round Z (fun Z' s' => if Z'.length = q ∧ Inv Z' s' then Io body Z' s' else .bad) (fun Z' s' fr' h' hs' hb' => ?_) s fr h hs _ (fun e => ?_) (fun a Z' hp' => ?_) hb)
   ·by_cases hc : Z'.length = q ∧ Inv Z' s'
    ·simp only [hc, and_self, if_true] at hb' ⊢
     exact ih Z' s' fr' h' hc.1 hc.2 hs' hb'
    ·simp only [hc, if_false] at hb'
     exact absurd hb' Q.bad
   ·subst e; simp at hq
   ·have e1 : Io body Z s = Io body (a :: Z') s := by
     rw [← hpe Z, ← hpe (a :: Z'), hp _ hpm, hp _ ((List.Perm.append_left p hp'.symm).trans hpm)]
    rw [e1, Io, R.bind_assoc, R.bind_assoc]
    cases hbo : body a s with
    | bad => rfl
    | pan v => rfl
    | ok x =>
     cases x with
     | inr e => rfl
     | inl s' =>
      have hl' : Z'.length = q := by have := hp'.length_eq; simp at this; omega
      have hi' : Inv Z' s' := by
       refine ⟨p ++ [a], ?_, fun Z'' => ?_⟩
       ·rw [List.append_assoc]
        exact (List.Perm.append_left p hp'.symm).trans hpm
       ·rw [List.append_assoc, hpe, List.singleton_append, Io, hbo]
        rfl
      simp only [R.ok_bind, alt, Yv, hl', hi', and_self, if_true]
      exact (R.bind_assoc _ _ _).symm
 intro hb
 exact Ad0 (key M.length M s0 fr h rfl ⟨[], .refl _, fun _ => rfl⟩ hs hb)
theorem At4 {σ ε:Type}{c:Code}(M:List α)(body:α→σ→R (σ ⊕ ε))(rest:σ ⊕ ε→R γ)(St:List α→σ→(Nat→AV)→Ab→Prop)(s0:σ)(hs:St M s0 fr h)
  (round : ∀ (Z:List α) (W:List α→σ→R (σ ⊕ ε)),(∀ Z s fr h,St Z s fr h→WR P f n d Q (((W Z s).bind rest).bind F) (.inLoop c::k) fr ds h u) → ∀ s fr h,St Z s fr h → ∀ m,
   (Z=[]→m=(rest (.inl s)).bind F)→(∀ a Z',Z.Perm (a::Z')→m=(body a s).bind (Yv (W Z') rest F))→WR P f n d Q m (.code c::.inLoop c::k) fr ds h u) :
  WR P f n d Q (((Z1 body M s0).bind rest).bind F) (.code (.loop c)::k) fr ds h u:=by
 intro hb
 have hne:Z1 body M s0≠.bad:=fun e=>by rw [e] at hb; exact Q.bad hb
 obtain⟨h1,h2⟩:=Ar5 hne
 rw [h2] at hb ⊢
 exact At5 M body rest St s0 h1 hs round hb
end
end Go.Am
namespace Go.Am
section
variable {P:Program} [GW P] {f:FuncId} {n:Nat} {d:FK} {β:Type} {Q:Spec β} {m:R β} {ds:List AD} {h:Ab} {u:AU} {k:List Item} {l:List (Nat×AV)} {all r:List Oper} {ty:TypeId} {pos:String} {after:Array Edge}
theorem W5 {K α:Type}[DecidableEq K]{eK:K→AV}{e:α→List AV}{st t:Nat}{mt kt et:TypeId}{a b:Nat}{z:List AV}{KT ET:TI}{x y:Operand}{M:List (K×List α)}{ky:K}(ht:Nat.blt t n=true)(hm:W9 h (ev (Ag l) x)=some (mE eK (fun L:List α=>AV.sl st (L.map e)) M))(hy:ev (Ag l) y=eK ky)
  (hT:ti P mt=some ⟨.map kt et,a,b,z⟩) (hK:ti P kt=some KT) (hE:ti P et=some ET) (hk:KeyE KT.k eK) (hz:Hh ET.z 0 ET.size ET.k.agg=some .emp) (hr:WO P f n d Q k all m r (Ag ((t,.sl st (((Bv M ky).getD []).map e))::l)) ds h u) :
  WO P f n d Q k all m (⟨some t,.lookup mt x y false,ty,pos,after,none⟩::r) (Ag l) ds h u:=by
 obtain⟨q,h1,h2⟩:=Acw (eV:=fun L:List α=>AV.sl st (L.map e)) hk ky M 0
 have key : ∀ v,O6 P h mt (ev (Ag l) x) (ev (Ag l) y) false=some v→Fz h h v (.sl st (((Bv M ky).getD []).map e))→WO P f n d Q k all m (⟨some t,.lookup mt x y false,ty,pos,after,none⟩::r) (Ag l) ds h u:=by
  intro v hv hf
  refine Ax v ht (Qk hv) fun hb i hi=>Ajc (h2:=h) (fun o y e=>⟨y,e,.same _⟩) (fun s=>?_) (hr hb i hi)
  simp only [Ag]
  cases Nat.beq s t with
  | true=>exact hf
  | false=>exact .same _
 rcases h2 with⟨rfl,h3,_⟩ | ⟨j,w,rfl,h3,_⟩
 ·refine key .emp ?_ ?_
  ·simp only [O6,hT,hK,hE,hm,hy,hk.ok,if_true,h1,hz,Bool.false_eq_true,if_false]
  ·rw [h3]; exact .emp st
 ·refine key (.sl st (w.map e)) ?_ ?_
  ·simp only [O6,hT,hK,hE,hm,hy,hk.ok,if_true,h1,Bool.false_eq_true,if_false]
  ·rw [h3]; exact .same _
end
end Go.Am
namespace Go.Am
open Go
set_option maxRecDepth 100000
set_option maxHeartbeats 4000000
set_option linter.unusedSimpArgs false
set_option linter.unusedVariables false
structure T25 where
 Owners:(List Int)
 Slots:Int
 Costs:(List (List Int))
 Salts:(List (Vector Int 32))
 Order:(List Int)
 deriving DecidableEq
def Q0 (x:T25):List AV:=[(.sl 1 (List.map (rI .u8) x.Owners)),(.int .u8 x.Slots),(.sl 1 (List.map (rL 1 (rI .i64)) x.Costs)),(.sl 32 (List.map (rV (rI .u8)) x.Salts)),(.sl 1 (List.map (rI .u8) x.Order))]
structure Table where
 Airline:Int
 Flight:Int
 Costs:(List Int)
 Salt:(Vector Int 32)
 deriving DecidableEq
def A4 (x:Table):List AV:=((.int .i64 x.Airline)::((.int .i64 x.Flight)::((.sl 1 (List.map (rI .i64) x.Costs))::((rV (rI .u8)) x.Salt++[]))))
theorem Z3 (x:Table):Cm 35 (A4 x):=Pu rfl rfl
structure Opening where
 Airline:Int
 Flight:Int
 Slot:Int
 Cost:Int
 Salt:(Vector Int 32)
 Path:(List (Vector Int 32))
 deriving DecidableEq
def Ak (x:Opening):List AV:=((.int .i64 x.Airline)::((.int .i64 x.Flight)::((.int .i64 x.Slot)::((.int .i64 x.Cost)::((rV (rI .u8)) x.Salt++((.sl 32 (List.map (rV (rI .u8)) x.Path))::[]))))))
theorem Rm (x:Opening):Cm 37 (Ak x):=Pu rfl rfl
structure Clearing where
 No:Int
 Phase:Int
 Slots:Int
 Owners:(List Int)
 Flights:(List Int)
 Commitments:(List (Vector Int 32))
 Openings:(List Opening)
 Outcome:(List Int)
 deriving DecidableEq
def Ae (x:Clearing):List AV:=[(.int .i64 x.No),(.int .i64 x.Phase),(.int .i64 x.Slots),(.sl 1 (List.map (rI .i64) x.Owners)),(.sl 1 (List.map (rI .i64) x.Flights)),(.sl 32 (List.map (rV (rI .u8)) x.Commitments)),(.sl 37 (List.map Ak x.Openings)),(.sl 1 (List.map (rI .i64) x.Outcome))]
theorem Alp (x:Clearing):Cm 8 (Ae x):=Pu rfl rfl
structure Round where
 Slots:Int
 Owners:(List Int)
 Costs:(List (List Int))
 deriving DecidableEq
def Av (x:Round):List AV:=[(.int .i64 x.Slots),(.sl 1 (List.map (rI .i64) x.Owners)),(.sl 1 (List.map (rL 1 (rI .i64)) x.Costs))]
structure Lease where
 Slot:Int
 Airline:Int
 Flight:Int
 Token:Int
 Used:Bool
 deriving DecidableEq
def Ea (x:Lease):List AV:=[(.int .i64 x.Slot),(.int .i64 x.Airline),(.int .i64 x.Flight),(.int .i64 x.Token),(.bool x.Used)]
theorem Aq9 (x:Lease):Cm 5 (Ea x):=Pu rfl rfl
structure Leases where
 Token:Int
 List:(List Lease)
 deriving DecidableEq
def I9 (x:Leases):List AV:=[(.int .i64 x.Token),(.sl 5 (List.map Ea x.List))]
structure Command where
 Kind:Int
 Slot:Int
 Airline:Int
 Flight:Int
 Token:Int
 deriving DecidableEq
def Eo (x:Command):List AV:=[(.int .i64 x.Kind),(.int .i64 x.Slot),(.int .i64 x.Airline),(.int .i64 x.Flight),(.int .i64 x.Token)]
theorem Wl (x:Command):Cm 5 (Eo x):=Pu rfl rfl
structure T140 where
 Leases:Leases
 deriving DecidableEq
structure Value where
 Kind:Int
 N:Int
 S:S2
 L:(List Value)
mutual
def rValueA:Value→List AV
 | ⟨Kind_,N_,S_,L_⟩=>[(.int .i64 Kind_),(.int .i64 N_),(.str S_),(.sl 4 (rValueAs L_))]
def rValueAs:List Value→List (List AV)
 | []=>[]
 | a::l=>rValueA a::rValueAs l
end
theorem Adt : ∀ l:List Value,rValueAs l=l.map rValueA
 | []=>by rw [rValueAs]; rfl
 | a::l=>by rw [rValueAs,List.map_cons,Adt l]
def Cd (x:Value):List AV:=[(.int .i64 x.Kind),(.int .i64 x.N),(.str x.S),(.sl 4 (List.map rValueA x.L))]
theorem Tw (x:Value):rValueA x=Cd x:=by
 cases x
 rw [rValueA]
 simp only [Adt]
 rfl
theorem Atj {w:List AV}{x:Value}(h:RowSim w (Cd x)):RowSim w (rValueA x):=(Tw x).symm ▸ h
theorem Ajw (x:Value):Cm 4 (rValueA x):=by rw [Tw]; exact Pu rfl rfl
def zeroValue:Value:={ Kind:=0,N:=0,S:=[],L:=[] }
def Acu:Vector Int 8 := #v[1779033703,3144134277,1013904242,2773480762,1359893119,2600822924,528734635,1541459225]
def Qq:Vector Int 64 := #v[1116352408,1899447441,3049323471,3921009573,961987163,1508970993,2453635748,2870763221,3624381080,310598401,607225278,1426881987,1925078388,2162078206,2614888103,3248222580,3835390401,4022224774,264347078,604807628,770255983,1249150122,1555081692,1996064986,2554220882,2821834349,2952996808,3210313671,3336571891,3584528711,113926993,338241895,666307205,773529912,1294757372,1396182291,1695183700,1986661051,2177026350,2456956037,2730485921,2820302411,3259730800,3345764771,3516065817,3600352804,4094571909,275423344,430227734,506948616,659060556,883997877,958139571,1322822218,1537002063,1747873779,1955562222,2024104815,2227730452,2361852424,2428436474,2756734187,3204031479,3329325298]
end Go.Am
namespace Go.Proofs
open Go.Shelf
def Tryz.laysSlM5_f88_ren:Go.Shelf.Ren:=⟨fun | 5=>88 | 8=>114 | 7=>116 | 19=>136 | 20=>137 | 10=>138 | 11=>139 | 12=>140 | 13=>141 | 14=>142 | 15=>143 | 16=>144 | 17=>145 | 18=>146 | 30=>158 | 31=>159 | 32=>160 | 33=>161 | 34=>162 | 35=>120 | 40=>165 | n=>n,fun | 23=>28 | 25=>3 | 3=>3 | 32=>194 | 22=>28 | 0=>0 | 44=>211 | 46=>216 | 4=>4 | 36=>223 | 35=>222 | 41=>163 | 5=>5 | 9=>9 | 53=>239 | 57=>243 | 63=>248 | 64=>249 | n=>n,fun | n=>n⟩
theorem Tryz.laysSlM5_f88:Go.Proofs.SlLaysM.n5 Tryz.prog Tryz.laysSlM5_f88_ren:={
 mixed:=by kernel_rfl
 f5:=⟨Tryz.f88.name,by decide,Tryz.func88.trans (congrArg some (by kernel_rfl))⟩
 f7:=⟨Tryz.f116.name,by decide,Tryz.func116.trans (congrArg some (by kernel_rfl))⟩
 f8:=Tryz.func114.trans (congrArg some (by kernel_rfl))
 f10:=⟨Tryz.f138.name,by decide,Tryz.func138.trans (congrArg some (by kernel_rfl))⟩
 f11:=⟨Tryz.f139.name,by decide,Tryz.func139.trans (congrArg some (by kernel_rfl))⟩
 f12:=⟨Tryz.f140.name,by decide,Tryz.func140.trans (congrArg some (by kernel_rfl))⟩
 f13:=⟨Tryz.f141.name,by decide,Tryz.func141.trans (congrArg some (by kernel_rfl))⟩
 f14:=⟨Tryz.f142.name,by decide,Tryz.func142.trans (congrArg some (by kernel_rfl))⟩
 f15:=⟨Tryz.f143.name,by decide,Tryz.func143.trans (congrArg some (by kernel_rfl))⟩
 f16:=⟨Tryz.f144.name,by decide,Tryz.func144.trans (congrArg some (by kernel_rfl))⟩
 f17:=⟨Tryz.f145.name,by decide,Tryz.func145.trans (congrArg some (by kernel_rfl))⟩
 f18:=⟨Tryz.f146.name,by decide,Tryz.func146.trans (congrArg some (by kernel_rfl))⟩
 f19:=Tryz.func136.trans (congrArg some (by kernel_rfl))
 f20:=Tryz.func137.trans (congrArg some (by kernel_rfl))
 f30:=⟨Tryz.f158.name,by decide,Tryz.func158.trans (congrArg some (by kernel_rfl))⟩
 f31:=Tryz.func159.trans (congrArg some (by kernel_rfl))
 f32:=Tryz.func160.trans (congrArg some (by kernel_rfl))
 f33:=⟨Tryz.f161.name,by decide,Tryz.func161.trans (congrArg some (by kernel_rfl))⟩
 f34:=⟨Tryz.f162.name,by decide,Tryz.func162.trans (congrArg some (by kernel_rfl))⟩
 f35:=⟨Tryz.f120.name,by decide,Tryz.func120.trans (congrArg some (by kernel_rfl))⟩
 f40:=⟨Tryz.f165.name,by decide,Tryz.func165.trans (congrArg some (by kernel_rfl))⟩
 t0:=Tryz.underlying0
 a0:=Tryz.isAgg0
 z0:=Tryz.sizeOf0
 v0:=Tryz.zeroValue0
 t3:=Tryz.underlying3
 a3:=Tryz.isAgg3
 z3:=Tryz.sizeOf3
 v3:=Tryz.zeroValue3
 t4:=Tryz.underlying4
 a4:=Tryz.isAgg4
 z4:=Tryz.sizeOf4
 v4:=Tryz.zeroValue4
 t5:=Tryz.underlying5
 a5:=Tryz.isAgg5
 z5:=Tryz.sizeOf5
 v5:=Tryz.zeroValue5
 t9:=Tryz.underlying9
 a9:=Tryz.isAgg9
 z9:=Tryz.sizeOf9
 v9:=Tryz.zeroValue9
 t22:=Tryz.underlying28
 a22:=Tryz.isAgg28
 z22:=Tryz.sizeOf28
 v22:=Tryz.zeroValue28
 t23:=Tryz.underlying28
 a23:=Tryz.isAgg28
 z23:=Tryz.sizeOf28
 v23:=Tryz.zeroValue28
 t25:=Tryz.underlying3
 a25:=Tryz.isAgg3
 z25:=Tryz.sizeOf3
 v25:=Tryz.zeroValue3
 t32:=Tryz.underlying194
 a32:=Tryz.isAgg194
 z32:=Tryz.sizeOf194
 v32:=Tryz.zeroValue194
 t35:=Tryz.underlying222
 a35:=Tryz.isAgg222
 z35:=Tryz.sizeOf222
 v35:=Tryz.zeroValue222
 t36:=Tryz.underlying223
 a36:=Tryz.isAgg223
 z36:=Tryz.sizeOf223
 v36:=Tryz.zeroValue223
 t41:=Tryz.underlying163
 a41:=Tryz.isAgg163
 z41:=Tryz.sizeOf163
 v41:=Tryz.zeroValue163
 t44:=Tryz.underlying211
 a44:=Tryz.isAgg211
 z44:=Tryz.sizeOf211
 v44:=Tryz.zeroValue211
 t46:=Tryz.underlying216
 a46:=Tryz.isAgg216
 z46:=Tryz.sizeOf216
 v46:=Tryz.zeroValue216
 t53:=Tryz.underlying239
 a53:=Tryz.isAgg239
 z53:=Tryz.sizeOf239
 v53:=Tryz.zeroValue239
 t57:=Tryz.underlying243
 a57:=Tryz.isAgg243
 z57:=Tryz.sizeOf243
 v57:=Tryz.zeroValue243
 t63:=Tryz.underlying248
 a63:=Tryz.isAgg248
 z63:=Tryz.sizeOf248
 v63:=Tryz.zeroValue248
 t64:=Tryz.underlying249
 a64:=Tryz.isAgg249
 z64:=Tryz.sizeOf249
 v64:=Tryz.zeroValue249 }
open Go.Sort Go.RowKit in
theorem Tryz.slices_Sort_int (blk off cap : Nat) (zs : List Int) (w : World) (hH : Holds (Value.int .i64) w blk off zs.toArray) (hblk : blk < w.heap.size) (hsz : zs.length < 4611686018427387904) :
  Calls Tryz.prog 88 #[.slice (some ⟨blk, off, none⟩) zs.length cap] w fun e w' =>
   e = .returned (.tuple #[]) ∧ ∃ n os, w' = grow (putRow (Value.int .i64) (Sort.ahead w n) blk off (zs.mergeSort fun x y => decide (x ≤ y)).toArray) os := AnyM.slices_Sort_int Tryz.laysSlM5_f88 blk off cap zs w hH hblk hsz
open Go.RowKit Go.Sort in
theorem Tryz.slices_Sort_int_none (p : Option Addr) (cap : Nat) (w : World) :
  Calls Tryz.prog 88 #[.slice p 0 cap] w fun e w' => e = .returned (.tuple #[]) ∧ w' = w := AnyM.slices_Sort_int_none Tryz.laysSlM5_f88 p cap w
end Go.Proofs

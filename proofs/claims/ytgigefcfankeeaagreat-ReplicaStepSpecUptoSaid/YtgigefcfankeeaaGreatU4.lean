/- Written by shrink.py from texts of ours: comments struck, what is not reached left out, names short. -/
import Derived.Test.YtgigefcfankeeaaGreatU3
import Derived.Test.YtgigefcfankeeaaGreatU1
import Derived.Test.YtgigefcfankeeaaGreatU2
import Derived.RangeFuncIn
import Derived.RangeFuncLeaves
import Derived.Shelf.SortM.Plain
import Derived.Shelf.SortM.SortNone
import Derived.Shelf.Slices.CompactI
import Derived.Deep.DeepHandedRow
import Derived.Lib.LaidU8
import Derived.Lay
import Derived.MakeChecks
import Derived.LaidMore
import Derived.WideKeyElems2
import Derived.KernelRfl
import Derived.Lib.SlBytesConst
import Derived.Lib.Bytealg
import Derived.Lib.ItoaNum
import Derived.Lib.Join
import Derived.Lib.AtoiAll
namespace Go.Am
open Go
set_option linter.unusedSimpArgs false
set_option linter.unusedVariables false
set_option linter.unusedSectionVars false
inductive AFz (h h2:Ah):AO→AO→Prop
 | same (x:AO):AFz h h2 x x
 | rows (g st:Nat) (rs rs':List (List AV)) (hl:rs.length=rs'.length) (hr : ∀ r ∈ rs',E5 st r) (hc : ∀ i j,i<rs.length→j<st→Fz h h2 (cell rs i j) (cell rs' i j)):AFz h h2 (.rows g st rs) (.rows g st rs')
def HFz (h h2:Ah):Prop := ∀ o y,h2 o=some y → ∃ x,h o=some x∧AFz h h2 x y
theorem AFz.gen {h h2:Ah}{x y:AO}(k:AFz h h2 x y):x.gen=y.gen:=by cases k <;> rfl
theorem HFz.subG {h h2:Ah}(k:HFz h h2):Aeg h2 h:=fun o y e=>let ⟨x,h1,h2⟩:=k o y e; ⟨x,h1,h2.gen⟩
theorem Sim.fz {P:Program}[GW P]{B:Base P}{mu:Mu}{h h2:Ah}{w:World}(s:Sim B mu h w)(k:HFz h h2):Sim B mu h2 w:=by
 refine⟨s.base,s.muOk,s.fin,?_,?_,?_,?_,s.glob,fun o g x e=>by
  obtain⟨y,h1,hx⟩:=k o _ e
  cases hx with
  | same _=>exact s.blks o g x h1⟩
 ·obtain⟨N,hN⟩:=s.finh
  refine⟨N,fun o ho=>?_⟩
  cases hq:h2 o with
  | none=>rfl
  | some y=>obtain⟨x,h1,_⟩:=k o y hq; rw [hN o ho] at h1; cases h1
 ·intro o g st rs e
  obtain⟨x,h1,hx⟩:=k o _ e
  cases hx with
  | same _=>
   obtain⟨l,k1,k2,k3,k4,k5,k6⟩:=s.rows o g st rs h1
   exact⟨l,k1,k2,k3,k4,k5,fun i j hi hj=>let ⟨c,c1,c2⟩:=k6 i j hi hj; ⟨c,c1,Kz s k.subG (.same _) c2⟩⟩
  | rows _ _ rs0 _ hl hr hc=>
   obtain⟨l,k1,k2,k3,k4,k5,k6⟩:=s.rows o g st rs0 h1
   exact⟨l,k1,k2,k3,by rw [← hl]; exact k4,hr,fun i j hi hj=>let ⟨c,c1,c2⟩:=k6 i j (hl ▸ hi) hj; ⟨c,c1,Kz s k.subG (hc i j (hl ▸ hi) hj) c2⟩⟩
 ·intro o g es e
  obtain⟨x,h1,hx⟩:=k o _ e
  cases hx with
  | same _=>
   obtain⟨l,k1,k2,ens,clock,k3,k4,k5⟩:=s.maps o g es h1
   exact⟨l,k1,k2,ens,clock,k3,k4,fun i hi=>⟨Kz s k.subG (.same _) (k5 i hi).1,Kz s k.subG (.same _) (k5 i hi).2⟩⟩
 ·intro o o' x x' l l' e e' h1 h2 hb
  obtain⟨y,k1,k2⟩:=k _ _ e
  obtain⟨y',k1',k2'⟩:=k _ _ e'
  exact s.inj o o' y y' l l' k1 k1' (by rw [k2.gen]; exact h1) (by rw [k2'.gen]; exact h2) hb
section
variable {P:Program} [GW P] {f:FuncId} {n:Nat} {d:FK} {fr:Nat→AV} {ds:List AD} {h h2:Ah} {u:AU} {Q:QT} {k:List Item}
theorem Ahp {todo:List Item}{fr':Nat→AV}(hs:HFz h h2)(hz : ∀ t,Fz h h2 (fr t) (fr' t))(hr:E9 P f n d todo fr' ds h2 u Q):E9 P f n d todo fr ds h u Q:=by
 intro B mu w a cs p
 exact(hr B mu w a cs ⟨p.size,fun t=>Kz p.sim hs.subG (hz t) (p.fr t),p.ds.ext (Ew.subG hs.subG),p.sim.fz hs,p.cs.ext (Ew.subG hs.subG),p.rnd,p.fb⟩).ext (Ew.subG hs.subG)
theorem Z1 {fn:Func}{vs:List AV}{v':AV}(hf:P.funcs[f]? = some fn)(hx:Hz P h fr fn.results.toList=some vs)(hs:HFz h h2)(hz:Fz h h2 (Jy vs) v')(hu:d=false)(hq:Q (.ret v') h2 u):O9 P f n d .ret fr [] h u Q:=by
 intro B mu w a cs todo mode p hm
 obtain⟨c,h1,h2'⟩:=S5 p.sim p.fr hx
 have hd:a.defers=[]:=p.ds
 have hmode:=hm.ret_inv
 refine⟨.returned c,w,cs,_,.ret v',h2,mu,u,hq,Steps.refl P _,rfl,rfl,(by subst hu; exact⟨hmode,hd,fn,hf,h1⟩),Kz p.sim hs.subG hz h2',p.sim.fz hs,(Ew.subG hs.subG).g,?_⟩
 subst hu
 rfl
end
inductive HL (h h2:Ah):List (Option AO)→List (Option AO)→Prop
 | nil:HL h h2 [] []
 | keep {x:Option AO} {xs ys:List (Option AO)} (r:HL h h2 xs ys):HL h h2 (x::xs) (x::ys)
 | drop {x:Option AO} {xs ys:List (Option AO)} (r:HL h h2 xs ys):HL h h2 (x::xs) (none::ys)
 | fz {g st:Nat} {row row':List AV} {xs ys:List (Option AO)} (hz:LF h h2 row row') (hl:row'.length=st) (hf:row'.all AV.flat=true) (r:HL h h2 xs ys):HL h h2 (some (.rows g st [row])::xs) (some (.rows g st [row'])::ys)
theorem HL.get {h h2:Ah}{xs ys:List (Option AO)}(k:HL h h2 xs ys):xs.length=ys.length ∧ ∀ (j:Nat) (y:AO),ys[j]? = some (some y) → ∃ x,xs[j]? = some (some x)∧AFz h h2 x y:=by
 induction k with
 | nil=>exact⟨rfl,fun j y e=>by simp at e⟩
 | keep r ih=>
  refine⟨by simp [ih.1],fun j y e=>?_⟩
  cases j with
  | zero=>simp only [List.getElem?_cons_zero,Option.some.injEq] at e; subst e; exact⟨y,by simp,.same _⟩
  | succ j=>simpa using ih.2 j y (by simpa using e)
 | drop r ih=>
  refine⟨by simp [ih.1],fun j y e=>?_⟩
  cases j with
  | zero=>simp at e
  | succ j=>simpa using ih.2 j y (by simpa using e)
 | @fz g st row row' xs ys hz hl hf r ih=>
  refine⟨by simp [ih.1],fun j y e=>?_⟩
  cases j with
  | zero=>
   simp only [List.getElem?_cons_zero,Option.some.injEq] at e
   subst e
   refine⟨.rows g st [row],by simp only [List.getElem?_cons_zero],.rows g st [row] [row'] rfl ?_ ?_⟩
   ·intro r hr
    rw [List.mem_singleton.1 hr]
    exact⟨hl,fun v hv=>List.all_eq_true.1 hf v hv⟩
   ·intro i j hi hj
    have:i=0:=by simpa using hi
    subst this
    have:=hz.all.2 j (by rw [hz.all.1,hl]; exact hj)
    simpa [cell] using this
  | succ j=>simpa using ih.2 j y (by simpa using e)
theorem HL.hfz {h0:Ah}{ids:List Nat}{N:Nat}{xs ys:List (Option AO)}(hI:Ids h0 ids N)(hl:xs.length=N)(k:HL (hp h0 ids xs) (hp h0 ids ys) xs ys):HFz (hp h0 ids xs) (hp h0 ids ys):=by
 intro o y e
 obtain⟨k1,k2⟩:=k.get
 by_cases ho:o ∈ ids
 ·obtain⟨j,hj,rfl⟩:=List.mem_iff_getElem.1 ho
  have ej:ids[j]=ix ids j:=by simp [ix,List.getD,hj]
  rw [ej] at e ⊢
  have hjl:j<ys.length:=by rw [← k1,hl,← hI.len]; exact hj
  have hy:=hI.at (xs:=ys) (j:=j) (x:=ys[j]) (by rw [← k1,hl]) (List.getElem?_eq_getElem hjl)
  rw [hy] at e
  obtain⟨x,hx,hz⟩:=k2 j y (by rw [List.getElem?_eq_getElem hjl,e])
  exact⟨x,hI.at hl hx,hz⟩
 ·rw [Rt ho] at e
  exact⟨y,by rw [Rt ho]; exact e,.same _⟩
section
variable {P:Program} [GW P] {f:FuncId} {n:Nat} {d:FK} {β:Type} {Q:Spec β} {m:R β} {ds:List AD} {u:AU} {k:List Item} {l:List (Nat×AV)} {all:List Oper}
variable {h0:Ah} {ids:List Nat} {xs:List (Option AO)} {N:Nat}
theorem Aay {todo:List Item}(ys:List (Option AO))(l':List (Nat×AV))(hI:Ids h0 ids N)(hl:xs.length=N)(hx:HL (hp h0 ids xs) (hp h0 ids ys) xs ys)(hf:FrFz (hp h0 ids xs) (hp h0 ids ys) l l')
  (hr:WR P f n d Q m todo (A0 l') ds (hp h0 ids ys) u):WR P f n d Q m todo (A0 l) ds (hp h0 ids xs) u:=fun hb=>Ahp (hx.hfz hI hl) hf.get (hr hb)
theorem Ag1 {ops:List Oper}(ys:List (Option AO))(l':List (Nat×AV))(hI:Ids h0 ids N)(hl:xs.length=N)(hx:HL (hp h0 ids xs) (hp h0 ids ys) xs ys)(hf:FrFz (hp h0 ids xs) (hp h0 ids ys) l l')
  (hr:WO P f n d Q k all m ops (A0 l') ds (hp h0 ids ys) u):WO P f n d Q k all m ops (A0 l) ds (hp h0 ids xs) u:=fun hb i hi=>Ahp (hx.hfz hI hl) hf.get (hr hb i hi)
end
def R2:List Nat→List (Option AO)→List (Option AO)
 | [],xs=>xs
 | j::js,xs=>R2 js (xs.set j none)
def Rh:List Nat→List (Option AO)→List (Option AO)→List (Option AO)
 | j::js,y::ys,xs=>(Rh js ys (xs.set j none)).set j y
 | _,_,xs=>xs
def Vy (ids:List Nat):List Nat→List Nat
 | []=>[]
 | j::js=>ix ids j::Vy ids js
def Q5 (N:Nat):List Nat→Bool
 | []=>true
 | j::js=>Nat.blt j N && !js.contains j&&Q5 N js
theorem Af7 : ∀ (js:List Nat) (xs:List (Option AO)),(R2 js xs).length=xs.length
 | [],_=>rfl
 | j::js,xs=>by rw [R2,Af7 js]; simp
theorem Aew : ∀ (js:List Nat) (ys xs:List (Option AO)),(Rh js ys xs).length=xs.length
 | [],_,_=>by simp [Rh]
 | _::_,[],_=>by simp [Rh]
 | j::js,y::ys,xs=>by rw [Rh,List.length_set,Aew js]; simp
theorem Ad5 : ∀ (js:List Nat) (xs:List (Option AO)) (i:Nat),xs[i]? = some none→(R2 js xs)[i]? = some none
 | [],_,_,h=>h
 | j::js,xs,i,h=>Ad5 js _ i (by
  rw [List.getElem?_set]
  split
  ·rename_i hq; subst hq
   rw [if_pos]
   rcases Nat.lt_or_ge j xs.length with hh | hh
   ·exact hh
   ·rw [List.getElem?_eq_none hh] at h; cases h
  ·exact h)
theorem Ahm : ∀ (js:List Nat) (xs:List (Option AO)) (i:Nat),i ∈ js→i<xs.length→(R2 js xs)[i]? = some none
 | j::js,xs,i,hm,hi=>by
  rcases List.mem_cons.1 hm with rfl | hm
  ·exact Ad5 js _ i (by simp [hi])
  ·exact Ahm js _ i hm (by simpa using hi)
section
variable {h0:Ah} {ids:List Nat} {N:Nat}
theorem Xs (hI:Ids h0 ids N) : ∀ {js:List Nat} {ys xs:List (Option AO)},xs.length=N→js.length=ys.length→Q5 N js=true→hp (hp h0 ids (R2 js xs)) (Vy ids js) ys=hp h0 ids (Rh js ys xs)
 | [],[],xs,_,_,_=>rfl
 | j::js,y::ys,xs,hl,hj,hk=>by
  simp only [Q5,Bool.and_eq_true] at hk
  simp only [Vy,hp,R2,Rh]
  rw [Xs hI (js:=js) (ys:=ys) (xs:=xs.set j none) (by simpa using hl) (by simpa using hj) hk.2]
  rw [hI.set (by rw [Aew]; simpa using hl) hk.1.1]
theorem Ids.sub' (hI:Ids h0 ids N){js:List Nat}{xs:List (Option AO)}(hl:xs.length=N)(hk:Q5 N js=true):Ids (hp h0 ids (R2 js xs)) (Vy ids js) js.length:=by
 have hlt : ∀ {js:List Nat},Q5 N js=true → ∀ j ∈ js,j<N:=by
  intro js
  induction js with
  | nil=>intro _ j hj; cases hj
  | cons i js ih=>
   intro hk j hj
   simp only [Q5,Bool.and_eq_true] at hk
   rcases List.mem_cons.1 hj with rfl | hj
   ·simpa using hk.1.1
   ·exact ih hk.2 j hj
 have hmem : ∀ {js:List Nat} {o:Nat},o ∈ Vy ids js → ∃ j ∈ js,o=ix ids j:=by
  intro js
  induction js with
  | nil=>intro o ho; cases ho
  | cons i js ih=>
   intro o ho
   rcases List.mem_cons.1 ho with rfl | ho
   ·exact⟨i,List.mem_cons_self ..,rfl⟩
   ·obtain⟨j,h1,h2⟩:=ih ho; exact⟨j,List.mem_cons_of_mem _ h1,h2⟩
 have hinj : ∀ {i j:Nat},i<N→j<N→ix ids i=ix ids j→i=j:=by
  intro i j hi hj e
  rw [← hI.len] at hi hj
  simp only [ix,List.getD,List.getElem?_eq_getElem hi,List.getElem?_eq_getElem hj,Option.getD_some] at e
  rcases Nat.lt_trichotomy i j with hh | hh | hh
  ·exact absurd e (List.pairwise_iff_getElem.1 hI.nodup i j hi hj hh)
  ·exact hh
  ·exact absurd e.symm (List.pairwise_iff_getElem.1 hI.nodup j i hj hi hh)
 refine⟨?_,?_,?_⟩
 ·have key : ∀ {js:List Nat},Q5 N js=true→(Vy ids js).Nodup:=by
   intro js
   induction js with
   | nil=>intro _; exact List.nodup_nil
   | cons i js ih=>
    intro hk
    have hk':=hk
    simp only [Q5,Bool.and_eq_true] at hk
    refine List.nodup_cons.2 ⟨fun hm=>?_,ih hk.2⟩
    obtain⟨j,h1,h2⟩:=hmem hm
    have:=hinj (by simpa using hk.1.1) (hlt hk.2 j h1) h2
    subst this
    have:=hk.1.2
    simp [h1] at this
  exact key hk
 ·intro o ho
  obtain⟨j,h1,rfl⟩:=hmem ho
  exact hI.at (by rw [Af7]; exact hl) (Ahm js xs j h1 (by rw [hl]; exact hlt hk j h1))
 ·clear hk
  induction js with
  | nil=>rfl
  | cons i js ih=>simp only [Vy,List.length_cons]; rw [ih]
end
def El {α:Type}(S:α→AV→Ah→Prop)(h0:Ah)(m:R α):AR→Ah→Prop:=fun r h'=>match m with
 | .ok a => ∃ v,r=.ret v∧S a v h'
 | .pan v=>r=.panic v.av∧h'=h0
 | .bad=>False
def Aaz {α:Type}(S:α→AV→Ah→Prop)(h0:Ah):Spec α:=⟨fun m=>m≠.bad,fun h=>h rfl,fun m r h' _=>El S h0 m r h'⟩
def tkf (ids:List Nat):Nat→Nat→List Nat
 | 0,_=>[]
 | k+1,j=>ix ids j::tkf ids k (j+1)
theorem Adr : ∀ (ids:List Nat) (k j:Nat),j+k≤ids.length→(ids.drop j).take k=tkf ids k j
 | ids,0,j,_=>by simp [tkf]
 | ids,k+1,j,h=>by
  have hj:j<ids.length:=by omega
  rw [List.drop_eq_getElem_cons hj,List.take_succ_cons,tkf,Adr ids k (j+1) (by omega)]
  simp [ix,List.getD,hj]
section
variable {P:Program} [GW P] {f:FuncId} {n:Nat} {α:Type} {m:R α} {S:α→AV→Ah→Prop} {h0:Ah}
theorem Co {fn : Func} {c : Code} {args : List AV} {os0 : List Nat} {K : Nat} {xs : List (Option AO)} (N : Nat) (hf : P.funcs[f]? = some fn) (hb : fn.body = some c) (hn : fn.name ≠ "runtime.NumGoroutine") (hnt : fn.ntmps = n) (hl : Nat.ble args.length n = true)
  (hI0 : Ids h0 os0 K) (hx : xs.length = K)
  (hr : ∀ ids, (∀ j, Nat.blt j K = true → ix ids j = ix os0 j) → Ids h0 ids (K + N) → WR P f n false (Aaz S h0) m [.code c] (A0 (Vi 0 args)) [] (hp h0 ids (xs ++ List.replicate N none)) .ret) :
  m ≠ .bad → Bx P f args (hp h0 os0 xs) (El S h0 m) := by
 intro hb'
 refine Qk hf hb hn hnt (by simpa using hl) ?_
 refine Yp N os0 fun os h1 h2 h3 h4 => ?_
 have hout : ∀ o ∈ os, o ∉ os0 := fun o ho => h4 o ho
 have hI : Ids h0 (os0 ++ os) (K + N) := by
  refine ⟨List.nodup_append.2 ⟨hI0.nodup, h2, fun a ha b hb hq => hout b hb (hq ▸ ha)⟩, fun o ho => ?_, by simp [hI0.len, h1]⟩
  rcases List.mem_append.1 ho with ho | ho
  ·exact hI0.fresh o ho
  ·have := h3 o ho
   rwa [Rt (hout o ho)] at this
 have e : hp h0 (os0 ++ os) (xs ++ List.replicate N none) = hp h0 os0 xs := by
  rw [Sj (by rw [hI0.len, hx]), Q2 fun o ho => hI.fresh o (List.mem_append_right _ ho)]
 have := hr (os0 ++ os) (fun j hj => by
  have hj' : j < os0.length := by rw [hI0.len]; simpa using hj
  simp [ix, List.getD, List.getElem?_append_left hj']) hI hb'
 rw [e] at this
 refine Qm (fun t => ?_) this
 rcases Q0 args 0 t with h | ⟨_, h⟩
 ·exact .inl h
 ·exact .inr h
section
variable {ids:List Nat} {xs:List (Option AO)} {K N:Nat} {l:List (Nat×AV)} {k:List Item} {u:AU}
theorem Abl (hI:Ids h0 ids (K+N)){ys:List (Option AO)}(hy:ys.length=K):hp h0 ids (ys++List.replicate N none)=hp h0 (tkf ids K 0) ys:=by
 have e:=Adr ids K 0 (by rw [hI.len]; omega)
 rw [List.drop_zero] at e
 rw [← e]
 have e2:ids=ids.take K++ids.drop K:=(List.take_append_drop K ids).symm
 conv=>lhs; rw [e2]
 rw [Sj (by rw [List.length_take,hI.len,hy]; omega),Q2 fun o ho=>hI.fresh o (List.mem_of_mem_drop ho)]
theorem Es {fn:Func}{a:α}{vs:List AV}{v:AV}(ys:List (Option AO))(hf:P.funcs[f]? = some fn)(hI:Ids h0 ids (K+N))(hl:xs.length=K+N)(hr:Hz P (hp h0 ids xs) (A0 l) fn.results.toList=some vs)
  (hy:ys.length=K) (hx:HL (hp h0 ids xs) (hp h0 ids (ys++List.replicate N none)) xs (ys++List.replicate N none)) (hz:Fz (hp h0 ids xs) (hp h0 ids (ys++List.replicate N none)) (Jy vs) v) (hS:S a v (hp h0 (tkf ids K 0) ys)) :
  WR P f n false (Aaz S h0) (.ok a) (.code .ret::k) (A0 l) [] (hp h0 ids xs) u:=fun _=>by
 refine T0 (Z1 hf hr (hx.hfz hI hl) hz rfl ⟨v,rfl,?_⟩)
 rw [Abl hI hy]; exact hS
theorem Fm {fn:Func}{a:α}{vs:List AV}{v:AV}(ys:List (Option AO))(hf:P.funcs[f]? = some fn)(hI:Ids h0 ids (K+N))(hl:xs.length=K+N)(hr:Hz P (hp h0 ids xs) (A0 l) fn.results.toList=some vs)
  (hy:ys.length=K) (hx:HL (hp h0 ids xs) (hp h0 ids (ys++List.replicate N none)) xs (ys++List.replicate N none)) (hz:Fz (hp h0 ids xs) (hp h0 ids (ys++List.replicate N none)) (Jy vs) v) (hS:S a v (hp h0 (tkf ids K 0) ys)) :
  WR P f n false (Aaz S h0) (.ok a) [] (A0 l) [] (hp h0 ids xs) u:=fun _=>by
 refine Yr (Z1 hf hr (hx.hfz hI hl) hz rfl ⟨v,rfl,?_⟩)
 rw [Abl hI hy]; exact hS
theorem Cd {fn:Func}{v:PV}{fr:Nat→AV}(hf:P.funcs[f]? = some fn)(hI:Ids h0 ids (K+N)):WU P f n false (Aaz S h0) (.pan v) (.pan v.av false) fr [] (hp h0 ids xs) u:=fun _=>
 Ady hf (hI.sub xs) (.same _) ⟨rfl,rfl⟩
end
end
section
variable {P:Program} [GW P] {f:FuncId} {n:Nat} {d:FK} {β γ:Type} {Q:Spec β} {m:R β} {ds:List AD} {u:AU} {k:List Item} {l:List (Nat×AV)} {F:γ→R β}
variable {all r:List Oper} {ty:TypeId} {pos:String} {after:Array Edge} {h0:Ah} {ids:List Nat} {xs:List (Option AO)} {N:Nat}
theorem Ak2 {ops:List Oper}{fr:Nat→AV}(js:List Nat){xs zs:List (Option AO)}(ys:List (Option AO))(hI:Ids h0 ids N)(hl:xs.length=N)(hk:Q5 N js=true)(hz:js.length=zs.length)(e:Rh js zs xs=ys)(hr:WO P f n d Q k all m ops fr ds (hp h0 ids ys) u) :
  WO P f n d Q k all m ops fr ds (hp (hp h0 ids (R2 js xs)) (Vy ids js) zs) u:=by
 subst e
 rw [Xs hI hl hz hk]; exact hr
theorem Cn {α:Type}{dst:Option Tmp}{x:Operand}{as0:List Operand}{ts:Array TypeId}{g:FuncId}{fst cap A:List AV}{gd:Option (Nat×Bool)}{mg:R α}{S:α→AV→Ah→Prop}{rest:α→R γ}{zs:List (Option AO)}(js:List Nat)(hI:Ids h0 ids N)(hl:xs.length=N)(hk:Q5 N js=true)
  (hc:mg≠.bad→Bx P g A (hp (hp h0 ids (R2 js xs)) (Vy ids js) zs) (El S (hp h0 ids (R2 js xs)) mg)) (hz:js.length=zs.length) (e2:Rh js zs xs=xs)
  (ht:F1 n dst=true) (hw:Fl all (A0 l) ⟨dst,.call ⟨.value x,⟨as0⟩,ts⟩,ty,pos,after,gd⟩=some true) (hx:ev (A0 l) x=.func (.func g) fst cap) (ha:fst++Gz (A0 l) as0++cap=A)
  (hp' : ∀ v,mg=.pan v→WU P f n d Q (.pan v) (.pan v.av false) (A0 l) ds (hp h0 ids (R2 js xs)) u)
  (hk : ∀ a,mg=.ok a → ∀ v h',S a v h'→WO P f n d Q k all ((rest a).bind F) r (Gv (A0 l) dst v) ds h' u) :
  WO P f n d Q k all ((mg.bind rest).bind F) (⟨dst,.call ⟨.value x,⟨as0⟩,ts⟩,ty,pos,after,gd⟩::r) (A0 l) ds (hp h0 ids xs) u:=by
 rw [Xs hI hl hz ‹Q5 N js=true›,e2] at hc
 refine Aba (R.bind_assoc _ _ _) (Nb ht hw fun hb K U hK hU=>?_)
 simp only [Ik,hx]
 rw [ha]
 have hmb:mg≠.bad:=fun q=>by rw [q] at hb; exact Q.bad hb
 refine(hc hmb).mono fun r' h' hr=>?_
 cases hm:mg with
 | bad=>exact absurd hm hmb
 | ok a=>
  rw [hm] at hr hb hK
  obtain⟨v,rfl,hS⟩:=hr
  exact hK _ _ _ _ (hk a hm v h' hS)
 | pan v=>
  rw [hm] at hr hb hU
  obtain⟨rfl,rfl⟩:=hr
  exact hU _ _ _ _ _ (hp' v hm hb)
theorem C3 {ops:List Oper}{t:Nat}{v:AV}{h:Ah}(hr:WO P f n d Q k all m ops (A0 ((t,v)::l)) ds h u):WO P f n d Q k all m ops (Gv (A0 l) (some t) v) ds h u:=by rw [E1]; exact hr
theorem Fh {α:Type}{pre:List (List Nat)}{plan:Gp}{pend:O3}{i:Nat}{dst:Option Tmp}{x:Operand}{as0:List Operand}{ts:Array TypeId}{g:FuncId}{fst cap A:List AV}{gd:Option (Nat×Bool)}{mg:R α}{S:α→AV→Ah→Prop}{rest:α→R γ}{zs:List (Option AO)}(js:List Nat)(hI:Ids h0 ids N)(hl:xs.length=N)(hk:Q5 N js=true)
  (hc:mg≠.bad→Bx P g A (hp (hp h0 ids (R2 js xs)) (Vy ids js) zs) (El S (hp h0 ids (R2 js xs)) mg)) (hz:js.length=zs.length) (e2:Rh js zs xs=xs) (ho:all[i]? = some ⟨dst,.call ⟨.value x,⟨as0⟩,ts⟩,ty,pos,after,gd⟩)
  (ht:F1 n dst=true) (hw:Fl all (A0 l) ⟨dst,.call ⟨.value x,⟨as0⟩,ts⟩,ty,pos,after,gd⟩=some true) (hx:ev (A0 l) x=.func (.func g) fst cap) (ha:fst++Gz (A0 l) as0++cap=A)
  (hp' : ∀ v,mg=.pan v → ∀ fr,(∀ t,(all.any fun o=>o.dst==some t)=false→fr t=A0 l t)→WU P f n d Q (.pan v) (.pan v.av false) fr ds (hp h0 ids (R2 js xs)) u)
  (hk : ∀ a,mg=.ok a → ∀ v h',S a v h'→G3 P all pre i h' pend∧WP P f n d Q k all pre ((rest a).bind F) plan pend (Gv (A0 l) dst v) ds h' u) :
  WP P f n d Q k all pre ((mg.bind rest).bind F) ((true,i)::plan) pend (A0 l) ds (hp h0 ids xs) u:=by
 rw [Xs hI hl hz ‹Q5 N js=true›,e2] at hc
 refine Abf (R.bind_assoc _ _ _) (V6 ho ht hw fun hb K U hK hU=>?_)
 simp only [Ik,hx]
 rw [ha]
 have hmb:mg≠.bad:=fun q=>by rw [q] at hb; exact Q.bad hb
 refine(hc hmb).mono fun r' h' hr=>?_
 cases hm:mg with
 | bad=>exact absurd hm hmb
 | ok a=>
  rw [hm] at hr hb hK
  obtain⟨v,rfl,hS⟩:=hr
  obtain⟨k1,k2⟩:=hk a hm v h' hS
  exact hK _ _ _ _ k1 k2
 | pan v=>
  rw [hm] at hr hb hU
  obtain⟨rfl,rfl⟩:=hr
  exact hU _ _ _ _ _ (fun fr' hf=>hp' v hm fr' hf hb)
theorem Gf {pre:List (List Nat)}{plan:Gp}{pend:O3}{i:Nat}{fr:Nat→AV}(js:List Nat){xs zs:List (Option AO)}(ys:List (Option AO))(hI:Ids h0 ids N)(hl:xs.length=N)(hk:Q5 N js=true)(hz:js.length=zs.length)(e:Rh js zs xs=ys)
  (hr:G3 P all pre i (hp h0 ids ys) pend∧WP P f n d Q k all pre m plan pend fr ds (hp h0 ids ys) u) :
  G3 P all pre i (hp (hp h0 ids (R2 js xs)) (Vy ids js) zs) pend∧WP P f n d Q k all pre m plan pend fr ds (hp (hp h0 ids (R2 js xs)) (Vy ids js) zs) u:=by
 subst e
 rw [Xs hI hl hz hk]; exact hr
theorem Ge {pre:List (List Nat)}{plan:Gp}{pend:O3}{t:Nat}{v:AV}{h:Ah}(hr:WP P f n d Q k all pre m plan pend (A0 ((t,v)::l)) ds h u):WP P f n d Q k all pre m plan pend (Gv (A0 l) (some t) v) ds h u:=by rw [E1]; exact hr
end
end Go.Am
namespace Go.Am
open Go
set_option linter.unusedSimpArgs false
set_option linter.unusedVariables false
set_option linter.unusedSectionVars false
section
variable {P:Program} [GW P] {h:Ah} {t et:TypeId} {a b st:Nat} {z:List AV} {E:TI} {s:List UInt8} {k k':IntKind} {lo hi:Int} {α:Type} {e:α→List AV} {L:List α}
theorem Al7 {n:Nat}(h1:0≤lo)(h2:lo≤(n:Int))(d:Nat):Hx (some (.int k lo)) d n=some lo.toNat:=by simp only [Hx]; rw [if_pos ⟨h1,h2⟩]
theorem Aln (hT:ti P t=some ⟨.sl et,a,b,z⟩)(hE:ti P et=some E)(hs:st=E.size)(hc:0≤lo∧lo≤(L.length:Int)):Lq P h t (.sl st (L.map e)) (some (.int k lo)) none none=some (.sl st ((L.drop lo.toNat).map e)):=by
 simp only [Lq,hT,hE,Hx]
 rw [if_pos hs]
 simp only [List.length_map]
 rw [if_pos hc]
 simp only [Option.some.injEq,AV.sl.injEq,true_and]
 rw [List.take_of_length_le (by simp),List.map_drop]
theorem Alu (hT:ti P t=some ⟨.sl et,a,b,z⟩)(hE:ti P et=some E)(hs:st=E.size)(hc:0≤hi∧hi≤(L.length:Int)):Lq P h t (.sl st (L.map e)) none (some (.int k hi)) none=some (.sl st ((L.take hi.toNat).map e)):=by
 simp only [Lq,hT,hE]
 rw [if_pos hs,Al7 hc.1 (by simpa using hc.2)]
 simp only [Hx,List.drop_zero,Nat.sub_zero,List.map_take]
theorem Gk {m o g r c:Nat}{i:Int}(j:Nat)(hT:ti P t=some ⟨.arr m et,a,b,z⟩)(hE:ti P et=some E)(hi:i=(j:Int))(hj:Nat.blt j m=true):Gc P h t (.ptr o g r c) (.int k i)=some (.ptr o g r (c+j * E.size)):=by
 subst hi
 have:j<m:=by simpa using hj
 simp only [Gc,hT,hE]
 rw [if_pos ⟨by omega,by omega⟩,Int.toNat_natCast]
end
section
variable {P:Program} [GW P] {f:FuncId} {n:Nat} {d:FK} {β γ:Type} {Q:Spec β} {fr:Nat→AV} {ds:List AD} {h:Ah} {u:AU} {k:List Item} {F:γ→R β} {all:List Oper}
theorem Jd {pre:List (List Nat)}{plan:Gp}{pend:O3}{p:Prop}[Decidable p]{A B:R γ}(ht:p→WP P f n d Q k all pre (A.bind F) plan pend fr ds h u)(hf:¬ p→WP P f n d Q k all pre (B.bind F) plan pend fr ds h u):WP P f n d Q k all pre ((if p then A else B).bind F) plan pend fr ds h u:=by
 intro hb
 by_cases hp:p
 ·simp only [if_pos hp] at hb ⊢; exact ht hp hb
 ·simp only [if_neg hp] at hb ⊢; exact hf hp hb
theorem Sw {pre:List (List Nat)}{plan:Gp}{pend:O3}:WP P f n d Q k all pre ((R.bad:R γ).bind F) plan pend fr ds h u:=fun hb=>absurd hb Q.bad
end
def C0 (l:List Int):Zl:=l.map fun n=>UInt8.ofNat n.toNat
def G0 (s:Zl):List Int:=s.map fun b=>(b.toNat:Int)
theorem Zf : ∀ l:List Int,Ox (l.map (rI .u8))=some (C0 l)
 | []=>rfl
 | n::l=>by
  have:=Zf l
  simp only [List.map_cons,rI,Ox] at this ⊢
  rw [this]
  rfl
section
variable {P:Program} [GW P] {h:Ah} {s t e:TypeId} {a b c d st:Nat} {z1 z2:List AV} {E:TI} {L:List Int}
theorem Pl (hS:ti P s=some ⟨.sl e,a,b,z1⟩)(hT:ti P t=some ⟨.str,c,d,z2⟩)(hE:ti P e=some E)(hk:E.k=.int .u8):Rz P h s t (.sl 1 (L.map (rI .u8)))=some (.str (C0 L)):=by
 simp only [Rz,hS,hT,hE]
 rw [if_pos ⟨hk,trivial⟩,Zf]; rfl
theorem Alw {P:Program}[GW P]{fr:Nat→AV}{x:Operand}{K:AV→Ah→Prop}{S:Zl}{E:TI}(hS:ti P s=some ⟨.str,a,b,z1⟩)(hT:ti P t=some ⟨.sl e,c,d,z2⟩)(hE:ti P e=some E)(hk:E.k=.int .u8)(hx:ev fr x=.str S)(hl:S.length≤B5)(hK:K (.sl 1 ((G0 S).map (rI .u8))) h):Gj P fr h (.convert s t x) K:=by
 simp only [Gj,V8,hS,hT,hE,hx]
 refine⟨hk,hl,?_⟩
 have:(G0 S).map (rI .u8)=S.map fun b=>[AV.int .u8 b.toNat]:=by simp [G0,rI,Function.comp_def]
 rw [this] at hK; exact hK
end
section
variable {P:Program} [GW P] [GW P]
theorem Sf.mk {g : FuncId} {gf : Func} {gc : Code} (h1 : P.funcs[g]? = some gf) (h2 : gf.body = some gc) (h3 : gf.name ≠ "runtime.NumGoroutine") : Sf P g := ⟨gf, gc, h1, h2, h3⟩
theorem Ak7 {h:Ah}{mu:Mu}{w:World}{a:AV}{cargs:Array Value}(k:N4 h mu w [a] cargs.toList) : ∃ c,cargs = #[c]∧RV h mu w a c:=by
 obtain⟨l⟩:=cargs
 match l,k.1 with
 | [c],_=>exact⟨c,rfl,by simpa using k.2 0 (by simp)⟩
theorem Alx {h:Ah}{mu:Mu}{w:World}{t:IntKind}{n:Int}{c:Value}(k:RV h mu w (.int t n) c):c=.int t n:=by cases k; rfl
end
end Go.Am
namespace Go.Am
open Go
set_option linter.unusedSimpArgs false
set_option linter.unusedVariables false
set_option linter.unusedSectionVars false
inductive HM (h h2:Ah):List (Option AO)→List (Option AO)→Prop
 | nil:HM h h2 [] []
 | keep {x:Option AO} {xs ys:List (Option AO)} (r:HM h h2 xs ys):HM h h2 (x::xs) (x::ys)
 | drop {x:Option AO} {xs ys:List (Option AO)} (r:HM h h2 xs ys):HM h h2 (x::xs) (none::ys)
 | own {α:Type} {e:α→List AV} {L:List α} {v:AV} {g st i:Nat} {y:α} {row:List AV} {xs ys:List (Option AO)} (hr : ∀ x,E5 st (e x)) (hz:LF h h2 row (e y)) (r:HM h h2 xs ys) :
   HM h h2 (A5 v g st ((L.map e).set i row)::xs) (A5 v g st ((L.set i y).map e)::ys)
theorem HM.get {h h2:Ah}{xs ys:List (Option AO)}(k:HM h h2 xs ys):xs.length=ys.length ∧ ∀ (j:Nat) (y:AO),ys[j]? = some (some y) → ∃ x,xs[j]? = some (some x)∧AFz h h2 x y:=by
 induction k with
 | nil=>exact⟨rfl,fun j y e=>by simp at e⟩
 | keep r ih=>
  refine⟨by simp [ih.1],fun j y e=>?_⟩
  cases j with
  | zero=>simp only [List.getElem?_cons_zero,Option.some.injEq] at e; subst e; exact⟨y,by simp,.same _⟩
  | succ j=>simpa using ih.2 j y (by simpa using e)
 | drop r ih=>
  refine⟨by simp [ih.1],fun j y e=>?_⟩
  cases j with
  | zero=>simp at e
  | succ j=>simpa using ih.2 j y (by simpa using e)
 | @own α e L v g st i y row xs ys hr hz r ih=>
  refine⟨by simp [ih.1],fun j z hz'=>?_⟩
  cases j with
  | succ j=>simpa using ih.2 j z (by simpa using hz')
  | zero=>
   simp only [List.getElem?_cons_zero,Option.some.injEq] at hz' ⊢
   have key:AFz h h2 (.rows g st ((L.map e).set i row)) (.rows g st ((L.set i y).map e)):=by
    refine .rows g st _ _ (by simp) (fun q hq=>?_) fun a b ha hb=>?_
    ·obtain⟨w,_,rfl⟩:=List.mem_map.1 hq
     exact hr w
    ·rw [List.map_set]
     by_cases hia:i=a
     ·subst hia
      have hlt:i<(L.map e).length:=by simpa using ha
      simp only [cell]
      have e1:((L.map e).set i row).getD i []=row:=by rw [List.getD_eq_getElem?_getD,List.getElem?_set_self hlt]; rfl
      have e2:((L.map e).set i (e y)).getD i []=e y:=by rw [List.getD_eq_getElem?_getD,List.getElem?_set_self hlt]; rfl
      rw [e1,e2]
      exact hz.all.2 b (by rw [hz.all.1,(hr y).1]; exact hb)
     ·simp only [cell]
      have e1:((L.map e).set i row).getD a []=(L.map e).getD a []:=by simp [List.getD,List.getElem?_set_ne hia]
      have e2:((L.map e).set i (e y)).getD a []=(L.map e).getD a []:=by simp [List.getD,List.getElem?_set_ne hia]
      rw [e1,e2]
      exact .same _
   unfold A5 at hz' ⊢
   split at hz'
   ·cases hz'
   ·rename_i hv
    cases hz'
    exact⟨_,rfl,key⟩
theorem HM.hfz {h0:Ah}{ids:List Nat}{N:Nat}{xs ys:List (Option AO)}(hI:Ids h0 ids N)(hl:xs.length=N)(k:HM (hp h0 ids xs) (hp h0 ids ys) xs ys):HFz (hp h0 ids xs) (hp h0 ids ys):=by
 intro o y e
 obtain⟨k1,k2⟩:=k.get
 by_cases ho:o ∈ ids
 ·obtain⟨j,hj,rfl⟩:=List.mem_iff_getElem.1 ho
  have ej:ids[j]=ix ids j:=by simp [ix,List.getD,hj]
  rw [ej] at e ⊢
  have hjl:j<ys.length:=by rw [← k1,hl,← hI.len]; exact hj
  have hy:=hI.at (xs:=ys) (j:=j) (x:=ys[j]) (by rw [← k1,hl]) (List.getElem?_eq_getElem hjl)
  rw [hy] at e
  obtain⟨x,hx,hz⟩:=k2 j y (by rw [List.getElem?_eq_getElem hjl,e])
  exact⟨x,hI.at hl hx,hz⟩
 ·rw [Rt ho] at e
  exact⟨y,by rw [Rt ho]; exact e,.same _⟩
end Go.Am
namespace Go.Am
open Go
set_option linter.unusedSimpArgs false
set_option linter.unusedVariables false
set_option linter.unusedSectionVars false
def rV {α:Type}{n:Nat}(e:α→List AV)(v:Vector α n):List AV:=v.toList.flatMap e
def Yg {α:Type}{n:Nat}(v:Vector α n)(i:Nat)(z:α):α:=v.toList.getD i z
def Ai0 {α:Type}(n:Nat)(x:α):Vector α n:=Vector.replicate n x
section
variable {α:Type} {n:Nat} {e:α→List AV} {E:α→AV} {v:Vector α n} {i:Nat}
theorem Ze {s:Nat}(he : ∀ x,(e x).length=s) : ∀ l:List α,(l.flatMap e).length=l.length * s
 | []=>by simp
 | a::l=>by simp [he a,Ze he l,Nat.add_mul,Nat.add_comm]
theorem Alc {s m:Nat}(he : ∀ x,E5 s (e x))(hm:n * s=m)(v:Vector α n):E5 m (rV e v):=by
 refine⟨by rw [rV,Ze fun x=>(he x).1]; simpa using hm,fun a ha=>?_⟩
 obtain⟨x,_,hx⟩:=List.mem_flatMap.1 ha
 exact(he x).2 a hx
theorem E5.all {s:Nat}{r:List AV}(h:E5 s r):r.all AV.flat=true:=List.all_eq_true.2 h.2
theorem Ahu (he : ∀ x,e x=[E x]):rV e v=v.toList.map E:=by
 rw [rV]
 induction v.toList with
 | nil=>rfl
 | cons a l ih=>simp [he,ih]
theorem Alr (he : ∀ x,e x=[E x])(x:α):rV e (Ai0 n x)=List.replicate n (E x):=by rw [Ahu he]; simp [Ai0]
theorem Amy (he : ∀ x,e x=[E x])(hi:i<n)(z:α):Lz (rV e v) i 1 false=some (E (Yg v i z)):=by
 have hl:i<v.toList.length:=by simpa using hi
 rw [Ahu he]
 simp only [Lz,Bool.false_eq_true,if_false,List.length_map,hl,if_true,Yg]
 congr 1
 simp [List.getD,List.getElem?_eq_getElem hl]
end
section
variable {P:Program} [GW P] {h:Ah} {t et:TypeId} {a b:Nat} {z:List AV} {E:TI} {k:IntKind}
theorem Ahy {m o g:Nat}{i:Int}(hT:ti P t=some ⟨.arr m et,a,b,z⟩)(hE:ti P et=some E)(h1:E.size=1)(hi:0≤i∧i<(m:Int)):Gc P h t (.ptr o g 0 0) (.int k i)=some (.ptr o g 0 i.toNat):=by
 simp only [Gc,hT,hE,h1]
 rw [if_pos ⟨hi.1,by omega⟩]
 simp
theorem Ai4 {i:Int}{m:Nat}(h:0≤i∧i<(m:Int)):i.toNat<m:=by omega
end
section
variable {P:Program} [GW P] {f:FuncId} {n:Nat} {d:FK} {β:Type} {Q:Spec β} {m:R β} {ds:List AD} {u:AU} {k:List Item} {l:List (Nat×AV)} {all r:List Oper} {ty:TypeId} {pos:String} {after:Array Edge} {h0:Ah} {ids:List Nat} {xs:List (Option AO)} {N:Nat}
theorem Aid {t:Nat}{e:TypeId}{T:TI}{j st:Nat}{row:List AV}(hI:Ids h0 ids N)(hl:xs.length=N)(hjn:Nat.blt j N=true)(hj:xs[j]? = some none)(ht:Nat.blt t n=true)(hT:ti P e=some T)(hz:T.z=row)(hr:E5 st row)
  (hk : ∀ g,WO P f n d Q k all m r (A0 ((t,.ptr (ix ids j) g 0 0)::l)) ds (hp h0 ids (xs.set j (some (.rows g st [row])))) u) :
  WO P f n d Q k all m (⟨some t,.alloc e,ty,pos,after,none⟩::r) (A0 l) ds (hp h0 ids xs) u:=by
 subst hz
 refine Cc hI hl hjn hj ht hT hr.all fun g=>?_
 rw [hr.1]; exact hk g
end
theorem I8 {h h2:Ah} : ∀ l:List AV,LF h h2 l l
 | []=>.nil
 | a::l=>.cons (.same a) (I8 l)
def R.np {α:Type}:R α→R α
 | .pan _=>.bad
 | m=>m
theorem R.np_ne {α:Type}(m:R α)(v:PV):m.np≠.pan v:=by cases m <;> simp [R.np]
@[simp] theorem R.np_ok {α:Type}(a:α):(R.ok a).np=.ok a:=rfl
end Go.Am
namespace Go.Am
open Go
set_option linter.unusedSimpArgs false
set_option linter.unusedVariables false
set_option linter.unusedSectionVars false
section
variable {P:Program} [GW P] {B:Base P} {mu:Mu} {h:Ah} {w:World}
theorem Sim.pushB (s:Sim B mu h w){o g:Nat}(x:Obj)(ho:h o=none)(hg:mu o g=none) :
  Sim B (Dx mu o g ⟨w.heap.size,0,0,0,false⟩) (upd h o (some (.blk g x))) (w.alloc x)∧Ew h mu w (upd h o (some (.blk g x))) (Dx mu o g ⟨w.heap.size,0,0,0,false⟩) (w.alloc x):=by
 have hmu : ∀ o' g' l,mu o' g'=some l→Dx mu o g ⟨w.heap.size,0,0,0,false⟩ o' g'=some l:=by
  intro o' g' l hl
  unfold Dx
  rw [if_neg]
  ·exact hl
  ·rintro⟨rfl,rfl⟩; rw [hg] at hl; cases hl
 have hinv : ∀ o' g' l,Dx mu o g ⟨w.heap.size,0,0,0,false⟩ o' g'=some l→(o'=o∧g'=g∧l=⟨w.heap.size,0,0,0,false⟩)∨mu o' g'=some l:=by
  intro o' g' l hl
  unfold Dx at hl
  split at hl
  ·rename_i hh; cases hl; exact .inl ⟨hh.1,hh.2,rfl⟩
  ·exact .inr hl
 have hlive : ∀ o' y,upd h o (some (.blk g x)) o'=some y→(o'=o∧y=.blk g x)∨(o'≠o∧h o'=some y):=by
  intro o' y hx
  unfold upd at hx
  split at hx
  ·cases hx; exact .inl ⟨‹_›,rfl⟩
  ·exact .inr ⟨‹_›,hx⟩
 have hlt : ∀ {o' g' l},mu o' g'=some l→l.b<w.heap.size:=fun hl=>(s.muOk _ _ _ hl).2.1
 have hM : ∀ b,b<w.heap.size→¬ Ds h mu b→¬ Ds (upd h o (some (.blk g x))) (Dx mu o g ⟨w.heap.size,0,0,0,false⟩) b:=by
  rintro b hb hn ⟨o',y,l,hx,hl,rfl⟩
  rcases hinv _ _ _ hl with⟨_,_,rfl⟩ | hl'
  ·simp at hb
  ·rcases hlive _ _ hx with⟨rfl,rfl⟩ | ⟨_,hx'⟩
   ·simp only [AO.gen] at hl'; rw [hg] at hl'; cases hl'
   ·exact hn ⟨o',y,l,hx',hl',rfl⟩
 have ext:Ew h mu w (upd h o (some (.blk g x))) (Dx mu o g ⟨w.heap.size,0,0,0,false⟩) (w.alloc x):=
  ⟨rfl,rfl,rfl,by rw [E8]; omega,fun b hb hn=>⟨Du hb,hM b hb hn⟩,hmu⟩
 refine⟨⟨?_,?_,?_,?_,?_,?_,?_,s.globE ext,?_⟩,ext⟩
 ·rw [E8]; exact Nat.le_succ_of_le s.base
 ·intro o' g' l hl
  rcases hinv _ _ _ hl with⟨_,_,rfl⟩ | hl'
  ·exact⟨s.base,by rw [E8]; simp,fun hh=>by simp at hh⟩
  ·obtain⟨h1,h2,h3⟩:=s.muOk _ _ _ hl'
   refine⟨h1,by rw [E8]; omega,fun hcc=>?_⟩
   rw [Du h2]; exact h3 hcc
 ·obtain⟨N,hN⟩:=s.fin
  refine⟨max N (g+1),fun o' g' hle=>?_⟩
  unfold Dx
  rw [if_neg (by omega)]
  exact hN _ _ (by omega)
 ·obtain⟨N,hN⟩:=s.finh
  refine⟨max N (o+1),fun o' hle=>?_⟩
  unfold upd
  rw [if_neg (by omega)]
  exact hN _ (by omega)
 ·intro o' g' st' rs' hx
  rcases hlive _ _ hx with⟨rfl,hx'⟩ | ⟨hne,hx'⟩
  ·cases hx'
  ·obtain⟨l,h1,h2,h3,h4,h5,h6⟩:=s.rows _ _ _ _ hx'
   refine⟨l,hmu _ _ _ h1,h2,h3,h4,h5,fun i j hi hj=>?_⟩
   obtain⟨c,hc1,hc2⟩:=h6 i j hi hj
   refine⟨c,?_,hc2.ext ext⟩
   rw [cell?_of_heap (w:=w) (a:=⟨l.b,l.base+i * st'+j,none⟩) (Du (hlt h1))]; exact hc1
 ·intro o' g' es hx
  rcases hlive _ _ hx with⟨rfl,hx'⟩ | ⟨hne,hx'⟩
  ·cases hx'
  ·obtain⟨l,h1,h2,ens,clock,h3,h4,h5⟩:=s.maps _ _ _ hx'
   exact⟨l,hmu _ _ _ h1,h2,ens,clock,by rw [Du (hlt h1)]; exact h3,h4,fun i hi=>⟨(h5 i hi).1.ext ext,(h5 i hi).2.ext ext⟩⟩
 ·intro o1 o2 x1 x2 l1 l2 hx1 hx2 hl1 hl2 hbb
  have side : ∀ {o1 x1 l1},upd h o (some (.blk g x)) o1=some x1→Dx mu o g ⟨w.heap.size,0,0,0,false⟩ o1 x1.gen=some l1→(o1=o∧l1.b=w.heap.size)∨(o1≠o∧h o1=some x1∧mu o1 x1.gen=some l1):=by
   intro o1 x1 l1 h1 q1
   rcases hlive _ _ h1 with⟨rfl,rfl⟩ | ⟨hne,h1'⟩
   ·rcases hinv _ _ _ q1 with⟨_,_,rfl⟩ | q1'
    ·exact .inl ⟨rfl,rfl⟩
    ·simp only [AO.gen] at q1'; rw [hg] at q1'; cases q1'
   ·rcases hinv _ _ _ q1 with⟨e1,_,_⟩ | q1'
    ·exact absurd e1 hne
    ·exact .inr ⟨hne,h1',q1'⟩
  rcases side hx1 hl1 with⟨e1,b1⟩ | ⟨n1,a1,c1⟩ <;> rcases side hx2 hl2 with⟨e2,b2⟩ | ⟨n2,a2,c2⟩
  ·rw [e1,e2]
  ·have:=hlt c2; omega
  ·have:=hlt c1; omega
  ·exact s.inj _ _ _ _ _ _ a1 a2 c1 c2 hbb
 ·intro o' g' y hx
  rcases hlive _ _ hx with⟨rfl,hx'⟩ | ⟨hne,hx'⟩
  ·cases hx'
   exact⟨⟨w.heap.size,0,0,0,false⟩,by simp [Dx],rfl,Lp⟩
  ·obtain⟨l,h1,h2,h3⟩:=s.blks _ _ _ hx'
   exact⟨l,hmu _ _ _ h1,h2,by rw [Du (hlt h1)]; exact h3⟩
theorem Sim.setB (s:Sim B mu h w){o g:Nat}{x x':Obj}{l:Loc}(hx:h o=some (.blk g x))(hl:mu o g=some l)(hnc : ∀ c e f,x≠.cells c e f) :
  Sim B mu (upd h o (some (.blk g x'))) { w with heap:=w.heap.setIfInBounds l.b x' }∧Ew h mu w (upd h o (some (.blk g x'))) mu { w with heap:=w.heap.setIfInBounds l.b x' }:=by
 obtain⟨l0,hl0,hlc,hb0⟩:=s.blks _ _ _ hx
 rw [hl] at hl0; cases hl0
 have hlt0:=(s.muOk _ _ _ hl).2.1
 generalize hw:({ w with heap:=w.heap.setIfInBounds l.b x' }:World)=w'
 have hblk:w'.heap[l.b]? = some x':=by rw [← hw]; simp [hlt0]
 have hother : ∀ b,b≠l.b→w'.heap[b]? = w.heap[b]? := fun b hne=>by rw [← hw]; exact Array.getElem?_setIfInBounds_ne (Ne.symm hne)
 have hsize:w'.heap.size=w.heap.size:=by rw [← hw]; simp
 have hlive : ∀ o1 y,upd h o (some (.blk g x')) o1=some y→(o1=o∧y=.blk g x')∨(o1≠o∧h o1=some y):=by
  intro o1 y h1
  unfold upd at h1
  split at h1
  ·cases h1; exact .inl ⟨‹_›,rfl⟩
  ·exact .inr ⟨‹_›,h1⟩
 have hMl:Ds h mu l.b:=⟨o,_,l,hx,hl,rfl⟩
 have hM : ∀ b,¬ Ds h mu b→¬ Ds (upd h o (some (.blk g x'))) mu b:=by
  rintro b hn ⟨o1,y,l1,h1,h2,rfl⟩
  rcases hlive _ _ h1 with⟨rfl,rfl⟩ | ⟨_,h1'⟩
  ·exact hn ⟨_,_,_,hx,h2,rfl⟩
  ·exact hn ⟨_,_,_,h1',h2,rfl⟩
 have ext:Ew h mu w (upd h o (some (.blk g x'))) mu w':=
  ⟨by rw [← hw],by rw [← hw],by rw [← hw],by rw [hsize]; exact Nat.le_refl _,fun b _ hb=>⟨hother b (fun e=>hb (e ▸ hMl)),hM b hb⟩,fun _ _ _ h=>h⟩
 have hnb : ∀ {o1 y l1},o1≠o→h o1=some y→mu o1 y.gen=some l1→l1.b≠l.b:=fun hne h1 h2 hb=>hne (s.inj _ _ _ _ _ _ h1 hx h2 hl hb)
 refine⟨⟨by rw [hsize]; exact s.base,?_,s.fin,?_,?_,?_,?_,s.globE ext,?_⟩,ext⟩
 ·intro o1 g1 l1 h1
  obtain⟨k1,k2,k3⟩:=s.muOk _ _ _ h1
  refine⟨k1,by rw [hsize]; exact k2,fun hcc=>?_⟩
  have hbb:l1.b≠l.b:=by
   intro hbb
   obtain⟨c1,e1,f1,q1,_⟩:=k3 hcc
   rw [hbb,hb0] at q1
   exact hnc _ _ _ (Option.some.inj q1)
  rw [hother _ hbb]; exact k3 hcc
 ·obtain⟨N,hN⟩:=s.finh
  refine⟨max N (o+1),fun o' hle=>?_⟩
  unfold upd
  rw [if_neg (by omega)]
  exact hN _ (by omega)
 ·intro o1 g1 st1 rs1 h1
  rcases hlive _ _ h1 with⟨rfl,h1'⟩ | ⟨hne,h1'⟩
  ·cases h1'
  ·obtain⟨l1,k1,k2,k3,k4,k5,k6⟩:=s.rows _ _ _ _ h1'
   refine⟨l1,k1,k2,k3,k4,k5,fun i j hi hj=>?_⟩
   obtain⟨c,hc1,hc2⟩:=k6 i j hi hj
   refine⟨c,?_,hc2.ext ext⟩
   rw [cell?_of_heap (w:=w) (w':=w') (a:=⟨l1.b,l1.base+i * st1+j,none⟩) (hother _ (hnb hne h1' k1))]; exact hc1
 ·intro o1 g1 es1 h1
  rcases hlive _ _ h1 with⟨rfl,h1'⟩ | ⟨hne,h1'⟩
  ·cases h1'
  ·obtain⟨l1,k1,k2,ens1,clock1,k3,k4,k5⟩:=s.maps _ _ _ h1'
   exact⟨l1,k1,k2,ens1,clock1,by rw [hother _ (hnb hne h1' k1)]; exact k3,k4,fun i hi=>⟨(k5 i hi).1.ext ext,(k5 i hi).2.ext ext⟩⟩
 ·intro o1 o2 x1 x2 l1 l2 h1 h2 q1 q2 hbb
  rcases hlive _ _ h1 with⟨rfl,rfl⟩ | ⟨n1,a1⟩ <;> rcases hlive _ _ h2 with⟨rfl,rfl⟩ | ⟨n2,a2⟩
  ·rfl
  ·simp only [AO.gen] at q1; rw [hl] at q1; cases q1; exact absurd hbb.symm (hnb n2 a2 q2)
  ·simp only [AO.gen] at q2; rw [hl] at q2; cases q2; exact absurd hbb (hnb n1 a1 q1)
  ·exact s.inj _ _ _ _ _ _ a1 a2 q1 q2 hbb
 ·intro o1 g1 y h1
  rcases hlive _ _ h1 with⟨rfl,h1'⟩ | ⟨hne,h1'⟩
  ·cases h1'
   exact⟨l,hl,hlc,hblk⟩
  ·obtain⟨l1,k1,k2,k3⟩:=s.blks _ _ _ h1'
   exact⟨l1,k1,k2,by rw [hother _ (hnb hne h1' k1)]; exact k3⟩
end
end Go.Am
namespace Go.Am
open Go
set_option linter.unusedSimpArgs false
set_option linter.unusedVariables false
set_option linter.unusedSectionVars false
section
variable {P:Program} [GW P] {f:FuncId} {n:Nat} {d:FK} {fr:Nat→AV} {ds:List AD} {h:Ah} {u:AU} {Q:QT} {k:List Item}
theorem Abr {l o g:Nat}{r:Loop}(hd:d.ro=some (l,o,g))(ho:h o=some (.blk g (.loop r)))(hs:r.state=.ready)(hr:E9 P f n d k fr ds (upd h o (some (.blk g (.loop { r with state:=.busy })))) u Q) :
  E9 P f n d (.beginRound::k) fr ds h u Q:=by
 intro B mu w a cs p
 obtain⟨loc,hl,rfl⟩:=p.rnd _ _ _ hd
 obtain⟨l0,hl0,_,hb⟩:=p.sim.blks _ _ _ ho
 rw [hl] at hl0; cases hl0
 have hrun:(Instr.beginRound loc.b).run P w=.ok () { w with heap:=w.heap.setIfInBounds loc.b (.loop { r with state:=.busy }) }:=by
  simp [Instr.beginRound,Instr.getLoop,getObj,setObj,Sem.run,Sem.run_bind,hb,hs]
 obtain⟨s',e'⟩:=p.sim.setB (x':=.loop { r with state:=.busy }) ho hl (fun _ _ _ hh=>by cases hh)
 exact .ext e' (.head (stepR_beginRound (by simp [b0,hd]) hrun) (hr B mu _ a cs (p.ext e' s')))
def Tx (fr:Nat→AV):List Nat→List AV→Nat→AV
 | p::ps,v::vs=>Tx (upd fr p v) ps vs
 | _,_=>fr
theorem Ad3 {mu:Mu}{w:World} : ∀ (ps:List Nat) (args:List AV) (cargs:List Value) (fr:Nat→AV) (tmps:Array Value),tmps.size=n→(∀ p ∈ ps,p<n)→(∀ t,RV h mu w (fr t) (tmps.getD t undef))→N4 h mu w args cargs →
  (∀ t,RV h mu w (Tx fr ps args t) (((ps.zip cargs).foldl (fun tmps x=>tmps.setIfInBounds x.1 x.2) tmps).getD t undef))∧((ps.zip cargs).foldl (fun tmps x=>tmps.setIfInBounds x.1 x.2) tmps).size=n
 | [],_,_,fr,tmps,hs,_,hf,_=>⟨by simpa [Tx] using hf,by simpa using hs⟩
 | p::ps,[],[],fr,tmps,hs,_,hf,_=>⟨by simpa [Tx] using hf,by simpa using hs⟩
 | p::ps,[],c::cs,fr,tmps,hs,_,hf,ha=>by have:=ha.1; simp at this
 | p::ps,v::vs,[],fr,tmps,hs,_,hf,ha=>by have:=ha.1; simp at this
 | p::ps,v::vs,c::cs,fr,tmps,hs,hp,hf,ha=>by
  have hv:RV h mu w v c:=by simpa using ha.2 0 (by simp)
  have hp0:=hp p (List.mem_cons_self ..)
  refine Ad3 ps vs cs (upd fr p v) (tmps.setIfInBounds p c) (by simpa using hs) (fun q hq=>hp q (List.mem_cons_of_mem _ hq)) (fun t=>?_) ⟨by have:=ha.1; simpa using this,fun i hi=>by simpa using ha.2 (i+1) (by simpa using hi)⟩
  unfold upd
  by_cases ht:t=p
  ·subst ht
   rw [if_pos rfl]
   simp [hs,hp0]; exact hv
  ·rw [if_neg ht]
   have:=hf t
   simpa [Array.getD_eq_getD_getElem?,Array.getElem?_setIfInBounds_ne (Ne.symm ht)] using this
theorem Alp {mu:Mu}{w:World}{M:Nat→Prop}{c:Code}{v:Value}(hc:jav c≠.tup [])(h:Rv w mu M (jav c) v):v=jv c:=by
 cases c with
 | ret=>have h:Rv w mu M (.bool true) v:=h; cases h; rfl
 | exit id=>have h:Rv w mu M (.int .u64 id) v:=h; cases h; rfl
 | _=>exact absurd rfl hc
theorem Al9 {c:Code}{k:List Item}(hj:Sv c k=true):jv c≠undef:=by
 cases c <;> simp [Sv] at hj <;> simp [jv,undef]
theorem Ali {c c':Code}{k:List Item}(hj:Sv c k=true)(hc:jav c'≠.tup [])(h:jv c'=jv c):c=c':=by
 cases c with
 | ret=>
  cases c' with
  | ret=>rfl
  | exit id=>simp [jv] at h
  | _=>exact absurd rfl hc
 | exit id=>
  cases c' with
  | ret=>simp [jv] at h
  | exit id'=>
   have h:(id':Int)=(id:Int):=by simpa [jv] using h
   rw [Int.ofNat.inj h]
  | _=>exact absurd rfl hc
 | _=>simp [Sv] at hj
theorem Zo {y:YF}{o g:Nat}{r:Loop}{args:List AV}{K E:AV→Ah→Prop}(ho:h o=some (.blk g (.loop r)))(hrd:r.state=.ready)(hpe:r.pending=none)(hfn:r.fn=f)(hsz:r.tmps.size=n)(hps : ∀ p ∈ r.params.toList,p<n)
  (hy : ∀ {mu:Mu} {w:World} {l:Nat},y.F w mu (Ds h mu) l → ∀ t,RV h mu w (fr t) (r.tmps.getD t undef)) (hla:args.length=r.params.size)
  (hrun : ∀ l,E9 P f n ⟨false,some (l,o,g)⟩ [.code r.assign,.beginRound,.code r.body] (Tx fr r.params.toList args) [] h .ret (fun res h' _=>match res with
   | .ret v=>h' o=some (.blk g (.loop { r with state:=.busy }))∧((v=.tup []∧K (.bool true) (upd h' o (some (.blk g (.loop r))))) ∨ ∃ c,v=jav c∧jav c≠.tup []∧K (.bool false) (upd h' o (some (.blk g (.loop { r with state:=.done,pending:=some c })))))
   | .panic v=>E v h')):Vx P y o g args h K E:=by
 intro B mu w loc cargs s hl hyF ha
 obtain⟨l0,hl0,_,hb⟩:=s.blks _ _ _ ho
 rw [hl] at hl0; cases hl0
 have hcs:cargs.size=r.params.size:=by have:=ha.1; simp at this; omega
 refine⟨r,hb,hcs,fun c cs=>?_⟩
 have hz:(r.params.zip cargs).foldl (fun tmps (t,a)=>tmps.setIfInBounds t a) r.tmps=(r.params.toList.zip cargs.toList).foldl (fun tmps x=>tmps.setIfInBounds x.1 x.2) r.tmps:=by
  rw [← Array.foldl_toList,Array.toList_zip]
 obtain⟨q1,q2⟩:=Ad3 (n:=n) r.params.toList args cargs.toList fr r.tmps hsz hps (hy hyF) ha
 rw [← hz] at q1 q2
 generalize (r.params.zip cargs).foldl (fun tmps (t,a)=>tmps.setIfInBounds t a) r.tmps=tmps at q1 q2
 subst hfn
 obtain⟨e,w',cs',frm,res,h',mu',u',a1,a2,a3,a4,a5,a6,a7,a8,a9⟩:=hrun loc.b ⟨B.n,w.heap.size⟩ mu w { tmps:=tmps,defers:=[] } (c::cs) ⟨q2,q1,rfl,s.rebase rfl,trivial,(fun l' o' g' hh=>by cases hh; exact⟨loc,hl,rfl⟩),s.base,Nat.le_refl _⟩
 have a9':cs'=c::cs:=a9
 subst a9'
 replace a7:Sim B mu' h' w':=a7.rebase rfl
 replace a8:=a8.ext
 have hfr:(b0 r.fn ⟨false,some (loc.b,o,g)⟩).atR { tmps:=tmps,defers:=[] } [.code r.assign,.beginRound,.code r.body]=Frame.round loc.b r.fn tmps r.assign r.body .normal:=by
  simp [Frame.round,Frame.atR,b0,KD]
 rw [hfr] at a2
 cases e with
 | outgrown=>cases res <;> exact a6.elim
 | returned v=>
  cases res with
  | panic _=>exact a6.elim
  | ret v'=>
   obtain⟨g1,g2,g4,g3⟩:=(a5:frm.roundOf=some loc.b∧frm.mode=.run∧frm.defers=[]∧((v=undef∧frm.todo=[]) ∨ ∃ c k,frm.todo=.code c::k∧Sv c k=true∧v=jv c))
   obtain⟨k1,k2⟩:=a1
   have hl':=a8.mu _ _ _ hl
   obtain⟨l1,hl1,_,hb1⟩:=a7.blks _ _ _ k1
   rw [hl'] at hl1; cases hl1
   have hk:frm.kind=.normal:=by rw [a4]; rfl
   rcases k2 with⟨rfl,k2⟩ | ⟨jc,rfl,hjc,k2⟩
   ·
    have hv:v=undef:=by
     have hh:RV h' mu' w' (.tup []) v:=a6
     cases hh with
     | tup vs cs hlen _=>
      have:cs=[]:=by simpa using hlen.symm
      subst this; rfl
    have htodo:frm.todo=[]:=by
     rcases g3 with⟨_,h⟩ | ⟨c',k',_,hj,hv'⟩
     ·exact h
     ·exact absurd (hv'.symm.trans hv) (Al9 hj)
    have hend:(Instr.endRound loc.b none).run P w'=.ok (.bool true) { w' with heap:=w'.heap.setIfInBounds loc.b (.loop r) }:=by
     have:({ r with state:=.ready,pending:=none }:Loop)=r:=by
      cases r; simp_all
     simp [Instr.endRound,Instr.getLoop,getObj,setObj,Sem.run,Sem.run_bind,hb1]
     rw [← this]
    obtain⟨s',e'⟩:=a7.setB (x':=.loop r) k1 hl' (fun _ _ _ hh=>by cases hh)
    have hfe:frm=frm.atR { tmps:=frm.tmps,defers:=[] } []:=by
     cases frm; simp_all [Frame.atR]
    refine⟨.returned (.bool true),_,.ret (.bool true),_,mu',k2,s',a8.trans e',.bool true,?_⟩
    refine Steps.trans a2 (.one ?_)
    rw [hfe]
    exact stepR_round_end (b:=frm) g1 hk hend
   ·
    have hv:v=jv jc:=Alp hjc a6
    obtain⟨c',k',htodo,hj,hcc⟩ : ∃ c k,frm.todo=.code c::k∧Sv c k=true∧v=jv c:=by
     rcases g3 with⟨h,_⟩ | h
     ·exfalso
      rw [hv] at h
      cases jc with
      | ret=>simp [jv,undef] at h
      | exit id=>simp [jv,undef] at h
      | _=>exact hjc rfl
     ·exact h
    have hcj:c'=jc:=Ali hj hjc (hv.symm.trans hcc)
    subst hcj
    have hend:(Instr.endRound loc.b (some c')).run P w'=.ok (.bool false) { w' with heap:=w'.heap.setIfInBounds loc.b (.loop { r with state:=.done,pending:=some c' }) }:=by
     simp [Instr.endRound,Instr.getLoop,getObj,setObj,Sem.run,Sem.run_bind,hb1]
    obtain⟨s',e'⟩:=a7.setB (x':=.loop { r with state:=.done,pending:=some c' }) k1 hl' (fun _ _ _ hh=>by cases hh)
    have hfe:frm=frm.atR { tmps:=frm.tmps,defers:=[] } (.code c'::k'):=by
     cases frm; simp_all [Frame.atR]
    refine⟨.returned (.bool false),_,.ret (.bool false),_,mu',k2,s',a8.trans e',.bool false,?_⟩
    refine Steps.trans a2 (.one ?_)
    unfold Sv at hj
    split at hj
    ·rw [hfe]
     exact stepR_round_ret (b:=frm) g1 hk hend
    ·rw [hfe]
     exact stepR_round_exit (b:=frm) g1 hk (by simpa using hj) hend
    ·cases hj
 | panicked chain=>
  cases res with
  | ret _=>exact a6.elim
  | panic v=>
   exact⟨.panicked chain,w',.panic v,h',mu',a1,a7,a8,a6,Steps.trans a2 (.one (step_leave_panicked a5))⟩
theorem Sim.take {B:Base P}{mu:Mu}{w:World}{b:Nat}{x:Option (List Deferred)}(s:Sim B mu h w)(hb:w.heap[b]? = some (.deferred x))(hm:¬ Ds h mu b)(hn:B.n≤b){n0:Nat}(hn0:n0≤b) :
  Sim B mu h { w with heap:=w.heap.setIfInBounds b (.deferred none) }∧Zz n0 h mu w h mu { w with heap:=w.heap.setIfInBounds b (.deferred none) }:=by
 have hlt:b<w.heap.size:=by
  rcases Nat.lt_or_ge b w.heap.size with hh | hh
  ·exact hh
  ·rw [Array.getElem?_eq_none hh] at hb; cases hb
 have hne : ∀ k,k≠b→(w.heap.setIfInBounds b (.deferred none))[k]? = w.heap[k]? := fun k hk=>Array.getElem?_setIfInBounds_ne (Ne.symm hk)
 have hself:(w.heap.setIfInBounds b (.deferred none))[b]? = some (.deferred none):=by simp [hlt]
 have ext:Zz n0 h mu w h mu { w with heap:=w.heap.setIfInBounds b (.deferred none) }:=
  ⟨rfl,rfl,rfl,by simp,fun k hk hkm=>⟨by
   by_cases hq:k=b
   ·subst hq; exact .inr ⟨hn0,_,_,hb,hself⟩
   ·exact .inl (hne k hq),hkm⟩,fun _ _ _ h=>h⟩
 have hcell : ∀ a:Addr,({ w with heap:=w.heap.setIfInBounds b (.deferred none) }:World).cell? a=w.cell? a:=fun a=>by
  by_cases hq:a.block=b
  ·unfold World.cell?
   show(match (w.heap.setIfInBounds b (.deferred none))[a.block]? with | some (.cells cells _ _)=>_ | _=>_)=_
   rw [hq,hself,hb]
  ·exact cell?_of_heap (hne _ hq)
 have hnb : ∀ {o x l},h o=some x→mu o x.gen=some l→l.b≠b:=fun h1 h2 hq=>hm ⟨_,_,_,h1,h2,hq⟩
 refine⟨⟨by simpa using s.base,fun o g l hl=>?_,s.fin,s.finh,fun o g st rs hx=>?_,fun o g es hx=>?_,s.inj,GW.step s.glob fun k hk=>hne k (by omega),fun o g x hx=>?_⟩,ext⟩
 ·obtain⟨h1,h2,h3⟩:=s.muOk o g l hl
  refine⟨h1,by simpa using h2,fun hc=>?_⟩
  obtain⟨cells,e,f,k1,k2,k3⟩:=h3 hc
  have:l.b≠b:=fun hq=>by rw [hq,hb] at k1; cases k1
  exact⟨cells,e,f,(hne _ this).trans k1,k2,k3⟩
 ·obtain⟨l,h1,h2,h3,h4,h5,h6⟩:=s.rows o g st rs hx
  refine⟨l,h1,h2,h3,h4,h5,fun i j hi hj=>?_⟩
  obtain⟨c,hc1,hc2⟩:=h6 i j hi hj
  exact⟨c,(hcell _).trans hc1,hc2.extG ext⟩
 ·obtain⟨l,h1,h2,ens,clock,h3,h4,h5⟩:=s.maps o g es hx
  exact⟨l,h1,h2,ens,clock,⟨(hne _ (hnb hx h1)).trans h3.1,h3.2⟩,h4,fun i hi=>⟨(h5 i hi).1.extG ext,(h5 i hi).2.extG ext⟩⟩
 ·obtain⟨l,h1,h2,h3⟩:=s.blks o g x hx
  exact⟨l,h1,h2,(hne _ (hnb hx h1)).trans h3⟩
theorem N4.extG {n:Nat}{h h':Ah}{mu mu':Mu}{w w':World}(e:Zz n h mu w h' mu' w'){l:List AV}{cs:List Value}(k:N4 h mu w l cs):N4 h' mu' w' l cs:=⟨k.1,fun i hi=>(k.2 i hi).extG e⟩
theorem O8.extG {n:Nat}{h h':Ah}{mu mu':Mu}{w w':World}(e:Zz n h mu w h' mu' w'){u:AU}{m:FrameMode}(k:O8 h mu w u m):O8 h' mu' w' u m:=by
 unfold O8 at k ⊢
 split at k
 ·trivial
 ·exact⟨k.1,k.2.1,k.2.2.extG e⟩
 ·exact k.elim
theorem Aj2 {m:AU}(hr:O9 P f n d m fr ds h u Q)(hds:ds.all (fun d => !d.isStar)=true:=by rfl):O9 P f n d m fr (AD.star::ds) h u Q:=by
 intro B mu w a cs todo mode p hm
 have hp:=p.ds
 unfold Po at hp
 obtain⟨c1,c2,hq,⟨bs,hnd,hbs,hall⟩,hrest⟩:=hp
 have hmr:mode≠.run:=by intro hh; subst hh; cases m <;> simp [O8] at hm
 have keep : ∀ {mu:Mu} {w w':World} {n0 fb:Nat} (e:Zz n0 h mu w h mu w') (ds:List AD) (cs:List Deferred),ds.all (fun d => !d.isStar)=true→Po h mu w fb ds cs→Po h mu w' fb ds cs:=by
  intro mu w w' n0 fb e ds
  induction ds with
  | nil=>intro cs _ hh; exact hh
  | cons d ds ih=>
   intro cs hal hh
   simp only [List.all_cons,Bool.and_eq_true,Bool.not_eq_true'] at hal
   unfold Po at hh ⊢
   rw [hal.1] at hh ⊢
   obtain⟨c,c2,h1,⟨cap,h2,h2'⟩,h3⟩:=hh
   exact⟨c,c2,h1,⟨cap,h2,h2'.extG e⟩,ih c2 hal.2 h3⟩
 have key : ∀ (bs:List Nat) (w:World) (c1:List Deferred) (a:Act),Pre n d fr ds h u B mu w { a with defers:=c2 } cs→O8 h mu w m mode→a.defers=c1++c2→bs.Nodup→c1.map (·.target)=bs.map (fun b=>.collected b) →
   (∀ b ∈ bs,b<w.heap.size∧¬ Ds h mu b∧B.fb≤b∧w.heap[b]? = some (.deferred (some [])))→Nl P f d B h mu w cs Q (lone { (b0 f d).atR a todo with mode:=mode } cs w):=by
  intro bs
  induction bs with
  | nil=>
   intro w c1 a p hm hq _ hbs _
   have:c1=[]:=by simpa using hbs
   subst this
   have ha:({ a with defers:=c2 }:Act)=a:=by cases a; simp at hq; subst hq; rfl
   rw [ha] at p
   exact hr B mu w a cs todo mode p hm
  | cons b bs ih=>
   intro w c1 a p hm hq hnd hbs hall
   match c1,hbs with
   | dc::c1,hbs=>
    simp only [List.map_cons,List.cons.injEq] at hbs
    obtain⟨k1,k2,k3,k4⟩:=hall b (List.mem_cons_self ..)
    obtain⟨s',e'⟩:=p.sim.take k4 k2 (Nat.le_trans p.fb.1 k3) k3
    have hk:(Instr.takeDeferred b).run P w=.ok [] { w with heap:=w.heap.setIfInBounds b (.deferred none) }:=by
     simp [Instr.takeDeferred,getObj,setObj,Sem.run,Sem.run_bind,k4]
    have h1:=step_collected (P:=P) (fr:={ (b0 f d).atR a todo with mode:=mode }) (cs:=cs) (w:=w) hmr (d:=dc) (ds:=c1++c2) (by simpa [Frame.atR] using hq) hbs.1 hk
    have p':Pre n d fr ds h u B mu { w with heap:=w.heap.setIfInBounds b (.deferred none) } { a with defers:=c2 } cs:=
     ⟨p.size,fun t=>(p.fr t).extG e',keep e' ds c2 hds p.ds,s',by
      obtain⟨q,ro⟩:=d
      cases q with
      | false=>trivial
      | true=>obtain⟨c,r,h1,h2⟩:=p.cs; exact⟨c,r,h1,h2.extG e'⟩,p.rnd,p.fb.1,by simpa using p.fb.2⟩
    have hnd':=List.nodup_cons.1 hnd
    exact .extG e' (.head h1 (ih _ c1 { a with defers:=c1++c2 } p' (hm.extG e') rfl hnd'.2 hbs.2 (fun b' hb'=>by
     obtain⟨q1,q2,q3,q4⟩:=hall b' (List.mem_cons_of_mem _ hb')
     refine⟨by simpa using q1,q2,q3,?_⟩
     have hne:b'≠b:=fun hq=>hnd'.1 (hq ▸ hb')
     exact(Array.getElem?_setIfInBounds_ne (Ne.symm hne)).trans q4)))
 exact key bs w c1 a ⟨p.size,p.fr,hrest,p.sim,p.cs,p.rnd,p.fb⟩ hm hq hnd hbs hall
theorem Ai3 {todo:List Item}(hr:E9 P f n d todo fr (AD.star::ds) h u Q):E9 P f n d todo fr ds h u Q:=fun B mu w a cs p=>
 hr B mu w a cs ⟨p.size,p.fr,⟨[],a.defers,rfl,⟨[],List.nodup_nil,rfl,fun b hb=>by cases hb⟩,p.ds⟩,p.sim,p.cs,p.rnd,p.fb⟩
structure LpOk (f n:Nat)(params:Array Tmp)(assign body:Code)(r:Loop):Prop where
 ready:r.state=.ready
 pend:r.pending=none
 fn:r.fn=f
 size:r.tmps.size=n
 params:r.params=params
 assign:r.assign=assign
 body:r.body=body
theorem Xg {x:Operand}{params:Array Tmp}{assign body:Code}{gf:FuncId}{cap:List AV}(oL:Nat)(hro:d.ro=none)(hx:ev fr x=.func (.func gf) [] cap)(hoL:h oL=none)
  (hgo : ∀ (gL:Nat) (y:YF) (r:Loop),LpOk f n params assign body r→(∀ {mu:Mu} {w:World} {M:Nat→Prop} {l:Nat},y.F w mu M l → ∀ t,Rv w mu M (fr t) (r.tmps.getD t undef)) →
   Bx P gf ([.yld y oL gL]++cap) (upd h oL (some (.blk gL (.loop r)))) (fun res h'=>match res with
    | .ret _ => ∃ r':Loop,h' oL=some (.blk gL (.loop r'))∧r'.state≠.busy∧E9 P f n d ((r'.pending.map Item.code).toList++k) fr (AD.star::ds) (upd h' oL none) u Q
    | .panic v=>O9 P f n d (.pan v false) fr (AD.star::ds) (upd h' oL none) u Q)) :
  E9 P f n d (.code (.rangeFunc x params assign body)::k) fr (AD.star::ds) h u Q:=by
 intro B mu w a cs p
 obtain⟨s1,e1⟩:=p.sim.junk (.deferred (some []))
 obtain⟨gL,hgL⟩:=s1.fresh oL
 generalize hr:({ state:=.ready,pending:=none,fn:=f,tmps:=a.tmps,params:=params,assign:=assign,body:=body,defers:=w.heap.size }:Loop)=r
 obtain⟨s2,e2⟩:=s1.pushB (.loop r) hoL hgL
 have e12:=e1.trans e2
 have hsz1:(w.alloc (.deferred (some []))).heap.size=w.heap.size+1:=E8 ..
 have hent:(Instr.enterLoop (b0 f d).fn a.tmps params assign body (b0 f d).roundOf).run P w=.ok (w.heap.size+1,[{ target:=.collected w.heap.size,args := #[] }]) ((w.alloc (.deferred (some []))).alloc (.loop r)):=by
  have hro':(b0 f d).roundOf=none:=by simp [b0,hro]
  rw [hro',← hr,← hsz1]
  rfl
 have p2:=p.ext e12 s2
 let y:YF:=⟨fun w mu M l => ∀ t,Rv w mu M (fr t) (a.tmps.getD t undef),fun e hh t=>(hh t).extG e⟩
 have hcall:=hgo gL y r (by subst hr; exact⟨rfl,rfl,rfl,p.size,rfl,rfl,rfl⟩) (fun hh t=>by subst hr; exact hh t)
 obtain⟨hb,hcall⟩:=hcall
 have hxv:=Mq p2.fr x
 rw [hx] at hxv
 obtain⟨f2,c2,hfv,hf2,hc2⟩:=Z2 hxv
 have hf2':f2=[]:=by have:=hf2.1; simp at this; exact List.length_eq_zero_iff.1 this.symm
 subst hf2'
 have hinv:((resolve a.eval (rangeCall x (w.heap.size+1)) 0) >>= fun d=>invoke d.target d.args).run P ((w.alloc (.deferred (some []))).alloc (.loop r))=.ok (.enter gf (#[] ++ #[Value.func (.yield (w.heap.size+1)) #[] #[]]++c2.toArray)) ((w.alloc (.deferred (some []))).alloc (.loop r)):=by
  have:=Zd (P:=P) (ρ:=a.eval) (x:=x) (args := #[.const (.func (.yield (w.heap.size+1)) #[] #[])]) (ts := #[]) (ty:=0) (w:=(w.alloc (.deferred (some []))).alloc (.loop r)) hfv hb
  simpa [rangeCall,Act.eval] using this
 have hres : ∃ dd,(resolve a.eval (rangeCall x (w.heap.size+1)) 0).run P ((w.alloc (.deferred (some []))).alloc (.loop r))=.ok dd ((w.alloc (.deferred (some []))).alloc (.loop r))∧(invoke dd.target dd.args).run P ((w.alloc (.deferred (some []))).alloc (.loop r))=.ok (.enter gf (#[] ++ #[Value.func (.yield (w.heap.size+1)) #[] #[]]++c2.toArray)) ((w.alloc (.deferred (some []))).alloc (.loop r)):=by
  rw [Sem.run_bind] at hinv
  have hrr : ∃ dd,(resolve a.eval (rangeCall x (w.heap.size+1)) 0).run P ((w.alloc (.deferred (some []))).alloc (.loop r))=.ok dd ((w.alloc (.deferred (some []))).alloc (.loop r)):=by
   simp [rangeCall,resolve,hfv,Deferred.ofValue]
  obtain⟨dd,hdd⟩:=hrr
  refine⟨dd,hdd,?_⟩
  rw [hdd] at hinv
  simpa using hinv
 obtain⟨dd,hd1,hd2⟩:=hres
 have henter:=stepR_rangeFunc (P:=P) (b:=b0 f d) (a:=a) (k:=k) (cs:=cs) (w:=w) hent hd1 hd2
 have hlL:Dx mu oL gL ⟨(w.alloc (.deferred (some []))).heap.size,0,0,0,false⟩ oL gL=some ⟨(w.alloc (.deferred (some []))).heap.size,0,0,0,false⟩:=by
  simp [Dx]
 have hargs:N4 (upd h oL (some (.blk gL (.loop r)))) (Dx mu oL gL ⟨(w.alloc (.deferred (some []))).heap.size,0,0,0,false⟩) ((w.alloc (.deferred (some []))).alloc (.loop r)) ([.yld y oL gL]++cap) (#[] ++ #[Value.func (.yield (w.heap.size+1)) #[] #[]]++c2.toArray).toList:=by
  simp only [Array.toList_append,List.nil_append]
  refine N4.append ⟨rfl,fun i hi=>?_⟩ hc2
  have:i=0:=by simpa using hi
  subst this
  have hv:=Rv.yld (w:=(w.alloc (.deferred (some []))).alloc (.loop r)) (M:=Ds (upd h oL (some (.blk gL (.loop r)))) (Dx mu oL gL ⟨(w.alloc (.deferred (some []))).heap.size,0,0,0,false⟩)) y oL gL _ hlL (fun t=>p2.fr t)
  show Rv _ _ _ (.yld y oL gL) (.func (.yield (w.heap.size+1)) #[] #[])
  rw [← hsz1]
  exact hv
 obtain⟨e,w',frm,⟨res,h',mu',hQ,hs',hext,hE⟩,hcomes,hfn,hleave⟩:=hcall B _ _ _ s2 hargs ((b0 f d).atR { a with defers:=[{ target:=.collected w.heap.size,args := #[] }]++a.defers } (.inRangeFunc (w.heap.size+1)::k)::cs)
 have p3:=p2.ext hext hs'
 have hsubL:Ip (upd h' oL none) h':=fun o' y' hh=>by
  unfold upd at hh
  split at hh
  ·cases hh
  ·exact hh
 have hmark:Po h' mu' w' B.fb (AD.star::ds) ([{ target:=.collected w.heap.size,args := #[] }]++a.defers):=by
  have hp0:=p.ds
  unfold Po at hp0 ⊢
  obtain⟨c1,c2,hq,⟨bs,k1,k2,k3⟩,hrest⟩:=hp0
  have E:=e12.trans hext
  have hD:(w.alloc (.deferred (some []))).heap[w.heap.size]? = some (.deferred (some [])):=Lp
  have hD2:((w.alloc (.deferred (some []))).alloc (.loop r)).heap[w.heap.size]? = some (.deferred (some [])):=by rw [Du (by rw [hsz1]; omega)]; exact hD
  have hDm:¬ Ds (upd h oL (some (.blk gL (.loop r)))) (Dx mu oL gL ⟨(w.alloc (.deferred (some []))).heap.size,0,0,0,false⟩) w.heap.size:=by
   rintro⟨o1,x1,l1,q1,q2,q3⟩
   by_cases ho1:o1=oL
   ·subst ho1
    rw [Add] at q1; cases q1
    rw [show(AO.blk gL (.loop r)).gen=gL from rfl,hlL] at q2; cases q2
    simp only at q3; rw [hsz1] at q3; omega
   ·rw [Aaj _ _ _ ho1] at q1
    have:mu o1 x1.gen=some l1:=by
     have:Dx mu oL gL ⟨(w.alloc (.deferred (some []))).heap.size,0,0,0,false⟩ o1 x1.gen=mu o1 x1.gen:=by simp [Dx,ho1]
     rw [← this]; exact q2
    have:=(p.sim.muOk _ _ _ this).2.1
    omega
  have hsz2:((w.alloc (.deferred (some []))).alloc (.loop r)).heap.size=w.heap.size+2:=by rw [E8,hsz1]
  obtain⟨j1,j2⟩:=hext.same w.heap.size (by rw [hsz2]; omega) hDm
  refine⟨{ target:=.collected w.heap.size,args := #[] }::c1,c2,by rw [hq]; rfl,⟨w.heap.size::bs,List.nodup_cons.2 ⟨fun hm=>by have:=(k3 _ hm).1; omega,k1⟩,by simp [k2],fun b hb=>?_⟩,hrest.ext E⟩
  rcases List.mem_cons.1 hb with rfl | hb
  ·exact⟨Nat.lt_of_lt_of_le (by rw [hsz2]; omega) hext.size,j2,p.fb.2,j1.trans hD2⟩
  ·obtain⟨q1,q2,q3,q4⟩:=k3 b hb
   obtain⟨s1,s2⟩:=E.same b q1 q2
   exact⟨Nat.lt_of_lt_of_le q1 E.size,s2,q3,s1.trans q4⟩
 have p4:Pre n d fr (AD.star::ds) h' u B mu' w' { a with defers:=[{ target:=.collected w.heap.size,args := #[] }]++a.defers } cs:=⟨p3.size,p3.fr,hmark,hs',p3.cs,p3.rnd,p3.fb⟩
 cases e with
 | outgrown=>cases res <;> exact hE.elim
 | returned c=>
  cases res with
  | panic v=>exact hE.elim
  | ret v=>
   obtain⟨r',hr',hst,hrun⟩:=hQ
   have hfin:=step_leave_returned hleave (c:=(b0 f d).atR { a with defers:=[{ target:=.collected w.heap.size,args := #[] }]++a.defers } (.inRangeFunc (w.heap.size+1)::k)) (cs:=cs)
   rw [finish_atR_inRangeFunc] at hfin
   have hlL':=hext.mu _ _ _ hlL
   rw [hsz1] at hlL'
   obtain⟨l1,hl1,_,hb1⟩:=hs'.blks _ _ _ hr'
   rw [hlL'] at hl1; cases hl1
   have hend:(Instr.endLoop (w.heap.size+1)).run P w'=.ok r'.pending { w' with heap:=w'.heap.setIfInBounds (w.heap.size+1) (.loop { r' with state:=.exhausted }) }:=by
    have hnb:(r'.state==.busy)=false:=by
     cases hq:r'.state with
     | busy=>exact absurd hq hst
     | ready=>rfl
     | done=>rfl
     | exhausted=>rfl
    simp [Instr.endLoop,Instr.getLoop,getObj,setObj,Sem.run,Sem.run_bind,hb1,hnb,hst]
   obtain⟨s5,e5⟩:=hs'.setB (x':=.loop { r' with state:=.exhausted }) hr' hlL' (fun _ _ _ hh=>by cases hh)
   have hsub5:Ip (upd h' oL none) (upd h' oL (some (.blk gL (.loop { r' with state:=.exhausted })))):=fun o' y' hh=>by
    unfold upd at hh ⊢
    split at hh
    ·cases hh
    ·rename_i hq; rw [if_neg hq]; exact hh
   have p5:=(p4.ext e5 s5).ext (Ew.sub hsub5) (s5.sub hsub5)
   exact .ext (e12.trans hext) (.ext e5 (.ext (Ew.sub hsub5) (.steps (.head henter (Steps.trans hcomes (.head hfin (.one (stepR_endRangeFunc hend))))) (hrun B mu' _ _ cs p5))))
 | panicked chain=>
  cases res with
  | ret v=>exact hE.elim
  | panic v=>
   have hfin:=step_leave_panicked hleave (c:=(b0 f d).atR { a with defers:=[{ target:=.collected w.heap.size,args := #[] }]++a.defers } (.inRangeFunc (w.heap.size+1)::k)) (cs:=cs)
   obtain⟨x',hx',x1,x2,x3⟩:=hE.panic_inv
   cases hx'
   rw [Frame.raise_atR] at hfin
   have p5:=p4.ext (Ew.sub hsubL) (hs'.sub hsubL)
   have hu5:O8 (upd h' oL none) mu' w' (.pan v false) (.panicking [x']):=⟨x1,x2,x3.ext (Ew.sub hsubL)⟩
   exact .ext (e12.trans hext) (.ext (Ew.sub hsubL) (.steps (.head henter (Steps.trans hcomes (.one hfin))) (hQ B mu' w' _ cs _ _ p5 hu5)))
end
end Go.Am
namespace Go.Am
open Go
set_option linter.unusedSimpArgs false
set_option linter.unusedVariables false
set_option linter.unusedSectionVars false
def Zq {σ:Type}(St:σ→Ah→Prop)(m:R σ):AR→Ah→Prop:=fun r h'=>match m with
 | .ok s=>(∃ v,r=.ret v)∧St s h'
 | .pan v=>r=.panic v.av ∧ ∃ s,St s h'
 | .bad=>False
def Ag4 {σ:Type}(St:σ→Ah→Prop):Spec σ:=⟨fun m=>m≠.bad,fun h=>h rfl,fun m r h' _=>Zq St m r h'⟩
section
variable {P:Program} [GW P] {f:FuncId} {n:Nat} {d:FK} {σ β γ:Type} {Q:Spec β} {ds:List AD} {h:Ah} {u:AU} {k:List Item} {l:List (Nat×AV)} {St:σ→Ah→Prop} {m:R σ}
theorem Aeu {fn : Func} {c : Code} {args : List AV} (hf : P.funcs[f]? = some fn) (hb : fn.body = some c) (hn : fn.name ≠ "runtime.NumGoroutine") (hnt : fn.ntmps = n) (hl : Nat.ble args.length n = true)
  (hr : WR P f n false (Ag4 St) m [.code c] (A0 (Vi 0 args)) [] h .ret) (hm : m ≠ .bad) : Bx P f args h (Zq St m) := by
 refine Qk hf hb hn hnt (by simpa using hl) ?_
 refine Qm (fun t => ?_) (hr hm)
 rcases Q0 args 0 t with h | ⟨_, h⟩
 ·exact .inl h
 ·exact .inr h
theorem Akt {fn:Func}{s:σ}{vs:List AV}{fr:Nat→AV}(hf:P.funcs[f]? = some fn)(hr:Hz P h fr fn.results.toList=some vs)(hs:St s h):WR P f n false (Ag4 St) (.ok s) (.code .ret::k) fr [] h u:=fun _=>
 T0 (Ab2 hf hr ⟨⟨_,rfl⟩,hs⟩)
theorem Aft {fn:Func}{s:σ}{vs:List AV}{fr:Nat→AV}(hf:P.funcs[f]? = some fn)(hr:Hz P h fr fn.results.toList=some vs)(hs:St s h):WR P f n false (Ag4 St) (.ok s) [] fr [] h u:=fun _=>
 Yr (Ab2 hf hr ⟨⟨_,rfl⟩,hs⟩)
def YOk (P:Program)[GW P](y:YF)(o g:Nat)(A:List AV)(St:σ→Ah→Prop)(b:σ→R σ):Prop:=
 ∀ s h,St s h → ∀ s',b s=.ok s'→Vx P y o g A h (fun v h'=>v=.bool true∧St s' h') (fun _ _=>False)
section
variable {all r:List Oper} {ty:TypeId} {pos:String} {after:Array Edge} {F:γ→R β}
theorem Ajr {t:Nat}{x:Operand}{as0:List Operand}{ts:Array TypeId}{y:YF}{o g:Nat}{A:List AV}{b:σ→R σ}{s:σ}{rest:σ→R γ}(ht:Nat.blt t n=true)(hx:ev (A0 l) x=.yld y o g)(ha:Gz (A0 l) as0=A)(hs:St s h)
  (hy:YOk P y o g A St b) (hnp : ∀ v,b s≠.pan v) (hk : ∀ s',b s=.ok s' → ∀ h',St s' h'→WO P f n d Q k all ((rest s').bind F) r (A0 ((t,.bool true)::l)) ds h' u) :
  WO P f n d Q k all (((b s).bind rest).bind F) (⟨some t,.call ⟨.value x,⟨as0⟩,ts⟩,ty,pos,after,none⟩::r) (A0 l) ds h u:=by
 refine Aba (R.bind_assoc _ _ _) (Nb (by simpa [F1] using ht) rfl fun hb K U hK hU=>?_)
 simp only [Ik,hx]
 rw [ha]
 cases hm:b s with
 | bad=>rw [hm] at hb; exact absurd hb Q.bad
 | pan v=>exact absurd hm (hnp v)
 | ok s'=>
  have hk':=hk s' hm
  rw [hm] at hK
  refine Sg (fun v h' hv=>?_) (fun _ _ hf=>hf.elim) (hy s h hs s' hm)
  obtain⟨rfl,hs'⟩:=hv
  exact hK _ _ _ _ (by rw [E1]; exact hk' h' hs')
end
def Aeb {σ:Type}(o g:Nat)(r:Loop)(St:σ→Ah→Prop):Spec σ:=⟨fun m => ∃ s:σ,m=.ok s,(fun h=>by obtain⟨s,h⟩:=h; cases h),fun m a h' _ => ∃ s:σ,m=.ok s∧a=.ret (.tup [])∧h' o=some (.blk g (.loop { r with state:=.busy }))∧St s (upd h' o (some (.blk g (.loop r))))⟩
theorem Akz {lo:Nat×Nat×Nat}{o g:Nat}{r:Loop}{s:σ}{fr:Nat→AV}(ho:h o=some (.blk g (.loop { r with state:=.busy })))(hs:St s (upd h o (some (.blk g (.loop r))))) :
  WR P f n ⟨false,some lo⟩ (Aeb o g r St) (.ok s) [] fr [] h u:=by
 intro hV B mu w a cs p
 have hd:a.defers=[]:=p.ds
 refine⟨.returned undef,w,cs,_,.ret (.tup []),h,mu,u,⟨s,rfl,rfl,ho,hs⟩,Steps.refl P _,rfl,rfl,?_,.und,p.sim,(Ext.refl _ _ _).g,.refl p.cs⟩
 exact⟨rfl,rfl,hd,.inl ⟨rfl,rfl⟩⟩
theorem Ahk {y:YF}{o g:Nat}{r:Loop}{params:Array Tmp}{assign body:Code}{A:List AV}{b:σ→R σ}(hlp:LpOk f n params assign body r)(hps:params.toList.all (fun p=>Nat.blt p n)=true)(hla:A.length=params.size)
  (hy : ∀ {mu:Mu} {w:World} {M:Nat→Prop} {lo:Nat},y.F w mu M lo → ∀ t,Rv w mu M (A0 l t) (r.tmps.getD t undef)) (hat : ∀ s h,St s h→h o=some (.blk g (.loop r)))
  (hr : ∀ (lo:Nat) (s:σ) (h:Ah),St s h→WR P f n ⟨false,some (lo,o,g)⟩ (Aeb o g r St) (b s) [.code assign,.beginRound,.code body] (Tx (A0 l) params.toList A) [] h .ret):YOk P y o g A St b:=by
 intro s h hs s' hb
 obtain⟨h1,h2,h3,h4,rfl,rfl,rfl⟩:=hlp
 refine Zo (f:=f) (n:=n) (fr:=A0 l) (hat s h hs) h1 h2 h3 h4 (fun p hp=>by have:=List.all_eq_true.1 hps p hp; simpa using this) (fun hF t=>hy hF t) hla fun lo=>?_
 refine Aeq (hr lo s h hs ⟨s',hb⟩) fun a h' u' hq=>?_
 obtain⟨s2,e,rfl,hb1,hs2⟩:=hq
 rw [hb] at e; cases e
 exact⟨hb1,.inl ⟨rfl,rfl,hs2⟩⟩
theorem Xq : ∀ (ps:List Nat) (A:List AV) (l:List (Nat×AV)),Tx (A0 l) ps A=A0 ((ps.zip A).reverse++l)
 | [],_,l=>rfl
 | p::ps,[],l=>rfl
 | p::ps,v::A,l=>by
  rw [Tx]
  have:upd (A0 l) p v=A0 ((p,v)::l):=E1 l p v
  rw [this,Xq ps A]
  simp
section
variable {h0:Ah} {ids:List Nat} {xs:List (Option AO)} {N:Nat} {F:γ→R β}
theorem Amb {lo:Nat×Nat×Nat}{o g:Nat}{r:Loop}{m:R σ}{todo:List Item}{fr:Nat→AV}(hr:WR P f n ⟨false,some lo⟩ (Aeb o g r St) m todo fr ds h u):WR P f n ⟨false,some lo⟩ (Aeb o g r St) m.np todo fr ds h u:=by
 intro hV
 cases m with
 | ok s=>exact hr hV
 | pan v=>obtain⟨s,h⟩:=hV; cases h
 | bad=>obtain⟨s,h⟩:=hV; cases h
theorem Ahx {Q:Spec β}{m:R β}{todo:List Item}{fr:Nat→AV}(l':List (Nat×AV))(e:fr=A0 l')(hr:WR P f n d Q m todo (A0 l') ds h u):WR P f n d Q m todo fr ds h u:=e ▸ hr
theorem V0 {Q:Spec β}{m:R β}{lr jL g:Nat}{r:Loop}{fr:Nat→AV}(hI:Ids h0 ids N)(hl:xs.length=N)(hj:Nat.blt jL N=true)(hx:xs[jL]? = some (some (.blk g (.loop r))))(hs:r.state=.ready)
  (hr:WR P f n ⟨false,some (lr,ix ids jL,g)⟩ Q m k fr ds (hp h0 ids (xs.set jL (some (.blk g (.loop { r with state:=.busy }))))) u):WR P f n ⟨false,some (lr,ix ids jL,g)⟩ Q m (.beginRound::k) fr ds (hp h0 ids xs) u:=fun hb=>
 Abr rfl (hI.at hl hx) hs (by rw [hI.set hl hj]; exact hr hb)
theorem Ajo {lo:Nat×Nat×Nat}{jL g:Nat}{r:Loop}{s:σ}{fr:Nat→AV}(hI:Ids h0 ids N)(hl:xs.length=N)(hj:Nat.blt jL N=true)(hx:xs[jL]? = some (some (.blk g (.loop { r with state:=.busy }))))(hs:St s (hp h0 ids (xs.set jL (some (.blk g (.loop r)))))) :
  WR P f n ⟨false,some lo⟩ (Aeb (ix ids jL) g r St) (.ok s) [] fr [] (hp h0 ids xs) u:=Akz (hI.at hl hx) (by rw [hI.set hl hj]; exact hs)
theorem Ae0 {Q:Spec β}{m:R β}{todo:List Item}{fr:Nat→AV}{j:Nat}{y:Option AO}(ys:List (Option AO))(hI:Ids h0 ids N)(hl:xs.length=N)(hj:Nat.blt j N=true)(e:xs.set j y=ys)(hr:WR P f n d Q m todo fr ds (hp h0 ids ys) u):WR P f n d Q m todo fr ds (upd (hp h0 ids xs) (ix ids j) y) u:=by
 rw [hI.set hl hj,e]; exact hr
theorem Adk {Q:Spec β}{m:R β}{a:AU}{fr:Nat→AV}{j:Nat}{y:Option AO}(ys:List (Option AO))(hI:Ids h0 ids N)(hl:xs.length=N)(hj:Nat.blt j N=true)(e:xs.set j y=ys)(hr:WU P f n d Q m a fr ds (hp h0 ids ys) u):WU P f n d Q m a fr ds (upd (hp h0 ids xs) (ix ids j) y) u:=by
 rw [hI.set hl hj,e]; exact hr
end
theorem Aed {x:Operand}{params:Array Tmp}{assign body:Code}{gf:FuncId}{cap:List AV}{m:R σ}{rest:σ→R β}{h0:Ah}{ids:List Nat}{xs:List (Option AO)}{N:Nat}(jL:Nat)(St:Nat→Loop→σ→Ah→Prop)
  (hro:d.ro=none) (hx:ev (A0 l) x=.func (.func gf) [] cap) (hI:Ids h0 ids N) (hl:xs.length=N) (hjL:Nat.blt jL N=true) (hxL:xs[jL]? = some none)
  (hgo : ∀ (gL:Nat) (y:YF) (r:Loop),LpOk f n params assign body r→(∀ {mu:Mu} {w:World} {M:Nat→Prop} {lo:Nat},y.F w mu M lo → ∀ t,Rv w mu M (A0 l t) (r.tmps.getD t undef)) →
   (m≠.bad→Bx P gf ([.yld y (ix ids jL) gL]++cap) (hp h0 ids (xs.set jL (some (.blk gL (.loop r))))) (Zq (St gL r) m)) ∧
   (∀ s h',St gL r s h'→h' (ix ids jL)=some (.blk gL (.loop r))) ∧
   (∀ s,m=.ok s → ∀ h',St gL r s h'→WR P f n d Q (rest s) k (A0 l) (AD.star::ds) (upd h' (ix ids jL) none) u) ∧
   (∀ v,m=.pan v → ∀ s h',St gL r s h'→WU P f n d Q (.pan v) (.pan v.av false) (A0 l) (AD.star::ds) (upd h' (ix ids jL) none) u)) :
  WR P f n d Q (m.bind rest) (.code (.rangeFunc x params assign body)::k) (A0 l) (AD.star::ds) (hp h0 ids xs) u:=by
 intro hV
 refine Xg (ix ids jL) hro hx (hI.at hl hxL) fun gL y r hlp hyF=>?_
 obtain⟨c1,c2,c3,c4⟩:=hgo gL y r hlp hyF
 rw [hI.set hl hjL]
 have hmb:m≠.bad:=fun e=>by rw [e] at hV; exact Q.bad hV
 refine(c1 hmb).mono fun res h' hq=>?_
 cases hm:m with
 | bad=>exact absurd hm hmb
 | ok s=>
  rw [hm] at hq
  obtain⟨⟨v,rfl⟩,hs⟩:=hq
  refine⟨r,c2 s h' hs,by rw [hlp.ready]; exact fun e=>(by cases e),?_⟩
  rw [hlp.pend]
  refine c3 s hm h' hs ?_
  rw [hm] at hV; exact hV
 | pan v=>
  rw [hm] at hq
  obtain⟨rfl,s,hs⟩:=hq
  refine c4 v hm s h' hs ?_
  rw [hm] at hV; exact hV
theorem Ad4 {x:Operand}{params:Array Tmp}{assign body:Code}{gf:FuncId}{cap:List AV}{m:R σ}{rest:σ→R γ}{F:γ→R β}{h0:Ah}{ids:List Nat}{xs:List (Option AO)}{N:Nat}(jL:Nat)(St:Nat→Loop→σ→Ah→Prop)
  (hro:d.ro=none) (hx:ev (A0 l) x=.func (.func gf) [] cap) (hI:Ids h0 ids N) (hl:xs.length=N) (hjL:Nat.blt jL N=true) (hxL:xs[jL]? = some none)
  (hgo : ∀ (gL:Nat) (y:YF) (r:Loop),LpOk f n params assign body r→(∀ {mu:Mu} {w:World} {M:Nat→Prop} {lo:Nat},y.F w mu M lo → ∀ t,Rv w mu M (A0 l t) (r.tmps.getD t undef)) →
   (m≠.bad→Bx P gf ([.yld y (ix ids jL) gL]++cap) (hp h0 ids (xs.set jL (some (.blk gL (.loop r))))) (Zq (St gL r) m)) ∧
   (∀ s h',St gL r s h'→h' (ix ids jL)=some (.blk gL (.loop r))) ∧
   (∀ s,m=.ok s → ∀ h',St gL r s h'→WR P f n d Q ((rest s).bind F) k (A0 l) (AD.star::ds) (upd h' (ix ids jL) none) u) ∧
   (∀ v,m=.pan v → ∀ s h',St gL r s h'→WU P f n d Q (.pan v) (.pan v.av false) (A0 l) (AD.star::ds) (upd h' (ix ids jL) none) u)) :
  WR P f n d Q ((m.bind rest).bind F) (.code (.rangeFunc x params assign body)::k) (A0 l) (AD.star::ds) (hp h0 ids xs) u:=by
 rw [R.bind_assoc]
 exact Aed jL St hro hx hI hl hjL hxL hgo
theorem Se {m:R β}{a:AU}{fr:Nat→AV}(hr:WU P f n d Q m a fr ds h u)(hds:ds.all (fun d => !d.isStar)=true:=by rfl):WU P f n d Q m a fr (AD.star::ds) h u:=fun hV=>Aj2 (hr hV) hds
theorem Af8 {m:R β}{fr:Nat→AV}(hr:WR P f n d Q m k fr (AD.star::ds) h u):WR P f n d Q m k fr ds h u:=fun hV=>Ai3 (hr hV)
theorem Ab4 {m:R β}{fr:Nat→AV}(hr:WU P f n d Q m .ret fr ds h u)(hro:d.ro=none:=by rfl):WR P f n d Q m (.code .ret::k) fr ds h u:=fun hV=>T0 (hr hV) hro
end
section
variable {P:Program} [GW P] {f:FuncId} {n:Nat} {α:Type} {u:AU} {l:List (Nat×AV)} {h0:Ah} {ids:List Nat} {xs:List (Option AO)} {N K:Nat} {e:α→AV}
theorem Ahg {fn:Func}{a:α}{vs:List AV}(hf:P.funcs[f]? = some fn)(hI:Ids h0 ids N)(hr:Hz P (hp h0 ids xs) (A0 l) fn.results.toList=some vs)(hz:Fz (hp h0 ids xs) h0 (Jy vs) (e a)) :
  WU P f n false (Aex e h0) (.ok a) .ret (A0 l) [] (hp h0 ids xs) u:=fun _=>R8 hf hr (hI.sub xs) hz rfl ⟨rfl,rfl⟩
theorem Akp {S:α→AV→Ah→Prop}{fn:Func}{a:α}{vs:List AV}{v:AV}(ys:List (Option AO))(hf:P.funcs[f]? = some fn)(hI:Ids h0 ids (K+N))(hl:xs.length=K+N)(hr:Hz P (hp h0 ids xs) (A0 l) fn.results.toList=some vs)
  (hy:ys.length=K) (hx:HL (hp h0 ids xs) (hp h0 ids (ys++List.replicate N none)) xs (ys++List.replicate N none)) (hz:Fz (hp h0 ids xs) (hp h0 ids (ys++List.replicate N none)) (Jy vs) v) (hS:S a v (hp h0 (tkf ids K 0) ys)) :
  WU P f n false (Aaz S h0) (.ok a) .ret (A0 l) [] (hp h0 ids xs) u:=fun _=>by
 refine Z1 hf hr (hx.hfz hI hl) hz rfl ⟨v,rfl,?_⟩
 rw [Abl hI hy]; exact hS
end
section
variable {P:Program} [GW P] {f:FuncId} {n:Nat} {d:FK} {σ ε β γ:Type} {Q:Spec β} {ds:List AD} {h:Ah} {u:AU} {k:List Item} {l:List (Nat×AV)} {St:σ ⊕ ε→Ah→Prop}
def Aiy (P:Program)[GW P](y:YF)(o g:Nat)(A:List AV)(St:σ ⊕ ε→Ah→Prop)(b:σ→R (σ ⊕ ε)):Prop:=
 ∀ s h,St (.inl s) h → ∀ x,b s=.ok x→Vx P y o g A h (fun v h'=>v=.bool x.isLeft∧St x h') (fun _ _=>False)
section
variable {all r:List Oper} {ty:TypeId} {pos:String} {after:Array Edge} {F:γ→R β}
theorem Ahl {i:Nat}{pre:List (List Nat)}{plan:Gp}{pend:O3}{t:Nat}{x:Operand}{as0:List Operand}{ts:Array TypeId}{y:YF}{o g:Nat}{A:List AV}{b:σ→R (σ ⊕ ε)}{s:σ}{r1:σ→R γ}{r2:ε→R γ}(ho:all[i]? = some ⟨some t,.call ⟨.value x,⟨as0⟩,ts⟩,ty,pos,after,none⟩)(ht:Nat.blt t n=true)(hx:ev (A0 l) x=.yld y o g)(ha:Gz (A0 l) as0=A)(hs:St (.inl s) h)
  (hy:Aiy P y o g A St b) (hnp : ∀ v,b s≠.pan v) (hpd : ∀ h',G3 P all pre i h' pend) (hk1 : ∀ s',b s=.ok (.inl s') → ∀ h',St (.inl s') h'→WP P f n d Q k all pre ((r1 s').bind F) plan pend (A0 ((t,.bool true)::l)) ds h' u)
  (hk2 : ∀ e,b s=.ok (.inr e) → ∀ h',St (.inr e) h'→WP P f n d Q k all pre ((r2 e).bind F) plan pend (A0 ((t,.bool false)::l)) ds h' u) :
  WP P f n d Q k all pre (((b s).bind (Ga r1 r2)).bind F) ((true,i)::plan) pend (A0 l) ds h u:=by
 refine Abf (R.bind_assoc _ _ _) (V6 ho (by simpa [F1] using ht) rfl fun hb K U hK hU=>?_)
 simp only [Ik,hx]
 rw [ha]
 cases hm:b s with
 | bad=>rw [hm] at hb; exact absurd hb Q.bad
 | pan v=>exact absurd hm (hnp v)
 | ok z=>
  rw [hm] at hK
  refine Sg (fun v h' hv=>?_) (fun _ _ hf=>hf.elim) (hy s h hs z hm)
  obtain⟨rfl,hs'⟩:=hv
  cases z with
  | inl s'=>exact hK _ _ _ _ (hpd h') (by rw [E1]; exact hk1 s' hm h' hs')
  | inr e=>exact hK _ _ _ _ (hpd h') (by rw [E1]; exact hk2 e hm h' hs')
end
def Wt {σ ε:Type}(o g:Nat)(r:Loop)(St:σ ⊕ ε→Ah→Prop)(jm:ε→Code):Spec (σ ⊕ ε):=⟨fun m => ∃ s,m=.ok s,(fun h=>by obtain⟨s,h⟩:=h; cases h),fun m a h' _ => ∃ s,m=.ok s∧h' o=some (.blk g (.loop { r with state:=.busy })) ∧
 match s with
 | .inl _=>a=.ret (.tup [])∧St s (upd h' o (some (.blk g (.loop r))))
 | .inr e=>a=.ret (jav (jm e))∧jav (jm e)≠.tup []∧St s (upd h' o (some (.blk g (.loop { r with state:=.done,pending:=some (jm e) }))))⟩
section
variable {lo:Nat×Nat×Nat} {o g:Nat} {r:Loop} {jm:ε→Code} {fr:Nat→AV}
theorem Aix {s:σ}(ho:h o=some (.blk g (.loop { r with state:=.busy })))(hs:St (.inl s) (upd h o (some (.blk g (.loop r))))) :
  WR P f n ⟨false,some lo⟩ (Wt o g r St jm) (.ok (.inl s)) [] fr [] h u:=by
 intro hV B mu w a cs p
 have hd:a.defers=[]:=p.ds
 refine⟨.returned undef,w,cs,_,.ret (.tup []),h,mu,u,⟨_,rfl,ho,rfl,hs⟩,Steps.refl P _,rfl,rfl,?_,.und,p.sim,(Ext.refl _ _ _).g,.refl p.cs⟩
 exact⟨rfl,rfl,hd,.inl ⟨rfl,rfl⟩⟩
theorem Ajd {e:ε}(hj:jm e=.ret)(ho:h o=some (.blk g (.loop { r with state:=.busy })))(hs:St (.inr e) (upd h o (some (.blk g (.loop { r with state:=.done,pending:=some .ret }))))) :
  WR P f n ⟨false,some lo⟩ (Wt o g r St jm) (.ok (.inr e)) (.code .ret::k) fr [] h u:=by
 intro hV B mu w a cs p
 have hd:a.defers=[]:=p.ds
 refine⟨.returned (.bool true),w,cs,_,.ret (.bool true),h,mu,u,⟨_,rfl,ho,by rw [hj]; rfl,by rw [hj]; simp [jav],by rw [hj]; exact hs⟩,Steps.refl P _,rfl,rfl,?_,.bool true,p.sim,(Ext.refl _ _ _).g,.refl p.cs⟩
 exact⟨rfl,rfl,hd,.inr ⟨.ret,k,rfl,rfl,rfl⟩⟩
theorem Alh {m:R (σ ⊕ ε)}{todo:List Item}(hr:WR P f n ⟨false,some lo⟩ (Wt o g r St jm) m todo fr ds h u):WR P f n ⟨false,some lo⟩ (Wt o g r St jm) m.np todo fr ds h u:=by
 intro hV
 cases m with
 | ok s=>exact hr hV
 | pan v=>obtain⟨s,h⟩:=hV; cases h
 | bad=>obtain⟨s,h⟩:=hV; cases h
end
theorem Agg {y:YF}{o g:Nat}{r:Loop}{jm:ε→Code}{params:Array Tmp}{assign body:Code}{A:List AV}{b:σ→R (σ ⊕ ε)}(hlp:LpOk f n params assign body r)(hps:params.toList.all (fun p=>Nat.blt p n)=true)(hla:A.length=params.size)
  (hy : ∀ {mu:Mu} {w:World} {M:Nat→Prop} {lo:Nat},y.F w mu M lo → ∀ t,Rv w mu M (A0 l t) (r.tmps.getD t undef)) (hat : ∀ s h,St (.inl s) h→h o=some (.blk g (.loop r)))
  (hr : ∀ (lo:Nat) (s:σ) (h:Ah),St (.inl s) h→WR P f n ⟨false,some (lo,o,g)⟩ (Wt o g r St jm) (b s) [.code assign,.beginRound,.code body] (Tx (A0 l) params.toList A) [] h .ret):Aiy P y o g A St b:=by
 intro s h hs x hb
 obtain⟨h1,h2,h3,h4,rfl,rfl,rfl⟩:=hlp
 refine Zo (f:=f) (n:=n) (fr:=A0 l) (hat s h hs) h1 h2 h3 h4 (fun p hp=>by have:=List.all_eq_true.1 hps p hp; simpa using this) (fun hF t=>hy hF t) hla fun lo=>?_
 refine Aeq (hr lo s h hs ⟨x,hb⟩) fun a h' u' hq=>?_
 obtain⟨s2,e,hb1,hs2⟩:=hq
 rw [hb] at e; cases e
 cases x with
 | inl s'=>obtain⟨rfl,hs2⟩:=hs2; exact⟨hb1,.inl ⟨rfl,rfl,hs2⟩⟩
 | inr e=>obtain⟨rfl,hne,hs2⟩:=hs2; exact⟨hb1,.inr ⟨_,rfl,hne,rfl,hs2⟩⟩
section
variable {h0:Ah} {ids:List Nat} {xs:List (Option AO)} {N:Nat} {lo:Nat×Nat×Nat} {jL g:Nat} {r:Loop} {jm:ε→Code} {fr:Nat→AV}
theorem Ait {s:σ}(hI:Ids h0 ids N)(hl:xs.length=N)(hj:Nat.blt jL N=true)(hx:xs[jL]? = some (some (.blk g (.loop { r with state:=.busy }))))(hs:St (.inl s) (hp h0 ids (xs.set jL (some (.blk g (.loop r)))))) :
  WR P f n ⟨false,some lo⟩ (Wt (ix ids jL) g r St jm) (.ok (.inl s)) [] fr [] (hp h0 ids xs) u:=Aix (hI.at hl hx) (by rw [hI.set hl hj]; exact hs)
theorem Aht {e:ε}(hjm:jm e=.ret)(hI:Ids h0 ids N)(hl:xs.length=N)(hj:Nat.blt jL N=true)(hx:xs[jL]? = some (some (.blk g (.loop { r with state:=.busy }))))(hs:St (.inr e) (hp h0 ids (xs.set jL (some (.blk g (.loop { r with state:=.done,pending:=some .ret })))))) :
  WR P f n ⟨false,some lo⟩ (Wt (ix ids jL) g r St jm) (.ok (.inr e)) (.code .ret::k) fr [] (hp h0 ids xs) u:=Ajd hjm (hI.at hl hx) (by rw [hI.set hl hj]; exact hs)
end
theorem Acy {x:Operand}{params:Array Tmp}{assign body:Code}{gf:FuncId}{cap:List AV}{m:R (σ ⊕ ε)}{r1:σ→R γ}{r2:ε→R γ}{F:γ→R β}{h0:Ah}{ids:List Nat}{xs:List (Option AO)}{N:Nat}(jL:Nat)(jm:ε→Code)(St:Nat→Loop→σ ⊕ ε→Ah→Prop)
  (hro:d.ro=none) (hx:ev (A0 l) x=.func (.func gf) [] cap) (hI:Ids h0 ids N) (hl:xs.length=N) (hjL:Nat.blt jL N=true) (hxL:xs[jL]? = some none)
  (hgo : ∀ (gL:Nat) (y:YF) (r:Loop),LpOk f n params assign body r→(∀ {mu:Mu} {w:World} {M:Nat→Prop} {lo:Nat},y.F w mu M lo → ∀ t,Rv w mu M (A0 l t) (r.tmps.getD t undef)) →
   (m≠.bad→Bx P gf ([.yld y (ix ids jL) gL]++cap) (hp h0 ids (xs.set jL (some (.blk gL (.loop r))))) (Zq (St gL r) m)) ∧
   (∀ s h',St gL r (.inl s) h'→h' (ix ids jL)=some (.blk gL (.loop r))) ∧
   (∀ e h',St gL r (.inr e) h'→h' (ix ids jL)=some (.blk gL (.loop { r with state:=.done,pending:=some (jm e) }))) ∧
   (∀ s h',St gL r (.inl s) h'→WR P f n d Q ((r1 s).bind F) k (A0 l) (AD.star::ds) (upd h' (ix ids jL) none) u) ∧
   (∀ e h',St gL r (.inr e) h'→WR P f n d Q ((r2 e).bind F) (.code (jm e)::k) (A0 l) (AD.star::ds) (upd h' (ix ids jL) none) u) ∧
   (∀ v,m=.pan v → ∀ s h',St gL r s h'→WU P f n d Q (.pan v) (.pan v.av false) (A0 l) (AD.star::ds) (upd h' (ix ids jL) none) u)) :
  WR P f n d Q ((m.bind (Ga r1 r2)).bind F) (.code (.rangeFunc x params assign body)::k) (A0 l) (AD.star::ds) (hp h0 ids xs) u:=by
 rw [R.bind_assoc]
 intro hV
 refine Xg (ix ids jL) hro hx (hI.at hl hxL) fun gL y r hlp hyF=>?_
 obtain⟨c1,c2,c2',c3,c3',c4⟩:=hgo gL y r hlp hyF
 rw [hI.set hl hjL]
 have hmb:m≠.bad:=fun e=>by rw [e] at hV; exact Q.bad hV
 refine(c1 hmb).mono fun res h' hq=>?_
 cases hm:m with
 | bad=>exact absurd hm hmb
 | ok s=>
  rw [hm] at hq
  obtain⟨⟨v,rfl⟩,hs⟩:=hq
  rw [hm] at hV
  cases s with
  | inl s=>
   refine⟨r,c2 s h' hs,by rw [hlp.ready]; exact fun e=>(by cases e),?_⟩
   rw [hlp.pend]
   exact c3 s h' hs hV
  | inr e=>
   refine⟨_,c2' e h' hs,fun hh=>(by cases hh),?_⟩
   exact c3' e h' hs hV
 | pan v=>
  rw [hm] at hq
  obtain⟨rfl,s,hs⟩:=hq
  refine c4 v hm s h' hs ?_
  rw [hm] at hV; exact hV
end
end Go.Am
namespace Go.Am
@[reducible] def un9 {α β γ δ ε ζ η θ ι ω:Type}(f:α→β→γ→δ→ε→ζ→η→θ→ι→ω):α×β×γ×δ×ε×ζ×η×θ×ι→ω | (x0,x1,x2,x3,x4,x5,x6,x7,x8)=>f x0 x1 x2 x3 x4 x5 x6 x7 x8
@[simp] theorem Am8 {α β γ δ ε ζ η θ ι ω:Type}(f:α→β→γ→δ→ε→ζ→η→θ→ι→ω)(x0:α)(x1:β)(x2:γ)(x3:δ)(x4:ε)(x5:ζ)(x6:η)(x7:θ)(x8:ι):un9 f (x0,x1,x2,x3,x4,x5,x6,x7,x8)=f x0 x1 x2 x3 x4 x5 x6 x7 x8:=rfl
end Go.Am
namespace Go.Am
open Go
set_option linter.unusedSimpArgs false
set_option linter.unusedVariables false
set_option linter.unusedSectionVars false
theorem Abt {P:Program}[GW P]{t:TypeId}{k k':IntKind}{a b c:Int}(hb:decide (0≤b)=true)(hc:2 ^ (min b.toNat k.bits)=c):Ji P .shr t (.int k a) (.int k' b)=some (.int k (a.fdiv c)):=by
 have hb':0≤b:=by simpa using hb
 simp only [Ji,if_pos hb',hc]
def D2 (l:List Int):List Int:=l.mergeSort fun x y=>decide (x≤y)
def Rj (l:List Int):R Unit:=if l.length≤B5 then .ok () else .bad
theorem Nx (l:List Int):(D2 l).length=l.length:=List.length_mergeSort _
theorem Bc.sort {v:AV}{o g:Nat}{L:List Int}(h:Bc v o g L.length):Bc v o g (D2 L).length:=by rw [Nx]; exact h
section
variable {P:Program} [GW P] {B:Base P} {h:Ah} {mu:Mu} {w:World}
theorem Ag3 (s:Sim B mu h w){o g:Nat}{L:List Int}(hx:h o=some (.rows g 1 (L.map (rI .i64)))){l:Loc}(hl:mu o g=some l):Sort.Holds (Value.int .i64) w l.b l.base L.toArray∧l.b<w.heap.size:=by
 obtain⟨l',cells,e,f,k1,k2,k3,k4,k5,k6,k7,k8,k9⟩:=s.obj hx
 rw [hl] at k1; cases k1
 have hsz:l.base+L.length≤l.size:=by simpa using k4
 refine⟨fun j hj=>?_,(s.muOk _ _ _ hl).2.1⟩
 have hj':j<L.length:=by simpa using hj
 obtain⟨x,hx1,hx2⟩:=k9 j 0 (by simpa using hj') (by omega)
 have e3:cell (L.map (rI .i64)) j 0=.int .i64 (L[j]):=by simp [cell,rI,List.getD,List.getElem?_eq_getElem hj']
 rw [e3] at hx2
 have:=Alx hx2
 subst this
 constructor
 ·unfold World.cell?
  rw [k6]
  have:cells[l.base+j]? = some (.int .i64 L[j]):=by simpa using hx1
  simp [this,hj']
 ·unfold World.frozen?
  rw [k6]
  have:=k8 (l.base+j) (by omega)
  cases hq:(decide (f.1≤l.base+j)&&decide (l.base+j<f.2)) with
  | false=>exact hq
  | true=>
   simp only [Bool.and_eq_true,decide_eq_true_eq] at hq
   exact absurd hq this
theorem Aju (s:Sim B mu h w){o g:Nat}{L L2:List Int}(hx:h o=some (.rows g 1 (L.map (rI .i64)))){l:Loc}(hl:mu o g=some l){M:List Int}(hM:M.length=L.length)(h2 : ∀ i (hi:i<L2.length),M[i]? = some L2[i]){w':World}
  (hw : ∃ n os,w'=Sort.grow (Sort.putRow (Value.int .i64) (Sort.ahead w n) l.b l.base M.toArray) os) :
  Sim B mu (upd h o (some (.rows g 1 (L2.map (rI .i64))))) w'∧Ew h mu w (upd h o (some (.rows g 1 (L2.map (rI .i64))))) mu w':=by
 obtain⟨n,os,rfl⟩:=hw
 obtain⟨l',cells,e,f,k1,k2,k3,k4,k5,k6,k7,k8,k9⟩:=s.obj hx
 rw [hl] at k1; cases k1
 have hsz:l.base+L.length≤l.size:=by simpa using k4
 have hl2:L2.length≤M.length:=by
  rcases Nat.lt_or_ge M.length L2.length with hh | hh
  ·have:=h2 M.length hh
   rw [List.getElem?_eq_none (Nat.le_refl _)] at this; cases this
  ·exact hh
 have hb:l.b<w.heap.size:=(s.muOk _ _ _ hl).2.1
 have hput:=Sim.put (w':=Sort.putRow (Value.int .i64) (Sort.ahead w n) l.b l.base M.toArray) (rs':=L2.map (rI .i64)) (l':=l) (g':=g) (cells':=Sort.putCells (Value.int .i64) l.base M.toArray cells) (e:=e) (f:=f) s hx hl rfl rfl rfl
  (by simp [Sort.putRow,Sort.mapBlock,Sort.ahead])
  (fun b hbne=>by
   simp only [Sort.putRow,Sort.mapBlock,Sort.ahead,Array.getElem?_modify]
   rw [if_neg (fun hh=>hbne hh.symm)])
  (by
   simp only [Sort.putRow,Sort.mapBlock,Sort.ahead,Array.getElem?_modify,if_true,k6,Option.map_some]
   rfl)
  (by simp [Sort.putCells,k7]) k8 (.inl ⟨rfl,rfl⟩) rfl rfl k2
  (by rw [k3]; simp; omega)
  (by
   intro r hr
   rw [k3]
   obtain⟨x,_,rfl⟩:=List.mem_map.1 hr
   exact Il x)
  (by
   intro i j hi hj
   rw [k3] at hj
   have hj0:j=0:=by omega
   subst hj0
   have hi':i<L2.length:=by simpa using hi
   have e3:cell (L2.map (rI .i64)) i 0=.int .i64 (L2[i]):=by simp [cell,rI,List.getD,List.getElem?_eq_getElem hi']
   refine⟨.int .i64 L2[i],?_,by rw [e3]; exact .int _ _⟩
   have hM1:=h2 i hi'
   have hc:l.base+i<cells.size:=by rw [k7]; omega
   rw [k3]
   have e4:(M.toArray)[l.base+i * 1+0 - l.base]! = L2[i]:=by
    rw [show l.base+i * 1+0 - l.base=i by omega]
    simp [hM1]
   unfold Sort.putCells
   rw [Array.getElem?_mapIdx,Array.getElem?_eq_getElem (by omega)]
   simp only [Option.map_some]
   rw [if_pos ⟨by omega,by simp; omega⟩,e4])
 rw [k3] at hput
 have e1:Dx mu o g l=mu:=by
  funext o1 g1
  unfold Dx
  split
  ·rename_i hh; obtain⟨rfl,rfl⟩:=hh; exact hl.symm
  ·rfl
 rw [e1] at hput
 obtain⟨q1,q2⟩:=Below.ext (w':=Sort.grow (Sort.putRow (Value.int .i64) (Sort.ahead w n) l.b l.base M.toArray) os) hput.1 ⟨rfl,rfl,rfl,by simp,fun i hi=>Sort.heap_grow_old _ _ hi⟩
 exact⟨q1,hput.2.trans q2⟩
theorem Akk {v:AV}{o g n:Nat}(hv:Bc v o g n){c:Value}(hr:RV h mu w v c):(∃ a,v=.emp∧n=0∧c=.slice a 0 0) ∨ ∃ l cap,v=.ref o g 0 n∧mu o g=some l∧n≤B5∧n≤cap∧l.base+cap * l.st≤l.size∧c=.slice (some ⟨l.b,l.base,none⟩) n cap:=by
 rcases hv with⟨rfl,rfl⟩ | rfl
 ·cases hr with
  | emp a=>exact .inl ⟨a,rfl,rfl,rfl⟩
 ·cases hr with
  | ref _ _ _ _ cap l hl hc hcap hlim hsz=>
   refine .inr ⟨l,cap,rfl,hl,hlim,hcap,by simpa using hsz,by simp⟩
theorem Agq {sf:Nat}{L:List Int}{v:AV}{h0:Ah}{o g:Nat}(hI0:Ids h0 [o] 1)(hb:Sf P sf)(hv:Bc v o g L.length)
  (hs : ∀ (blk off cap:Nat) (zs:List Int) (w:World),Sort.Holds (Value.int .i64) w blk off zs.toArray→blk<w.heap.size→zs.length<4611686018427387904 →
   Calls P sf #[.slice (some ⟨blk,off,none⟩) zs.length cap] w fun e w'=>e=.returned (.tuple #[]) ∧ ∃ n os,w'=Sort.grow (Sort.putRow (Value.int .i64) (Sort.ahead w n) blk off (zs.mergeSort fun x y=>decide (x≤y)).toArray) os)
  (hn : ∀ (p:Option Addr) (cap:Nat) (w:World),Calls P sf #[.slice p 0 cap] w fun e w'=>e=.returned (.tuple #[])∧w'=w) :
  Rj L≠.bad→Bx P sf [v] (hp h0 [o] [A5 v g 1 (L.map (rI .i64))]) (El (fun _ v' h'=>v'=.tup []∧h'=hp h0 [o] [A5 v g 1 ((D2 L).map (rI .i64))]) h0 (Rj L)):=by
 intro hne
 unfold Rj at hne ⊢
 split at hne
 case isFalse=>exact absurd rfl hne
 rename_i hlim
 rw [if_pos hlim]
 refine⟨hb,fun B mu w cargs s ha=>?_⟩
 obtain⟨c,rfl,hc⟩:=Ak7 ha
 rcases Akk hv hc with⟨a,rfl,hn0,rfl⟩ | ⟨l,cap,rfl,hl,_,hcap,hsz,rfl⟩
 ·have hL:L=[]:=List.eq_nil_of_length_eq_zero hn0
  subst hL
  refine(hn a 0 w).mono ?_
  rintro e w' ⟨rfl,rfl⟩
  exact⟨.ret (.tup []),_,mu,⟨_,rfl,rfl,rfl⟩,s,Ext.refl _ _ _,.tup _ _ rfl fun i hi=>by simp at hi⟩
 ·have hx:hp h0 [o] [A5 (.ref o g 0 L.length) g 1 (L.map (rI .i64))] o=some (.rows g 1 (L.map (rI .i64))):=hI0.at (xs:=[_]) rfl (j:=0) rfl
  obtain⟨hH,hblk⟩:=Ag3 s hx hl
  refine(hs l.b l.base cap L w hH hblk (by simp only [B5] at hlim; omega)).mono ?_
  rintro e w' ⟨rfl,n,os,rfl⟩
  obtain⟨q1,q2⟩:=Aju s hx hl (L2:=D2 L) (M:=L.mergeSort fun x y=>decide (x≤y)) (List.length_mergeSort _) (fun i hi=>List.getElem?_eq_getElem hi) ⟨n,os,rfl⟩
  have e5:upd (hp h0 [o] [A5 (.ref o g 0 L.length) g 1 (L.map (rI .i64))]) o (some (.rows g 1 ((D2 L).map (rI .i64))))=hp h0 [o] [some (.rows g 1 ((D2 L).map (rI .i64)))]:=hI0.set rfl (j:=0) rfl
  rw [e5] at q1 q2
  exact⟨.ret (.tup []),_,mu,⟨_,rfl,rfl,rfl⟩,q1,q2,.tup _ _ rfl fun i hi=>by simp at hi⟩
def Vw (h:Ah)(mu:Mu)(w:World)(st:Nat)(rs:List (List AV))(cs:List Value):Prop:=cs.length=rs.length * st ∧ ∀ i j,i<rs.length→j<st→RV h mu w (cell rs i j) (cs.getD (i * st+j) undef)
theorem Ah6 {rs:List (List AV)}{n i j:Nat}(h:i<n):cell (rs.take n) i j=cell rs i j:=by
 unfold cell; simp [List.getD,List.getElem?_take,h]
theorem Ah9 {rs:List (List AV)}{n i j:Nat}:cell (rs.drop n) i j=cell rs (n+i) j:=by
 unfold cell; simp [List.getD,List.getElem?_drop]
theorem Vw.take {st n:Nat}{rs:List (List AV)}{cs:List Value}(h1:Vw h mu w st rs cs)(hn:n≤rs.length):Vw h mu w st (rs.take n) (cs.take (n * st)):=by
 have hm:n * st≤rs.length * st:=Nat.mul_le_mul_right _ hn
 refine⟨by rw [List.length_take,List.length_take,h1.1,Nat.min_eq_left hm,Nat.min_eq_left hn],fun i j hi hj=>?_⟩
 rw [List.length_take] at hi
 have:=Ou (st:=st) (show i<n by omega) hj
 rw [Ah6 (by omega)]
 have e:(cs.take (n * st)).getD (i * st+j) undef=cs.getD (i * st+j) undef:=by simp [List.getD,List.getElem?_take,this]
 rw [e]
 exact h1.2 i j (by omega) hj
theorem Vw.drop {st n:Nat}{rs:List (List AV)}{cs:List Value}(h1:Vw h mu w st rs cs)(hn:n≤rs.length):Vw h mu w st (rs.drop n) (cs.drop (n * st)):=by
 refine⟨by rw [List.length_drop,List.length_drop,h1.1,Nat.sub_mul],fun i j hi hj=>?_⟩
 rw [List.length_drop] at hi
 rw [Ah9]
 have e:(cs.drop (n * st)).getD (i * st+j) undef=cs.getD ((n+i) * st+j) undef:=by
  simp only [List.getD,List.getElem?_drop]
  rw [show n * st+(i * st+j)=(n+i) * st+j by rw [Nat.add_mul]; omega]
 rw [e]
 exact h1.2 (n+i) j (by omega) hj
end
end Go.Am
namespace Go.Am
open Go
set_option linter.unusedVariables false
set_option linter.unusedSectionVars false
def Mx (k:IntKind)(a b:Int):Int:=k.wrap (BitVec.ofInt k.bits a &&& BitVec.ofInt k.bits b).toNat
def Sn (k:IntKind)(a b:Int):Int:=k.wrap (BitVec.ofInt k.bits a ||| BitVec.ofInt k.bits b).toNat
def S2 (k:IntKind)(a b:Int):Int:=k.wrap (BitVec.ofInt k.bits a ^^^ BitVec.ofInt k.bits b).toNat
def Pm (k:IntKind)(a b:Int):Int:=k.wrap (a * 2 ^ (min b.toNat k.bits))
theorem Afv {P:Program}[GW P]{t:TypeId}{k:IntKind}{a b:Int}:Ji P .and t (.int k a) (.int k b)=some (.int k (Mx k a b)):=by simp [Ji,Mx]
theorem Ahh {P:Program}[GW P]{t:TypeId}{k:IntKind}{a b:Int}:Ji P .or t (.int k a) (.int k b)=some (.int k (Sn k a b)):=by simp [Ji,Sn]
theorem Afs {P:Program}[GW P]{t:TypeId}{k:IntKind}{a b:Int}:Ji P .xor t (.int k a) (.int k b)=some (.int k (S2 k a b)):=by simp [Ji,S2]
theorem Ae1 {P:Program}[GW P]{t:TypeId}{k k':IntKind}{a b:Int}(hb:0≤b):Ji P .shl t (.int k a) (.int k' b)=some (.int k (Pm k a b)):=by simp only [Ji,if_pos hb,Pm]
end Go.Am
namespace Go.Am
open Go
set_option linter.unusedVariables false
set_option linter.unusedSectionVars false
end Go.Am
namespace Go.Am
open Go
set_option linter.unusedVariables false
set_option linter.unusedSectionVars false
structure FMapAt (w:World)(m g:Nat)(es:List (Zl×AV)):Prop where
 ex : ∃ (b:Nat) (ens:Array MapEntry) (clock:Nat) (es2:List (Zl×AV)),w.cell? ⟨g,0,none⟩=some (.map (some b))∧b<m∧w.heap[b]? = some (.map ens clock)∧es2.Perm es∧es2.length=ens.size ∧
  ∀ i,i<es2.length→(ens.getD i default).key=.string ⟨(es2.getD i ([],.und)).1.toArray⟩ ∧ ∃ k,(es2.getD i ([],.und)).2=.func (.func k) [] []∧(ens.getD i default).val=.func (.func k) #[] #[]
 nd:(es.map (·.1)).Nodup
theorem FMapAt.keep {w w':World}{m g:Nat}{es:List (Zl×AV)}(k:FMapAt w m g es)(hg:g<m)(e : ∀ b,b<m→w'.heap[b]? = w.heap[b]?):FMapAt w' m g es:=by
 obtain⟨⟨b,ens,clock,es2,h1,h2,h3,h4,h5,h6⟩,hnd⟩:=k
 exact⟨⟨b,ens,clock,es2,by rw [cell?_of_heap (w:=w) (a:=⟨g,0,none⟩) (e g hg)]; exact h1,h2,by rw [e b h2]; exact h3,h4,h5,h6⟩,hnd⟩
theorem FMapAt.rv {w:World}{m g:Nat}{es:List (Zl×AV)}(k:FMapAt w m g es)(hm:m≤w.heap.size){mu:Mu}{M:Nat→Prop}(hM : ∀ b,M b→m≤b) : ∃ x,w.cell? ⟨g,0,none⟩=some x∧Rv w mu M (.mapc es) x:=by
 obtain⟨⟨b,ens,clock,es2,h1,h2,h3,h4,h5,h6⟩,hnd⟩:=k
 refine⟨_,h1,.mapc es es2 h4 hnd b ens clock h3 h5 (fun i hi=>(h6 i hi).1) (fun i hi=>?_) (fun hb=>by have:=hM b hb; omega) (by omega)⟩
 obtain⟨_,k,e1,e2⟩:=h6 i hi
 rw [e1,e2]
 exact .func _ [] [] [] [] rfl rfl (fun i hi=>by simp at hi) (fun i hi=>by simp at hi)
open Go.ChangeShapes Go.WideShapes Go.WideElems
end Go.Am
namespace Go.Am
open Go
set_option linter.unusedVariables false
set_option linter.unusedSectionVars false
set_option linter.unusedSimpArgs false
abbrev AV.q (ids:List Nat)(j g:Nat):AV:=.ptr (ix ids j) g 0 0
abbrev AV.I (n:Int):AV:=.int .i64 n
abbrev Sc.I (n:Int):Sc:=.int .i64 n
section
variable (P:Program) [GW P]
def Afn:Op→Bool
 | .move _=>true
 | .assign _=>true
 | .pick _ _ _=>true
 | .build _ _=>true
 | .nilCheck _=>true
 | .binOp _ _ _ _ _=>true
 | .unOp _ _ _=>true
 | .makeInterface _ _=>true
 | .makeFunc _ _ _=>true
 | .fieldAddr _ _ _=>true
 | .field _ _ _=>true
 | .typeAssert _ _ _ _=>true
 | .extract _ _=>true
 | _=>false
def Ajz (xs:List (Option AO))(fr:Nat→AV)(j:Nat)(op:Op):Option (AV×Option (Nat×Nat×Nat)):=
 match op with
 | .load t a=>match ev fr a with
  | .ptr o g r c=>match ti P t,xs[j]? with
   | some T,some (some (.rows g' st rs))=>match rs[r]? with
    | some row=>(Lz row c T.size T.k.agg).map fun v=>(v,some (o,g,g'))
    | none=>none
   | _,_=>none
  | .cp row c=>match ti P t with
   | some T=>(Lz row c T.size T.k.agg).map fun v=>(v,none)
   | none=>none
  | _=>none
 | op=>if Afn op then(D5 P fr hE op).map fun v=>(v,none) else none
def Oc (n:Nat)(all:List Oper)(xs:List (Option AO)):List Oper→List Nat→List (Nat×AV)→Option (List (Nat×AV)×List (Nat×Nat)×List (Nat×Nat))
 | [],_,l=>some (l,[],[])
 | o::ops,hs,l=>if F1 n o.dst then match Fl all (A0 l) o,o.dst with
   | some true,some t=>match Ajz P xs (A0 l) (hs.headD 0) o.op with
    | some (v,none)=>Oc n all xs ops hs ((t,v)::l)
    | some (v,some (ob,g,g'))=>(Oc n all xs ops hs.tail ((t,v)::l)).map fun r=>(r.1,(ob,g)::r.2.1,(hs.headD 0,g')::r.2.2)
    | none=>none
   | some false,some t=>Oc n all xs ops hs ((t,.und)::l)
   | some false,none=>Oc n all xs ops hs l
   | _,_=>none
  else none
def Agc (ops:List Oper)(ks:List Nat)(l:List (Nat×AV)):Bool:=ops.all fun o=>match o.dst with
 | none=>true
 | some t=>ks.contains t || !(l.any fun p=>Nat.beq t p.1)
end
section
variable {P:Program} [GW P] {f:FuncId} {n:Nat} {d:FK} {β γ:Type} {Q:Spec β} {m:R β} {ds:List AD} {h:Ah} {u:AU} {k:List Item} {l:List (Nat×AV)} {F:γ→R β}
variable {all:List Oper} {h0:Ah} {ids:List Nat} {xs:List (Option AO)} {N:Nat}
theorem Abj {fr:Nat→AV}{j:Nat}{op:Op}{v:AV}{q:Option (Nat×Nat×Nat)}(hI:Ids h0 ids N)(hl:xs.length=N)(hx:Ajz P xs fr j op=some (v,q))(hq : ∀ o g g',q=some (o,g,g')→o=ix ids j∧g=g'):D5 P fr (hp h0 ids xs) op=some v:=by
 unfold Ajz at hx
 split at hx
 ·rename_i t a
  show Ob P _ t (ev fr a)=_
  split at hx
  ·rename_i o g r c ha
   rw [ha]
   split at hx
   ·rename_i T g' st rs hT hj
    split at hx
    ·rename_i row hr
     simp only [Option.map_eq_some_iff,Prod.mk.injEq] at hx
     obtain⟨v',h1,rfl,rfl⟩:=hx
     obtain⟨rfl,rfl⟩:=hq _ _ _ rfl
     exact Ap hI hl hj hr hT h1
    ·cases hx
   ·cases hx
  ·rename_i row c ha
   rw [ha]
   split at hx
   ·rename_i T hT
    simp only [Option.map_eq_some_iff,Prod.mk.injEq] at hx
    obtain⟨v',h1,rfl,rfl⟩:=hx
    exact Ek hT h1
   ·cases hx
  ·cases hx
 split at hx
 ·rename_i hp
  simp only [Option.map_eq_some_iff,Prod.mk.injEq] at hx
  obtain⟨v',h1,rfl,rfl⟩:=hx
  revert h1
  cases op <;> first
   | exact id
   | (simp [Afn] at hp)
 ·cases hx
theorem Xy {rest:List Oper} : ∀ {ops:List Oper} {hs:List Nat} {l l':List (Nat×AV)} {A B:List (Nat×Nat)},Oc P n all xs ops hs l=some (l',A,B)→A=B.map (fun q=>(ix ids q.1,q.2))→Ids h0 ids N→xs.length=N →
  WO P f n d Q k all m rest (A0 l') ds (hp h0 ids xs) u→WO P f n d Q k all m (ops++rest) (A0 l) ds (hp h0 ids xs) u
 | [],hs,l,l',A,B,hx,hA,hI,hl,hk=>by
  simp only [Oc,Option.some.injEq,Prod.mk.injEq] at hx
  obtain⟨rfl,rfl,rfl⟩:=hx
  exact hk
 | o::ops,hs,l,l',A,B,hx,hA,hI,hl,hk=>by
  unfold Oc at hx
  split at hx
  ·rename_i hd
   split at hx
   ·rename_i t hw ht
    rw [ht] at hd
    have step : ∀ {v:AV},D5 P (A0 l) (hp h0 ids xs) o.op=some v→WO P f n d Q k all m (ops++rest) (A0 ((t,v)::l)) ds (hp h0 ids xs) u→WO P f n d Q k all m (o::ops++rest) (A0 l) ds (hp h0 ids xs) u:=by
     intro v hv hk'
     refine Nb (by rw [ht]; exact hd) hw fun hb K U hK hU=>Aca (t:=ds) hv (hK _ _ _ _ ?_)
     rw [ht,E1]; exact hk'
    split at hx
    ·rename_i v hr
     exact step (Abj hI hl hr (fun _ _ _ h=>by cases h)) (Xy hx hA hI hl hk)
    ·rename_i v ob g g' hr
     simp only [Option.map_eq_some_iff,Prod.mk.injEq] at hx
     obtain⟨⟨l1,A1,B1⟩,hx,rfl,rfl,rfl⟩:=hx
     simp only [List.map_cons,List.cons.injEq,Prod.mk.injEq] at hA
     exact step (Abj hI hl hr (fun o2 g2 g2' h=>by cases h; exact hA.1)) (Xy hx hA.2 hI hl hk)
    ·cases hx
   ·rename_i t hw ht
    rw [ht] at hd
    exact Afu (by rw [ht]; exact hd) hw (by rw [ht,E1]; exact Xy hx hA hI hl hk)
   ·rename_i hw ht
    exact Afu (by rw [ht]; rfl) hw (by rw [ht]; exact Xy hx hA hI hl hk)
   ·cases hx
  ·cases hx
theorem Wa {ops:List Oper}{ks:List Nat}{news:List (Nat×AV)} : ∀ {hs:List Nat} {l l':List (Nat×AV)} {A B:List (Nat×Nat)} {ops:List Oper},Oc P n all xs ops hs l=some (l',A,B) → ∀ t,(∀ o ∈ ops,o.dst≠some t)→A0 l' t=A0 l t
 | hs,l,l',A,B,[],hx,t,ho=>by
  simp only [Oc,Option.some.injEq,Prod.mk.injEq] at hx
  obtain⟨rfl,rfl,rfl⟩:=hx
  rfl
 | hs,l,l',A,B,o::ops,hx,t,ho=>by
  have ho' : ∀ o ∈ ops,o.dst≠some t:=fun q hq=>ho q (List.mem_cons_of_mem _ hq)
  have hne : ∀ {t':Nat} {v:AV},o.dst=some t'→A0 ((t',v)::l) t=A0 l t:=by
   intro t' v h
   have:t≠t':=fun e=>ho o (List.mem_cons_self ..) (e ▸ h)
   simp only [A0]
   have:Nat.beq t t'=false:=by
    cases hq:Nat.beq t t' with
    | false=>rfl
    | true=>exact absurd (Nat.eq_of_beq_eq_true hq) this
   rw [this]; rfl
  unfold Oc at hx
  split at hx
  ·split at hx
   ·rename_i t' hw ht
    split at hx
    ·rw [Wa (ks:=ks) (news:=news) (ops:=ops) hx t ho',hne ht]
    ·simp only [Option.map_eq_some_iff,Prod.mk.injEq] at hx
     obtain⟨⟨l1,A1,B1⟩,hx,rfl,rfl,rfl⟩:=hx
     rw [Wa (ks:=ks) (news:=news) (ops:=ops) hx t ho',hne ht]
    ·cases hx
   ·rename_i t' hw ht
    rw [Wa (ks:=ks) (news:=news) (ops:=ops) hx t ho',hne ht]
   ·exact Wa (ks:=ks) (news:=news) (ops:=ops) hx t ho'
   ·cases hx
  ·cases hx
theorem Amt {ops:List Oper}(K:Nat)(hs:List Nat)(news:List (Nat×AV))(hI:Ids h0 ids N)(hl:xs.length=N)
  (hc:(Oc P n all xs (ops.take K) hs l).map (fun r=>(news.map (fun p=>A0 r.1 p.1),r.2.1,Agc (ops.take K) (news.map (·.1)) l))=some (news.map (·.2),((Oc P n all xs (ops.take K) hs l).elim [] fun r=>r.2.2.map fun q=>(ix ids q.1,q.2)),true))
  (hk:WO P f n d Q k all m (ops.drop K) (A0 (news++l)) ds (hp h0 ids xs) u):WO P f n d Q k all m ops (A0 l) ds (hp h0 ids xs) u:=by
 cases hr:Oc P n all xs (ops.take K) hs l with
 | none=>rw [hr] at hc; cases hc
 | some r=>
  obtain⟨l',A,B⟩:=r
  rw [hr] at hc
  simp only [Option.map_some,Option.elim_some,Option.some.injEq,Prod.mk.injEq] at hc
  obtain⟨h1,h2,h3⟩:=hc
  have:=Xy (rest:=ops.drop K) hr h2 hI hl (f:=f) (d:=d) (Q:=Q) (k:=k) (m:=m) (ds:=ds) (u:=u) (fun hb i hi=>Qm (fun t=>?_) (hk hb i hi))
  ·rwa [List.take_append_drop] at this
  ·
   have key : ∀ (ns:List (Nat×AV)),ns.map (fun p=>A0 l' p.1)=ns.map (·.2)→(∀ s,s ∈ ns.map (·.1)→s ∈ news.map (·.1))→(∀ s,s ∈ news.map (·.1)→s=t→s ∈ ns.map (·.1))→A0 (ns++l) t=.any∨A0 (ns++l) t=A0 l' t:=by
    intro ns
    induction ns with
    | nil=>
     intro _ _ hsub
     simp only [List.nil_append]
     by_cases hin:l.any (fun p=>Nat.beq t p.1)=true
     ·right
      symm
      refine Wa (ks:=[]) (news:=[]) (ops:=ops.take K) hr t fun o ho hd=>?_
      have:=List.all_eq_true.1 h3 o ho
      rw [hd] at this
      simp only [Bool.or_eq_true,Bool.not_eq_true',List.contains_iff_mem] at this
      rcases this with hc | hc
      ·exact absurd (hsub t hc rfl) (by simp)
      ·rw [hc] at hin; cases hin
     ·left
      have : ∀ l:List (Nat×AV),l.any (fun p=>Nat.beq t p.1)≠true→A0 l t=.any:=by
       intro l
       induction l with
       | nil=>intro _; rfl
       | cons p l ih=>
        intro hne
        simp only [List.any_cons] at hne
        simp only [A0]
        have h1:Nat.beq t p.1=false:=by cases hq:Nat.beq t p.1 with | false=>rfl | true=>exact absurd (by rw [hq]; rfl) hne
        rw [h1]
        exact ih (fun h=>hne (by rw [h,h1]; rfl))
      exact this l hin
    | cons p ns ih=>
     intro hv h4 h5
     simp only [List.map_cons,List.cons.injEq] at hv
     simp only [List.cons_append,A0]
     cases hq:Nat.beq t p.1 with
     | true=>
      right
      have:t=p.1:=Nat.eq_of_beq_eq_true hq
      subst this
      exact hv.1.symm
     | false=>
      refine ih hv.2 (fun s hs=>h4 s (by simp [hs])) (fun s hs e=>?_)
      rcases List.mem_cons.1 (h5 s hs e) with h | h
      ·subst e; rw [h] at hq; simp at hq
      ·exact h
   exact key news h1 (fun s hs=>hs) (fun s hs _=>hs)
theorem Ak {ops:List Oper}(K:Nat)(hs:List Nat)(news:List (Nat×AV))(hk:WO P f n d Q k all m (ops.drop K) (A0 (news++l)) ds (hp h0 ids xs) u)(hI:Ids h0 ids N:=by assumption)(hl:xs.length=N:=by rfl)
  (hc:(Oc P n all xs (ops.take K) hs l).map (fun r=>(news.map (fun p=>A0 r.1 p.1),r.2.1,Agc (ops.take K) (news.map (·.1)) l))=some (news.map (·.2),((Oc P n all xs (ops.take K) hs l).elim [] fun r=>r.2.2.map fun q=>(ix ids q.1,q.2)),true):=by kernel_rfl):WO P f n d Q k all m ops (A0 l) ds (hp h0 ids xs) u:=Amt K hs news hI hl hc hk
theorem Ba {ops:List Oper}{t:Nat}{b b':Bool}(hb:b=b')(ht:A0 l t=.bool b)(hk:WO P f n d Q k all m ops (A0 ((t,.bool b')::l)) ds h u):WO P f n d Q k all m ops (A0 l) ds h u:=by
 subst hb
 refine fun hV i hi=>Qm (fun s=>?_) (hk hV i hi)
 right
 simp only [A0]
 cases hq:Nat.beq s t with
 | true=>rw [Nat.eq_of_beq_eq_true hq,ht]; rfl
 | false=>rfl
theorem D3 {ops:List Oper}{fr:Nat→AV}(js:List Nat){zs ys:List (Option AO)}(hI:Ids h0 ids N)(hl:xs.length=N)(hk:Q5 N js=true)(hz:js.length=zs.length)(hr:WO P f n d Q k all m ops fr ds (hp h0 ids ys) u)
  (e:Rh js zs xs=ys:=by first | (simp only [List.set_cons_zero,List.set_cons_succ,List.cons_append,List.nil_append,List.replicate_succ,List.replicate_zero,Rh,T5,Tk,AV.cells,AV.I,AV.q]; rfl) | rfl):WO P f n d Q k all m ops fr ds (hp (hp h0 ids (R2 js xs)) (Vy ids js) zs) u:=Ak2 js ys hI hl hk hz e hr
theorem Bn {todo:List Item}{l':List (Nat×AV)}(hr:WR P f n d Q m todo (A0 l') ds h u)(hx:FrIs l l':=by repeat (first | exact .nil | refine .cons rfl ?_)):WR P f n d Q m todo (A0 l) ds h u:=Fw l' hx hr
theorem Bo {ops:List Oper}{l':List (Nat×AV)}(hr:WO P f n d Q k all m ops (A0 l') ds h u)(hx:FrIs l l':=by repeat (first | exact .nil | refine .cons rfl ?_)):WO P f n d Q k all m ops (A0 l) ds h u:=Cf l' hx hr
theorem Az {todo:List Item}{fr:Nat→AV}{ys:List (Option AO)}(hr:WR P f n d Q m todo fr ds (hp h0 ids ys) u)(e:xs=ys:=by first | (simp only [List.set_cons_zero,List.set_cons_succ,List.cons_append,List.nil_append,List.replicate_succ,List.replicate_zero,Rh,T5,Tk,AV.cells,AV.I,AV.q]; rfl) | rfl) :
  WR P f n d Q m todo fr ds (hp h0 ids xs) u:=e ▸ hr
end
section
variable {P:Program} [GW P] {fr:Nat→AV} {h:Ah} {all:List Oper} {pre:List (List Nat)} {pend:O3} {ty:TypeId} {pos:String} {after:Array Edge} {i:Nat}
theorem Wr {j t jg tj:Nat}{want:Bool}{v:AV}{op:Op}(hj:(all[jg]?).bind (·.dst)=some tj)(ho:all[j]? = some ⟨some t,op,ty,pos,after,some (jg,want)⟩)(hg:fr tj=.bool want)(hv:D5 P fr h op=some v)(hr:G3 P all pre i h pend):G3 P all pre i h ((j,fr,v)::pend):=by
 refine⟨?_,hr⟩
 split
 ·trivial
 ·rw [ho]; simp only [aF,Cx hj hg,hv]
end
section
variable {P:Program} [GW P] {h:Ah} {all:List Oper} {pre:List (List Nat)} {pend:O3} {i:Nat} {a b c d e f g o:Nat} {fa fb fc fd fe ff fg fo:Nat→AV} {va vb vc vd ve vf vg vo:AV}
theorem A8 (hc:(cl pre i a&&cl pre i b)=true)(hr:G3 P all pre i h pend):G3 P all pre i h ((a,fa,va)::(b,fb,vb)::pend):=by
 rw [Bool.and_eq_true] at hc
 exact Au hc.1 (Au hc.2 hr)
theorem A9 (hc:((cl pre i a&&cl pre i b)&&(cl pre i c&&cl pre i d))=true)(hr:G3 P all pre i h pend):G3 P all pre i h ((a,fa,va)::(b,fb,vb)::(c,fc,vc)::(d,fd,vd)::pend):=by
 rw [Bool.and_eq_true] at hc
 exact A8 hc.1 (A8 hc.2 hr)
theorem Bb (hc:(((cl pre i a&&cl pre i b)&&(cl pre i c&&cl pre i d))&&((cl pre i e&&cl pre i f)&&(cl pre i g&&cl pre i o)))=true)(hr:G3 P all pre i h pend) :
  G3 P all pre i h ((a,fa,va)::(b,fb,vb)::(c,fc,vc)::(d,fd,vd)::(e,fe,ve)::(f,ff,vf)::(g,fg,vg)::(o,fo,vo)::pend):=by
 rw [Bool.and_eq_true] at hc
 exact A9 hc.1 (A9 hc.2 hr)
end
theorem O {α:Sort _}{a:α}:a=a:=rfl
theorem FI {l l':List (Nat×AV)}(h:l'.map (fun p=>A0 l p.1)=l'.map (·.2)):FrIs l l':=by
 induction l' with
 | nil=>exact .nil
 | cons p r ih=>
  rw [List.map_cons,List.map_cons] at h
  injection h with h1 h2
  exact .cons h1 (ih h2)
end Go.Am
namespace Go.Am
open Go
set_option linter.unusedSimpArgs false
set_option linter.unusedVariables false
set_option linter.unusedSectionVars false
section
variable {P:Program} [GW P] {f:FuncId} {n:Nat} {d:FK} {β:Type} {Q:Spec β} {m:R β} {ds:List AD} {h:Ah} {u:AU} {k:List Item} {l:List (Nat×AV)} {all r:List Oper}
variable {h0:Ah} {ids:List Nat} {xs:List (Option AO)} {N:Nat} {ty:TypeId} {pos:String} {after:Array Edge}
theorem Ai2 {e:TypeId}{x:Operand}{v:AV}{j o g' n':Nat}{fr:Nat→AV}{K:AV→Ah→Prop}(hv:Bc v o g' n')(hI:Ids h0 ids N)(hl:xs.length=N)(hjn:Nat.blt j N=true)(hj:xs[j]? = some none)(hx:ev fr x=v)
  (hk : ∀ g,K (.ptr (ix ids j) g 0 0) (hp h0 ids (xs.set j (some (.rows g 1 [[v]]))))):Gj P fr (hp h0 ids xs) (.box e x) K:=by
 refine Ak0 (v:=v) hI hl hjn hj hx hv.ok (by rw [hv.cells]; simp [hv.flat]) fun g=>?_
 rw [hv.cells]
 exact hk g
theorem Aku {t:Nat}{e:TypeId}{x:Operand}{v:AV}{j o g' n':Nat}(hv:Bc v o g' n')(hI:Ids h0 ids N)(hl:xs.length=N)(hjn:Nat.blt j N=true)(hj:xs[j]? = some none)(ht:Nat.blt t n=true)(hx:ev (A0 l) x=v)
  (hk : ∀ g,WO P f n d Q k all m r (A0 ((t,.ptr (ix ids j) g 0 0)::l)) ds (hp h0 ids (xs.set j (some (.rows g 1 [[v]])))) u) :
  WO P f n d Q k all m (⟨some t,.box e x,ty,pos,after,none⟩::r) (A0 l) ds (hp h0 ids xs) u:=
 U6 ht (fun _ _=>rfl) fun K hK=>Ai2 hv hI hl hjn hj hx fun g=>hK _ _ (hk g)
end
theorem Aap {P:Program}[GW P]{g:FuncId}{γ:Type}{A:List AV}{u u':AU}{h0:Ah}{ids:List Nat}{N:Nat}{Hc:R γ}{ys zs:List (Option AO)}{cells:γ→List (Option AO)}(c1 c2:Nat)(hI:Ids h0 ids N)(hc:Nat.ble (c1+c2) N=true)(hy:ys.length=c1)(hz:zs.length=c2)(hcl : ∀ x,(cells x).length=c1)
  (h:Ids (hp h0 ((ids.drop c1).take c2) zs) (ids.take c1) c1→(∃ a,Hc=.ok a)→J4 P g A u (hp (hp h0 ((ids.drop c1).take c2) zs) (ids.take c1) ys) (Sb (fun x=>hp (hp h0 ((ids.drop c1).take c2) zs) (ids.take c1) (cells x)) u' Hc)) :
  (∃ a,Hc=.ok a)→J4 P g A u (hp h0 (ids.take (c1+c2)) (ys++zs)) (Sb (fun x=>hp h0 (ids.take (c1+c2)) (cells x++zs)) u' Hc):=by
 intro hx
 have hc':c1+c2≤N:=by simpa using hc
 have e:ids.take (c1+c2)=ids.take c1++(ids.drop c1).take c2:=List.take_add
 have hl1:(ids.take c1).length=c1:=by rw [List.length_take,hI.len]; omega
 have hn:=hI.nodup.sublist (List.take_sublist (c1+c2) ids)
 rw [e] at hn
 have hI1:Ids (hp h0 ((ids.drop c1).take c2) zs) (ids.take c1) c1:=by
  refine⟨(List.nodup_append.1 hn).1,fun o ho=>?_,hl1⟩
  rw [Rt fun hm=>(List.nodup_append.1 hn).2.2 o ho o hm rfl]
  exact hI.fresh o (List.mem_of_mem_take ho)
 have:=h hI1 hx
 rw [e,Sj (by rw [hl1,hy])]
 have e2:(fun x=>hp h0 (ids.take c1++(ids.drop c1).take c2) (cells x++zs))=fun x=>hp (hp h0 ((ids.drop c1).take c2) zs) (ids.take c1) (cells x):=by
  funext x
  rw [Sj (by rw [hl1,hcl])]
 rw [e2]
 exact this
end Go.Am
namespace Go.Am
open Go
@[irreducible] def X3:Nat:=4000000
theorem Agx (S:Zl):(G0 S).map (rI .u8)=S.map fun b=>[.int .u8 (b.toNat:Int)]:=by
 simp only [G0,List.map_map]
 rfl
theorem Akv {P:Program}[GW P]{h:Ah}{S:Zl}{n:Nat}{b:Bool}(hn:n=1)(hb:b=true):Oy P h n b (.str S)=some ((G0 S).map (rI .u8)):=by
 subst hn; subst hb
 rw [Agx]
 rfl
section
set_option linter.unusedVariables false
set_option linter.unusedSectionVars false
variable {P:Program} [GW P] {f:FuncId} {n:Nat} {d:FK} {fr:Nat→AV} {ds:List AD} {h:Ah} {u:AU} {Q:QT} {k:List Item}
theorem Ab7 {ops:Array Oper}{i:Nat}{rest':List Nat}{t1 t2:Nat}{sT et:TypeId}{c:Nat}{ps:List (Nat×Operand)}{ty1 ty2:TypeId}{pos1 pos2:String}{af1 af2:Array Edge}{a1 b1:Nat}{z1:List AV}{E:TI}{rows rows':List (List AV)}
  (h1:ops[i]? = some ⟨some t1,.buildSlice sT c ⟨ps⟩,ty1,pos1,af1,none⟩) (h2:ops[i+1]? = some ⟨some t2,.convert sT sT (.tmp t1),ty2,pos2,af2,none⟩) (ht1:t1<n) (ht2:t2<n)
  (hS:ti P sT=some ⟨.sl et,a1,b1,z1⟩) (hE:ti P et=some E) (hk:E.k=.int .u8) (hc:c≠0) (hsz:0<E.size) (hlim:c * E.size≤2 ^ 24) (hz:E.z.all AV.flat=true)
  (hf:N5 E.size (List.replicate c E.z) (Pc fr ps)=some rows) (hsim:RowsSim E.size rows rows')
  (hr:E9 P f n d (.inRegion ops rest'::k) (Gv (Gv fr (some t1) .any) (some t2) (.sl E.size rows')) ds h u Q):E9 P f n d (.inRegion ops (i::(i+1)::rest')::k) fr ds h u Q:=by
 intro B mu w a cs p
 have s:=p.sim
 obtain⟨p1,p2⟩:=Yd p.fr ps
 obtain⟨dS,hdS,hkS⟩:=F2 hS
 have:=Jh hkS; subst this
 obtain⟨dE,hdE,hkE⟩:=F2 hE
 have:=Qo (hk ▸ hkE); subst this
 obtain⟨dd,ii,z,e1,e2,e3,e4,e5,e6,e7,e8,_⟩:=L5 hE
 obtain⟨arr,f1,⟨r1,r2,r3⟩,f3⟩:=R4 (Pc fr ps) _ _ _ p1 p2 (Wo (i:=ii) e4 e5 hz c) hf
 rw [List.length_replicate] at f3
 have hrun:(Instr.buildSlice sT c (ps.map fun p=>(p.1,a.eval p.2)).toArray).run P w=.ok (.slice (some ⟨w.heap.size,0,none⟩) c c) (w.alloc (.cells arr et)):=by
  have f1':=f1
  have hlim':=hlim
  have hsz':=hsz
  rw [e7] at f1' hlim' hsz'
  exact run_buildSlice w sT et c _ arr ii z hdS e2 e3 (by omega) (by
   intro hq
   rcases Nat.mul_eq_zero.1 hq with hq | hq <;> omega) (by simpa using f1')
 have g1:(execOp a.eval ⟨some t1,.buildSlice sT c ⟨ps⟩,ty1,pos1,af1,none⟩).run P w=.ok (.value (.slice (some ⟨w.heap.size,0,none⟩) c c)) (w.alloc (.cells arr et)):=by
  simp only [execOp]
  have:(Array.map (fun p=>(p.1,a.eval p.2)) (⟨ps⟩:Array (Nat×Operand)))=(ps.map fun p=>(p.1,a.eval p.2)).toArray:=by simp
  simp [this,hrun]
 have hcv:=Lib.run_convert_bytes_const (P:=P) w sT et arr c c hdS hdE
 have hev:(a.put (some t1) (.slice (some ⟨w.heap.size,0,none⟩) c c)).eval (.tmp t1)=.slice (some ⟨w.heap.size,0,none⟩) c c:=by
  simp [Act.put,Act.eval,p.size,ht1]
 have g2:(execOp (a.put (some t1) (.slice (some ⟨w.heap.size,0,none⟩) c c)).eval ⟨some t2,.convert sT sT (.tmp t1),ty2,pos2,af2,none⟩).run P (w.alloc (.cells arr et))=.ok (.value (.slice (some ⟨w.heap.size,0,none⟩) c c)) (w.alloc (.cells arr et (arr.size,arr.size+1))):=by
  simp only [execOp,hev]
  simp [hcv]
 rw [← Oper.semAt_eq (b0 f d).roundOf _ _ (fun c hc=>by cases hc)] at g1
 rw [← Oper.semAt_eq (b0 f d).roundOf _ _ (fun c hc=>by cases hc)] at g2
 have st1:=Zr (b:=b0 f d) (a:=a) (rest:=(i+1)::rest') (k:=k) (cs:=cs) h1 rfl g1
 have st2:=Zr (b:=b0 f d) (a:=a.put (some t1) (.slice (some ⟨w.heap.size,0,none⟩) c c)) (rest:=rest') (k:=k) (cs:=cs) h2 rfl g2
 have hj:=s.junk (.cells arr et (arr.size,arr.size+1))
 have hLIM:c≤B5:=by have:=Nat.le_mul_of_pos_right c hsz; unfold B5; omega
 have hlen':rows'.length=c:=hsim.len.trans f3
 have hv:RV h mu (w.alloc (.cells arr et (arr.size,arr.size+1))) (.sl E.size rows') (.slice (some ⟨w.heap.size,0,none⟩) c c):=by
  have key : ∃ vs:Nat→Nat→Value,∀ i j,i<rows'.length→j<E.size→(w.alloc (.cells arr et (arr.size,arr.size+1))).cell? ⟨w.heap.size,0+i * E.size+j,none⟩=some (vs i j)∧RV h mu (w.alloc (.cells arr et (arr.size,arr.size+1))) (cell rows' i j) (vs i j):=by
   refine⟨fun i j=>((w.alloc (.cells arr et (arr.size,arr.size+1))).cell? ⟨w.heap.size,0+i * E.size+j,none⟩).getD undef,fun i j hi hj'=>?_⟩
   obtain⟨c',hc1,hc2⟩:=r3 i j (by rw [f3,← hlen']; exact hi) hj'
   have hx:(w.alloc (.cells arr et (arr.size,arr.size+1))).cell? ⟨w.heap.size,0+i * E.size+j,none⟩=some c':=by
    unfold World.cell?
    rw [Lp,Nat.zero_add]; simpa using hc1
   have hg:((w.alloc (.cells arr et (arr.size,arr.size+1))).cell? ⟨w.heap.size,0+i * E.size+j,none⟩).getD undef=c':=by rw [hx]; rfl
   refine⟨by show _=some (((w.alloc (.cells arr et (arr.size,arr.size+1))).cell? ⟨w.heap.size,0+i * E.size+j,none⟩).getD undef); rw [hg]; exact hx,?_⟩
   show RV h mu _ _ (((w.alloc (.cells arr et (arr.size,arr.size+1))).cell? ⟨w.heap.size,0+i * E.size+j,none⟩).getD undef)
   rw [hg]
   exact(hsim.cells i j (by rw [f3,← hlen']; exact hi) hj').rv (hc2.ext hj.2)
  obtain⟨vs,hvs⟩:=key
  have:=Rv.sl (w:=w.alloc (.cells arr et (arr.size,arr.size+1))) (mu:=mu) (M:=Ds h mu) E.size rows' w.heap.size 0 c vs (by omega) (by omega) (fun i j hi hj=>(hvs i j hi hj).1) (fun i j hi hj=>(hvs i j hi hj).2) hsim.ok (fun hm=>by have:=Ds.lt s hm; omega) (by rw [E8]; omega)
  rw [hlen'] at this
  exact this
 have q:=p.ext hj.2 hj.1
 have q1:=q.put (dst:=some t1) (by simpa [F1] using ht1) (v:=.any) (c:=.slice (some ⟨w.heap.size,0,none⟩) c c) (.any _)
 have q2:=q1.put (dst:=some t2) (by simpa [F1] using ht2) hv
 exact .ext hj.2 (.head st1 (.head st2 (hr B mu _ _ cs q2)))
end
section
variable {P:Program} [GW P] {f:FuncId} {n:Nat} {d:FK} {α β:Type} {Q:Spec β} {m:R β} {ds:List AD} {h:Ah} {u:AU} {k:List Item} {l:List (Nat×AV)} {all r:List Oper}
theorem Xe {L:List Int}{t1 t2:Nat}{sT et:TypeId}{c:Nat}{ps:List (Nat×Operand)}{ty1 ty2:TypeId}{pos1 pos2:String}{af1 af2:Array Edge}{a1 b1:Nat}{z1:List AV}{E:TI}{rows:List (List AV)}
  (ht1:Nat.blt t1 n=true) (ht2:Nat.blt t2 n=true) (hS:ti P sT=some ⟨.sl et,a1,b1,z1⟩) (hE:ti P et=some E) (hk:E.k=.int .u8) (hst:E.size=1)
  (hc:Nat.beq c 0=false) (hlim:Nat.ble c 16777216=true) (hz:E.z.all AV.flat=true) (hf:N5 E.size (List.replicate c E.z) (Pc (A0 l) ps)=some rows) (hsim:RowsSimL rows (L.map (rI .u8))) (hrl:rows.all (fun r=>Nat.beq r.length 1)=true)
  (hr:WO P f n d Q k all m r (A0 ((t2,.sl 1 (L.map (rI .u8)))::(t1,.any)::l)) ds h u):WO P f n d Q k all m (⟨some t1,.buildSlice sT c ⟨ps⟩,ty1,pos1,af1,none⟩::⟨some t2,.convert sT sT (.tmp t1),ty2,pos2,af2,none⟩::r) (A0 l) ds h u:=by
 intro hb i hi
 have h1:(⟨all⟩:Array Oper)[i]? = some ⟨some t1,.buildSlice sT c ⟨ps⟩,ty1,pos1,af1,none⟩:=by simpa using hi 0
 have h2:(⟨all⟩:Array Oper)[i+1]? = some ⟨some t2,.convert sT sT (.tmp t1),ty2,pos2,af2,none⟩:=by simpa using hi 1
 have hi' : ∀ j,all[i+1+1+j]? = r[j]? := fun j=>by have:=hi (j+2); rw [show i+(j+2)=i+1+1+j by omega] at this; simpa using this
 simp only [List.length_cons,List.range'_succ]
 have hc':c≠0:=fun q=>by rw [q] at hc; cases hc
 refine Ab7 (rows':=L.map (rI .u8)) h1 h2 (by simpa using ht1) (by simpa using ht2) hS hE hk hc' (by omega) (by rw [hst]; simpa using hlim) hz hf ?_ ?_
 ·exact hst ▸ hsim.sim (fun x=>Il x) fun r hr'=>by simpa using List.all_eq_true.1 hrl r hr'
 ·rw [E1,E1,hst]
  exact hr hb (i+1+1) hi'
end
section
variable {P:Program} [GW P] {h:Ah} {α:Type} {e e':α→List AV} {L:List α} {x:α} {t et:TypeId} {a b st:Nat} {z:List AV} {E:TI} {k:IntKind}
theorem Pv {i:Int}(he : ∀ x,e x=e' x)(hT:ti P t=some ⟨.sl et,a,b,z⟩)(hE:ti P et=some E)(hs:st=E.size)(h0:0≤i)(hx:L[i.toNat]? = some x):Gc P h t (.sl st (L.map e)) (.int k i)=some (.cp (e' x) 0):=
 he x ▸ Fa hT hE hs h0 hx
theorem Xa {i:Nat}(he : ∀ x,e x=e' x)(hT:ti P t=some ⟨.sl et,a,b,z⟩)(hE:ti P et=some E)(hs:st=E.size)(hx:L[i]? = some x):Gc P h t (.sl st (L.map e)) (.int k (i:Int))=some (.cp (e' x) 0):=
 he x ▸ Kx hT hE hs hx
end
section
set_option linter.unusedVariables false
set_option linter.unusedSectionVars false
variable {P:Program} [GW P] {f:FuncId} {n:Nat} {d:FK} {α β:Type} {Q:Spec β} {m:R β} {ds:List AD} {h:Ah} {u:AU} {k:List Item} {l:List (Nat×AV)} {all r:List Oper}
theorem Akx {t et:TypeId}{a b st:Nat}{z:List AV}{E:TI}{L:List α}{e:α→List AV}{k k':IntKind}{i:Int}(hT:ti P t=some ⟨.sl et,a,b,z⟩)(hE:ti P et=some E)(hs:st=E.size)(hc:0≤i∧i≤(L.length:Int))(hp:i≠0) :
  Lq P h t (.sl st (L.map e)) none (some (.int k i)) (some (.int k' i))=some (.sl st ((L.take i.toNat).map e)):=by
 unfold Lq
 simp only [hT,hE]
 split
 ·rename_i q1 q2; cases q1; cases q2; exact absurd rfl hp
 ·rename_i q0 q1 q2; cases q0
 ·rename_i q0 q1 q2 _ _
  cases q1; cases q2
  cases q0
  rw [if_pos ⟨hs,hc.1,Int.le_refl _,by simpa using hc.2⟩]
  simp only [Hx,List.drop_zero,Nat.sub_zero,List.map_take]
 ·rename_i q _ _
  exact(q _ _ _ _ _ rfl rfl rfl).elim
theorem Ajx {t et:TypeId}{a b st:Nat}{z:List AV}{E:TI}{rows:List (List AV)}{k k':IntKind}(hT:ti P t=some ⟨.sl et,a,b,z⟩)(hE:ti P et=some E) :
  Lq P h t (.sl st rows) none (some (.int k 0)) (some (.int k' 0))=some .emp:=by
 simp only [Lq,hT,hE]
theorem Aip {t:Nat}{T et ty:TypeId}{pos:String}{after:Array Edge}{a b st:Nat}{z:List AV}{E:TI}{L:List α}{e:α→List AV}{k1 k2:IntKind}{i:Int}{x hi mx:Operand}
  (ht:Nat.blt t n=true) (hx:ev (A0 l) x=.sl st (L.map e)) (hh:ev (A0 l) hi=.int k1 i) (hm:ev (A0 l) mx=.int k2 i) (hT:ti P T=some ⟨.sl et,a,b,z⟩) (hE:ti P et=some E) (hs:st=E.size) (hc:0≤i∧i≤(L.length:Int))
  (hk:WO P f n d Q k all m r (A0 ((t,.sl st ((L.take i.toNat).map e))::l)) ds h u):WO P f n d Q k all m (⟨some t,.slice T x none (some hi) (some mx),ty,pos,after,none⟩::r) (A0 l) ds h u:=by
 by_cases hp:i=0
 ·subst hp
  refine Ad .emp ht ?_ ?_
  ·show Lq P h T (ev (A0 l) x) none (some (ev (A0 l) hi)) (some (ev (A0 l) mx))=_
   rw [hx,hh,hm]
   exact Ajx hT hE
  ·intro hb i hi'
   refine W4 (Ip.refl _) (fun s=>?_) rfl rfl (hk hb i hi')
   simp only [A0]
   cases hq:Nat.beq s t with
   | true=>exact .emp _
   | false=>exact .same _
 ·refine Ad _ ht ?_ hk
  show Lq P h T (ev (A0 l) x) none (some (ev (A0 l) hi)) (some (ev (A0 l) mx))=_
  rw [hx,hh,hm]
  exact Akx hT hE hs hc hp
end
theorem Ab8:X3=4000000:=by unfold X3; rfl
end Go.Am
namespace Go.Am
open Go
set_option maxRecDepth 100000
set_option maxHeartbeats 4000000
set_option linter.unusedSimpArgs false
set_option linter.unusedVariables false
structure Record where
 Term:Int
 Data:(List Int)
 deriving DecidableEq
def Ag (x:Record):List AV:=[(.int .i64 x.Term),(.sl 1 (List.map (rI .u8) x.Data))]
theorem Kj (x:Record):E5 2 (Ag x):=R7 rfl rfl
def Iy:Record:={ Term:=0,Data:=[] }
structure Replica where
 ID:Int
 Many:Int
 Term:Int
 Vote:Int
 Log:(List Record)
 Role:Int
 Commit:Int
 Votes:(List Bool)
 Match:(List Int)
 deriving DecidableEq
def Ao (x:Replica):List AV:=[(.int .i64 x.ID),(.int .i64 x.Many),(.int .i64 x.Term),(.int .i64 x.Vote),(.sl 2 (List.map Ag x.Log)),(.int .i64 x.Role),(.int .i64 x.Commit),(.sl 1 (List.map rB x.Votes)),(.sl 1 (List.map (rI .i64) x.Match))]
structure Message where
 Kind:Int
 From:Int
 To:Int
 Term:Int
 Last:Int
 LastTerm:Int
 Log:(List Record)
 Commit:Int
 Match:Int
 Granted:Bool
 deriving DecidableEq
def Aj (x:Message):List AV:=[(.int .i64 x.Kind),(.int .i64 x.From),(.int .i64 x.To),(.int .i64 x.Term),(.int .i64 x.Last),(.int .i64 x.LastTerm),(.sl 2 (List.map Ag x.Log)),(.int .i64 x.Commit),(.int .i64 x.Match),(.bool x.Granted)]
theorem Gd (x:Message):E5 10 (Aj x):=R7 rfl rfl
structure Value where
 Kind:Int
 N:Int
 S:Zl
 L:(List Value)
mutual
def rValueA:Value→List AV
 | ⟨Kind_,N_,S_,L_⟩=>[(.int .i64 Kind_),(.int .i64 N_),(.str S_),(.sl 4 (rValueAs L_))]
def rValueAs:List Value→List (List AV)
 | []=>[]
 | a::l=>rValueA a::rValueAs l
end
theorem Zp : ∀ l:List Value,rValueAs l=l.map rValueA
 | []=>by rw [rValueAs]; rfl
 | a::l=>by rw [rValueAs,List.map_cons,Zp l]
def Bt (x:Value):List AV:=[(.int .i64 x.Kind),(.int .i64 x.N),(.str x.S),(.sl 4 (List.map rValueA x.L))]
theorem Gw (x:Value):rValueA x=Bt x:=by
 cases x
 rw [rValueA]
 simp only [Zp]
 rfl
theorem Kw {w:List AV}{x:Value}(h:RowSim w (Bt x)):RowSim w (rValueA x):=(Gw x).symm ▸ h
theorem R3 (x:Value):E5 4 (rValueA x):=by rw [Gw]; exact R7 rfl rfl
def zeroValue:Value:={ Kind:=0,N:=0,S:=[],L:=[] }
structure T61 where
 Replica:Replica
 fSent:(List Message)
 deriving DecidableEq
def Wy (x:T61):List AV:=[(.int .i64 x.Replica.ID),(.int .i64 x.Replica.Many),(.int .i64 x.Replica.Term),(.int .i64 x.Replica.Vote),(.sl 2 (List.map Ag x.Replica.Log)),(.int .i64 x.Replica.Role),(.int .i64 x.Replica.Commit),(.sl 1 (List.map rB x.Replica.Votes)),(.sl 1 (List.map (rI .i64) x.Replica.Match)),(.sl 10 (List.map Aj x.fSent))]
structure T98 where
 fE:Int
 deriving DecidableEq
def Adm (x:T98):List AV:=[(.int .i64 x.fE)]
structure T102 where
 fRest:(List Int)
 deriving DecidableEq
def Js (x:T102):List AV:=[(.sl 1 (List.map (rI .u8) x.fRest))]
end Go.Am
namespace Go.Am
open Go
set_option maxRecDepth 100000
set_option maxHeartbeats 4000000
set_option linter.unusedSimpArgs false
set_option linter.unusedVariables false
noncomputable section
def Bv (n:Int)(lo:Int)(hi:Int):R Bool:=
 .ok ((decide (lo≤n))&&(decide (n≤hi)))
def Lf (rID:Int)(rMany:Int)(rTerm:Int)(rVote:Int)(rRole:Int)(rCommit:Int):R Unit:=
 .ok ()
def J0 (l:List Bool)(l1:List Int):R ((List Bool)×(List Int)):=
 .ok (l,l1)
def Ie (n:Int):R ((List Bool)×(List Int)):=
 if(0:Int)≤n∧(n:Int)≤n∧(Int.toNat n) * 1≤B5 then
 if(0:Int)≤n∧(n:Int)≤n∧(Int.toNat n) * 8≤B5 then
 J0 (List.replicate (Int.toNat n) false) (List.replicate (Int.toNat n) (0:Int)) else .bad else .bad
def Ia (s_ReplicaID:Int)(s_ReplicaMany:Int)(s_ReplicaTerm:Int)(s_ReplicaVote:Int)(s_ReplicaRole:Int)(s_ReplicaCommit:Int):R ((List Bool)×(List Int)):=
 (Bv s_ReplicaMany 0 5).bind fun r=>
 if r then
(Ie s_ReplicaMany)
else
(Ie 0)
def Iv (id:Int)(many:Int):R (Replica×Int):=
 (Bv many 1 5).bind fun r=>
 (if(!r) then R.ok true else(Bv id 0 (IntKind.wrap .i64 (many - 1))).bind fun r1=>
 R.ok (!r1)).bind (fun(b:Bool)=>if b then
(.ok (({ ID:=0,Many:=0,Term:=0,Vote:=0,Log:=[],Role:=0,Commit:=0,Votes:=[],Match:=[] }:Replica),470))
else
((Lf id many 0 (-1) 0 0).bind fun _=>
 (Ia id many 0 (-1) 0 0).bind fun r2=>
 .ok (({ ID:=id,Many:=many,Term:=0,Vote:=(-1),Log:=[],Role:=0,Commit:=0,Votes:=r2.1,Match:=r2.2 }:Replica),0)))
def Bj (ok:Bool)(e:Int):R Unit:=
 if ok then
(.ok ())
else
(.pan ⟨99,.one .i64 e⟩)
def Hs (x1:Bool):R (Unit ⊕ Bool):=
 if x1 then
(.ok (.inr (false)))
else
(.ok (.inl ()))
def Jr (l:List Record)(term:Int)(j:Nat)(a:Record):R (Unit ⊕ Bool):=
 (Bv a.Term 1 term).bind fun r=>
 if(!r) then
(Hs true)
else
(if(decide ((j:Int) > 0)) then
((C5 l (IntKind.wrap .i64 ((j:Int) - 1))).bind fun a1=>
 Hs (decide (a1.Term > a.Term)))
else
(Hs false))
def Gh (l:List Record)(term:Int):R Bool:=
 (each (fun j a=>fun _=>Jr l term j a) 0 l ()).bind (Ga (fun _=>.ok true) (fun r=>.ok r))
def Jb:R Unit:=
 .ok ()
def E2 (p:T98):R Unit:=
 .ok ()
def F5 (n:Int):R Int:=
 (E2 ({ fE:=n }:T98)).bind fun _=>
 .ok (({ fE:=n }:T98).fE)
def E3 (r:Replica)(j:Nat)(a:Int):R Unit:=
 (Bv a 0 (r.Log.length:Int)).bind fun r10=>
 (Bj r10 470).bind fun _=>
 (if(r.Role != 0) then R.ok true else(if(a==0) then(C5 r.Votes (j:Int)).bind fun a1=>
 R.ok (!a1) else R.ok false).bind (fun(b6:Bool)=>R.ok b6)).bind (fun(b5:Bool)=>(Bj b5 470).bind fun _=>
 .ok ())
def Jt (r:Replica):R Int:=
 (Bv r.Many 1 5).bind fun r1=>
 (if r1 then(Bv r.ID 0 (IntKind.wrap .i64 (r.Many - 1))).bind fun r2=>
 R.ok r2 else R.ok false).bind (fun(b:Bool)=>(if b then(Bv r.Term 0 1048576).bind fun r3=>
 R.ok r3 else R.ok false).bind (fun(b1:Bool)=>(if b1 then(Bv r.Vote (-1) (IntKind.wrap .i64 (r.Many - 1))).bind fun r4=>
 R.ok r4 else R.ok false).bind (fun(b2:Bool)=>(Bj b2 470).bind fun _=>
 (Gh r.Log r.Term).bind fun r6=>
 (if r6 then(Bv r.Role 0 2).bind fun r7=>
 R.ok r7 else R.ok false).bind (fun(b3:Bool)=>(if b3 then(Bv r.Commit 0 (r.Log.length:Int)).bind fun r8=>
 R.ok r8 else R.ok false).bind (fun(b4:Bool)=>(Bj ((b4&&((r.Votes.length:Int)==r.Many))&&((r.Match.length:Int)==r.Many)) 470).bind fun _=>
 (Fy (fun j a=>fun _=>E3 r j a) 0 r.Match ()).bind ((fun _=>(if(r.Role==0) then R.ok true else(if((r.Vote==r.ID)&&(decide (r.Term≥1))) then(C5 r.Votes r.ID).bind fun a2=>
 R.ok a2 else R.ok false).bind (fun(b8:Bool)=>R.ok b8)).bind (fun(b7:Bool)=>(Bj b7 470).bind fun _=>
 .ok 0))))))))
def C8 (r:Replica):R Int:=
 (Jt r).catch' (Id 99 .i64 (fun n=>(F5 n).bind fun p=>.ok p) (fun _=>.bad))
def Dz (r:Replica):R Unit:=
 .ok ()
def J3 (s:List Record):R (List Record):=if s.length * 32≤B5 then .ok s else .bad
def I0 (s:List Int):R (List Int):=if s.length * 8≤B5 then .ok s else .bad
def Eg (l:List Int):R Unit:=
 .ok ()
section
variable {σ_:Type}
def Fp (b_:Int→σ_→R σ_)(a:Int)(s:σ_):R σ_:=
 (b_ a s).bind fun s1=>
 .ok s1
def Jp (b:List Int)(b_:Int→σ_→R σ_)(s_:σ_):R σ_:=
 (Fy (fun _ a=>fun s=>Fp b_ a s) 0 b s_).bind ((fun s=>.ok s))
end
def Nv (l:List Int):R Unit:=Rj l
def Fe (a:Int)(l:List Int):R (List Int):=
 if(l.length+[a].length) * 8≤B5 then
 .ok (l++[a]) else .bad
def Ho (s:List Int):R (List Int):=
 (Jp s (fun a z_=>R.np ((fun l=>Fe a l) z_)) []).bind (fun l=>.ok l)
def Fq (s:List Int):R (List Int):=
 (Ho s).bind fun r=>
 .ok r
def Dv (s:List Int):R (List Int):=
 (Fq s).bind fun s1=>
 (Nv s1).bind fun _=>
 .ok (D2 s1)
def Ec (s0_ReplicaCommit:Int)(a:Int)(x:Bool)(l3:List Record):R (Int×(List Record)):=
 if x then
(.ok (a,l3))
else
(.ok (s0_ReplicaCommit,l3))
def E4 (s0_ReplicaID:Int)(s0_ReplicaMany:Int)(s0_ReplicaTerm:Int)(s0_ReplicaVote:Int)(s0_ReplicaRole:Int)(s0_ReplicaCommit:Int)(s0_ReplicaVotes:List Bool)(l:List Record)(l1:List Int):R (Int×(List Record)):=
 (Eg l1).bind fun _=>
 (Dv l1).bind fun l2=>
 (C5 l2 (IntKind.wrap .i64 (Int.tdiv (IntKind.wrap .i64 ((l2.length:Int) - 1)) 2))).bind fun a=>
 if(decide (a > s0_ReplicaCommit)) then
((C5 l (IntKind.wrap .i64 (a - 1))).bind fun a1=>
 Ec s0_ReplicaCommit a (a1.Term==s0_ReplicaTerm) l)
else
(Ec s0_ReplicaCommit a false l)
def Jm (vto:Int)(m:Message)(s0_Replica:Replica)(l:List Message):R (List Message):=
 if(l.length+[({ Kind:=m.Kind,From:=s0_Replica.ID,To:=vto,Term:=s0_Replica.Term,Last:=m.Last,LastTerm:=m.LastTerm,Log:=m.Log,Commit:=m.Commit,Match:=m.Match,Granted:=m.Granted }:Message)].length) * 96≤B5 then
 .ok (l++[({ Kind:=m.Kind,From:=s0_Replica.ID,To:=vto,Term:=s0_Replica.Term,Last:=m.Last,LastTerm:=m.LastTerm,Log:=m.Log,Commit:=m.Commit,Match:=m.Match,Granted:=m.Granted }:Message)]) else .bad
def Hg (m:Message)(s_Replica:Replica)(x:Int)(l:List Message):R ((Int×(List Message)) ⊕ (List Message)):=
 if x<s_Replica.Many then
(if(x != s_Replica.ID) then
((Jm x m s_Replica l).bind fun r=>
 .ok (.inl ((IntKind.wrap .i64 (x+1)),r)))
else
(.ok (.inl ((IntKind.wrap .i64 (x+1)),l))))
else
(.ok (.inr (l)))
def Iq (l1:List Message):R (List Message):=
 .ok l1
def Gb (m:Message)(s_Replica:Replica):R (List Message):=
 (loop (D4 fun x l=>Hg m s_Replica x l) (0,[])).bind (fun l1=>Iq l1)
def Gx (s0_ReplicaID:Int)(s0_ReplicaMany:Int)(s0_ReplicaTerm:Int)(s0_ReplicaVote:Int)(s0_ReplicaRole:Int)(s0_ReplicaCommit:Int)(s0_ReplicaVotes:List Bool)(s0_ReplicaMatch:List Int)(l:List Record):R (List Message):=
 (Gb ({ Kind:=3,From:=0,To:=0,Term:=0,Last:=0,LastTerm:=0,Log:=l,Commit:=s0_ReplicaCommit,Match:=0,Granted:=false }:Message) ({ ID:=s0_ReplicaID,Many:=s0_ReplicaMany,Term:=s0_ReplicaTerm,Vote:=s0_ReplicaVote,Log:=l,Role:=s0_ReplicaRole,Commit:=s0_ReplicaCommit,Votes:=s0_ReplicaVotes,Match:=s0_ReplicaMatch }:Replica)).bind fun r=>
 .ok r
def I3 (r:Replica)(l:List Record):R (Replica×(List Message)×Int):=
 (I0 r.Match).bind fun r3=>
 (C5 r3 r.ID).bind fun a=>
 (E4 r.ID r.Many r.Term r.Vote r.Role r.Commit r.Votes l (r3.set r.ID.toNat (l.length:Int))).bind fun r4=>
 (Gx r.ID r.Many r.Term r.Vote r.Role r4.1 r.Votes (r3.set r.ID.toNat (l.length:Int)) r4.2).bind fun r5=>
 .ok (({ ID:=r.ID,Many:=r.Many,Term:=r.Term,Vote:=r.Vote,Log:=r4.2,Role:=r.Role,Commit:=r4.1,Votes:=r.Votes,Match:=(r3.set r.ID.toNat (l.length:Int)) }:Replica),r5,0)
def Ey (r:Replica)(data:List Int):R (Replica×(List Message)×Int):=
 (C8 r).bind fun e=>
 if(e != 0) then
(.ok (({ ID:=0,Many:=0,Term:=0,Vote:=0,Log:=[],Role:=0,Commit:=0,Votes:=[],Match:=[] }:Replica),[],e))
else
(if(r.Role != 2) then
(.ok (({ ID:=0,Many:=0,Term:=0,Vote:=0,Log:=[],Role:=0,Commit:=0,Votes:=[],Match:=[] }:Replica),[],470))
else
(if(r.Log.length:Int)≥4096 then
(.ok (({ ID:=0,Many:=0,Term:=0,Vote:=0,Log:=[],Role:=0,Commit:=0,Votes:=[],Match:=[] }:Replica),[],2))
else
((Dz r).bind fun _=>
 (J3 r.Log).bind fun r1=>
 if(r1.length+[({ Term:=r.Term,Data:=data }:Record)].length) * 32≤B5 then
 I3 r (r1++[({ Term:=r.Term,Data:=data }:Record)]) else .bad)))
def Hp (l:List Bool)(l1:List Int):R ((List Bool)×(List Int)):=
 .ok (l,l1)
def F9 (n:Int):R ((List Bool)×(List Int)):=
 if(0:Int)≤n∧(n:Int)≤n∧(Int.toNat n) * 1≤B5 then
 if(0:Int)≤n∧(n:Int)≤n∧(Int.toNat n) * 8≤B5 then
 Hp (List.replicate (Int.toNat n) false) (List.replicate (Int.toNat n) (0:Int)) else .bad else .bad
def Cp (s_Replica:Replica):R ((List Bool)×(List Int)):=
 (Bv s_Replica.Many 0 5).bind fun r=>
 if r then
(F9 s_Replica.Many)
else
(F9 0)
def Fv (s:T61):R Int:=
 if((s.Replica.Log.length:Int)==0) then
(.ok 0)
else
((C5 s.Replica.Log (IntKind.wrap .i64 ((s.Replica.Log.length:Int) - 1))).bind fun a=>
 .ok a.Term)
def H7 (vto:Int)(mKind:Int)(mFrom:Int)(mTo:Int)(mTerm:Int)(mLast:Int)(mLastTerm:Int)(mCommit:Int)(mMatch:Int)(mGranted:Bool)(s_Replica:Replica):R (List Message):=
 if [({ Kind:=mKind,From:=s_Replica.ID,To:=vto,Term:=s_Replica.Term,Last:=mLast,LastTerm:=mLastTerm,Log:=[],Commit:=mCommit,Match:=mMatch,Granted:=mGranted }:Message)].length * 96≤B5 then
 .ok [({ Kind:=mKind,From:=s_Replica.ID,To:=vto,Term:=s_Replica.Term,Last:=mLast,LastTerm:=mLastTerm,Log:=[],Commit:=mCommit,Match:=mMatch,Granted:=mGranted }:Message)] else .bad
def Ke (m:Message)(granted:Bool)(vReplica:Replica):R (Replica×(List Message)):=
 (H7 m.From 2 0 0 0 0 0 0 0 granted vReplica).bind fun r2=>
 .ok (vReplica,r2)
def G9 (m:Message)(s_Replica:Replica)(granted:Bool):R (Replica×(List Message)):=
 if granted then
(Ke m granted ({ ID:=s_Replica.ID,Many:=s_Replica.Many,Term:=s_Replica.Term,Vote:=m.From,Log:=s_Replica.Log,Role:=s_Replica.Role,Commit:=s_Replica.Commit,Votes:=s_Replica.Votes,Match:=s_Replica.Match }:Replica))
else
(Ke m granted s_Replica)
def Ix (m:Message)(s_Replica:Replica)(good:Bool):R (Replica×(List Message)):=
 if(m.Term==s_Replica.Term) then
(if(s_Replica.Vote==(-1)) then
(G9 m s_Replica good)
else
(if(s_Replica.Vote==m.From) then
(G9 m s_Replica good)
else
(G9 m s_Replica false)))
else
(G9 m s_Replica false)
def J2 (m:Message)(s_Replica:Replica):R (Replica×(List Message)):=
 (Fv ({ Replica:=s_Replica,fSent:=[] }:T61)).bind fun r=>
 if(decide (m.LastTerm > r)) then
(Ix m s_Replica true)
else
((Fv ({ Replica:=s_Replica,fSent:=[] }:T61)).bind fun r1=>
 if(m.LastTerm==r1) then
(Ix m s_Replica (decide (m.Last≥(s_Replica.Log.length:Int))))
else
(Ix m s_Replica false))
def M6 (s:List Bool):R (List Bool):=if s.length * 1≤B5 then .ok s else .bad
def Ea (s0_ReplicaCommit:Int)(a:Int)(x:Bool):R Int:=
 if x then
(.ok a)
else
(.ok s0_ReplicaCommit)
def Ef (s0_ReplicaID:Int)(s0_ReplicaMany:Int)(s0_ReplicaTerm:Int)(s0_ReplicaVote:Int)(s0_ReplicaLog:List Record)(s0_ReplicaRole:Int)(s0_ReplicaCommit:Int)(l:List Bool)(l1:List Int):R Int:=
 (Eg l1).bind fun _=>
 (Dv l1).bind fun l2=>
 (C5 l2 (IntKind.wrap .i64 (Int.tdiv (IntKind.wrap .i64 ((l2.length:Int) - 1)) 2))).bind fun a=>
 if(decide (a > s0_ReplicaCommit)) then
((C5 s0_ReplicaLog (IntKind.wrap .i64 (a - 1))).bind fun a1=>
 Ea s0_ReplicaCommit a (a1.Term==s0_ReplicaTerm))
else
(Ea s0_ReplicaCommit a false)
def Jc (vto:Int)(m:Message)(s0_ReplicaID:Int)(s0_ReplicaMany:Int)(s0_ReplicaTerm:Int)(s0_ReplicaVote:Int)(s0_ReplicaLog:List Record)(s0_ReplicaRole:Int)(s0_ReplicaCommit:Int)(s0_ReplicaMatch:List Int)(l:List Message):R (List Message):=
 if(l.length+[({ Kind:=m.Kind,From:=s0_ReplicaID,To:=vto,Term:=s0_ReplicaTerm,Last:=m.Last,LastTerm:=m.LastTerm,Log:=m.Log,Commit:=m.Commit,Match:=m.Match,Granted:=m.Granted }:Message)].length) * 96≤B5 then
 .ok (l++[({ Kind:=m.Kind,From:=s0_ReplicaID,To:=vto,Term:=s0_ReplicaTerm,Last:=m.Last,LastTerm:=m.LastTerm,Log:=m.Log,Commit:=m.Commit,Match:=m.Match,Granted:=m.Granted }:Message)]) else .bad
def Hb (m:Message)(s_ReplicaID:Int)(s_ReplicaMany:Int)(s_ReplicaTerm:Int)(s_ReplicaVote:Int)(s_ReplicaLog:List Record)(s_ReplicaRole:Int)(s_ReplicaCommit:Int)(s_ReplicaMatch:List Int)(x:Int)(l:List Message):R ((Int×(List Message)) ⊕ (List Message)):=
 if x<s_ReplicaMany then
(if(x != s_ReplicaID) then
((Jc x m s_ReplicaID s_ReplicaMany s_ReplicaTerm s_ReplicaVote s_ReplicaLog s_ReplicaRole s_ReplicaCommit s_ReplicaMatch l).bind fun r=>
 .ok (.inl ((IntKind.wrap .i64 (x+1)),r)))
else
(.ok (.inl ((IntKind.wrap .i64 (x+1)),l))))
else
(.ok (.inr (l)))
def It (l1:List Message):R (List Message):=
 .ok l1
def Fj (m:Message)(s_ReplicaID:Int)(s_ReplicaMany:Int)(s_ReplicaTerm:Int)(s_ReplicaVote:Int)(s_ReplicaLog:List Record)(s_ReplicaRole:Int)(s_ReplicaCommit:Int)(s_ReplicaMatch:List Int):R (List Message):=
 (loop (D4 fun x l=>Hb m s_ReplicaID s_ReplicaMany s_ReplicaTerm s_ReplicaVote s_ReplicaLog s_ReplicaRole s_ReplicaCommit s_ReplicaMatch x l) (0,[])).bind (fun l1=>It l1)
def F3 (s_ReplicaID:Int)(s_ReplicaMany:Int)(s_ReplicaTerm:Int)(s_ReplicaVote:Int)(s_ReplicaLog:List Record)(s_ReplicaRole:Int)(s_ReplicaCommit:Int)(s_ReplicaMatch:List Int):R (List Message):=
 (Fj ({ Kind:=3,From:=0,To:=0,Term:=0,Last:=0,LastTerm:=0,Log:=s_ReplicaLog,Commit:=s_ReplicaCommit,Match:=0,Granted:=false }:Message) s_ReplicaID s_ReplicaMany s_ReplicaTerm s_ReplicaVote s_ReplicaLog s_ReplicaRole s_ReplicaCommit s_ReplicaMatch).bind fun r=>
 .ok r
def Gt (s0_ReplicaID:Int)(s0_ReplicaMany:Int)(s0_ReplicaTerm:Int)(s0_ReplicaVote:Int)(s0_ReplicaLog:List Record)(s0_ReplicaCommit:Int)(l:List Bool)(l1:List Int):R (Int×(List Int)×(List Message)):=
 (C5 l1 s0_ReplicaID).bind fun a=>
 (Ef s0_ReplicaID s0_ReplicaMany s0_ReplicaTerm s0_ReplicaVote s0_ReplicaLog 2 s0_ReplicaCommit l (l1.set s0_ReplicaID.toNat (s0_ReplicaLog.length:Int))).bind fun r=>
 (F3 s0_ReplicaID s0_ReplicaMany s0_ReplicaTerm s0_ReplicaVote s0_ReplicaLog 2 r (l1.set s0_ReplicaID.toNat (s0_ReplicaLog.length:Int))).bind fun r1=>
 .ok (r,(l1.set s0_ReplicaID.toNat (s0_ReplicaLog.length:Int)),r1)
def E7 (s0_ReplicaID:Int)(s0_ReplicaMany:Int)(s0_ReplicaTerm:Int)(s0_ReplicaVote:Int)(s0_ReplicaLog:List Record)(s0_ReplicaRole:Int)(s0_ReplicaCommit:Int)(s0_ReplicaMatch:List Int)(l:List Bool):R (Int×(List Int)×(List Message)):=
 if(0:Int)≤s0_ReplicaMany∧(s0_ReplicaMany:Int)≤s0_ReplicaMany∧(Int.toNat s0_ReplicaMany) * 8≤B5 then
 Gt s0_ReplicaID s0_ReplicaMany s0_ReplicaTerm s0_ReplicaVote s0_ReplicaLog s0_ReplicaCommit l (List.replicate (Int.toNat s0_ReplicaMany) (0:Int)) else .bad
def Ig (j:Nat)(n:Int)(x2:List Bool):R (Int×(List Bool)):=
 (C5 x2 (j:Int)).bind fun a2=>
 if a2 then
(.ok ((IntKind.wrap .i64 (n+1)),x2))
else
(.ok (n,x2))
def Fr (m:Message)(s_Replica:Replica)(x:Bool):R (Int×Int×(List Bool)×(List Int)×(List Message)):=
 if x then
(.ok (s_Replica.Role,s_Replica.Commit,s_Replica.Votes,s_Replica.Match,[]))
else
((M6 s_Replica.Votes).bind fun r=>
 (C5 r m.From).bind fun a=>
 (Fy (fun j _=>D4 fun n x2=>Ig j n x2) 0 (r.set m.From.toNat true) (0,(r.set m.From.toNat true))).bind ((D4 fun n x2=>if(IntKind.wrap .i64 (2 * n)) > s_Replica.Many then
((E7 s_Replica.ID s_Replica.Many s_Replica.Term s_Replica.Vote s_Replica.Log s_Replica.Role s_Replica.Commit s_Replica.Match x2).bind fun r1=>
 .ok (2,r1.1,x2,r1.2.1,r1.2.2))
else
(.ok (s_Replica.Role,s_Replica.Commit,x2,s_Replica.Match,[])))))
def H2 (m:Message)(s_Replica:Replica):R (Int×Int×(List Bool)×(List Int)×(List Message)):=
 if(s_Replica.Role != 1) then
(Fr m s_Replica true)
else
(if(m.Term != s_Replica.Term) then
(Fr m s_Replica true)
else
(Fr m s_Replica (!m.Granted)))
def Me (a:List Record)(b:List Record):R Unit:=
 .ok ()
section
variable {σ_ ε_:Type}
def J1 (b:List Record)(c:List Record)(b_:Record→Record→σ_→R (σ_ ⊕ ε_))(x:Int)(s:σ_):R ((Int×σ_) ⊕ (σ_ ⊕ (σ_ ⊕ ε_))):=
 if x<(if(c.length:Int)<(b.length:Int) then(c.length:Int) else(b.length:Int)) then
((C5 b x).bind fun a=>
 (C5 c x).bind fun a1=>
 (b_ a a1 s).bind (Ga (fun s1=>
 .ok (.inl ((IntKind.wrap .i64 (x+1)),s1))) (fun e=>
 .ok (.inr (.inr ((.inr e)))))))
else
(.ok (.inr (.inl (s))))
def J5 (s2:σ_):R (σ_ ⊕ ε_):=
 .ok (.inl s2)
def Kb (b:List Record)(c:List Record)(b_:Record→Record→σ_→R (σ_ ⊕ ε_))(s_:σ_):R (σ_ ⊕ ε_):=
 (loop (D4 fun x s=>J1 b c b_ x s) (0,s_)).bind (Ga (fun s2=>J5 s2) (fun r=>.ok r))
end
def M5 (a1:Record)(a2:Record):R (Unit ⊕ Unit):=
 if((a1.Term != a2.Term)||(!((C0 a1.Data)==(C0 a2.Data)))) then
(.ok (.inr ()))
else
(.ok (.inl ()))
def Ld (a:List Record)(b:List Record):R Bool:=
 (Me a b).bind fun _=>
 (Kb a b (fun a1 a2 z_=>R.np ((fun _=>M5 a1 a2) z_)) ()).bind (Ga (fun _=>.ok (decide ((a.length:Int)≤(b.length:Int)))) (fun _=>.ok false))
def Kr (vto:Int)(mKind:Int)(mFrom:Int)(mTo:Int)(mTerm:Int)(mLast:Int)(mLastTerm:Int)(mCommit:Int)(mMatch:Int)(mGranted:Bool)(s_ReplicaID:Int)(s_ReplicaMany:Int)(s_ReplicaTerm:Int)(s_ReplicaVote:Int)(s_ReplicaLog:List Record)(s_ReplicaRole:Int)(s_ReplicaCommit:Int):R (List Message):=
 if [({ Kind:=mKind,From:=s_ReplicaID,To:=vto,Term:=s_ReplicaTerm,Last:=mLast,LastTerm:=mLastTerm,Log:=[],Commit:=mCommit,Match:=mMatch,Granted:=mGranted }:Message)].length * 96≤B5 then
 .ok [({ Kind:=mKind,From:=s_ReplicaID,To:=vto,Term:=s_ReplicaTerm,Last:=mLast,LastTerm:=mLastTerm,Log:=[],Commit:=mCommit,Match:=mMatch,Granted:=mGranted }:Message)] else .bad
def F8 (m:Message)(s_Replica:Replica)(r1:((List Bool)×(List Int)))(vLog:List Record):R ((List Record)×Int×Int×(List Bool)×(List Int)×(List Message)):=
 (Kr m.From 4 0 0 0 0 0 0 (m.Log.length:Int) true s_Replica.ID s_Replica.Many s_Replica.Term s_Replica.Vote vLog 0 (if m.Commit > s_Replica.Commit then m.Commit else s_Replica.Commit)).bind fun r5=>
 .ok (vLog,0,(if m.Commit > s_Replica.Commit then m.Commit else s_Replica.Commit),r1.1,r1.2,r5)
def Hh (m:Message)(s_Replica:Replica):R ((List Record)×Int×Int×(List Bool)×(List Int)×(List Message)):=
 if m.Term<s_Replica.Term then
((H7 m.From 4 0 0 0 0 0 0 0 false s_Replica).bind fun r=>
 .ok (s_Replica.Log,s_Replica.Role,s_Replica.Commit,s_Replica.Votes,s_Replica.Match,r))
else
(if(s_Replica.Role==2) then
(.ok (s_Replica.Log,s_Replica.Role,s_Replica.Commit,s_Replica.Votes,s_Replica.Match,[]))
else
((Cp s_Replica).bind fun r1=>
 (Ld m.Log s_Replica.Log).bind fun r2=>
 if r2 then
(F8 m s_Replica r1 s_Replica.Log)
else
(if(0:Int)≤s_Replica.Commit∧s_Replica.Commit≤(s_Replica.Log.length:Int) then
 (Ld (s_Replica.Log.take (Int.toNat s_Replica.Commit)) m.Log).bind fun r3=>
 (Bj r3 470).bind fun _=>
 F8 m s_Replica r1 m.Log else .bad)))
def Fs (s0_ReplicaID:Int)(s0_ReplicaMany:Int)(s0_ReplicaTerm:Int)(s0_ReplicaVote:Int)(s0_ReplicaLog:List Record)(s0_ReplicaRole:Int)(s0_ReplicaCommit:Int)(s0_ReplicaVotes:List Bool)(l:List Int)(a:Int)(x:Bool):R Replica:=
 if x then
(.ok ({ ID:=s0_ReplicaID,Many:=s0_ReplicaMany,Term:=s0_ReplicaTerm,Vote:=s0_ReplicaVote,Log:=s0_ReplicaLog,Role:=s0_ReplicaRole,Commit:=a,Votes:=s0_ReplicaVotes,Match:=l }:Replica))
else
(.ok ({ ID:=s0_ReplicaID,Many:=s0_ReplicaMany,Term:=s0_ReplicaTerm,Vote:=s0_ReplicaVote,Log:=s0_ReplicaLog,Role:=s0_ReplicaRole,Commit:=s0_ReplicaCommit,Votes:=s0_ReplicaVotes,Match:=l }:Replica))
def Gr (s0_ReplicaID:Int)(s0_ReplicaMany:Int)(s0_ReplicaTerm:Int)(s0_ReplicaVote:Int)(s0_ReplicaLog:List Record)(s0_ReplicaRole:Int)(s0_ReplicaCommit:Int)(s0_ReplicaVotes:List Bool)(l:List Int):R Replica:=
 (Eg l).bind fun _=>
 (Dv l).bind fun l1=>
 (C5 l1 (IntKind.wrap .i64 (Int.tdiv (IntKind.wrap .i64 ((l1.length:Int) - 1)) 2))).bind fun a=>
 if(decide (a > s0_ReplicaCommit)) then
((C5 s0_ReplicaLog (IntKind.wrap .i64 (a - 1))).bind fun a1=>
 Fs s0_ReplicaID s0_ReplicaMany s0_ReplicaTerm s0_ReplicaVote s0_ReplicaLog s0_ReplicaRole s0_ReplicaCommit s0_ReplicaVotes l a (a1.Term==s0_ReplicaTerm))
else
(Fs s0_ReplicaID s0_ReplicaMany s0_ReplicaTerm s0_ReplicaVote s0_ReplicaLog s0_ReplicaRole s0_ReplicaCommit s0_ReplicaVotes l a false)
def F7 (m:Message)(s_Replica:Replica)(x:Bool):R Replica:=
 if x then
(.ok s_Replica)
else
((Bj (decide (m.Match≤(s_Replica.Log.length:Int))) 470).bind fun _=>
 (I0 s_Replica.Match).bind fun r1=>
 (C5 r1 m.From).bind fun a=>
 (Gr s_Replica.ID s_Replica.Many s_Replica.Term s_Replica.Vote s_Replica.Log s_Replica.Role s_Replica.Commit s_Replica.Votes (r1.set m.From.toNat (if m.Match > a then m.Match else a))).bind fun r2=>
 .ok r2)
def In (m:Message)(s_Replica:Replica):R Replica:=
 if(s_Replica.Role != 2) then
(F7 m s_Replica true)
else
(if(m.Term != s_Replica.Term) then
(F7 m s_Replica true)
else
(F7 m s_Replica (!m.Granted)))
def En (n:Int):R Int:=
 (E2 ({ fE:=n }:T98)).bind fun _=>
 .ok (({ fE:=n }:T98).fE)
def Dt (m:Message)(vID1:Int)(vMany1:Int)(vTerm1:Int)(vVote1:Int)(vLog1:List Record)(vRole1:Int)(vCommit1:Int)(vVotes1:List Bool)(vMatch1:List Int):R (Replica×(List Message)×Int):=
 if m.Kind=0 then
(.bad)
else
(if m.Kind=1 then
((J2 m ({ ID:=vID1,Many:=vMany1,Term:=vTerm1,Vote:=vVote1,Log:=vLog1,Role:=vRole1,Commit:=vCommit1,Votes:=vVotes1,Match:=vMatch1 }:Replica)).bind fun r10=>
 .ok (r10.1,r10.2,0))
else
(if m.Kind=2 then
((H2 m ({ ID:=vID1,Many:=vMany1,Term:=vTerm1,Vote:=vVote1,Log:=vLog1,Role:=vRole1,Commit:=vCommit1,Votes:=vVotes1,Match:=vMatch1 }:Replica)).bind fun r11=>
 .ok (({ ID:=(({ ID:=vID1,Many:=vMany1,Term:=vTerm1,Vote:=vVote1,Log:=vLog1,Role:=vRole1,Commit:=vCommit1,Votes:=vVotes1,Match:=vMatch1 }:Replica).ID),Many:=(({ ID:=vID1,Many:=vMany1,Term:=vTerm1,Vote:=vVote1,Log:=vLog1,Role:=vRole1,Commit:=vCommit1,Votes:=vVotes1,Match:=vMatch1 }:Replica).Many),Term:=(({ ID:=vID1,Many:=vMany1,Term:=vTerm1,Vote:=vVote1,Log:=vLog1,Role:=vRole1,Commit:=vCommit1,Votes:=vVotes1,Match:=vMatch1 }:Replica).Term),Vote:=(({ ID:=vID1,Many:=vMany1,Term:=vTerm1,Vote:=vVote1,Log:=vLog1,Role:=vRole1,Commit:=vCommit1,Votes:=vVotes1,Match:=vMatch1 }:Replica).Vote),Log:=(({ ID:=vID1,Many:=vMany1,Term:=vTerm1,Vote:=vVote1,Log:=vLog1,Role:=vRole1,Commit:=vCommit1,Votes:=vVotes1,Match:=vMatch1 }:Replica).Log),Role:=r11.1,Commit:=r11.2.1,Votes:=r11.2.2.1,Match:=r11.2.2.2.1 }:Replica),r11.2.2.2.2,0))
else
(if m.Kind=3 then
((Hh m ({ ID:=vID1,Many:=vMany1,Term:=vTerm1,Vote:=vVote1,Log:=vLog1,Role:=vRole1,Commit:=vCommit1,Votes:=vVotes1,Match:=vMatch1 }:Replica)).bind fun r12=>
 .ok (({ ID:=(({ ID:=vID1,Many:=vMany1,Term:=vTerm1,Vote:=vVote1,Log:=vLog1,Role:=vRole1,Commit:=vCommit1,Votes:=vVotes1,Match:=vMatch1 }:Replica).ID),Many:=(({ ID:=vID1,Many:=vMany1,Term:=vTerm1,Vote:=vVote1,Log:=vLog1,Role:=vRole1,Commit:=vCommit1,Votes:=vVotes1,Match:=vMatch1 }:Replica).Many),Term:=(({ ID:=vID1,Many:=vMany1,Term:=vTerm1,Vote:=vVote1,Log:=vLog1,Role:=vRole1,Commit:=vCommit1,Votes:=vVotes1,Match:=vMatch1 }:Replica).Term),Vote:=(({ ID:=vID1,Many:=vMany1,Term:=vTerm1,Vote:=vVote1,Log:=vLog1,Role:=vRole1,Commit:=vCommit1,Votes:=vVotes1,Match:=vMatch1 }:Replica).Vote),Log:=r12.1,Role:=r12.2.1,Commit:=r12.2.2.1,Votes:=r12.2.2.2.1,Match:=r12.2.2.2.2.1 }:Replica),r12.2.2.2.2.2,0))
else
(if m.Kind=4 then
((In m ({ ID:=vID1,Many:=vMany1,Term:=vTerm1,Vote:=vVote1,Log:=vLog1,Role:=vRole1,Commit:=vCommit1,Votes:=vVotes1,Match:=vMatch1 }:Replica)).bind fun r13=>
 .ok (r13,[],0))
else
(.bad)))))
def K3 (r:Replica)(m:Message):R (Replica×(List Message)×Int):=
 (C8 r).bind fun r1=>
 if(r1 != 0) then
(.ok (({ ID:=0,Many:=0,Term:=0,Vote:=0,Log:=[],Role:=0,Commit:=0,Votes:=[],Match:=[] }:Replica),[],r1))
else
((Bv m.Kind 1 4).bind fun r2=>
 (if(r2&&(m.To==r.ID)) then(Bv m.From 0 (IntKind.wrap .i64 (r.Many - 1))).bind fun r3=>
 R.ok r3 else R.ok false).bind (fun(b:Bool)=>(if(b&&(m.From != r.ID)) then(Bv m.Term 1 1048576).bind fun r4=>
 R.ok r4 else R.ok false).bind (fun(b1:Bool)=>(Bj b1 470).bind fun _=>
 (if(decide ((if m.Match<(if m.LastTerm<m.Last then m.LastTerm else m.Last) then m.Match else(if m.LastTerm<m.Last then m.LastTerm else m.Last))≥0)) then(Bv m.Commit 0 (m.Log.length:Int)).bind fun r6=>
 R.ok r6 else R.ok false).bind (fun(b2:Bool)=>(if b2 then(Gh m.Log m.Term).bind fun r7=>
 R.ok r7 else R.ok false).bind (fun(b3:Bool)=>(Bj b3 470).bind fun _=>
 (Dz r).bind fun _=>
 if m.Term > r.Term then
((Cp ({ ID:=r.ID,Many:=r.Many,Term:=m.Term,Vote:=(-1),Log:=r.Log,Role:=r.Role,Commit:=r.Commit,Votes:=r.Votes,Match:=r.Match }:Replica)).bind fun r9=>
 Dt m (({ ID:=r.ID,Many:=r.Many,Term:=m.Term,Vote:=(-1),Log:=r.Log,Role:=r.Role,Commit:=r.Commit,Votes:=r.Votes,Match:=r.Match }:Replica).ID) (({ ID:=r.ID,Many:=r.Many,Term:=m.Term,Vote:=(-1),Log:=r.Log,Role:=r.Role,Commit:=r.Commit,Votes:=r.Votes,Match:=r.Match }:Replica).Many) (({ ID:=r.ID,Many:=r.Many,Term:=m.Term,Vote:=(-1),Log:=r.Log,Role:=r.Role,Commit:=r.Commit,Votes:=r.Votes,Match:=r.Match }:Replica).Term) (({ ID:=r.ID,Many:=r.Many,Term:=m.Term,Vote:=(-1),Log:=r.Log,Role:=r.Role,Commit:=r.Commit,Votes:=r.Votes,Match:=r.Match }:Replica).Vote) (({ ID:=r.ID,Many:=r.Many,Term:=m.Term,Vote:=(-1),Log:=r.Log,Role:=r.Role,Commit:=r.Commit,Votes:=r.Votes,Match:=r.Match }:Replica).Log) 0 (({ ID:=r.ID,Many:=r.Many,Term:=m.Term,Vote:=(-1),Log:=r.Log,Role:=r.Role,Commit:=r.Commit,Votes:=r.Votes,Match:=r.Match }:Replica).Commit) r9.1 r9.2)
else
(Dt m r.ID r.Many r.Term r.Vote r.Log r.Role r.Commit r.Votes r.Match))))))
def Mm (r:Replica)(m:Message):R (Replica×(List Message)×Int):=
 (K3 r m).catch' (Id 99 .i64 (fun n=>(En n).bind fun p=>.ok (({ ID:=0,Many:=0,Term:=0,Vote:=0,Log:=[],Role:=0,Commit:=0,Votes:=[],Match:=[] }:Replica),[],p)) (fun _=>.bad))
def Ii (s0_ReplicaID:Int)(s0_ReplicaMany:Int)(s0_ReplicaTerm:Int)(s0_ReplicaVote:Int)(s0_ReplicaLog:List Record)(s0_ReplicaCommit:Int)(l:List Bool)(l1:List Int):R (Int×(List Int)×(List Message)):=
 (C5 l1 s0_ReplicaID).bind fun a=>
 (Ef s0_ReplicaID s0_ReplicaMany s0_ReplicaTerm s0_ReplicaVote s0_ReplicaLog 2 s0_ReplicaCommit l (l1.set s0_ReplicaID.toNat (s0_ReplicaLog.length:Int))).bind fun r=>
 (F3 s0_ReplicaID s0_ReplicaMany s0_ReplicaTerm s0_ReplicaVote s0_ReplicaLog 2 r (l1.set s0_ReplicaID.toNat (s0_ReplicaLog.length:Int))).bind fun r1=>
 .ok (r,(l1.set s0_ReplicaID.toNat (s0_ReplicaLog.length:Int)),r1)
def F6 (s0_ReplicaID:Int)(s0_ReplicaMany:Int)(s0_ReplicaTerm:Int)(s0_ReplicaVote:Int)(s0_ReplicaLog:List Record)(s0_ReplicaRole:Int)(s0_ReplicaCommit:Int)(l:List Bool):R (Int×(List Int)×(List Message)):=
 if(0:Int)≤s0_ReplicaMany∧(s0_ReplicaMany:Int)≤s0_ReplicaMany∧(Int.toNat s0_ReplicaMany) * 8≤B5 then
 Ii s0_ReplicaID s0_ReplicaMany s0_ReplicaTerm s0_ReplicaVote s0_ReplicaLog s0_ReplicaCommit l (List.replicate (Int.toNat s0_ReplicaMany) (0:Int)) else .bad
def Je (vto:Int)(mKind:Int)(mFrom:Int)(mTo:Int)(mTerm:Int)(mLast:Int)(mLastTerm:Int)(mCommit:Int)(mMatch:Int)(mGranted:Bool)(s0_ReplicaID:Int)(s0_ReplicaMany:Int)(s0_ReplicaTerm:Int)(s0_ReplicaVote:Int)(s0_ReplicaLog:List Record)(s0_ReplicaRole:Int)(s0_ReplicaCommit:Int)(l:List Message):R (List Message):=
 if(l.length+[({ Kind:=mKind,From:=s0_ReplicaID,To:=vto,Term:=s0_ReplicaTerm,Last:=mLast,LastTerm:=mLastTerm,Log:=[],Commit:=mCommit,Match:=mMatch,Granted:=mGranted }:Message)].length) * 96≤B5 then
 .ok (l++[({ Kind:=mKind,From:=s0_ReplicaID,To:=vto,Term:=s0_ReplicaTerm,Last:=mLast,LastTerm:=mLastTerm,Log:=[],Commit:=mCommit,Match:=mMatch,Granted:=mGranted }:Message)]) else .bad
def Hf (mKind:Int)(mFrom:Int)(mTo:Int)(mTerm:Int)(mLast:Int)(mLastTerm:Int)(mCommit:Int)(mMatch:Int)(mGranted:Bool)(s_ReplicaID:Int)(s_ReplicaMany:Int)(s_ReplicaTerm:Int)(s_ReplicaVote:Int)(s_ReplicaLog:List Record)(s_ReplicaRole:Int)(s_ReplicaCommit:Int)(x:Int)(l:List Message):R ((Int×(List Message)) ⊕ (List Message)):=
 if x<s_ReplicaMany then
(if(x != s_ReplicaID) then
((Je x mKind mFrom mTo mTerm mLast mLastTerm mCommit mMatch mGranted s_ReplicaID s_ReplicaMany s_ReplicaTerm s_ReplicaVote s_ReplicaLog s_ReplicaRole s_ReplicaCommit l).bind fun r=>
 .ok (.inl ((IntKind.wrap .i64 (x+1)),r)))
else
(.ok (.inl ((IntKind.wrap .i64 (x+1)),l))))
else
(.ok (.inr (l)))
def Iu (l1:List Message):R (List Message):=
 .ok l1
def Fi (mKind:Int)(mFrom:Int)(mTo:Int)(mTerm:Int)(mLast:Int)(mLastTerm:Int)(mCommit:Int)(mMatch:Int)(mGranted:Bool)(s_ReplicaID:Int)(s_ReplicaMany:Int)(s_ReplicaTerm:Int)(s_ReplicaVote:Int)(s_ReplicaLog:List Record)(s_ReplicaRole:Int)(s_ReplicaCommit:Int):R (List Message):=
 (loop (D4 fun x l=>Hf mKind mFrom mTo mTerm mLast mLastTerm mCommit mMatch mGranted s_ReplicaID s_ReplicaMany s_ReplicaTerm s_ReplicaVote s_ReplicaLog s_ReplicaRole s_ReplicaCommit x l) (0,[])).bind (fun l1=>Iu l1)
def E0 (r:Replica):R (Replica×(List Message)×Int):=
 (C8 r).bind fun e=>
 if(e != 0) then
(.ok (({ ID:=0,Many:=0,Term:=0,Vote:=0,Log:=[],Role:=0,Commit:=0,Votes:=[],Match:=[] }:Replica),[],e))
else
(if(r.Term==1048576) then
(.ok (({ ID:=0,Many:=0,Term:=0,Vote:=0,Log:=[],Role:=0,Commit:=0,Votes:=[],Match:=[] }:Replica),[],2))
else
((Dz r).bind fun _=>
 (Cp r).bind fun r1=>
 (C5 r1.1 r.ID).bind fun a=>
 if(r.Many==1) then
((F6 r.ID r.Many (IntKind.wrap .i64 (r.Term+1)) r.ID r.Log 1 r.Commit (r1.1.set r.ID.toNat true)).bind fun r2=>
 .ok (({ ID:=r.ID,Many:=r.Many,Term:=(IntKind.wrap .i64 (r.Term+1)),Vote:=r.ID,Log:=r.Log,Role:=2,Commit:=r2.1,Votes:=(r1.1.set r.ID.toNat true),Match:=r2.2.1 }:Replica),r2.2.2,0))
else
((Fv ({ Replica:=({ ID:=r.ID,Many:=r.Many,Term:=(IntKind.wrap .i64 (r.Term+1)),Vote:=r.ID,Log:=r.Log,Role:=1,Commit:=r.Commit,Votes:=(r1.1.set r.ID.toNat true),Match:=r1.2 }:Replica),fSent:=[] }:T61)).bind fun r3=>
 (Fi 1 0 0 0 (r.Log.length:Int) r3 0 0 false r.ID r.Many (IntKind.wrap .i64 (r.Term+1)) r.ID r.Log 1 r.Commit).bind fun r4=>
 .ok (({ ID:=r.ID,Many:=r.Many,Term:=(IntKind.wrap .i64 (r.Term+1)),Vote:=r.ID,Log:=r.Log,Role:=1,Commit:=r.Commit,Votes:=(r1.1.set r.ID.toNat true),Match:=r1.2 }:Replica),r4,0))))
def Dd (n:Int):R Value:=
 .ok ({ Kind:=1,N:=n,S:=[],L:=[] }:Value)
def Jq (W_:Value→R (Int×Bool))(a:Value)(depth:Int):R (Int ⊕ (Int×Bool)):=
 (W_ a).bind fun r=>
 if r.2 then
(.ok (.inl (if r.1 > depth then r.1 else depth)))
else
(.ok (.inr ((0,false))))
def Nr (W_:Value→R (Int×Bool))(v:Value):R (Int×Bool):=
 (if((decide (v.Kind<1))||(decide (v.Kind > 3))) then R.ok true else if(0:Int)≤v.Kind∧v.Kind<4 then
 R.ok (!(Yg (#v[false,((v.S==[])&&((v.L.length:Int)==0)),((v.N==0)&&((v.L.length:Int)==0)),((v.N==0)&&(v.S==[]))]:(Vector Bool 4)) (Int.toNat v.Kind) false)) else .bad).bind (fun(b:Bool)=>if b then
(.ok (0,false))
else
(if v.Kind<3 then
(.ok (0,true))
else
((each (fun _ a=>fun depth=>Jq W_ a depth) 0 v.L 0).bind (Ga (fun depth=>.ok ((IntKind.wrap .i64 (depth+1)),true)) (fun r=>.ok r)))))
def Ng:Nat→Value→R (Int×Bool)
 | 0,_=>.bad
 | n+1,v=>Nr (Ng n) v
def Rm (v:Value):R (Int×Bool):=Ng X3 v
def Qr (v:Value):R Int:=
 (Rm v).bind fun r=>
 if r.2 then
(if r.1 > 16 then
(.ok 2)
else
(.ok 0))
else
(.ok 1)
def K7:R Unit:=
 .ok ()
def Ps (n:Int):R Int:=
 .ok (S2 .u64 (Pm .u64 (IntKind.wrap .u64 n) 1) (IntKind.wrap .u64 (Int.fdiv n 9223372036854775808)))
def Kg (u1:Int)(b:List Int):R ((Int×(List Int)) ⊕ (Int×(List Int))):=
 if u1≥128 then
(if(b.length+[(Sn .u8 (IntKind.wrap .u8 u1) 128)].length) * 1≤B5 then
 .ok (.inl ((Int.fdiv u1 128),(b++[(Sn .u8 (IntKind.wrap .u8 u1) 128)]))) else .bad)
else
(.ok (.inr ((u1,b))))
def Kk (u2:Int)(b1:List Int):R (List Int):=
 if(b1.length+[(IntKind.wrap .u8 u2)].length) * 1≤B5 then
 .ok (b1++[(IntKind.wrap .u8 u2)]) else .bad
def Hq (u:Int)(l:List Int):R (List Int):=
 (loop (D4 fun u1 b=>Kg u1 b) (u,l)).bind (D4 fun u2 b1=>Kk u2 b1)
def F0 (v1:Value)(l:List Int):R (List Int):=
 if(l.length+[1].length) * 1≤B5 then
 (Ps v1.N).bind fun r=>
 (Hq r (l++[1])).bind fun r1=>
 .ok r1 else .bad
def Fx (v1:Value)(l:List Int):R (List Int):=
 if(l.length+[2].length) * 1≤B5 then
 (Hq (IntKind.wrap .u64 (v1.S.length:Int)) (l++[2])).bind fun r=>
 if(r.length+(G0 v1.S).length) * 1≤B5 then
 .ok (r++(G0 v1.S)) else .bad else .bad
def Gu (W_:Value→(List Int)→R (List Int))(a:Value)(b1:List Int):R (List Int):=
 if a.Kind=0 then
(.bad)
else
(if a.Kind=1 then
((F0 a b1).bind fun b2=>
 .ok b2)
else
(if a.Kind=2 then
((Fx a b1).bind fun b3=>
 .ok b3)
else
(if a.Kind=3 then
((W_ a b1).bind fun b4=>
 .ok b4)
else
(.bad))))
def Hd (W_:Value→(List Int)→R (List Int))(v1:Value)(l:List Int):R (List Int):=
 if(l.length+[3].length) * 1≤B5 then
 (Hq (IntKind.wrap .u64 (v1.L.length:Int)) (l++[3])).bind fun b=>
 (Fy (fun _ a=>fun b1=>Gu W_ a b1) 0 v1.L b).bind ((fun b1=>.ok b1)) else .bad
def He:Nat→Value→(List Int)→R (List Int)
 | 0,_,_=>.bad
 | n+1,v1,l=>Hd (He n) v1 l
def Ju (v1:Value)(l:List Int):R (List Int):=He X3 v1 l
def Hw (a:Value)(b1:List Int):R (List Int):=
 if a.Kind=0 then
(.bad)
else
(if a.Kind=1 then
((F0 a b1).bind fun b2=>
 .ok b2)
else
(if a.Kind=2 then
((Fx a b1).bind fun b3=>
 .ok b3)
else
(if a.Kind=3 then
((Ju a b1).bind fun b4=>
 .ok b4)
else
(.bad))))
def Jf (v1:Value):R (List Int):=
 if [3].length * 1≤B5 then
 (Hq (IntKind.wrap .u64 (v1.L.length:Int)) [3]).bind fun b=>
 (Fy (fun _ a=>fun b1=>Hw a b1) 0 v1.L b).bind ((fun b1=>.ok b1)) else .bad
def M9 (v:Value):R ((List Int)×Int):=
 (Qr v).bind fun e=>
 if(e != 0) then
(.ok ([],e))
else
((K7).bind fun _=>
 if v.Kind=0 then
(.bad)
else
(if v.Kind=1 then
((F0 v []).bind fun b=>
 .ok (b,0))
else
(if v.Kind=2 then
((Fx v []).bind fun b1=>
 .ok (b1,0))
else
(if v.Kind=3 then
((Jf v).bind fun b2=>
 .ok (b2,0))
else
(.bad)))))
def K6 (a:Record)(l:List Value):R (List Value):=
 (Dd a.Term).bind fun r=>
 if(l.length+[({ Kind:=3,N:=0,S:=[],L:=[r,({ Kind:=2,N:=0,S:=(C0 a.Data),L:=[] }:Value)] }:Value)].length) * 56≤B5 then
 .ok (l++[({ Kind:=3,N:=0,S:=[],L:=[r,({ Kind:=2,N:=0,S:=(C0 a.Data),L:=[] }:Value)] }:Value)]) else .bad
def Hi (m:Message)(l:List Value)(granted:Int):R ((List Int)×Int):=
 (Dd m.Kind).bind fun r1=>
 (Dd m.From).bind fun r2=>
 (Dd m.To).bind fun r3=>
 (Dd m.Term).bind fun r4=>
 (Dd m.Last).bind fun r5=>
 (Dd m.LastTerm).bind fun r6=>
 (Dd m.Commit).bind fun r7=>
 (Dd m.Match).bind fun r8=>
 (Dd granted).bind fun r9=>
 (M9 ({ Kind:=3,N:=0,S:=[],L:=[r1,r2,r3,r4,r5,r6,({ Kind:=3,N:=0,S:=[],L:=l }:Value),r7,r8,r9] }:Value)).bind fun r10=>
 .ok (r10.1,r10.2)
def Na (m:Message):R ((List Int)×Int):=
 (Fy (fun _ a=>fun l=>K6 a l) 0 m.Log []).bind ((fun l=>if m.Granted then
(Hi m l 1)
else
(Hi m l 0)))
def Em (r:T102)(ok:Bool):R Unit:=
 if ok then
(.ok ())
else
(.pan ⟨30,.int .i64 10⟩)
def Hj (n:Int)(s:T102):R Unit:=
 (Em s (decide (n≤(s.fRest.length:Int)))).bind fun _=>
 if(0:Int)≤n∧n≤(s.fRest.length:Int) then
 if(0:Int)≤n∧n≤(s.fRest.length:Int) then
 .ok () else .bad else .bad
def Ir (u:Int)(i:Int)(fRest:List Int):R ((Int×Int×(List Int)) ⊕ (Int×T102)):=
 (Hj 1 ({ fRest:=fRest }:T102)).bind fun _=>
 (C5 (({ fRest:=fRest }:T102).fRest.take 1) 0).bind fun a=>
 (Em ({ fRest:=(({ fRest:=fRest }:T102).fRest.drop 1) }:T102) (((i==0)||(a != 0))&&((decide (i<9))||(decide (a≤1))))).bind fun _=>
 if(0:Int)≤(IntKind.wrap .i64 (7 * i)) then if a<128 then
(.ok (.inr (((Sn .u64 u (Pm .u64 (IntKind.wrap .u64 (Mx .u8 a 127)) (IntKind.wrap .i64 (7 * i)))),({ fRest:=(({ fRest:=fRest }:T102).fRest.drop 1) }:T102)))))
else
(.ok (.inl ((Sn .u64 u (Pm .u64 (IntKind.wrap .u64 (Mx .u8 a 127)) (IntKind.wrap .i64 (7 * i)))),(IntKind.wrap .i64 (i+1)),(({ fRest:=fRest }:T102).fRest.drop 1)))) else .bad
def Hk (s:T102):R (Int×T102):=
 (loop (Lv fun u i fRest=>Ir u i fRest) (0,0,s.fRest)).bind (fun r=>.ok r)
def Rl (u:Int):R Int:=
 .ok (S2 .i64 (IntKind.wrap .i64 (Int.fdiv u 2)) (IntKind.wrap .i64 (0 - (IntKind.wrap .i64 (Mx .u64 u 1)))))
def Hm (s:T102):R (Int×T102):=
 (Hk s).bind fun n=>
 (Em n.2 (decide (n.1≤(IntKind.wrap .u64 (n.2.fRest.length:Int))))).bind fun _=>
 .ok ((IntKind.wrap .i64 n.1),n.2)
def Hu (depth:Int)(W_:Int→T102→R (Value×T102))(r6:(Int×T102))(x:Int)(o:T102)(l:List Value):R ((Int×T102×(List Value)) ⊕ (T102×(List Value))):=
 if x<r6.1 then
((W_ (IntKind.wrap .i64 (depth+1)) o).bind fun r7=>
 if(l.length+[r7.1].length) * 56≤B5 then
 .ok (.inl ((IntKind.wrap .i64 (x+1)),r7.2,(l++[r7.1]))) else .bad)
else
(.ok (.inr ((o,l))))
def I9 (a:Int)(o1:T102)(l1:List Value):R (Value×T102):=
 .ok (({ Kind:=(IntKind.wrap .i64 a),N:=0,S:=[],L:=l1 }:Value),o1)
def Ib (W_:Int→T102→R (Value×T102))(depth:Int)(s:T102):R (Value×T102):=
 (Hj 1 s).bind fun _=>
 (C5 (s.fRest.take 1) 0).bind fun a=>
 if((IntKind.wrap .i64 a)==1) then
((Hk ({ fRest:=(s.fRest.drop 1) }:T102)).bind fun r1=>
 (Rl r1.1).bind fun r2=>
 .ok (({ Kind:=(IntKind.wrap .i64 a),N:=r2,S:=[],L:=[] }:Value),r1.2))
else
(if((IntKind.wrap .i64 a)==2) then
((Hm ({ fRest:=(s.fRest.drop 1) }:T102)).bind fun r3=>
 (Hj r3.1 r3.2).bind fun _=>
 .ok (({ Kind:=(IntKind.wrap .i64 a),N:=0,S:=(C0 (r3.2.fRest.take (Int.toNat r3.1))),L:=[] }:Value),({ fRest:=(r3.2.fRest.drop (Int.toNat r3.1)) }:T102)))
else
(if((IntKind.wrap .i64 a)==3) then
((Em ({ fRest:=(s.fRest.drop 1) }:T102) (decide (depth<16))).bind fun _=>
 (Hm ({ fRest:=(s.fRest.drop 1) }:T102)).bind fun r6=>
 (loop (Lv fun x o l=>Hu depth W_ r6 x o l) (0,r6.2,[])).bind (D4 fun o1 l1=>I9 a o1 l1))
else
((Em ({ fRest:=(s.fRest.drop 1) }:T102) false).bind fun _=>
 .ok (({ Kind:=(IntKind.wrap .i64 a),N:=0,S:=[],L:=[] }:Value),({ fRest:=(s.fRest.drop 1) }:T102)))))
def H3:Nat→Int→T102→R (Value×T102)
 | 0,_,_=>.bad
 | n+1,depth,s=>Ib (H3 n) depth s
def Kh (depth:Int)(s:T102):R (Value×T102):=H3 X3 depth s
def Fk (n:Int):R Int:=
 .ok n
def Nq (b:List Int):R (Value×Int):=
 (Kh 0 ({ fRest:=b }:T102)).bind fun r=>
 (Em r.2 ((r.2.fRest.length:Int)==0)).bind fun _=>
 .ok (r.1,0)
def Ru (b:List Int):R (Value×Int):=
 (Nq b).catch' (Lk 30 .i64 (fun n=>(Fk n).bind fun p=>.ok (({ Kind:=0,N:=0,S:=[],L:=[] }:Value),p)) (fun _=>.bad))
def Bu (i:Int)(b:Value):R Int:=
 (C5 b.L i).bind fun a=>
 (Bj (a.Kind==1) 470).bind fun _=>
 .ok a.N
def Ex (n:Int):R Int:=
 (E2 ({ fE:=n }:T98)).bind fun _=>
 .ok (({ fE:=n }:T98).fE)
def Jw (a2:Value)(l:List Record):R (List Record):=
 (if((a2.Kind==3)&&((a2.L.length:Int)==2)) then(C5 a2.L 0).bind fun a3=>
 R.ok (a3.Kind==1) else R.ok false).bind (fun(b2:Bool)=>(if b2 then(C5 a2.L 1).bind fun a4=>
 R.ok (a4.Kind==2) else R.ok false).bind (fun(b3:Bool)=>(Bj b3 470).bind fun _=>
 (C5 a2.L 0).bind fun a5=>
 (C5 a2.L 1).bind fun a6=>
 if a6.S.length≤B5 then
 if(l.length+[({ Term:=a5.N,Data:=(G0 a6.S) }:Record)].length) * 32≤B5 then
 .ok (l++[({ Term:=a5.N,Data:=(G0 a6.S) }:Record)]) else .bad else .bad))
def Ln (b:List Int):R (Message×Int):=
 (Ru b).bind fun r=>
 if(r.2 != 0) then
(.ok (({ Kind:=0,From:=0,To:=0,Term:=0,Last:=0,LastTerm:=0,Log:=[],Commit:=0,Match:=0,Granted:=false }:Message),r.2))
else
((if((r.1.Kind==3)&&((r.1.L.length:Int)==10)) then(C5 r.1.L 6).bind fun a=>
 R.ok (a.Kind==3) else R.ok false).bind (fun(b1:Bool)=>(Bj b1 470).bind fun _=>
 (Bu 0 r.1).bind fun r2=>
 (Bu 1 r.1).bind fun r3=>
 (Bu 2 r.1).bind fun r4=>
 (Bu 3 r.1).bind fun r5=>
 (Bu 4 r.1).bind fun r6=>
 (Bu 5 r.1).bind fun r7=>
 (Bu 7 r.1).bind fun r8=>
 (Bu 8 r.1).bind fun r9=>
 (Bu 9 r.1).bind fun r10=>
 (Bu 9 r.1).bind fun r11=>
 (Bv r11 0 1).bind fun r12=>
 (Bj r12 470).bind fun _=>
 (C5 r.1.L 6).bind fun a1=>
 (Fy (fun _ a2=>fun l=>Jw a2 l) 0 a1.L []).bind ((fun l=>.ok (({ Kind:=r2,From:=r3,To:=r4,Term:=r5,Last:=r6,LastTerm:=r7,Log:=l,Commit:=r8,Match:=r9,Granted:=(r10==1) }:Message),0)))))
def Nn (b:List Int):R (Message×Int):=
 (Ln b).catch' (Id 99 .i64 (fun n=>(Ex n).bind fun p=>.ok (({ Kind:=0,From:=0,To:=0,Term:=0,Last:=0,LastTerm:=0,Log:=[],Commit:=0,Match:=0,Granted:=false }:Message),p)) (fun _=>.bad))
def Ep (r:Replica)(j:Nat)(a:Record)(l:(List (List Int))):R ((List (List Int)) ⊕ (List (List Int))):=
 if(j:Int)≥r.Commit then
(.ok (.inr (l)))
else
(if(l.length+[a.Data].length) * 24≤B5 then
 .ok (.inl (l++[a.Data])) else .bad)
def H9 (l1:(List (List Int))):R (List (List Int)):=
 .ok l1
def Cv (r:Replica):R (List (List Int)):=
 (each (fun j a=>fun l=>Ep r j a l) 0 r.Log []).bind (Ga (fun l=>H9 l) (fun l1=>H9 l1))
def Ej (r:Replica):R Replica:=
 (Dz r).bind fun _=>
 (Cp r).bind fun r1=>
 .ok ({ ID:=r.ID,Many:=r.Many,Term:=r.Term,Vote:=r.Vote,Log:=r.Log,Role:=0,Commit:=0,Votes:=r1.1,Match:=r1.2 }:Replica)
def Py:R Bool:=
 (Iv 0 3).bind fun r=>
 (Iv 0 6).bind fun r1=>
 (Ey r.1 []).bind fun r2=>
 (Mm r.1 ({ Kind:=0,From:=0,To:=0,Term:=0,Last:=0,LastTerm:=0,Log:=[],Commit:=0,Match:=0,Granted:=false }:Message)).bind fun r3=>
 (Iv 0 1).bind fun r4=>
 (E0 r4.1).bind fun r5=>
 (Ey r5.1 [97]).bind fun r6=>
 (E0 r.1).bind fun r7=>
 (Mm r7.1 ({ Kind:=2,From:=2,To:=0,Term:=1,Last:=0,LastTerm:=0,Log:=[],Commit:=0,Match:=0,Granted:=true }:Message)).bind fun r8=>
 (Na ({ Kind:=3,From:=0,To:=0,Term:=0,Last:=0,LastTerm:=0,Log:=[({ Term:=3,Data:=[120] }:Record)],Commit:=1,Match:=0,Granted:=true }:Message)).bind fun r9=>
 (Nn r9.1).bind fun r10=>
 (M9 ({ Kind:=1,N:=0,S:=[],L:=[] }:Value)).bind fun r11=>
 (Nn r11.1).bind fun r12=>
 (if(((((((((((((r.2 != 0)||(r1.2 != 470))||(r2.2.2 != 470))||(r3.2.2 != 470))||(r4.2 != 0))||(r5.2.2 != 0))||(r6.2.2 != 0))||(r7.2.2 != 0))||(r8.2.2 != 0))||(r9.2 != 0))||(r10.2 != 0))||(r11.2 != 0))||(r12.2 != 470)) then R.ok true else(C8 ({ ID:=0,Many:=0,Term:=0,Vote:=0,Log:=[],Role:=0,Commit:=0,Votes:=[],Match:=[] }:Replica)).bind fun r13=>
 R.ok (r13 != 470)).bind (fun(b:Bool)=>(if b then R.ok true else(C8 r.1).bind fun r14=>
 R.ok (r14 != 0)).bind (fun(b1:Bool)=>if b1 then
(.ok false)
else
((Cv r6.1).bind fun r15=>
 (if(((r5.2.1.length:Int)==0)&&((r15.length:Int)==1)) then(C5 r15 0).bind fun a=>
 R.ok ((C0 a)==[97]) else R.ok false).bind (fun(b2:Bool)=>(if b2 then(Ej r6.1).bind fun r16=>
 (Cv r16).bind fun r17=>
 R.ok ((r17.length:Int)==0) else R.ok false).bind (fun(b3:Bool)=>(if(b3&&((r7.2.1.length:Int)==2)) then(C5 r7.2.1 0).bind fun a1=>
 R.ok (a1.Kind==1) else R.ok false).bind (fun(b4:Bool)=>(if((b4&&(r8.1.Role==2))&&((r8.2.1.length:Int)==2)) then(C5 r8.2.1 1).bind fun a2=>
 R.ok (a2.Kind==3) else R.ok false).bind (fun(b5:Bool)=>(if((b5&&r10.1.Granted)&&((r10.1.Log.length:Int)==1)) then(C5 r10.1.Log 0).bind fun a3=>
 R.ok ((C0 a3.Data)==[120]) else R.ok false).bind (fun(b6:Bool)=>.ok b6))))))))
def Pp (a:Record):R (Unit ⊕ Bool):=
 if(a.Data.length:Int) > 100 then
(.ok (.inr (false)))
else
(.ok (.inl ()))
def Sr (l:List Record):R Bool:=
 (each (fun _ a=>fun _=>Pp a) 0 l ()).bind (Ga (fun _=>.ok (decide ((l.length:Int)≤20))) (fun r=>.ok r))
def C9 (n:Int)(lo:Int)(hi:Int):R Bool:=
 .ok ((decide (lo≤n))&&(decide (n≤hi)))
def Kc (r:Replica):R Replica:=
 (C9 r.Many 0 5).bind fun r1=>
 if r1 then
(if(0:Int)≤r.Many∧(r.Many:Int)≤r.Many∧(Int.toNat r.Many) * 1≤B5 then
 if(0:Int)≤r.Many∧(r.Many:Int)≤r.Many∧(Int.toNat r.Many) * 8≤B5 then
 .ok ({ ID:=r.ID,Many:=r.Many,Term:=r.Term,Vote:=r.Vote,Log:=r.Log,Role:=0,Commit:=r.Commit,Votes:=(List.replicate (Int.toNat r.Many) false),Match:=(List.replicate (Int.toNat r.Many) (0:Int)) }:Replica) else .bad else .bad)
else
(if(0:Int)≤0∧(0:Int)≤0∧(Int.toNat 0) * 1≤B5 then
 if(0:Int)≤0∧(0:Int)≤0∧(Int.toNat 0) * 8≤B5 then
 .ok ({ ID:=r.ID,Many:=r.Many,Term:=r.Term,Vote:=r.Vote,Log:=r.Log,Role:=0,Commit:=r.Commit,Votes:=(List.replicate (Int.toNat 0) false),Match:=(List.replicate (Int.toNat 0) (0:Int)) }:Replica) else .bad else .bad)
def Sl (id:Int)(many:Int):R (Replica×Int):=
 (C9 many 1 5).bind fun r=>
 (if(!r) then R.ok true else(C9 id 0 (IntKind.wrap .i64 (many - 1))).bind fun r1=>
 R.ok (!r1)).bind (fun(b:Bool)=>if b then
(.ok (({ ID:=0,Many:=0,Term:=0,Vote:=0,Log:=[],Role:=0,Commit:=0,Votes:=[],Match:=[] }:Replica),470))
else
((Kc ({ ID:=id,Many:=many,Term:=0,Vote:=(-1),Log:=[],Role:=0,Commit:=0,Votes:=[],Match:=[] }:Replica)).bind fun r2=>
 .ok (r2,0)))
def Nj (x:Bool):R (Unit ⊕ Bool):=
 if x then
(.ok (.inr (false)))
else
(.ok (.inl ()))
def Pw (l:List Record)(term:Int)(j:Nat)(a:Record):R (Unit ⊕ Bool):=
 (C9 a.Term 1 term).bind fun r=>
 if(!r) then
(Nj true)
else
(if(decide ((j:Int) > 0)) then
((C5 l (IntKind.wrap .i64 ((j:Int) - 1))).bind fun a1=>
 Nj (decide (a1.Term > a.Term)))
else
(Nj false))
def Mr (l:List Record)(term:Int):R Bool:=
 (each (fun j a=>fun _=>Pw l term j a) 0 l ()).bind (Ga (fun _=>.ok true) (fun r=>.ok r))
def Gm (x:Int)(x1:Bool):R (Int ⊕ (Unit ⊕ Int)):=
 if x1 then
(.ok (.inr (.inr (470))))
else
(.ok (.inl (IntKind.wrap .i64 (x+1))))
def D0 (a:Replica)(x:Int):R (Int ⊕ (Unit ⊕ Int)):=
 if x<a.Many then
((C5 a.Match x).bind fun a1=>
 (C9 a1 0 (a.Log.length:Int)).bind fun r7=>
 if(!r7) then
(Gm x true)
else
(if(a.Role==0) then
((C5 a.Votes x).bind fun a2=>
 if a2 then
(Gm x true)
else
(Gm x (a1 != 0)))
else
(Gm x false)))
else
(.ok (.inr (.inl (()))))
def Fd (a:Replica):R Int:=
 (if(a.Role != 0) then(if((a.Vote != a.ID)||(decide (a.Term<1))) then R.ok true else(C5 a.Votes a.ID).bind fun a3=>
 R.ok (!a3)).bind (fun(b7:Bool)=>R.ok b7) else R.ok false).bind (fun(b6:Bool)=>if b6 then
(.ok 470)
else
(.ok 0))
def G7 (a:Replica):R Int:=
 (C9 a.Many 1 5).bind fun r=>
 (if(!r) then R.ok true else(C9 a.ID 0 (IntKind.wrap .i64 (a.Many - 1))).bind fun r1=>
 R.ok (!r1)).bind (fun(b:Bool)=>(if b then R.ok true else(C9 a.Term 0 1048576).bind fun r2=>
 R.ok (!r2)).bind (fun(b1:Bool)=>(if b1 then R.ok true else(C9 a.Vote (-1) (IntKind.wrap .i64 (a.Many - 1))).bind fun r3=>
 R.ok (!r3)).bind (fun(b2:Bool)=>(if b2 then R.ok true else(Mr a.Log a.Term).bind fun r4=>
 R.ok (!r4)).bind (fun(b3:Bool)=>(if b3 then R.ok true else(C9 a.Role 0 2).bind fun r5=>
 R.ok (!r5)).bind (fun(b4:Bool)=>(if b4 then R.ok true else(C9 a.Commit 0 (a.Log.length:Int)).bind fun r6=>
 R.ok (!r6)).bind (fun(b5:Bool)=>if((b5||((a.Votes.length:Int) != a.Many))||((a.Match.length:Int) != a.Many)) then
(.ok 470)
else
((loop (fun x=>D0 a x) 0).bind (Ga (fun _=>Fd a) (fun r=>.ok r)))))))))
def J6 (r:Replica):R ((List Bool)×(List Int)):=
 (C9 r.Many 0 5).bind fun r1=>
 if r1 then
(if(0:Int)≤r.Many∧(r.Many:Int)≤r.Many∧(Int.toNat r.Many) * 1≤B5 then
 if(0:Int)≤r.Many∧(r.Many:Int)≤r.Many∧(Int.toNat r.Many) * 8≤B5 then
 .ok ((List.replicate (Int.toNat r.Many) false),(List.replicate (Int.toNat r.Many) (0:Int))) else .bad else .bad)
else
(if(0:Int)≤0∧(0:Int)≤0∧(Int.toNat 0) * 1≤B5 then
 if(0:Int)≤0∧(0:Int)≤0∧(Int.toNat 0) * 8≤B5 then
 .ok ((List.replicate (Int.toNat 0) false),(List.replicate (Int.toNat 0) (0:Int))) else .bad else .bad)
def Fb (rMany:Int)(n:Int)(many:Int)(i:Int)(l2:List Int):R ((Int×Int×(List Int)) ⊕ (Int×(List Int))):=
 if i<rMany then
((C5 l2 i).bind fun a=>
 if a≥n then
(.ok (.inl ((IntKind.wrap .i64 (many+1)),(IntKind.wrap .i64 (i+1)),l2)))
else
(.ok (.inl (many,(IntKind.wrap .i64 (i+1)),l2))))
else
(.ok (.inr ((many,l2))))
def I5 (n:Int)(l3:List Int)(x:Bool):R ((Int×(List Int)) ⊕ ((List Int) ⊕ (Int×(List Int)))):=
 if x then
(.ok (.inr (.inr ((n,l3)))))
else
(.ok (.inl ((IntKind.wrap .i64 (n - 1)),l3)))
def Kn (rMany:Int)(rTerm:Int)(rLog:List Record)(n:Int)(many1:Int)(l3:List Int):R ((Int×(List Int)) ⊕ ((List Int) ⊕ (Int×(List Int)))):=
 if(decide ((IntKind.wrap .i64 (2 * many1)) > rMany)) then
((C5 rLog (IntKind.wrap .i64 (n - 1))).bind fun a1=>
 I5 n l3 (a1.Term==rTerm))
else
(I5 n l3 false)
def Eu (rMany:Int)(rTerm:Int)(rLog:List Record)(rCommit:Int)(n:Int)(l1:List Int):R ((Int×(List Int)) ⊕ ((List Int) ⊕ (Int×(List Int)))):=
 if n > rCommit then
((loop (Lv fun many i l2=>Fb rMany n many i l2) (0,0,l1)).bind (D4 fun many1 l3=>Kn rMany rTerm rLog n many1 l3))
else
(.ok (.inr (.inl (l1))))
def Ml (rCommit:Int)(l4:List Int):R (Int×(List Int)):=
 .ok (rCommit,l4)
def Kp (rID:Int)(rMany:Int)(rTerm:Int)(rVote:Int)(rLog:List Record)(rRole:Int)(rCommit:Int)(rVotes:List Bool)(l:List Int):R (Int×(List Int)):=
 (loop (D4 fun n l1=>Eu rMany rTerm rLog rCommit n l1) ((rLog.length:Int),l)).bind (Ga (fun l4=>Ml rCommit l4) (fun r=>.ok r))
def Ku (r:Replica)(m:Message)(i:Int)(l:List Message)(vFrom:Int)(vTo:Int)(vTerm:Int):R ((Int×(List Message)×Int×Int×Int) ⊕ (List Message)):=
 if i<r.Many then
(if(i != r.ID) then
(if(l.length+[({ Kind:=m.Kind,From:=r.ID,To:=i,Term:=r.Term,Last:=m.Last,LastTerm:=m.LastTerm,Log:=m.Log,Commit:=m.Commit,Match:=m.Match,Granted:=m.Granted }:Message)].length) * 96≤B5 then
 .ok (.inl ((IntKind.wrap .i64 (i+1)),(l++[({ Kind:=m.Kind,From:=r.ID,To:=i,Term:=r.Term,Last:=m.Last,LastTerm:=m.LastTerm,Log:=m.Log,Commit:=m.Commit,Match:=m.Match,Granted:=m.Granted }:Message)]),r.ID,i,r.Term)) else .bad)
else
(.ok (.inl ((IntKind.wrap .i64 (i+1)),l,vFrom,vTo,vTerm))))
else
(.ok (.inr (l)))
def Mo (l1:List Message):R (List Message):=
 .ok l1
def Nc (r:Replica)(m:Message):R (List Message):=
 (loop (R1 fun i l vFrom vTo vTerm=>Ku r m i l vFrom vTo vTerm) (0,[],m.From,m.To,m.Term)).bind (fun l1=>Mo l1)
def P8 (r:Replica):R (List Message):=
 (Nc r ({ Kind:=3,From:=0,To:=0,Term:=0,Last:=0,LastTerm:=0,Log:=r.Log,Commit:=r.Commit,Match:=0,Granted:=false }:Message)).bind fun r1=>
 .ok r1
def Nd (r:Replica):R (Replica×(List Message)):=
 if(0:Int)≤r.Many∧(r.Many:Int)≤r.Many∧(Int.toNat r.Many) * 8≤B5 then
 (C5 (List.replicate (Int.toNat r.Many) (0:Int)) r.ID).bind fun a=>
 (Kp r.ID r.Many r.Term r.Vote r.Log 2 r.Commit r.Votes ((List.replicate (Int.toNat r.Many) (0:Int)).set r.ID.toNat (r.Log.length:Int))).bind fun r1=>
 (P8 ({ ID:=r.ID,Many:=r.Many,Term:=r.Term,Vote:=r.Vote,Log:=r.Log,Role:=2,Commit:=r1.1,Votes:=r.Votes,Match:=r1.2 }:Replica)).bind fun r2=>
 .ok (({ ID:=r.ID,Many:=r.Many,Term:=r.Term,Vote:=r.Vote,Log:=r.Log,Role:=2,Commit:=r1.1,Votes:=r.Votes,Match:=r1.2 }:Replica),r2) else .bad
def Tj (l:List Record):R Int:=
 if((l.length:Int)==0) then
(.ok 0)
else
((C5 l (IntKind.wrap .i64 ((l.length:Int) - 1))).bind fun a=>
 .ok a.Term)
def E6 (rID:Int)(rMany:Int)(rTerm:Int)(mKind:Int)(mLast:Int)(mLastTerm:Int)(mCommit:Int)(mMatch:Int)(mGranted:Bool)(i:Int)(vFrom:Int)(vTo:Int)(vTerm:Int)(l2:List Message):R ((Int×Int×Int×Int×(List Message)) ⊕ (List Message)):=
 if i<rMany then
(if(i != rID) then
(if(l2.length+[({ Kind:=mKind,From:=rID,To:=i,Term:=rTerm,Last:=mLast,LastTerm:=mLastTerm,Log:=[],Commit:=mCommit,Match:=mMatch,Granted:=mGranted }:Message)].length) * 96≤B5 then
 .ok (.inl ((IntKind.wrap .i64 (i+1)),rID,i,rTerm,(l2++[({ Kind:=mKind,From:=rID,To:=i,Term:=rTerm,Last:=mLast,LastTerm:=mLastTerm,Log:=[],Commit:=mCommit,Match:=mMatch,Granted:=mGranted }:Message)]))) else .bad)
else
(.ok (.inl ((IntKind.wrap .i64 (i+1)),vFrom,vTo,vTerm,l2))))
else
(.ok (.inr (l2)))
def K4 (l3:List Message):R (List Message):=
 .ok l3
def J7 (rID:Int)(rMany:Int)(rTerm:Int)(rVote:Int)(rLog:List Record)(rRole:Int)(rCommit:Int)(mKind:Int)(mFrom:Int)(mTo:Int)(mTerm:Int)(mLast:Int)(mLastTerm:Int)(mCommit:Int)(mMatch:Int)(mGranted:Bool)(l:List Bool)(l1:List Int):R (List Message):=
 (loop (R1 fun i vFrom vTo vTerm l2=>E6 rID rMany rTerm mKind mLast mLastTerm mCommit mMatch mGranted i vFrom vTo vTerm l2) (0,mFrom,mTo,mTerm,[])).bind (fun l3=>K4 l3)
def L6 (r:Replica):R (Replica×(List Message)×Int):=
 (G7 r).bind fun e=>
 if(e != 0) then
(.ok (({ ID:=0,Many:=0,Term:=0,Vote:=0,Log:=[],Role:=0,Commit:=0,Votes:=[],Match:=[] }:Replica),[],e))
else
(if(r.Term==1048576) then
(.ok (({ ID:=0,Many:=0,Term:=0,Vote:=0,Log:=[],Role:=0,Commit:=0,Votes:=[],Match:=[] }:Replica),[],2))
else
((J6 r).bind fun r1=>
 (C5 r1.1 r.ID).bind fun a=>
 if(r.Many==1) then
((Nd ({ ID:=r.ID,Many:=r.Many,Term:=(IntKind.wrap .i64 (r.Term+1)),Vote:=r.ID,Log:=r.Log,Role:=1,Commit:=r.Commit,Votes:=(r1.1.set r.ID.toNat true),Match:=r1.2 }:Replica)).bind fun r2=>
 .ok (r2.1,r2.2,0))
else
((Tj r.Log).bind fun r3=>
 (J7 r.ID r.Many (IntKind.wrap .i64 (r.Term+1)) r.ID r.Log 1 r.Commit 1 0 0 0 (r.Log.length:Int) r3 0 0 false (r1.1.set r.ID.toNat true) r1.2).bind fun r4=>
 .ok (({ ID:=r.ID,Many:=r.Many,Term:=(IntKind.wrap .i64 (r.Term+1)),Vote:=r.ID,Log:=r.Log,Role:=1,Commit:=r.Commit,Votes:=(r1.1.set r.ID.toNat true),Match:=r1.2 }:Replica),r4,0))))
def Ki (rMany:Int)(n:Int)(many:Int)(i:Int)(l4:List Int):R ((Int×Int×(List Int)) ⊕ (Int×(List Int))):=
 if i<rMany then
((C5 l4 i).bind fun a=>
 if a≥n then
(.ok (.inl ((IntKind.wrap .i64 (many+1)),(IntKind.wrap .i64 (i+1)),l4)))
else
(.ok (.inl (many,(IntKind.wrap .i64 (i+1)),l4))))
else
(.ok (.inr ((many,l4))))
def I4 (n:Int)(l5:List Int)(x:Bool)(l6:List Record):R ((Int×(List Record)×(List Int)) ⊕ (((List Record)×(List Int)) ⊕ (Int×(List Record)×(List Int)))):=
 if x then
(.ok (.inr (.inr ((n,l6,l5)))))
else
(.ok (.inl ((IntKind.wrap .i64 (n - 1)),l6,l5)))
def Ko (rMany:Int)(rTerm:Int)(n:Int)(l2:List Record)(many1:Int)(l5:List Int):R ((Int×(List Record)×(List Int)) ⊕ (((List Record)×(List Int)) ⊕ (Int×(List Record)×(List Int)))):=
 if(decide ((IntKind.wrap .i64 (2 * many1)) > rMany)) then
((C5 l2 (IntKind.wrap .i64 (n - 1))).bind fun a1=>
 I4 n l5 (a1.Term==rTerm) l2)
else
(I4 n l5 false l2)
def Ev (rMany:Int)(rTerm:Int)(rCommit:Int)(n:Int)(l2:List Record)(l3:List Int):R ((Int×(List Record)×(List Int)) ⊕ (((List Record)×(List Int)) ⊕ (Int×(List Record)×(List Int)))):=
 if n > rCommit then
((loop (Lv fun many i l4=>Ki rMany n many i l4) (0,0,l3)).bind (D4 fun many1 l5=>Ko rMany rTerm n l2 many1 l5))
else
(.ok (.inr (.inl ((l2,l3)))))
def Mg (rCommit:Int)(l7:List Record)(l8:List Int):R (Int×(List Record)×(List Int)):=
 .ok (rCommit,l7,l8)
def Kq (rID:Int)(rMany:Int)(rTerm:Int)(rVote:Int)(rRole:Int)(rCommit:Int)(rVotes:List Bool)(l:List Record)(l1:List Int):R (Int×(List Record)×(List Int)):=
 (loop (Lv fun n l2 l3=>Ev rMany rTerm rCommit n l2 l3) ((l.length:Int),l,l1)).bind (Ga (D4 fun l7 l8=>Mg rCommit l7 l8) (fun r=>.ok r))
def On (r:Replica)(l:List Record):R (Replica×(List Message)×Int):=
 if r.Match.length * 8≤B5 then
 (C5 r.Match r.ID).bind fun a=>
 (Kq r.ID r.Many r.Term r.Vote r.Role r.Commit r.Votes l (r.Match.set r.ID.toNat (l.length:Int))).bind fun r1=>
 (P8 ({ ID:=r.ID,Many:=r.Many,Term:=r.Term,Vote:=r.Vote,Log:=r1.2.1,Role:=r.Role,Commit:=r1.1,Votes:=r.Votes,Match:=r1.2.2 }:Replica)).bind fun r2=>
 .ok (({ ID:=r.ID,Many:=r.Many,Term:=r.Term,Vote:=r.Vote,Log:=r1.2.1,Role:=r.Role,Commit:=r1.1,Votes:=r.Votes,Match:=r1.2.2 }:Replica),r2,0) else .bad
def L7 (r:Replica)(data:List Int):R (Replica×(List Message)×Int):=
 (G7 r).bind fun e=>
 if(e != 0) then
(.ok (({ ID:=0,Many:=0,Term:=0,Vote:=0,Log:=[],Role:=0,Commit:=0,Votes:=[],Match:=[] }:Replica),[],e))
else
(if(r.Role != 2) then
(.ok (({ ID:=0,Many:=0,Term:=0,Vote:=0,Log:=[],Role:=0,Commit:=0,Votes:=[],Match:=[] }:Replica),[],470))
else
(if(r.Log.length:Int)≥4096 then
(.ok (({ ID:=0,Many:=0,Term:=0,Vote:=0,Log:=[],Role:=0,Commit:=0,Votes:=[],Match:=[] }:Replica),[],2))
else
(if r.Log.length * 32≤B5 then
 if(r.Log.length+[({ Term:=r.Term,Data:=data }:Record)].length) * 32≤B5 then
 On r (r.Log++[({ Term:=r.Term,Data:=data }:Record)]) else .bad else .bad)))
def Tr (a:Record)(b:Record):R Bool:=
 .ok ((a.Term==b.Term)&&((C0 a.Data)==(C0 b.Data)))
def Mb (b:List Record)(j:Nat)(a1:Record):R (Unit ⊕ Bool):=
 (C5 b (j:Int)).bind fun a2=>
 (Tr a1 a2).bind fun r=>
 if r then
(.ok (.inl ()))
else
(.ok (.inr (false)))
def Nz (a:List Record)(b:List Record):R Bool:=
 if(a.length:Int) > (b.length:Int) then
(.ok false)
else
((each (fun j a1=>fun _=>Mb b j a1) 0 a ()).bind (Ga (fun _=>.ok true) (fun r=>.ok r)))
def Ma (b:Replica)(j:Nat)(a1:Bool):R (Unit ⊕ Bool):=
 (C5 b.Votes (j:Int)).bind fun a2=>
 if(a1==a2) then
(.ok (.inl ()))
else
(.ok (.inr (false)))
def K0 (b:Replica)(j1:Nat)(a3:Int):R (Unit ⊕ Bool):=
 (C5 b.Match (j1:Int)).bind fun a4=>
 if(a3 != a4) then
(.ok (.inr (false)))
else
(.ok (.inl ()))
def Hr (a:Replica)(b:Replica):R Bool:=
 (if(((((((a.ID != b.ID)||(a.Many != b.Many))||(a.Term != b.Term))||(a.Vote != b.Vote))||(a.Role != b.Role))||(a.Commit != b.Commit))||((a.Log.length:Int) != (b.Log.length:Int))) then R.ok true else(Nz a.Log b.Log).bind fun r=>
 R.ok (!r)).bind (fun(b1:Bool)=>if((b1||((a.Votes.length:Int) != (b.Votes.length:Int)))||((a.Match.length:Int) != (b.Match.length:Int))) then
(.ok false)
else
((each (fun j a1=>fun _=>Ma b j a1) 0 a.Votes ()).bind (Ga (fun _=>(each (fun j1 a3=>fun _=>K0 b j1 a3) 0 a.Match ()).bind (Ga (fun _=>.ok true) (fun r=>.ok r))) (fun r=>.ok r))))
def K5 (a:Message)(b:Message):R Bool:=
 (if((((((((((a.Kind==b.Kind)&&(a.From==b.From))&&(a.To==b.To))&&(a.Term==b.Term))&&(a.Last==b.Last))&&(a.LastTerm==b.LastTerm))&&(a.Commit==b.Commit))&&(a.Match==b.Match))&&(a.Granted==b.Granted))&&((a.Log.length:Int)==(b.Log.length:Int))) then(Nz a.Log b.Log).bind fun r=>
 R.ok r else R.ok false).bind (fun(b1:Bool)=>.ok b1)
def I6 (b:List Message)(j:Nat)(a1:Message):R (Unit ⊕ Bool):=
 (C5 b (j:Int)).bind fun a2=>
 (K5 a1 a2).bind fun r=>
 if r then
(.ok (.inl ()))
else
(.ok (.inr (false)))
def Fc (a:List Message)(b:List Message):R Bool:=
 if((a.length:Int) != (b.length:Int)) then
(.ok false)
else
((each (fun j a1=>fun _=>I6 b j a1) 0 a ()).bind (Ga (fun _=>.ok true) (fun r=>.ok r)))
def Iz (r:Replica):R Replica:=
 (Kc ({ ID:=r.ID,Many:=r.Many,Term:=r.Term,Vote:=r.Vote,Log:=r.Log,Role:=r.Role,Commit:=0,Votes:=r.Votes,Match:=r.Match }:Replica)).bind fun r1=>
 .ok r1
def F4 (r:Replica)(i:Int)(l:(List (List Int))):R ((Int×(List (List Int))) ⊕ (List (List Int))):=
 if((decide (i<(r.Log.length:Int)))&&(decide (i<r.Commit))) then
((C5 r.Log i).bind fun a=>
 if(l.length+[a.Data].length) * 24≤B5 then
 .ok (.inl ((IntKind.wrap .i64 (i+1)),(l++[a.Data]))) else .bad)
else
(.ok (.inr (l)))
def Mh (l1:(List (List Int))):R (List (List Int)):=
 .ok l1
def Gn (r:Replica):R (List (List Int)):=
 (loop (D4 fun i l=>F4 r i l) (0,[])).bind (fun l1=>Mh l1)
def Mn (b:(List (List Int)))(j:Nat)(a1:List Int):R (Unit ⊕ Bool):=
 (C5 b (j:Int)).bind fun a2=>
 if((C0 a1)==(C0 a2)) then
(.ok (.inl ()))
else
(.ok (.inr (false)))
def Ry (a:(List (List Int)))(b:(List (List Int))):R Bool:=
 if(a.length:Int) > (b.length:Int) then
(.ok false)
else
((each (fun j a1=>fun _=>Mn b j a1) 0 a ()).bind (Ga (fun _=>.ok true) (fun r=>.ok r)))
def Kf (a:(List (List Int)))(b:(List (List Int))):R Bool:=
 (if((a.length:Int)==(b.length:Int)) then(Ry a b).bind fun r=>
 R.ok r else R.ok false).bind (fun(b1:Bool)=>.ok b1)
def Kv (a:Int)(b:Int)(c:Replica)(d:List Int):R Bool:=
 (Py).bind fun r=>
 if r then
((Sr c.Log).bind fun r1=>
 if((((!r1)||(decide ((c.Votes.length:Int) > 10)))||(decide ((c.Match.length:Int) > 10)))||(decide ((d.length:Int) > 100))) then
(.ok true)
else
((Iv a b).bind fun r2=>
 (Sl a b).bind fun r3=>
 (E0 c).bind fun r4=>
 (L6 c).bind fun r5=>
 (Ey c d).bind fun r6=>
 (L7 c d).bind fun r7=>
 (Hr r2.1 r3.1).bind fun r8=>
 (if((!r8)||(r2.2 != r3.2)) then R.ok true else(Hr r4.1 r5.1).bind fun r9=>
 R.ok (!r9)).bind (fun(b1:Bool)=>(if b1 then R.ok true else(Fc r4.2.1 r5.2.1).bind fun r10=>
 R.ok (!r10)).bind (fun(b2:Bool)=>(if(b2||(r4.2.2 != r5.2.2)) then R.ok true else(Hr r6.1 r7.1).bind fun r11=>
 R.ok (!r11)).bind (fun(b3:Bool)=>(if b3 then R.ok true else(Fc r6.2.1 r7.2.1).bind fun r12=>
 R.ok (!r12)).bind (fun(b4:Bool)=>if(b4||(r6.2.2 != r7.2.2)) then
(.ok false)
else
((C8 c).bind fun r13=>
 (G7 c).bind fun r14=>
 if(r13==r14) then
((Ej c).bind fun r15=>
 (Iz c).bind fun r16=>
 (Hr r15 r16).bind fun r17=>
 if r17 then
((Cv c).bind fun r18=>
 (Gn c).bind fun r19=>
 (Kf r18 r19).bind fun r20=>
 .ok r20)
else
(.ok false))
else
(.ok false))))))))
else
(.ok false)
end
end Go.Am
namespace Go.Am
open Go
set_option linter.unusedVariables false
def Q7:Ty Record:=⟨Ag,fun x=>(Gi .i64).good x.Term∧(Pd 1 (Gi .u8)).good x.Data∧True,fun x=>((Gi .i64).bulk x.Term+((Pd 1 (Gi .u8)).bulk x.Data+(0)))+1⟩
def T9:Ty Replica:=⟨Ao,fun x=>(Gi .i64).good x.ID∧(Gi .i64).good x.Many∧(Gi .i64).good x.Term∧(Gi .i64).good x.Vote∧(Pd 2 Q7).good x.Log∧(Gi .i64).good x.Role∧(Gi .i64).good x.Commit∧(Pd 1 Yu).good x.Votes∧(Pd 1 (Gi .i64)).good x.Match∧True,fun x=>((Gi .i64).bulk x.ID+((Gi .i64).bulk x.Many+((Gi .i64).bulk x.Term+((Gi .i64).bulk x.Vote+((Pd 2 Q7).bulk x.Log+((Gi .i64).bulk x.Role+((Gi .i64).bulk x.Commit+((Pd 1 Yu).bulk x.Votes+((Pd 1 (Gi .i64)).bulk x.Match+(0))))))))))+1⟩
def Ls:Prop := ∀ (a0:Int) (a1:Int) (a2:Replica) (a3:List Int) (_:(Gi .i64).good a0) (_:(Gi .i64).good a1) (_:T9.good a2) (_:(Pd 1 (Gi .u8)).good a3),(Gi .i64).bulk a0+((Gi .i64).bulk a1+(T9.bulk a2+((Pd 1 (Gi .u8)).bulk a3)))≤1048576→Kv a0 a1 a2 a3=.ok true
end Go.Am
namespace Go.Am
open Go
set_option linter.unusedVariables false
set_option linter.unusedSimpArgs false
namespace Rp
theorem Pq (n lo hi:Int):Bv n lo hi=.ok (decide (lo≤n)&&decide (n≤hi)):=rfl
theorem Ach (b:Bool)(e:Int):Bj b e=if b then .ok () else .pan ⟨99,.one .i64 e⟩:=rfl
def Et (term:Int):Int→List Record→Bool
 | _,[]=>true
 | p,a::l=>decide (1≤a.Term)&&decide (a.Term≤term)&&decide (p≤a.Term)&&Et term a.Term l
theorem Acg (term:Int)(L:List Record)(hL:L.length≤B5) : ∀ (l:List Record) (k:Nat) (p:Int),L.drop k=l→(k=0∧p=0 ∨ ∃ j b,k=j+1∧L[j]? = some b∧p=b.Term) →
  each (fun j a=>fun _=>Jr L term j a) k l ()=if Et term p l then .ok (.inl ()) else .ok (.inr false)
 | [],k,p,_,_=>by simp [Et]
 | a::l,k,p,hd,hp=>by
  have hlt:k<L.length:=by
   rcases Nat.lt_or_ge k L.length with hh | hh
   ·exact hh
   ·rw [List.drop_eq_nil_of_le hh] at hd; cases hd
  have ha:L[k]? = some a:=by
   have:=List.getElem?_drop (xs:=L) (i:=k) (j:=0)
   rw [hd] at this; simpa using this.symm
  have hd':L.drop (k+1)=l:=by
   have:=congrArg List.tail hd
   simpa using this
  have ih:=Acg term L hL l (k+1) a.Term hd' (.inr ⟨k,a,rfl,ha,rfl⟩)
  have hb:Jr L term k a=if decide (1≤a.Term)&&decide (a.Term≤term)&&decide (p≤a.Term) then .ok (.inl ()) else .ok (.inr false):=by
   unfold Jr
   rw [Pq]
   simp only [R.ok_bind]
   by_cases h1:(decide (1≤a.Term)&&decide (a.Term≤term))=true
   ·rw [h1]
    simp only [Bool.not_true,Bool.false_eq_true,if_false,Bool.true_and]
    rcases hp with⟨rfl,rfl⟩ | ⟨j,b,rfl,hb,rfl⟩
    ·have h2:(0:Int)≤a.Term:=by simp at h1; omega
     simp [Hs,h2]
    ·have hj:((j+1:Nat):Int) > 0:=by omega
     have hw:IntKind.wrap .i64 (((j+1:Nat):Int) - 1)=(j:Int):=by
      unfold B5 at hL
      rw [Iw (by omega) (by omega)]; omega
     simp only [hj,decide_true,if_true,hw,Hv hb,R.ok_bind]
     by_cases h3:b.Term≤a.Term
     ·simp [Hs,h3,show ¬ a.Term<b.Term by omega]
     ·simp [Hs,h3,show a.Term<b.Term by omega]
   ·have h1':(decide (1≤a.Term)&&decide (a.Term≤term))=false:=by simpa using h1
    rw [h1']
    simp [Hs]
  rw [Mk,hb]
  by_cases hc:(decide (1≤a.Term)&&decide (a.Term≤term)&&decide (p≤a.Term))=true
  ·rw [if_pos hc]
   have h0:Et term p (a::l)=Et term a.Term l:=by
    show(decide (1≤a.Term)&&decide (a.Term≤term)&&decide (p≤a.Term)&&Et term a.Term l)=_
    rw [hc]; rfl
   rw [h0]
   exact ih
  ·rw [if_neg hc]
   have h0:Et term p (a::l)=false:=by
    have:(decide (1≤a.Term)&&decide (a.Term≤term)&&decide (p≤a.Term))=false:=by simpa using hc
    show(decide (1≤a.Term)&&decide (a.Term≤term)&&decide (p≤a.Term)&&Et term a.Term l)=false
    rw [this]; rfl
   rw [h0]; rfl
theorem Afp (l:List Record)(term:Int)(hl:l.length≤B5):Gh l term=.ok (Et term 0 l):=by
 unfold Gh
 rw [Acg term l hl l 0 0 rfl (.inl ⟨rfl,rfl⟩)]
 cases Et term 0 l <;> simp [Ga]
theorem Ni (term:Int) : ∀ (l:List Record) (p:Int),Et term p l=true↔(∀ a ∈ l,1≤a.Term∧a.Term≤term∧p≤a.Term)∧l.Pairwise (fun a b=>a.Term≤b.Term)
 | [],p=>by simp [Et]
 | a::l,p=>by
  simp only [Et,Bool.and_eq_true,decide_eq_true_eq,Ni term l a.Term,List.mem_cons,forall_eq_or_imp,List.pairwise_cons]
  constructor
  ·rintro⟨⟨⟨h1,h2⟩,h3⟩,h4,h5⟩
   exact⟨⟨⟨h1,h2,h3⟩,fun b hb=>⟨(h4 b hb).1,(h4 b hb).2.1,by have:=(h4 b hb).2.2; omega⟩⟩,fun b hb=>(h4 b hb).2.2,h5⟩
  ·rintro⟨⟨⟨h1,h2,h3⟩,h4⟩,h5,h6⟩
   exact⟨⟨⟨h1,h2⟩,h3⟩,fun b hb=>⟨(h4 b hb).1,(h4 b hb).2.1,h5 b hb⟩,h6⟩
def Lu:PV:=⟨99,.one .i64 470⟩
theorem Zt {α:Type}{b:Nat→α→Unit→R Unit} : ∀ (l:List α) (k:Nat),(∀ (j:Nat) a,l[j]? = some a→b (k+j) a ()=.ok ())→Fy b k l ()=.ok ()
 | [],k,_=>rfl
 | a::l,k,h=>by
  rw [Qq,show b k a ()=.ok () from h 0 a rfl]
  exact Zt l (k+1) fun j a ha=>by rw [show k+1+j=k+(j+1) by omega]; exact h (j+1) a (by simpa using ha)
theorem Acn {α:Type}{b:Nat→α→Unit→R Unit}{v:PV} : ∀ (l:List α) (k:Nat),(∀ (j:Nat) a,l[j]? = some a→b (k+j) a ()=.ok ()∨b (k+j) a ()=.pan v)→(∃ (j:Nat) (a:α),l[j]? = some a∧b (k+j) a ()=.pan v)→Fy b k l ()=.pan v
 | [],k,_,h=>by obtain⟨j,a,ha,_⟩:=h; simp at ha
 | a::l,k,h,hx=>by
  rw [Qq]
  rcases h 0 a rfl with h0 | h0
  ·rw [show b k a ()=.ok () from h0]
   refine Acn l (k+1) (fun j a ha=>?_) ?_
   ·rw [show k+1+j=k+(j+1) by omega]; exact h (j+1) a (by simpa using ha)
   ·obtain⟨j,a',ha,hp⟩:=hx
    cases j with
    | zero=>simp at ha; subst ha; rw [h0] at hp; cases hp
    | succ j=>exact⟨j,a',by simpa using ha,by rw [show k+1+j=k+(j+1) by omega]; exact hp⟩
  ·rw [show b k a ()=.pan v from h0]; rfl
structure Good (r:Replica):Prop where
 many:1≤r.Many∧r.Many≤5
 id:0≤r.ID∧r.ID<r.Many
 term:0≤r.Term∧r.Term≤1048576
 vote : -1≤r.Vote∧r.Vote<r.Many
 fits:Et r.Term 0 r.Log=true
 role:0≤r.Role∧r.Role≤2
 commit:0≤r.Commit∧r.Commit≤r.Log.length
 votes:(r.Votes.length:Int)=r.Many
 mlen:(r.Match.length:Int)=r.Many
 mat : ∀ (j:Nat) a,r.Match[j]? = some a→(0≤a∧a≤r.Log.length)∧(r.Role=0→a=0∧r.Votes[j]? = some false)
 lead:r.Role≠0→r.Vote=r.ID∧1≤r.Term∧r.Votes[r.ID.toNat]? = some true
theorem Ag0 {r:Replica}(h:Jt r=.pan Lu):C8 r=.ok 470:=by
 unfold C8
 rw [h]
 rfl
theorem Ae3 {r:Replica}(h:Jt r=.ok 0):C8 r=.ok 0:=by
 unfold C8
 rw [h]
 rfl
def c1 (r:Replica):Bool:=(decide (1≤r.Many)&&decide (r.Many≤5))&&((decide (0≤r.ID)&&decide (r.ID≤r.Many - 1))&&((decide (0≤r.Term)&&decide (r.Term≤1048576))&&(decide (-1≤r.Vote)&&decide (r.Vote≤r.Many - 1))))
def c2 (r:Replica):Bool:=(Et r.Term 0 r.Log&&((decide (0≤r.Role)&&decide (r.Role≤2))&&(decide (0≤r.Commit)&&decide (r.Commit≤(r.Log.length:Int)))))&&((r.Votes.length:Int)==r.Many)&&((r.Match.length:Int)==r.Many)
def m3 (r:Replica)(j:Nat)(a:Int):Bool:=(decide (0≤a)&&decide (a≤(r.Log.length:Int)))&&(r.Role != 0||(a==0 && !(r.Votes.getD j false)))
def c4 (r:Replica):Bool:=r.Role==0||((r.Vote==r.ID)&&decide (r.Term≥1)&&r.Votes.getD r.ID.toNat false)
theorem Ac7 {r:Replica}{j:Nat}{a:Int}(hj:j<r.Votes.length):E3 r j a=if m3 r j a then .ok () else .pan Lu:=by
 unfold E3 m3
 rw [Pq]
 simp only [R.ok_bind,Ach]
 cases h1:(decide (0≤a)&&decide (a≤(r.Log.length:Int))) with
 | false=>simp [Lu]
 | true=>
  simp only [if_true,R.ok_bind,Bool.true_and]
  by_cases h2:r.Role=0
  ·simp only [h2,bne_self_eq_false,Bool.false_eq_true,if_false,Bool.false_or]
   by_cases h3:a=0
   ·have hv:r.Votes[j]? = some (r.Votes.getD j false):=by simp [List.getD,hj]
    subst h3
    simp only [beq_self_eq_true,if_true,Hv hv,R.ok_bind,Bool.true_and]
    cases r.Votes.getD j false <;> simp [Lu]
   ·simp [h3,Lu]
  ·simp [h2]
theorem Afw {r:Replica}(hl:r.Log.length≤B5):Jt r=if c1 r then(if c2 r then((Fy (fun j a=>fun _=>E3 r j a) 0 r.Match ()).bind fun _=>if c4 r then .ok 0 else .pan Lu) else .pan Lu) else .pan Lu:=by
 unfold Jt
 simp only [Pq,R.ok_bind,Ach,Afp _ _ hl]
 unfold c1
 cases h1:(decide (1≤r.Many)&&decide (r.Many≤5)) with
 | false=>simp [Lu]
 | true=>
  have hm:1≤r.Many∧r.Many≤5:=by simpa using h1
  have hw:IntKind.wrap .i64 (r.Many - 1)=r.Many - 1:=Iw (by omega) (by omega)
  simp only [hw,if_true,R.ok_bind,Bool.true_and]
  cases h2:(decide (0≤r.ID)&&decide (r.ID≤r.Many - 1)) with
  | false=>simp [Lu]
  | true=>
   have hi:0≤r.ID∧r.ID≤r.Many - 1:=by simpa using h2
   simp only [if_true,R.ok_bind,Bool.true_and]
   cases h3:(decide (0≤r.Term)&&decide (r.Term≤1048576)) with
   | false=>simp [Lu]
   | true=>
    simp only [if_true,R.ok_bind,Bool.true_and]
    cases h4:(decide (-1≤r.Vote)&&decide (r.Vote≤r.Many - 1)) with
    | false=>simp [Lu]
    | true=>
     simp only [if_true,R.ok_bind]
     unfold c2
     cases h5:Et r.Term 0 r.Log with
     | false=>simp [Lu]
     | true=>
      simp only [if_true,R.ok_bind,Bool.true_and]
      cases h6:(decide (0≤r.Role)&&decide (r.Role≤2)) with
      | false=>simp [Lu]
      | true=>
       simp only [if_true,R.ok_bind,Bool.true_and]
       cases h7:((decide (0≤r.Commit)&&decide (r.Commit≤(r.Log.length:Int)))&&((r.Votes.length:Int)==r.Many)&&((r.Match.length:Int)==r.Many)) with
       | false=>simp [Lu]
       | true=>
        simp only [if_true,R.ok_bind]
        congr 1
        funext _
        unfold c4
        by_cases h8:r.Role=0
        ·simp [h8]
        ·simp only [h8,beq_iff_eq,if_false,show(r.Role==0)=false by simpa using h8,Bool.false_or,Bool.false_eq_true]
         cases h9:((r.Vote==r.ID)&&decide (r.Term≥1)) with
         | false=>simp [Lu]
         | true=>
          have hv:(r.Votes.length:Int)=r.Many:=by simp at h7; exact h7.1.2
          have hg:C5 r.Votes r.ID=.ok (r.Votes.getD r.ID.toNat false):=by
           have hlt:r.ID.toNat<r.Votes.length:=by omega
           have e:((r.ID.toNat:Nat):Int)=r.ID:=by omega
           have:=Hv (l:=r.Votes) (j:=r.ID.toNat) (a:=r.Votes.getD r.ID.toNat false) (by simp [List.getD,hlt])
           rw [e] at this
           exact this
          simp only [if_true,hg,R.ok_bind,Bool.true_and]
          cases r.Votes.getD r.ID.toNat false <;> simp [Lu]
end Rp
end Go.Am
namespace Go.Am
open Go
set_option linter.unusedVariables false
set_option linter.unusedSimpArgs false
namespace Rp
theorem Ws (r:Replica):Good r↔c1 r=true∧c2 r=true∧(∀ (j:Nat) a,r.Match[j]? = some a→m3 r j a=true)∧c4 r=true:=by
 constructor
 ·intro h
  refine⟨?_,?_,fun j a ha=>?_,?_⟩
  ·have:=h.many; have:=h.id; have:=h.term; have:=h.vote
   simp only [c1,Bool.and_eq_true,decide_eq_true_eq]
   omega
  ·have:=h.role; have:=h.commit; have:=h.votes; have:=h.mlen
   simp only [c2,Bool.and_eq_true,decide_eq_true_eq,beq_iff_eq]
   exact⟨⟨⟨h.fits,h.role,h.commit⟩,h.votes⟩,h.mlen⟩
  ·obtain⟨h1,h2⟩:=h.mat j a ha
   simp only [m3,Bool.and_eq_true,decide_eq_true_eq,Bool.or_eq_true,bne_iff_ne,ne_eq,beq_iff_eq,Bool.not_eq_true']
   refine⟨h1,?_⟩
   by_cases h0:r.Role=0
   ·obtain⟨h3,h4⟩:=h2 h0
    exact .inr ⟨h3,by simp [List.getD,h4]⟩
   ·exact .inl h0
  ·simp only [c4,Bool.or_eq_true,beq_iff_eq,Bool.and_eq_true,decide_eq_true_eq]
   by_cases h0:r.Role=0
   ·exact .inl h0
   ·obtain⟨h3,h4,h5⟩:=h.lead h0
    exact .inr ⟨⟨h3,h4⟩,by simp [List.getD,h5]⟩
 ·rintro⟨h1,h2,h3,h4⟩
  simp only [c1,Bool.and_eq_true,decide_eq_true_eq] at h1
  simp only [c2,Bool.and_eq_true,decide_eq_true_eq,beq_iff_eq] at h2
  have hv:(r.Votes.length:Int)=r.Many:=h2.1.2
  refine⟨h1.1,⟨h1.2.1.1,by omega⟩,h1.2.2.1,⟨h1.2.2.2.1,by omega⟩,h2.1.1.1,h2.1.1.2.1,h2.1.1.2.2,hv,h2.2,fun j a ha=>?_,fun h0=>?_⟩
  ·have:=h3 j a ha
   simp only [m3,Bool.and_eq_true,decide_eq_true_eq,Bool.or_eq_true,bne_iff_ne,ne_eq,beq_iff_eq,Bool.not_eq_true'] at this
   refine⟨this.1,fun h0=>?_⟩
   rcases this.2 with h5 | ⟨h5,h6⟩
   ·exact absurd h0 h5
   ·refine⟨h5,?_⟩
    have hj:j<r.Votes.length:=by
     have:j<r.Match.length:=by
      rcases Nat.lt_or_ge j r.Match.length with hh | hh
      ·exact hh
      ·rw [List.getElem?_eq_none hh] at ha; cases ha
     omega
    rw [List.getElem?_eq_getElem hj]
    simp [List.getD,hj] at h6
    rw [h6]
  ·simp only [c4,Bool.or_eq_true,beq_iff_eq,Bool.and_eq_true,decide_eq_true_eq] at h4
   rcases h4 with h5 | ⟨⟨h5,h6⟩,h7⟩
   ·exact absurd h5 h0
   ·refine⟨h5,h6,?_⟩
    have hj:r.ID.toNat<r.Votes.length:=by omega
    rw [List.getElem?_eq_getElem hj]
    simp [List.getD,hj] at h7
    rw [h7]
theorem Agh {r:Replica}(h1:c2 r=true){j:Nat}{a:Int}(ha:r.Match[j]? = some a):j<r.Votes.length:=by
 simp only [c2,Bool.and_eq_true,decide_eq_true_eq,beq_iff_eq] at h1
 have h2:=h1.1.2
 have h3:=h1.2
 have:j<r.Match.length:=by
  rcases Nat.lt_or_ge j r.Match.length with hh | hh
  ·exact hh
  ·rw [List.getElem?_eq_none hh] at ha; cases ha
 omega
theorem P7 {r:Replica}(hl:r.Log.length≤B5)(h:Good r):C8 r=.ok 0:=by
 obtain⟨h1,h2,h3,h4⟩:=(Ws r).1 h
 refine Ae3 ?_
 rw [Afw hl,if_pos h1,if_pos h2,Zt r.Match 0 fun j a ha=>?_,R.ok_bind,if_pos h4]
 rw [Nat.zero_add,Ac7 (Agh h2 ha),if_pos (h3 j a ha)]
theorem Q8 {r:Replica}(hl:r.Log.length≤B5)(h:¬ Good r):C8 r=.ok 470:=by
 refine Ag0 ?_
 rw [Afw hl]
 by_cases h1:c1 r=true
 ·rw [if_pos h1]
  by_cases h2:c2 r=true
  ·rw [if_pos h2]
   by_cases h3 : ∀ (j:Nat) a,r.Match[j]? = some a→m3 r j a=true
   ·rw [Zt r.Match 0 fun j a ha=>by rw [Nat.zero_add,Ac7 (Agh h2 ha),if_pos (h3 j a ha)],R.ok_bind,if_neg fun h4=>h ((Ws r).2 ⟨h1,h2,h3,h4⟩)]
   ·have hx : ∃ (j:Nat) (a:Int),r.Match[j]? = some a∧¬ m3 r j a=true:=by
     refine Classical.byContradiction fun hn=>h3 fun j a ha=>Classical.byContradiction fun hm=>hn ⟨j,a,ha,hm⟩
    obtain⟨j,a,ha,hm⟩:=hx
    rw [Acn (v:=Lu) r.Match 0 (fun j a ha=>by
     rw [Nat.zero_add,Ac7 (Agh h2 ha)]
     cases m3 r j a <;> simp) ⟨j,a,ha,by rw [Nat.zero_add,Ac7 (Agh h2 ha),if_neg hm]⟩]
    rfl
  ·rw [if_neg h2]
 ·rw [if_neg h1]
end Rp
end Go.Am
namespace Go.Am
open Go
set_option linter.unusedVariables false
set_option linter.unusedSimpArgs false
namespace Rp
def Wn (l:List Record):Int:=match l.getLast? with
 | none=>0
 | some a=>a.Term
theorem Afz (r:Replica)(s:List Message)(hl:r.Log.length≤B5):Fv ({ Replica:=r,fSent:=s }:T61)=.ok (Wn r.Log):=by
 unfold Fv Wn
 rcases List.eq_nil_or_concat r.Log with h | ⟨l,a,h⟩
 ·simp [h]
 ·have hlen:r.Log.length=l.length+1:=by rw [h]; simp
  have hne:((r.Log.length:Int)==0)=false:=by rw [hlen]; simp; omega
  have hw:IntKind.wrap .i64 ((r.Log.length:Int) - 1)=(l.length:Int):=by
   unfold B5 at hl
   rw [Iw (by omega) (by omega)]; omega
  have hg:r.Log[l.length]? = some a:=by rw [h]; simp
  simp only [hne,Bool.false_eq_true,if_false,hw,Hv hg,R.ok_bind]
  rw [h]
  simp
theorem Aho {r:Replica}(h:0≤r.Many∧r.Many≤5):Cp r=.ok (List.replicate r.Many.toNat false,List.replicate r.Many.toNat 0):=by
 unfold Cp F9 Hp
 rw [Pq]
 simp only [R.ok_bind,h.1,h.2,decide_true,Bool.and_self,if_true]
 rw [if_pos ⟨trivial,Int.le_refl _,by unfold B5; omega⟩,if_pos ⟨trivial,Int.le_refl _,by unfold B5; omega⟩]
end Rp
end Go.Am
namespace Go.Am
open Go
set_option linter.unusedVariables false
set_option linter.unusedSimpArgs false
namespace Rp
def Yb (many id:Int):List Nat:=(List.range many.toNat).filter fun x=>decide ((x:Int)≠id)
theorem Z8 {b:Int×List Message→R ((Int×List Message) ⊕ List Message)}{many id:Int}{g:Int→Message}(hm:0≤many∧many≤5)
  (hb : ∀ x l,b (x,l)=if x<many then(if(x != id) then((if(l.length+1) * 96≤B5 then R.ok (l++[g x]) else .bad).bind fun r=>.ok (.inl (IntKind.wrap .i64 (x+1),r))) else .ok (.inl (IntKind.wrap .i64 (x+1),l))) else .ok (.inr l)) :
  ∀ (n k:Nat) (l:List Message),k+n=many.toNat→l.length≤k→loop b ((k:Int),l)=.ok (l++(((List.range' k n).filter fun(x:Nat)=>decide ((x:Int)≠id)).map fun(x:Nat)=>g x))
 | 0,k,l,hk,hl=>by
  rw [H5,hb,if_neg (by omega)]
  simp
 | n+1,k,l,hk,hl=>by
  have hw:IntKind.wrap .i64 ((k:Int)+1)=((k+1:Nat):Int):=by rw [Iw (by omega) (by omega)]; omega
  rw [H5,hb,if_pos (by omega),List.range'_succ]
  by_cases hq:(k:Int)=id
  ·have h1:((k:Int) != id)=false:=by simpa using hq
   rw [h1]
   simp only [Bool.false_eq_true,if_false,R.ok_bind,hw]
   rw [Z8 hm hb n (k+1) l (by omega) (by omega)]
   congr 2
   rw [List.filter_cons_of_neg (by simpa using hq)]
  ·have h1:((k:Int) != id)=true:=by simpa using hq
   rw [h1]
   simp only [if_true]
   rw [if_pos (by unfold B5; omega)]
   simp only [R.ok_bind,hw]
   rw [Z8 hm hb n (k+1) (l++[g k]) (by omega) (by simp; omega)]
   congr 1
   rw [List.filter_cons_of_pos (by simpa using hq)]
   simp
theorem Wk {b:Int×List Message→R ((Int×List Message) ⊕ List Message)}{many id:Int}{g:Int→Message}(hm:0≤many∧many≤5)
  (hb : ∀ x l,b (x,l)=if x<many then(if(x != id) then((if(l.length+1) * 96≤B5 then R.ok (l++[g x]) else .bad).bind fun r=>.ok (.inl (IntKind.wrap .i64 (x+1),r))) else .ok (.inl (IntKind.wrap .i64 (x+1),l))) else .ok (.inr l)) :
  loop b (0,[])=.ok ((Yb many id).map fun(x:Nat)=>g x):=by
 have:=Z8 hm hb many.toNat 0 [] (by omega) (by simp)
 rw [show((0:Int),([]:List Message))=(((0:Nat):Int),[]) from rfl,this]
 simp [Yb,List.range_eq_range']
def V4 (r:Replica)(m:Message)(to:Int):Message:={ Kind:=m.Kind,From:=r.ID,To:=to,Term:=r.Term,Last:=m.Last,LastTerm:=m.LastTerm,Log:=m.Log,Commit:=m.Commit,Match:=m.Match,Granted:=m.Granted }
def P9 (log:List Record)(commit:Int):Message:={ Kind:=3,From:=0,To:=0,Term:=0,Last:=0,LastTerm:=0,Log:=log,Commit:=commit,Match:=0,Granted:=false }
def L9 (r:Replica)(m:Message):List Message:=(Yb r.Many r.ID).map fun(x:Nat)=>V4 r m x
theorem Ai5 (m:Message)(r:Replica)(hm:0≤r.Many∧r.Many≤5):Gb m r=.ok (L9 r m):=by
 unfold Gb
 rw [Wk (g:=fun x=>V4 r m x) (id:=r.ID) hm fun x l=>by simp only [D4,Hg,Jm,List.length_singleton,V4]]
 rfl
theorem Aji (m:Message)(r:Replica)(hm:0≤r.Many∧r.Many≤5):Fj m r.ID r.Many r.Term r.Vote r.Log r.Role r.Commit r.Match=.ok (L9 r m):=by
 unfold Fj
 rw [Wk (g:=fun x=>V4 r m x) (id:=r.ID) hm fun x l=>by simp only [D4,Hb,Jc,List.length_singleton,V4]]
 rfl
theorem Ajg (m:Message)(r:Replica)(hm:0≤r.Many∧r.Many≤5)(hl:m.Log=[]):Fi m.Kind m.From m.To m.Term m.Last m.LastTerm m.Commit m.Match m.Granted r.ID r.Many r.Term r.Vote r.Log r.Role r.Commit=.ok (L9 r m):=by
 unfold Fi
 rw [Wk (g:=fun x=>V4 r m x) (id:=r.ID) hm fun x l=>by simp only [D4,Hf,Je,List.length_singleton,V4,hl]]
 rfl
theorem Agv (l:List Int)(hl:l.length≤5):Fq l=.ok l:=by
 have key : ∀ (l s:List Int) (k:Nat),l.length+s.length≤5→Fy (fun _ a=>fun s=>Fp (fun a z_=>R.np ((fun l=>Fe a l) z_)) a s) k l s=.ok (s++l):=by
  intro l
  induction l with
  | nil=>intro s k _; simp [Ag5]
  | cons a l ih=>
   intro s k h
   simp only [List.length_cons] at h
   have hs:Fp (fun a z_=>R.np ((fun l=>Fe a l) z_)) a s=.ok (s++[a]):=by
    simp only [Fp,Fe,List.length_singleton]
    rw [if_pos (by unfold B5; omega)]
    rfl
   rw [Qq,hs,R.ok_bind,ih (s++[a]) (k+1) (by simp; omega)]
   simp
 unfold Fq Ho Jp
 rw [key l [] 0 (by simpa using hl)]
 rfl
theorem Ahn (l:List Int)(hl:l.length≤5):Dv l=.ok (D2 l):=by
 unfold Dv Nv Rj
 rw [Agv l hl]
 simp only [R.ok_bind]
 rw [if_pos (by unfold B5; omega)]
 rfl
def Ei (l:List Int):Int:=(D2 l).getD ((l.length - 1) / 2) 0
theorem Ahv {l:List Int}(h1:1≤l.length)(hl:l.length≤5):C5 (D2 l) (IntKind.wrap .i64 (Int.tdiv (IntKind.wrap .i64 (((D2 l).length:Int) - 1)) 2))=.ok (Ei l):=by
 rw [Nx]
 have e1:IntKind.wrap .i64 ((l.length:Int) - 1)=((l.length - 1:Nat):Int):=by rw [Iw (by omega) (by omega)]; omega
 have e2:Int.tdiv ((l.length - 1:Nat):Int) 2=(((l.length - 1) / 2:Nat):Int):=by
  rw [show(2:Int)=((2:Nat):Int) from rfl,← Int.ofNat_tdiv]
 have e3:IntKind.wrap .i64 (((l.length - 1) / 2:Nat):Int)=(((l.length - 1) / 2:Nat):Int):=Iw (by omega) (by omega)
 rw [e1,e2,e3]
 refine Hv ?_
 have hlt:(l.length - 1) / 2<(D2 l).length:=by rw [Nx]; omega
 unfold Ei
 simp [List.getD,hlt]
def Ph (term:Int)(log:List Record)(commit:Int)(mat:List Int):Int:=
 if Ei mat > commit∧(log.getD (Ei mat - 1).toNat Iy).Term=term then Ei mat else commit
theorem Abw {log:List Record}{a:Int}(h0:1≤a)(h1:a≤log.length)(hl:log.length≤B5):C5 log (IntKind.wrap .i64 (a - 1))=.ok (log.getD (a - 1).toNat Iy):=by
 unfold B5 at hl
 have hw:IntKind.wrap .i64 (a - 1)=(((a - 1).toNat:Nat):Int):=by rw [Iw (by omega) (by omega)]; omega
 rw [hw]
 refine Hv ?_
 have hlt:(a - 1).toNat<log.length:=by omega
 simp only [List.getD,List.getElem?_eq_getElem hlt,Option.getD_some]
theorem Aae {l:List Int}(h1:1≤l.length):Ei l ∈ l:=by
 have hlt:(l.length - 1) / 2<(D2 l).length:=by rw [Nx]; omega
 have:Ei l ∈ D2 l:=by
  unfold Ei
  simp only [List.getD,List.getElem?_eq_getElem hlt,Option.getD_some]
  exact List.getElem_mem hlt
 exact List.mem_mergeSort.1 this
end Rp
end Go.Am
namespace Go.Am
open Go
set_option linter.unusedVariables false
set_option linter.unusedSimpArgs false
namespace Rp
def P2 (r:Replica):Replica×List Message:=
 let mat:=(List.replicate r.Many.toNat (0:Int)).set r.ID.toNat r.Log.length
 let r':Replica:={ r with Role:=2,Commit:=Ph r.Term r.Log r.Commit mat,Match:=mat }
 (r',L9 r' (P9 r.Log r'.Commit))
structure Shape (r:Replica):Prop where
 many:1≤r.Many∧r.Many≤5
 id:0≤r.ID∧r.ID<r.Many
 commit:0≤r.Commit∧r.Commit≤r.Log.length
 votes:(r.Votes.length:Int)=r.Many
 mlen:(r.Match.length:Int)=r.Many
 mat : ∀ a ∈ r.Match,0≤a∧a≤r.Log.length
 log:r.Log.length≤B5
theorem Aj8 {term commit:Int}{log:List Record}{mat:List Int}(hm1:1≤mat.length)(hm:mat.length≤5)(ha : ∀ a ∈ mat,0≤a∧a≤log.length)(hc:0≤commit)(hl:log.length≤B5){α:Type}(J:Int→Bool→R α) :
  ((Eg mat).bind fun _=>(Dv mat).bind fun l2=>(C5 l2 (IntKind.wrap .i64 (Int.tdiv (IntKind.wrap .i64 ((l2.length:Int) - 1)) 2))).bind fun a=>
   if(decide (a > commit)) then((C5 log (IntKind.wrap .i64 (a - 1))).bind fun a1=>J a (a1.Term==term)) else(J a false)) =
  J (Ei mat) (decide (Ei mat > commit∧(log.getD (Ei mat - 1).toNat Iy).Term=term)):=by
 unfold Eg
 simp only [Ahn mat hm,R.ok_bind,Ahv hm1 hm]
 have h2:=ha _ (Aae hm1)
 by_cases h1:Ei mat > commit
 ·simp only [h1,decide_true,if_true,true_and]
  rw [Abw (by omega) h2.2 hl,R.ok_bind]
  congr 1
 ·simp [h1]
theorem Ah5 {r:Replica}{role:Int}{l:List Bool}{mat:List Int}(hm1:1≤mat.length)(hm:mat.length≤5)(ha : ∀ a ∈ mat,0≤a∧a≤r.Log.length)(hc:0≤r.Commit)(hl:r.Log.length≤B5) :
  Ef r.ID r.Many r.Term r.Vote r.Log role r.Commit l mat=.ok (Ph r.Term r.Log r.Commit mat):=by
 unfold Ef
 rw [Aj8 hm1 hm ha hc hl (J:=fun a x=>Ea r.Commit a x)]
 unfold Ea Ph
 by_cases h:Ei mat > r.Commit∧(r.Log.getD (Ei mat - 1).toNat Iy).Term=r.Term
 ·rw [decide_eq_true h,if_pos h,if_pos rfl]
 ·rw [decide_eq_false h,if_neg h,if_neg (by simp)]
theorem Alm {r:Replica}(hs:Shape r):E7 r.ID r.Many r.Term r.Vote r.Log r.Role r.Commit r.Match r.Votes=.ok ((P2 r).1.Commit,(P2 r).1.Match,(P2 r).2):=by
 have hmany:=hs.many
 have hid:=hs.id
 unfold E7 Gt
 rw [if_pos ⟨by omega,Int.le_refl _,by unfold B5; omega⟩]
 have hi:C5 (List.replicate r.Many.toNat (0:Int)) r.ID=.ok 0:=by
  have:=Hv (l:=List.replicate r.Many.toNat (0:Int)) (j:=r.ID.toNat) (a:=0) (by rw [List.getElem?_replicate,if_pos (by omega)])
  rwa [show((r.ID.toNat:Nat):Int)=r.ID by omega] at this
 have hlen:((List.replicate r.Many.toNat (0:Int)).set r.ID.toNat r.Log.length).length=r.Many.toNat:=by simp
 have ha : ∀ a ∈ ((List.replicate r.Many.toNat (0:Int)).set r.ID.toNat r.Log.length),0≤a∧a≤r.Log.length:=by
  intro a ha
  rcases List.mem_or_eq_of_mem_set ha with h | h
  ·have:=List.eq_of_mem_replicate h; omega
  ·omega
 simp only [hi,R.ok_bind]
 rw [Ah5 (r:=r) (by rw [hlen]; omega) (by rw [hlen]; omega) ha hs.commit.1 hs.log]
 simp only [R.ok_bind]
 unfold F3
 have h4:=Aji (P9 r.Log (P2 r).1.Commit) (P2 r).1 (by show 0≤r.Many∧r.Many≤5; omega)
 rw [show Fj ({ Kind:=3,From:=0,To:=0,Term:=0,Last:=0,LastTerm:=0,Log:=r.Log,Commit:=Ph r.Term r.Log r.Commit ((List.replicate r.Many.toNat (0:Int)).set r.ID.toNat r.Log.length),Match:=0,Granted:=false }:Message) r.ID r.Many r.Term r.Vote r.Log 2 (Ph r.Term r.Log r.Commit ((List.replicate r.Many.toNat (0:Int)).set r.ID.toNat r.Log.length)) ((List.replicate r.Many.toNat (0:Int)).set r.ID.toNat r.Log.length)=_ from h4]
 rfl
end Rp
end Go.Am
namespace Go.Am
open Go
set_option linter.unusedVariables false
set_option linter.unusedSimpArgs false
namespace Rp
def Yv:Replica:={ ID:=0,Many:=0,Term:=0,Vote:=0,Log:=[],Role:=0,Commit:=0,Votes:=[],Match:=[] }
end Rp
end Go.Am
namespace Go.Am
open Go
set_option linter.unusedVariables false
set_option linter.unusedSimpArgs false
namespace Rp
structure Same (x r:Replica):Prop where
 id:x.ID=r.ID
 many:x.Many=r.Many
 term:x.Term=r.Term
theorem Good.shape {r:Replica}(h:Good r)(hl:r.Log.length≤B5):Shape r:=
 ⟨h.many,h.id,h.commit,h.votes,h.mlen,fun a ha=>by
  obtain⟨j,hj⟩:=List.getElem?_of_mem ha
  exact(h.mat j a hj).1,hl⟩
end Rp
end Go.Am
namespace Go.Am
open Go
set_option linter.unusedVariables false
set_option linter.unusedSimpArgs false
namespace Rp
theorem Ald {r:Replica}(hs:Shape r)(role:Int):F6 r.ID r.Many r.Term r.Vote r.Log role r.Commit r.Votes=.ok ((P2 r).1.Commit,(P2 r).1.Match,(P2 r).2):=Alm hs
def Md (r:Replica):Replica:={ r with Term:=r.Term+1,Vote:=r.ID,Role:=1,Votes:=(List.replicate r.Many.toNat false).set r.ID.toNat true,Match:=List.replicate r.Many.toNat 0 }
def Adn (r:Replica):Message:={ Kind:=1,From:=0,To:=0,Term:=0,Last:=r.Log.length,LastTerm:=Wn r.Log,Log:=[],Commit:=0,Match:=0,Granted:=false }
def Ac6 (r:Replica):Replica×List Message:=if r.Many=1 then P2 (Md r) else(Md r,L9 (Md r) (Adn r))
theorem Yj {r:Replica}(h:Shape r):Shape (Md r):=
 ⟨h.many,h.id,h.commit,by have:=h.many; simp [Md]; omega,by have:=h.many; simp [Md]; omega,fun a ha=>by
  have:=List.eq_of_mem_replicate ha
  have:=h.commit
  simp only [Md]
  omega,h.log⟩
theorem Abm {α:Type}{n i:Int}{a:α}(h0:0≤i)(h1:i<n):C5 (List.replicate n.toNat a) i=.ok a:=by
 have:=Hv (l:=List.replicate n.toNat a) (j:=i.toNat) (a:=a) (by rw [List.getElem?_replicate,if_pos (by omega)])
 rwa [show((i.toNat:Nat):Int)=i by omega] at this
theorem Af5 {r:Replica}(h:Good r)(hl:r.Log.length≤B5):E0 r=.ok (if r.Term=1048576 then(Yv,[],2) else((Ac6 r).1,(Ac6 r).2,0)):=by
 have hs:=h.shape hl
 have hmany:=h.many
 have hid:=h.id
 unfold E0
 rw [P7 hl h,R.ok_bind,if_neg (by simp)]
 by_cases ht:r.Term=1048576
 ·rw [if_pos (by simpa using ht),if_pos ht]
  rfl
 ·have hw:IntKind.wrap .i64 (r.Term+1)=r.Term+1:=by have:=h.term; exact Iw (by omega) (by omega)
  rw [if_neg (by simpa using ht),if_neg ht]
  simp only [Dz,R.ok_bind]
  rw [Aho ⟨by omega,hmany.2⟩]
  simp only [R.ok_bind,Abm hid.1 hid.2,hw]
  unfold Ac6
  by_cases h1:r.Many=1
  ·rw [if_pos (by simpa using h1),if_pos h1]
   have:=Ald (Yj hs) 1
   rw [show F6 r.ID r.Many (r.Term+1) r.ID r.Log 1 r.Commit ((List.replicate r.Many.toNat false).set r.ID.toNat true)=_ from this]
   rfl
  ·rw [if_neg (by simpa using h1),if_neg h1]
   rw [show Fv ({ Replica:=({ ID:=r.ID,Many:=r.Many,Term:=r.Term+1,Vote:=r.ID,Log:=r.Log,Role:=1,Commit:=r.Commit,Votes:=(List.replicate r.Many.toNat false).set r.ID.toNat true,Match:=List.replicate r.Many.toNat 0 }:Replica),fSent:=[] }:T61)=.ok (Wn r.Log) from Afz (Md r) [] hl]
   simp only [R.ok_bind]
   rw [show Fi 1 0 0 0 (r.Log.length:Int) (Wn r.Log) 0 0 false r.ID r.Many (r.Term+1) r.ID r.Log 1 r.Commit=.ok (L9 (Md r) (Adn r)) from Ajg (Adn r) (Md r) (by show 0≤r.Many∧r.Many≤5; omega) rfl]
   rfl
theorem Ad9 {r:Replica}(h:¬ Good r)(hl:r.Log.length≤B5):E0 r=.ok (Yv,[],470):=by
 unfold E0
 rw [Q8 hl h]
 rfl
def U2 (r:Replica)(data:List Int):Replica×List Message:=
 let log:=r.Log++[({ Term:=r.Term,Data:=data }:Record)]
 let mat:=r.Match.set r.ID.toNat log.length
 let x:Replica:={ r with Log:=log,Match:=mat,Commit:=Ph r.Term log r.Commit mat }
 (x,L9 x (P9 log x.Commit))
theorem Ahf {r:Replica}{log:List Record}{mat:List Int}(hm1:1≤mat.length)(hm:mat.length≤5)(ha : ∀ a ∈ mat,0≤a∧a≤log.length)(hc:0≤r.Commit)(hl:log.length≤B5) :
  E4 r.ID r.Many r.Term r.Vote r.Role r.Commit r.Votes log mat=.ok (Ph r.Term log r.Commit mat,log):=by
 unfold E4
 rw [Aj8 hm1 hm ha hc hl (J:=fun a x=>Ec r.Commit a x log)]
 unfold Ec Ph
 by_cases h:Ei mat > r.Commit∧(log.getD (Ei mat - 1).toNat Iy).Term=r.Term
 ·rw [decide_eq_true h,if_pos h,if_pos rfl]
 ·rw [decide_eq_false h,if_neg h,if_neg (by simp)]
theorem Afy {r:Replica}{data:List Int}(h:Good r)(hl:r.Log.length≤B5):Ey r data=.ok (if r.Role=2 then(if r.Log.length≥4096 then(Yv,[],2) else((U2 r data).1,(U2 r data).2,0)) else(Yv,[],470)):=by
 have hmany:=h.many
 have hid:=h.id
 have hml:=h.mlen
 unfold Ey
 rw [P7 hl h,R.ok_bind,if_neg (by simp)]
 by_cases h1:r.Role=2
 ·rw [if_neg (show ¬ ((r.Role != 2)=true) by simp [h1]),if_pos h1]
  by_cases h2:r.Log.length≥4096
  ·rw [if_pos (show(r.Log.length:Int)≥4096 by omega),if_pos h2]
   rfl
  ·rw [if_neg (show ¬ ((r.Log.length:Int)≥4096) by omega),if_neg h2]
   unfold Dz J3
   rw [R.ok_bind,if_pos (by unfold B5; omega),R.ok_bind,if_pos (by simp only [List.length_singleton]; unfold B5; omega)]
   unfold I3 I0
   have hlt:r.ID.toNat<r.Match.length:=by omega
   have hi:C5 r.Match r.ID=.ok (r.Match.getD r.ID.toNat 0):=by
    have:=Hv (l:=r.Match) (j:=r.ID.toNat) (a:=r.Match.getD r.ID.toNat 0) (by simp only [List.getD,List.getElem?_eq_getElem hlt,Option.getD_some])
    rwa [show((r.ID.toNat:Nat):Int)=r.ID by omega] at this
   rw [if_pos (by unfold B5; omega),R.ok_bind,hi,R.ok_bind]
   rw [Ahf (by simp; omega) (by simp; omega) (by
    intro a ha
    rcases List.mem_or_eq_of_mem_set ha with h' | h'
    ·have:=(h.shape hl).mat a h'
     simp only [List.length_append,List.length_singleton]
     omega
    ·subst h'; omega) h.commit.1 (by simp only [List.length_append,List.length_singleton]; unfold B5; omega)]
   simp only [R.ok_bind]
   unfold Gx
   have:=Ai5 (P9 (r.Log++[({ Term:=r.Term,Data:=data }:Record)]) (U2 r data).1.Commit) (U2 r data).1 (by show 0≤r.Many∧r.Many≤5; omega)
   simp only [U2,P9] at this
   rw [this]
   rfl
 ·rw [if_pos (show(r.Role != 2)=true by simpa using h1),if_neg h1]
  rfl
theorem Adb {r:Replica}{data:List Int}(h:¬ Good r)(hl:r.Log.length≤B5):Ey r data=.ok (Yv,[],470):=by
 unfold Ey
 rw [Q8 hl h]
 rfl
theorem Ak9 (r:Replica)(hl:r.Log.length * 24≤B5)(hc:0≤r.Commit):Cv r=.ok ((r.Log.take r.Commit.toNat).map (·.Data)):=by
 have key : ∀ (l:List Record) (k:Nat) (s:List (List Int)),s.length=k→k≤r.Commit.toNat→(k+l.length) * 24≤B5 → ∃ b,each (fun j a=>fun l=>Ep r j a l) k l s=.ok b∧(match b with | .inl x=>x | .inr x=>x)=s++(l.take (r.Commit.toNat - k)).map (·.Data):=by
  intro l
  induction l with
  | nil=>intro k s h1 h2 h3; exact⟨.inl s,rfl,by simp⟩
  | cons a l ih=>
   intro k s h1 h2 h3
   simp only [List.length_cons] at h3
   rw [Mk]
   by_cases hk:(k:Int)≥r.Commit
   ·refine⟨.inr s,?_,?_⟩
    ·simp only [Ep,if_pos hk,R.ok_bind]
    ·rw [show r.Commit.toNat - k=0 by omega]; simp
   ·have hb:Ep r k a s=.ok (.inl (s++[a.Data])):=by
     simp only [Ep,if_neg hk,List.length_singleton]
     rw [if_pos (by rw [h1]; omega)]
    rw [hb]
    simp only [R.ok_bind]
    obtain⟨b,e1,e2⟩:=ih (k+1) (s++[a.Data]) (by simp [h1]) (by omega) (by omega)
    refine⟨b,e1,?_⟩
    rw [e2,show r.Commit.toNat - k=(r.Commit.toNat - (k+1))+1 by omega]
    simp
 unfold Cv
 obtain⟨b,e1,e2⟩:=key r.Log 0 [] rfl (by omega) (by simpa using hl)
 rw [e1]
 simp only [List.nil_append,Nat.sub_zero] at e2
 cases b with
 | inl x=>simp only at e2; subst e2; rfl
 | inr x=>simp only at e2; subst e2; rfl
end Rp
end Go.Am
namespace Go.Am
open Go
set_option linter.unusedVariables false
set_option linter.unusedSimpArgs false
namespace Rp
theorem P3 (n lo hi:Int):C9 n lo hi=.ok (decide (lo≤n)&&decide (n≤hi)):=rfl
theorem Ah0 (l:List Record)(t:Int)(hl:l.length≤B5):Mr l t=.ok (Et t 0 l):=by
 rw [← Afp l t hl]
 rfl
theorem Alk {r:Replica}{x:Nat}{a:Int}(hx:(x:Int)<r.Many)(hm:r.Match[x]? = some a)(hv:x<r.Votes.length)(h5:r.Many≤5) :
  D0 r (x:Int)=if m3 r x a then .ok (.inl ((x+1:Nat):Int)) else .ok (.inr (.inr 470)):=by
 have hw:IntKind.wrap .i64 ((x:Int)+1)=((x+1:Nat):Int):=by rw [Iw (by omega) (by omega)]; omega
 have hvx:r.Votes[x]? = some (r.Votes.getD x false):=by simp only [List.getD,List.getElem?_eq_getElem hv,Option.getD_some]
 unfold D0 m3
 rw [if_pos hx,Hv hm,R.ok_bind,P3,R.ok_bind]
 cases h1:(decide (0≤a)&&decide (a≤(r.Log.length:Int))) with
 | false=>simp [Gm]
 | true=>
  simp only [Bool.not_true,Bool.false_eq_true,if_false,Bool.true_and]
  by_cases h2:r.Role=0
  ·simp only [h2,beq_self_eq_true,if_true,Hv hvx,R.ok_bind,bne_self_eq_false,Bool.false_or]
   cases r.Votes.getD x false
   ·by_cases h3:a=0
    ·subst h3; simp [Gm,hw]
    ·simp [Gm,h3]
   ·simp [Gm]
  ·simp [h2,Gm,hw]
theorem Agu {r:Replica}(hv:(r.Votes.length:Int)=r.Many)(hm:(r.Match.length:Int)=r.Many)(h5:r.Many≤5) : ∀ (n k:Nat),k+n=r.Match.length →
  ((∀ (j:Nat) a,k≤j→r.Match[j]? = some a→m3 r j a=true)→loop (fun x=>D0 r x) (k:Int)=.ok (.inl ())) ∧
  ((∃ (j:Nat) (a:Int),k≤j∧r.Match[j]? = some a∧m3 r j a=false)→loop (fun x=>D0 r x) (k:Int)=.ok (.inr 470))
 | 0,k,hk=>by
  constructor
  ·intro _
   rw [H5]
   have:D0 r (k:Int)=.ok (.inr (.inl ())):=by
    unfold D0
    rw [if_neg (by omega)]
   rw [this]; rfl
  ·rintro⟨j,a,hj,ha,_⟩
   rw [List.getElem?_eq_none (by omega)] at ha; cases ha
 | n+1,k,hk=>by
  have hlt:k<r.Match.length:=by omega
  have ha:r.Match[k]? = some r.Match[k]:=List.getElem?_eq_getElem hlt
  have hb:=Alk (r:=r) (x:=k) (by omega) ha (by omega) h5
  obtain⟨i1,i2⟩:=Agu hv hm h5 n (k+1) (by omega)
  constructor
  ·intro h
   rw [H5,hb,if_pos (h k _ (Nat.le_refl _) ha),R.ok_bind]
   exact i1 fun j a hj hja=>h j a (by omega) hja
  ·rintro⟨j,a,hj,hja,hf⟩
   rw [H5,hb]
   cases hq:m3 r k r.Match[k] with
   | false=>rfl
   | true=>
    rw [if_pos rfl,R.ok_bind]
    refine i2 ⟨j,a,?_,hja,hf⟩
    rcases Nat.lt_or_ge k j with h' | h'
    ·exact h'
    ·have:j=k:=by omega
     subst this
     rw [ha] at hja; cases hja
     rw [hq] at hf; cases hf
end Rp
end Go.Am
namespace Go.Am
open Go
set_option linter.unusedVariables false
set_option linter.unusedSimpArgs false
namespace Rp
theorem Aih {r:Replica}(hid:0≤r.ID∧r.ID<r.Many)(hv:(r.Votes.length:Int)=r.Many):Fd r=.ok (if c4 r then 0 else 470):=by
 unfold Fd c4
 by_cases h:r.Role=0
 ·simp [h]
 ·have hlt:r.ID.toNat<r.Votes.length:=by omega
  have hg:C5 r.Votes r.ID=.ok (r.Votes.getD r.ID.toNat false):=by
   have:=Hv (l:=r.Votes) (j:=r.ID.toNat) (a:=r.Votes.getD r.ID.toNat false) (by simp only [List.getD,List.getElem?_eq_getElem hlt,Option.getD_some])
   rwa [show((r.ID.toNat:Nat):Int)=r.ID by omega] at this
  have h1:(r.Role != 0)=true:=by simpa using h
  have h2:(r.Role==0)=false:=by simpa using h
  rw [h1,h2]
  simp only [if_true,Bool.false_or]
  by_cases h3:r.Vote=r.ID
  ·by_cases h4:r.Term≥1
   ·have e1:((r.Vote != r.ID)||(decide (r.Term<1)))=false:=by simp [h3]; omega
    have e2:((r.Vote==r.ID)&&decide (r.Term≥1))=true:=by simp [h3,h4]
    rw [e1,e2]
    simp only [Bool.false_eq_true,if_false,hg,R.ok_bind,Bool.true_and]
    cases r.Votes.getD r.ID.toNat false <;> rfl
   ·have e1:((r.Vote != r.ID)||(decide (r.Term<1)))=true:=by simp [h3]; omega
    have e2:((r.Vote==r.ID)&&decide (r.Term≥1))=false:=by simp [h3]; omega
    rw [e1,e2]
    rfl
  ·have e1:((r.Vote != r.ID)||(decide (r.Term<1)))=true:=by simp [h3]
   have e2:((r.Vote==r.ID)&&decide (r.Term≥1))=false:=by simp [h3]
   rw [e1,e2]
   rfl
theorem Ae2 {r:Replica}(hl:r.Log.length≤B5):G7 r=if c1 r then(if c2 r then((loop (fun x=>D0 r x) 0).bind (Ga (fun _=>Fd r) (fun q=>.ok q))) else .ok 470) else .ok 470:=by
 unfold G7
 simp only [P3,R.ok_bind,Ah0 _ _ hl]
 unfold c1
 cases h1:(decide (1≤r.Many)&&decide (r.Many≤5)) with
 | false=>simp
 | true=>
  have hm:1≤r.Many∧r.Many≤5:=by simpa using h1
  have hw:IntKind.wrap .i64 (r.Many - 1)=r.Many - 1:=Iw (by omega) (by omega)
  simp only [hw,Bool.not_true,Bool.false_eq_true,if_false,R.ok_bind,Bool.true_and]
  cases h2:(decide (0≤r.ID)&&decide (r.ID≤r.Many - 1)) with
  | false=>simp
  | true=>
   simp only [Bool.not_true,Bool.false_eq_true,if_false,R.ok_bind,Bool.true_and]
   cases h3:(decide (0≤r.Term)&&decide (r.Term≤1048576)) with
   | false=>simp
   | true=>
    simp only [Bool.not_true,Bool.false_eq_true,if_false,R.ok_bind,Bool.true_and]
    cases h4:(decide (-1≤r.Vote)&&decide (r.Vote≤r.Many - 1)) with
    | false=>simp
    | true=>
     simp only [Bool.not_true,Bool.false_eq_true,if_false,R.ok_bind]
     unfold c2
     cases h5:Et r.Term 0 r.Log with
     | false=>simp
     | true=>
      simp only [Bool.not_true,Bool.false_eq_true,if_false,R.ok_bind,Bool.true_and]
      cases h6:(decide (0≤r.Role)&&decide (r.Role≤2)) with
      | false=>simp
      | true=>
       simp only [Bool.not_true,Bool.false_eq_true,if_false,R.ok_bind,Bool.true_and]
       cases h7:(decide (0≤r.Commit)&&decide (r.Commit≤(r.Log.length:Int))) with
       | false=>simp
       | true=>
        simp only [Bool.not_true,Bool.false_or,Bool.true_and,if_true]
        by_cases h8:(r.Votes.length:Int)=r.Many
        ·by_cases h9:(r.Match.length:Int)=r.Many
         ·simp [h8,h9]
         ·simp [h8,h9]
        ·simp [h8]
theorem rcheck_eq {r:Replica}(hl:r.Log.length≤B5):G7 r=C8 r:=by
 have ok:Good r→G7 r=.ok 0:=by
  intro h
  obtain⟨h1,h2,h3,h4⟩:=(Ws r).1 h
  rw [Ae2 hl,if_pos h1,if_pos h2]
  have:=(Agu h.votes h.mlen h.many.2 r.Match.length 0 (by omega)).1 fun j a _ ha=>h3 j a ha
  rw [show(0:Int)=((0:Nat):Int) from rfl,this,R.ok_bind]
  simp only [Ga]
  rw [Aih h.id h.votes,if_pos h4]
  rfl
 by_cases h:Good r
 ·rw [ok h,P7 hl h]
 ·rw [Q8 hl h,Ae2 hl]
  by_cases h1:c1 r=true
  ·rw [if_pos h1]
   by_cases h2:c2 r=true
   ·rw [if_pos h2]
    have h1':=h1
    have h2':=h2
    simp only [c1,Bool.and_eq_true,decide_eq_true_eq] at h1'
    simp only [c2,Bool.and_eq_true,decide_eq_true_eq,beq_iff_eq] at h2'
    obtain⟨l1,l2⟩:=Agu h2'.1.2 h2'.2 h1'.1.2 r.Match.length 0 (by omega)
    by_cases h3 : ∀ (j:Nat) a,r.Match[j]? = some a→m3 r j a=true
    ·rw [show(0:Int)=((0:Nat):Int) from rfl,l1 fun j a _ ha=>h3 j a ha,R.ok_bind]
     simp only [Ga]
     rw [Aih ⟨h1'.2.1.1,by omega⟩ h2'.1.2,if_neg fun h4=>h ((Ws r).2 ⟨h1,h2,h3,h4⟩)]
    ·have hx : ∃ (j:Nat) (a:Int),0≤j∧r.Match[j]? = some a∧m3 r j a=false:=by
      refine Classical.byContradiction fun hn=>h3 fun j a ha=>Classical.byContradiction fun hm=>hn ⟨j,a,Nat.zero_le _,ha,by simpa using hm⟩
     rw [show(0:Int)=((0:Nat):Int) from rfl,l2 hx,R.ok_bind]
   ·rw [if_neg h2]
  ·rw [if_neg h1]
end Rp
end Go.Am
namespace Go.Am
open Go
set_option linter.unusedVariables false
set_option linter.unusedSimpArgs false
namespace Rp
theorem X1 {b:Int×List Message×Int×Int×Int→R ((Int×List Message×Int×Int×Int) ⊕ List Message)}{many id t0:Int}{g:Int→Message}(hm:0≤many∧many≤5)
  (hb : ∀ x l f t e,b (x,l,f,t,e)=if x<many then(if(x != id) then(if(l.length+1) * 96≤B5 then R.ok (.inl (IntKind.wrap .i64 (x+1),l++[g x],id,x,t0)) else .bad) else .ok (.inl (IntKind.wrap .i64 (x+1),l,f,t,e))) else .ok (.inr l)) :
  ∀ (n k:Nat) (l:List Message) (f t e:Int),k+n=many.toNat→l.length≤k→loop b ((k:Int),l,f,t,e)=.ok (l++(((List.range' k n).filter fun(x:Nat)=>decide ((x:Int)≠id)).map fun(x:Nat)=>g x))
 | 0,k,l,f,t,e,hk,hl=>by
  rw [H5,hb,if_neg (by omega)]
  simp
 | n+1,k,l,f,t,e,hk,hl=>by
  have hw:IntKind.wrap .i64 ((k:Int)+1)=((k+1:Nat):Int):=by rw [Iw (by omega) (by omega)]; omega
  rw [H5,hb,if_pos (by omega),List.range'_succ]
  by_cases hq:(k:Int)=id
  ·have h1:((k:Int) != id)=false:=by simpa using hq
   rw [h1]
   simp only [Bool.false_eq_true,if_false,R.ok_bind,hw]
   rw [X1 hm hb n (k+1) l f t e (by omega) (by omega)]
   congr 2
   rw [List.filter_cons_of_neg (by simpa using hq)]
  ·have h1:((k:Int) != id)=true:=by simpa using hq
   rw [h1]
   simp only [if_true]
   rw [if_pos (by unfold B5; omega)]
   simp only [R.ok_bind,hw]
   rw [X1 hm hb n (k+1) (l++[g k]) _ _ _ (by omega) (by simp; omega)]
   congr 1
   rw [List.filter_cons_of_pos (by simpa using hq)]
   simp
theorem Aa5 (m:Message)(r:Replica)(hm:0≤r.Many∧r.Many≤5):Nc r m=.ok (L9 r m):=by
 unfold Nc
 have:=X1 (b:=R1 fun i l vFrom vTo vTerm=>Ku r m i l vFrom vTo vTerm) (g:=fun x=>V4 r m x) (id:=r.ID) (t0:=r.Term) hm (fun x l f t e=>by simp only [R1,Ku,List.length_singleton,V4]) r.Many.toNat 0 [] m.From m.To m.Term (by omega) (by simp)
 rw [show((0:Int),([]:List Message),m.From,m.To,m.Term)=(((0:Nat):Int),[],m.From,m.To,m.Term) from rfl,this]
 simp [L9,Yb,List.range_eq_range',Mo]
end Rp
end Go.Am
namespace Go.Am
open Go
set_option linter.unusedVariables false
def Le {α:Type}(x y:R α):Prop:=x=.bad∨x=y
theorem Le.refl {α:Type}(x:R α):Le x x:=.inr rfl
theorem Amd {α:Type}{x y:R α}{a:α}(h:Le x y)(hx:x=.ok a):y=.ok a:=by
 rcases h with h | h
 ·rw [h] at hx; cases hx
 ·rw [← h]; exact hx
theorem Cy {α β:Type}{x y:R α}{f g:α→R β}(h:Le x y)(hf : ∀ a,Le (f a) (g a)):Le (x.bind f) (y.bind g):=by
 rcases h with rfl | rfl
 ·exact .inl rfl
 ·cases x with
  | ok a=>exact hf a
  | pan v=>exact .inr rfl
  | bad=>exact .inl rfl
theorem Dm {α:Type}{c:Prop}[Decidable c]{x y x' y':R α}(h:Le x x')(h':Le y y'):Le (if c then x else y) (if c then x' else y'):=by
 split
 ·exact h
 ·exact h'
theorem Cq {α:Type}{x y:R α}{f:PV→R α}(h:Le x y):Le (x.catch' f) (y.catch' f):=by
 rcases h with rfl | rfl
 ·exact .inl rfl
 ·exact .inr rfl
theorem D6 {α:Type}{x y:R α}(h:Le x y):Le x.np y.np:=by
 rcases h with rfl | rfl
 ·exact .inl rfl
 ·exact .inr rfl
theorem C4 {α σ ε:Type}{b b':Nat→α→σ→R (σ ⊕ ε)}(h : ∀ j a s,Le (b j a s) (b' j a s)) : ∀ (k:Nat) (l:List α) (s:σ),Le (each b k l s) (each b' k l s)
 | k,[],s=>.inr rfl
 | k,a::l,s=>by
  rw [Mk,Mk]
  refine Cy (h k a s) fun x=>?_
  cases x with
  | inl s'=>exact C4 h (k+1) l s'
  | inr e=>exact .inr rfl
theorem Cm {α σ:Type}{b b':Nat→α→σ→R σ}(h : ∀ j a s,Le (b j a s) (b' j a s)) : ∀ (k:Nat) (l:List α) (s:σ),Le (Fy b k l s) (Fy b' k l s)
 | k,[],s=>.inr rfl
 | k,a::l,s=>by
  rw [Qq,Qq]
  exact Cy (h k a s) fun x=>Cm h (k+1) l x
theorem Af1 {σ ε:Type}{b b':σ→R (σ ⊕ ε)}(h : ∀ s,Le (b s) (b' s)) : ∀ (n:Nat) (s:σ),Le (G2 b n s) (G2 b' n s)
 | 0,s=>.inl rfl
 | n+1,s=>by
  rw [G2,G2]
  refine Cy (h s) fun x=>?_
  cases x with
  | inl s'=>exact Af1 h n s'
  | inr e=>exact .inr rfl
def Tv {σ ε:Type}(n:Nat)(body:σ→R (σ ⊕ ε))(s:σ):R ε:=G2 body n s
theorem C7 {σ ε:Type}{b b':σ→R (σ ⊕ ε)}(h : ∀ s,Le (b s) (b' s))(n:Nat)(s:σ):Le (Tv n b s) (loop b' s):=by
 unfold Tv
 rcases Af1 h n s with e | e
 ·exact .inl e
 ·by_cases hb:G2 b' n s=.bad
  ·exact .inl (e.trans hb)
  ·exact .inr (e.trans (Re hb).symm)
section
variable {α β γ δ ε ζ κ:Type}
theorem Dk {f f':α→R κ}{g g':β→R κ}(hf : ∀ a,Le (f a) (f' a))(hg : ∀ b,Le (g b) (g' b))(s:α ⊕ β):Le (Ga f g s) (Ga f' g' s):=by
 cases s with
 | inl a=>exact hf a
 | inr b=>exact hg b
theorem Dh {f g:α→β→R κ}(h : ∀ a b,Le (f a b) (g a b))(p:α×β):Le (D4 f p) (D4 g p):=h _ _
theorem Dn {f g:α→β→γ→R κ}(h : ∀ a b c,Le (f a b c) (g a b c))(p:α×β×γ):Le (Lv f p) (Lv g p):=h _ _ _
theorem Di {f g:α→β→γ→δ→R κ}(h : ∀ a b c d,Le (f a b c d) (g a b c d))(p:α×β×γ×δ):Le (un4 f p) (un4 g p):=h _ _ _ _
theorem Dl {f g:α→β→γ→δ→ε→R κ}(h : ∀ a b c d e,Le (f a b c d e) (g a b c d e))(p:α×β×γ×δ×ε):Le (R1 f p) (R1 g p):=h _ _ _ _ _
end
def Zw (a:Int):List Int→List Int
 | []=>[a]
 | b::l=>if a≤b then a::b::l else b::Zw a l
def V9:List Int→List Int
 | []=>[]
 | a::l=>Zw a (V9 l)
theorem Xo (a:Int) : ∀ l,(Zw a l).Perm (a::l)
 | []=>.refl _
 | b::l=>by
  unfold Zw
  split
  ·exact .refl _
  ·exact((Xo a l).cons b).trans (.swap a b l)
theorem Zh : ∀ l,(V9 l).Perm l
 | []=>.refl _
 | a::l=>(Xo a (V9 l)).trans ((Zh l).cons a)
theorem Zn (a:Int) : ∀ l:List Int,l.Pairwise (· ≤ ·)→(Zw a l).Pairwise (· ≤ ·)
 | [],_=>by simp [Zw]
 | b::l,h=>by
  have h':=List.pairwise_cons.1 h
  unfold Zw
  split
  ·rename_i hab
   refine List.pairwise_cons.2 ⟨fun x hx=>?_,h⟩
   rcases List.mem_cons.1 hx with rfl | hx
   ·exact hab
   ·have:=h'.1 x hx; omega
  ·rename_i hab
   refine List.pairwise_cons.2 ⟨fun x hx=>?_,Zn a l h'.2⟩
   rcases List.mem_cons.1 ((Xo a l).mem_iff.1 hx) with rfl | hx
   ·omega
   ·exact h'.1 x hx
theorem Qx : ∀ l:List Int,(V9 l).Pairwise (· ≤ ·)
 | []=>.nil
 | a::l=>Zn a _ (Qx l)
theorem Xf : ∀ {a b:List Int},a.Perm b→a.Pairwise (· ≤ ·)→b.Pairwise (· ≤ ·)→a=b
 | [],b,h,_,_=>by rw [List.Perm.nil_eq h]
 | x::a,[],h,_,_=>by have:=h.length_eq; simp at this
 | x::a,y::b,h,ha,hb=>by
  have ha':=List.pairwise_cons.1 ha
  have hb':=List.pairwise_cons.1 hb
  have h1:x=y:=by
   have hx:x ∈ y::b:=h.mem_iff.1 (List.mem_cons_self ..)
   have hy:y ∈ x::a:=h.mem_iff.2 (List.mem_cons_self ..)
   rcases List.mem_cons.1 hx with e | hx
   ·exact e
   ·rcases List.mem_cons.1 hy with e | hy
    ·exact e.symm
    ·have:=ha'.1 y hy; have:=hb'.1 x hx; omega
  subst h1
  rw [Xf (List.Perm.cons_inv h) ha'.2 hb'.2]
theorem Ch (l:List Int):D2 l=V9 l:=by
 refine Xf ((List.mergeSort_perm l _).trans (Zh l).symm) ?_ (Qx l)
 have:=List.pairwise_mergeSort (le:=fun x y:Int=>decide (x≤y)) (fun a b c h1 h2=>by simp at *; omega) (fun a b=>by simp; omega) l
 exact this.imp fun h=>by simpa using h
end Go.Am
namespace Go.Am
open Go
set_option linter.unusedVariables false
set_option linter.unusedSimpArgs false
namespace Rp
def Q4 (l:List Int)(n:Int):Nat:=l.countP fun a=>decide (n≤a)
theorem Adi (l:List Int)(many n:Int)(hm:(l.length:Int)=many)(h5:many≤5) : ∀ (d k c:Nat),k+d=l.length→c≤k →
  loop (Lv fun many_ i l2=>Fb many n many_ i l2) ((c:Int),(k:Int),l)=.ok (((c+(l.drop k).countP (fun a=>decide (n≤a)):Nat):Int),l)
 | 0,k,c,hk,hc=>by
  rw [H5]
  have:(Lv fun many_ i l2=>Fb many n many_ i l2) ((c:Int),(k:Int),l)=.ok (.inr ((c:Int),l)):=by
   simp only [Lv,Fb]
   rw [if_neg (by omega)]
  rw [this,List.drop_eq_nil_of_le (by omega)]
  simp
 | d+1,k,c,hk,hc=>by
  have hlt:k<l.length:=by omega
  have e1:l.drop k=l[k]::l.drop (k+1):=List.drop_eq_getElem_cons hlt
  have w1:IntKind.wrap .i64 ((k:Int)+1)=((k+1:Nat):Int):=by rw [Iw (by omega) (by omega)]; omega
  have w2:IntKind.wrap .i64 ((c:Int)+1)=((c+1:Nat):Int):=by rw [Iw (by omega) (by omega)]; omega
  have hb:(Lv fun many_ i l2=>Fb many n many_ i l2) ((c:Int),(k:Int),l)=.ok (.inl (((if n≤l[k] then c+1 else c:Nat):Int),((k+1:Nat):Int),l)):=by
   simp only [Lv,Fb]
   rw [if_pos (by omega),Hv (List.getElem?_eq_getElem hlt),R.ok_bind,w1,w2]
   by_cases h:n≤l[k]
   ·rw [if_pos h,if_pos h]
   ·rw [if_neg h,if_neg h]
  rw [H5,hb,R.ok_bind,e1,List.countP_cons]
  have ih:=Adi l many n hm h5 d (k+1) (if n≤l[k] then c+1 else c) (by omega) (by split <;> omega)
  simp only
  rw [ih]
  congr 2
  by_cases h:n≤l[k]
  ·simp [h]; omega
  ·simp [h]
end Rp
end Go.Am
namespace Go.Am
open Go
set_option linter.unusedVariables false
set_option linter.unusedSimpArgs false
namespace Rp
theorem Afj {l:List Int}(h:1≤l.length):l.length<2 * l.countP (fun a=>decide (Ei l≤a)):=by
 have hp:(D2 l).Perm l:=List.mergeSort_perm l _
 have hs:(D2 l).Pairwise (· ≤ ·):=by rw [Ch]; exact Qx l
 have hlen:(D2 l).length=l.length:=Nx l
 have hi:(l.length - 1) / 2<(D2 l).length:=by rw [hlen]; omega
 have hm:Ei l=(D2 l)[(l.length - 1) / 2]:=by
  unfold Ei
  simp only [List.getD,List.getElem?_eq_getElem hi,Option.getD_some]
 rw [← hp.countP_eq]
 have e:D2 l=(D2 l).take ((l.length - 1) / 2)++(D2 l).drop ((l.length - 1) / 2):=(List.take_append_drop _ _).symm
 have hall : ∀ a ∈ (D2 l).drop ((l.length - 1) / 2),decide (Ei l≤a)=true:=by
  intro a ha
  rw [decide_eq_true_eq,hm]
  obtain⟨j,hj⟩:=List.getElem?_of_mem ha
  rw [List.getElem?_drop] at hj
  have hjl:(l.length - 1) / 2+j<(D2 l).length:=by
   rcases Nat.lt_or_ge ((l.length - 1) / 2+j) (D2 l).length with hh | hh
   ·exact hh
   ·rw [List.getElem?_eq_none hh] at hj; cases hj
  rw [List.getElem?_eq_getElem hjl] at hj
  cases hj
  rcases Nat.eq_zero_or_pos j with rfl | hj0
  ·exact Int.le_refl _
  ·exact List.pairwise_iff_getElem.1 hs _ _ hi hjl (by omega)
 have hc:((D2 l).drop ((l.length - 1) / 2)).countP (fun a=>decide (Ei l≤a))=l.length - (l.length - 1) / 2:=by
  rw [List.countP_eq_length.2 hall,List.length_drop,hlen]
 have:(D2 l).countP (fun a=>decide (Ei l≤a))=((D2 l).take ((l.length - 1) / 2)).countP (fun a=>decide (Ei l≤a))+((D2 l).drop ((l.length - 1) / 2)).countP (fun a=>decide (Ei l≤a)):=by
  rw [← List.countP_append,← e]
 rw [this,hc]
 omega
theorem Aal {l:List Int}{n:Int}(h:1≤l.length)(hn:Ei l<n):2 * Q4 l n≤l.length:=by
 have hp:(D2 l).Perm l:=List.mergeSort_perm l _
 have hs:(D2 l).Pairwise (· ≤ ·):=by rw [Ch]; exact Qx l
 have hlen:(D2 l).length=l.length:=Nx l
 have hi:(l.length - 1) / 2<(D2 l).length:=by rw [hlen]; omega
 have hm:Ei l=(D2 l)[(l.length - 1) / 2]:=by
  unfold Ei
  simp only [List.getD,List.getElem?_eq_getElem hi,Option.getD_some]
 unfold Q4
 rw [← hp.countP_eq]
 have e:D2 l=(D2 l).take ((l.length - 1) / 2+1)++(D2 l).drop ((l.length - 1) / 2+1):=(List.take_append_drop _ _).symm
 have h0:((D2 l).take ((l.length - 1) / 2+1)).countP (fun a=>decide (n≤a))=0:=by
  rw [List.countP_eq_zero]
  intro a ha
  rw [decide_eq_true_eq]
  obtain⟨j,hj⟩:=List.getElem?_of_mem ha
  rw [List.getElem?_take] at hj
  split at hj
  ·rename_i hjj
   have hjl:j<(D2 l).length:=by omega
   rw [List.getElem?_eq_getElem hjl] at hj
   cases hj
   have:(D2 l)[j]≤(D2 l)[(l.length - 1) / 2]:=by
    rcases Nat.lt_or_ge j ((l.length - 1) / 2) with h' | h'
    ·exact List.pairwise_iff_getElem.1 hs _ _ hjl hi h'
    ·have:j=(l.length - 1) / 2:=by omega
     subst this
     exact Int.le_refl _
   omega
  ·cases hj
 have h1:((D2 l).drop ((l.length - 1) / 2+1)).countP (fun a=>decide (n≤a))≤l.length - ((l.length - 1) / 2+1):=by
  have:=List.countP_le_length (p:=fun a=>decide (n≤a)) (l:=(D2 l).drop ((l.length - 1) / 2+1))
  rw [List.length_drop,hlen] at this
  exact this
 have:(D2 l).countP (fun a=>decide (n≤a))=((D2 l).take ((l.length - 1) / 2+1)).countP (fun a=>decide (n≤a))+((D2 l).drop ((l.length - 1) / 2+1)).countP (fun a=>decide (n≤a)):=by
  rw [← List.countP_append,← e]
 rw [this,h0]
 omega
theorem Aj5 {l:List Int}{n:Int}(h:1≤l.length):l.length<2 * Q4 l n↔n≤Ei l:=by
 constructor
 ·intro h1
  refine Classical.byContradiction fun hn=>?_
  have:=Aal h (n:=n) (by omega)
  omega
 ·intro h1
  have h2:=Afj h
  have h3:l.countP (fun a=>decide (Ei l≤a))≤Q4 l n:=List.countP_mono_left fun a _ ha=>by
   rw [decide_eq_true_eq] at ha ⊢
   omega
  omega
end Rp
end Go.Am
namespace Go.Am
open Go
set_option linter.unusedVariables false
set_option linter.unusedSimpArgs false
namespace Rp
def Kt (term:Int)(log:List Record)(l:List Int)(n:Int):Prop:=(l.length:Int)<2 * (Q4 l n:Nat)∧(log.getD (n - 1).toNat Iy).Term=term
instance (term:Int) (log:List Record) (l:List Int) (n:Int):Decidable (Kt term log l n):=by unfold Kt; exact inferInstance
theorem Ain {many term commit:Int}{log:List Record}{l:List Int}(hm:(l.length:Int)=many)(h5:many≤5)(hc:0≤commit)(hl:log.length≤B5){n:Int}(h1:commit<n)(h2:n≤log.length) :
  Eu many term log commit n l=if Kt term log l n then .ok (.inr (.inr (n,l))) else .ok (.inl (n - 1,l)):=by
 have hw:IntKind.wrap .i64 (n - 1)=n - 1:=by unfold B5 at hl; exact Iw (by omega) (by omega)
 have hcnt:Q4 l n≤l.length:=List.countP_le_length
 have hw2:IntKind.wrap .i64 (2 * ((Q4 l n:Nat):Int))=2 * ((Q4 l n:Nat):Int):=Iw (by omega) (by omega)
 have hr:=Adi l many n hm h5 l.length 0 0 (by omega) (by omega)
 simp only [List.drop_zero,Nat.zero_add] at hr
 unfold Eu
 rw [if_pos h1,show((0:Int),(0:Int),l)=(((0:Nat):Int),((0:Nat):Int),l) from rfl,hr,R.ok_bind]
 simp only [D4,Kn]
 rw [show(List.countP (fun a=>decide (n≤a)) l)=Q4 l n from rfl,hw2]
 by_cases h3:2 * ((Q4 l n:Nat):Int) > many
 ·rw [if_pos (by simpa using h3),Abw (by omega) h2 hl,R.ok_bind]
  unfold I5
  by_cases h4:(log.getD (n - 1).toNat Iy).Term=term
  ·rw [if_pos (by simpa using h4),if_pos (show Kt term log l n from⟨by omega,h4⟩)]
  ·rw [if_neg (by simpa using h4),if_neg (fun q:Kt term log l n=>h4 q.2),hw]
 ·rw [if_neg (by simpa using h3),if_neg (fun q:Kt term log l n=>h3 (by have:=q.1; omega))]
  unfold I5
  rw [if_neg (by simp),hw]
theorem Acd {many term commit:Int}{log:List Record}{l:List Int}(hm:(l.length:Int)=many)(h5:many≤5)(hc:0≤commit)(hl:log.length≤B5) : ∀ (d:Nat) (n:Int),n=commit+d→n≤log.length →
  (∀ j,commit<j→j≤n→Kt term log l j→(∀ i,j<i→i≤n→¬ Kt term log l i)→loop (D4 fun n l1=>Eu many term log commit n l1) (n,l)=.ok (.inr (j,l))) ∧
  ((∀ i,commit<i→i≤n→¬ Kt term log l i)→loop (D4 fun n l1=>Eu many term log commit n l1) (n,l)=.ok (.inl l))
 | 0,n,hn,hle=>by
  constructor
  ·intro j h1 h2; omega
  ·intro _
   rw [H5]
   have:(D4 fun n l1=>Eu many term log commit n l1) (n,l)=.ok (.inr (.inl l)):=by
    simp only [D4,Eu]
    rw [if_neg (by omega)]
   rw [this]; rfl
 | d+1,n,hn,hle=>by
  have hs:(D4 fun n l1=>Eu many term log commit n l1) (n,l)=_:=Ain (term:=term) hm h5 hc hl (n:=n) (by omega) hle
  obtain⟨i1,i2⟩:=Acd (term:=term) hm h5 hc hl d (n - 1) (by omega) (by omega)
  constructor
  ·intro j h1 h2 hg hno
   rw [H5,hs]
   by_cases hj:j=n
   ·subst hj
    rw [if_pos hg]; rfl
   ·rw [if_neg (hno n (by omega) (Int.le_refl _)),R.ok_bind]
    exact i1 j h1 (by omega) hg fun i hi hi2=>hno i hi (by omega)
  ·intro hno
   rw [H5,hs,if_neg (hno n (by omega) (Int.le_refl _)),R.ok_bind]
   exact i2 fun i hi hi2=>hno i hi (by omega)
end Rp
end Go.Am
namespace Go.Am
open Go
set_option linter.unusedVariables false
set_option linter.unusedSimpArgs false
namespace Rp
theorem Ajn {term:Int}{log:List Record}(hf:Et term 0 log=true){i j:Int}(h1:1≤i)(h2:i≤j)(h3:j≤log.length):(log.getD (i - 1).toNat Iy).Term≤(log.getD (j - 1).toNat Iy).Term∧(log.getD (j - 1).toNat Iy).Term≤term:=by
 obtain⟨q1,q2⟩:=(Ni term log 0).1 hf
 have hi:(i - 1).toNat<log.length:=by omega
 have hj:(j - 1).toNat<log.length:=by omega
 simp only [List.getD,List.getElem?_eq_getElem hi,List.getElem?_eq_getElem hj,Option.getD_some]
 refine⟨?_,(q1 _ (List.getElem_mem hj)).2.1⟩
 rcases Nat.lt_or_ge (i - 1).toNat (j - 1).toNat with h | h
 ·exact List.pairwise_iff_getElem.1 q2 _ _ hi hj h
 ·have:(i - 1).toNat=(j - 1).toNat:=by omega
  simp only [this]
  exact Int.le_refl _
theorem Adh {term commit:Int}{log:List Record}{l:List Int}(h1:1≤l.length)(hf:Et term 0 log=true)(ha : ∀ a ∈ l,0≤a∧a≤log.length)(hc:0≤commit) :
  (Ph term log commit l≠commit→commit<Ph term log commit l∧Ph term log commit l≤log.length∧Kt term log l (Ph term log commit l) ∧ ∀ i,Ph term log commit l<i→¬ Kt term log l i) ∧
  (Ph term log commit l=commit → ∀ i,commit<i→i≤log.length→¬ Kt term log l i):=by
 have hm:=ha _ (Aae h1)
 have few : ∀ i,Ei l<i→¬ Kt term log l i:=by
  intro i hi hg
  have:=Aal h1 hi
  have:=hg.1
  omega
 constructor
 ·intro hne
  rcases adv_cases' term log commit l with e | ⟨e,e2,e3⟩
  ·exact absurd e hne
  ·rw [e]
   exact⟨e2,hm.2,⟨by have:=(Aj5 h1 (n:=Ei l)).2 (Int.le_refl _); omega,e3⟩,fun i hi=>few i hi⟩
 ·intro he i hi hil hg
  have hle:i≤Ei l:=by
   refine Classical.byContradiction fun hn=>few i (by omega) hg
  have hm2:=Ajn hf (i:=i) (j:=Ei l) (by omega) hle hm.2
  have hge:=hg.2
  have:Ph term log commit l=Ei l:=by
   unfold Ph
   rw [if_pos ⟨by omega,by omega⟩]
  omega
where
 adv_cases' (term:Int) (log:List Record) (commit:Int) (mat:List Int):Ph term log commit mat=commit∨(Ph term log commit mat=Ei mat∧commit<Ei mat∧(log.getD (Ei mat - 1).toNat Iy).Term=term):=by
  unfold Ph
  split
  ·rename_i h; exact .inr ⟨rfl,h.1,h.2⟩
  ·exact .inl rfl
theorem Ak6 {many term commit:Int}{log:List Record}{l:List Int}(rID vote role:Int)(votes:List Bool)(hm:(l.length:Int)=many)(h0:1≤many)(h5:many≤5)(hc:0≤commit∧commit≤log.length)(hl:log.length≤B5)(hf:Et term 0 log=true)(ha : ∀ a ∈ l,0≤a∧a≤log.length) :
  Kp rID many term vote log role commit votes l=.ok (Ph term log commit l,l):=by
 have h1:1≤l.length:=by omega
 obtain⟨a1,a2⟩:=Adh h1 hf ha hc.1
 obtain⟨l1,l2⟩:=Acd (term:=term) hm h5 hc.1 hl (log.length - commit.toNat) (log.length:Int) (by omega) (Int.le_refl _)
 unfold Kp
 by_cases he:Ph term log commit l=commit
 ·rw [l2 (a2 he),R.ok_bind,he]
  rfl
 ·obtain⟨b1,b2,b3,b4⟩:=a1 he
  rw [l1 _ b1 b2 b3 fun i hi _=>b4 i hi,R.ok_bind]
end Rp
end Go.Am
namespace Go.Am
open Go
set_option linter.unusedVariables false
set_option linter.unusedSimpArgs false
namespace Rp
theorem Ai8 (l:List Record)(hl:l.length≤B5):Tj l=.ok (Wn l):=by
 have:=Afz ({ Yv with Log:=l }:Replica) [] hl
 rw [← this]
 rfl
theorem Agt {r:Replica}(h:0≤r.Many∧r.Many≤5):J6 r=.ok (List.replicate r.Many.toNat false,List.replicate r.Many.toNat 0):=by
 unfold J6
 rw [P3]
 simp only [R.ok_bind,h.1,h.2,decide_true,Bool.and_self,if_true]
 rw [if_pos ⟨trivial,Int.le_refl _,by unfold B5; omega⟩,if_pos ⟨trivial,Int.le_refl _,by unfold B5; omega⟩]
theorem Ade (m:Message)(r:Replica)(hm:0≤r.Many∧r.Many≤5)(hl:m.Log=[])(l:List Bool)(l1:List Int):J7 r.ID r.Many r.Term r.Vote r.Log r.Role r.Commit m.Kind m.From m.To m.Term m.Last m.LastTerm m.Commit m.Match m.Granted l l1=.ok (L9 r m):=by
 have key : ∀ (n k:Nat) (s:List Message) (f t e:Int),k+n=r.Many.toNat→s.length≤k →
   loop (R1 fun i vFrom vTo vTerm l2=>E6 r.ID r.Many r.Term m.Kind m.Last m.LastTerm m.Commit m.Match m.Granted i vFrom vTo vTerm l2) ((k:Int),f,t,e,s)=.ok (s++(((List.range' k n).filter fun(x:Nat)=>decide ((x:Int)≠r.ID)).map fun(x:Nat)=>V4 r m x)):=by
  intro n
  induction n with
  | zero=>
   intro k s f t e hk hs
   rw [H5]
   have:(R1 fun i vFrom vTo vTerm l2=>E6 r.ID r.Many r.Term m.Kind m.Last m.LastTerm m.Commit m.Match m.Granted i vFrom vTo vTerm l2) ((k:Int),f,t,e,s)=.ok (.inr s):=by
    simp only [R1,E6]
    rw [if_neg (by omega)]
   rw [this]
   simp
  | succ n ih=>
   intro k s f t e hk hs
   have hw:IntKind.wrap .i64 ((k:Int)+1)=((k+1:Nat):Int):=by rw [Iw (by omega) (by omega)]; omega
   rw [H5,List.range'_succ]
   by_cases hq:(k:Int)=r.ID
   ·have hb:(R1 fun i vFrom vTo vTerm l2=>E6 r.ID r.Many r.Term m.Kind m.Last m.LastTerm m.Commit m.Match m.Granted i vFrom vTo vTerm l2) ((k:Int),f,t,e,s)=.ok (.inl (((k+1:Nat):Int),f,t,e,s)):=by
     simp only [R1,E6]
     rw [if_pos (by omega),if_neg (by simpa using hq),hw]
    rw [hb,R.ok_bind]
    simp only
    rw [ih (k+1) s f t e (by omega) (by omega)]
    congr 2
    rw [List.filter_cons_of_neg (by simpa using hq)]
   ·have hb:(R1 fun i vFrom vTo vTerm l2=>E6 r.ID r.Many r.Term m.Kind m.Last m.LastTerm m.Commit m.Match m.Granted i vFrom vTo vTerm l2) ((k:Int),f,t,e,s)=.ok (.inl (((k+1:Nat):Int),r.ID,(k:Int),r.Term,s++[V4 r m k])):=by
     simp only [R1,E6,List.length_singleton,V4,hl]
     rw [if_pos (by omega),if_pos (by simpa using hq),if_pos (by unfold B5; omega),hw]
    rw [hb,R.ok_bind]
    simp only
    rw [ih (k+1) (s++[V4 r m k]) _ _ _ (by omega) (by simp; omega)]
    congr 1
    rw [List.filter_cons_of_pos (by simpa using hq)]
    simp
 unfold J7
 have:=key r.Many.toNat 0 [] m.From m.To m.Term (by omega) (by simp)
 rw [show((0:Int),m.From,m.To,m.Term,([]:List Message))=(((0:Nat):Int),m.From,m.To,m.Term,[]) from rfl,this]
 simp [L9,Yb,List.range_eq_range',K4]
theorem Agy {r:Replica}(hs:Shape r)(hf:Et r.Term 0 r.Log=true):Nd r=.ok (P2 r):=by
 have hmany:=hs.many
 have hid:=hs.id
 unfold Nd
 rw [if_pos ⟨by omega,Int.le_refl _,by unfold B5; omega⟩,Abm hid.1 hid.2,R.ok_bind]
 have ha : ∀ a ∈ ((List.replicate r.Many.toNat (0:Int)).set r.ID.toNat r.Log.length),0≤a∧a≤r.Log.length:=by
  intro a ha
  rcases List.mem_or_eq_of_mem_set ha with h | h
  ·have:=List.eq_of_mem_replicate h; omega
  ·omega
 rw [Ak6 r.ID r.Vote 2 r.Votes (by simp; omega) (by omega) hmany.2 hs.commit hs.log hf ha,R.ok_bind]
 unfold P8
 have:=Aa5 (P9 r.Log (P2 r).1.Commit) (P2 r).1 (by show 0≤r.Many∧r.Many≤5; omega)
 simp only [P2,P9] at this
 simp only
 rw [this]
 rfl
theorem rtime_eq {r:Replica}(hl:r.Log.length≤B5):L6 r=E0 r:=by
 by_cases h:Good r
 ·rw [Af5 h hl]
  have hs:=h.shape hl
  have hmany:=h.many
  have hid:=h.id
  unfold L6
  rw [rcheck_eq hl,P7 hl h,R.ok_bind,if_neg (by simp)]
  by_cases ht:r.Term=1048576
  ·rw [if_pos (by simpa using ht),if_pos ht]
   rfl
  ·have hw:IntKind.wrap .i64 (r.Term+1)=r.Term+1:=by have:=h.term; exact Iw (by omega) (by omega)
   rw [if_neg (by simpa using ht),if_neg ht,Agt ⟨by omega,hmany.2⟩]
   simp only [R.ok_bind,Abm hid.1 hid.2,hw]
   unfold Ac6
   by_cases h1:r.Many=1
   ·rw [if_pos (by simpa using h1),if_pos h1]
    have hf:Et (Md r).Term 0 (Md r).Log=true:=by
     have:=(Ni r.Term r.Log 0).1 h.fits
     exact(Ni (r.Term+1) r.Log 0).2 ⟨fun a ha=>⟨(this.1 a ha).1,by have:=(this.1 a ha).2.1; omega,(this.1 a ha).2.2⟩,this.2⟩
    have:=Agy (Yj hs) hf
    rw [show Nd ({ ID:=r.ID,Many:=r.Many,Term:=r.Term+1,Vote:=r.ID,Log:=r.Log,Role:=1,Commit:=r.Commit,Votes:=(List.replicate r.Many.toNat false).set r.ID.toNat true,Match:=List.replicate r.Many.toNat 0 }:Replica)=_ from this]
    rfl
   ·rw [if_neg (by simpa using h1),if_neg h1,Ai8 _ hl,R.ok_bind]
    rw [show J7 r.ID r.Many (r.Term+1) r.ID r.Log 1 r.Commit 1 0 0 0 (r.Log.length:Int) (Wn r.Log) 0 0 false ((List.replicate r.Many.toNat false).set r.ID.toNat true) (List.replicate r.Many.toNat 0)=.ok (L9 (Md r) (Adn r)) from Ade (Adn r) (Md r) (by show 0≤r.Many∧r.Many≤5; omega) rfl _ _]
    rfl
 ·rw [Ad9 h hl]
  unfold L6
  rw [rcheck_eq hl,Q8 hl h]
  rfl
end Rp
end Go.Am
namespace Go.Am
open Go
set_option linter.unusedVariables false
set_option linter.unusedSimpArgs false
namespace Rp
theorem Ako:Ki=Fb:=rfl
theorem Ago {many term commit:Int}{log:List Record}{l:List Int}(hm:(l.length:Int)=many)(h5:many≤5)(hc:0≤commit)(hl:log.length≤B5){n:Int}(h1:commit<n)(h2:n≤log.length) :
  Ev many term commit n log l=if Kt term log l n then .ok (.inr (.inr (n,log,l))) else .ok (.inl (n - 1,log,l)):=by
 have hw:IntKind.wrap .i64 (n - 1)=n - 1:=by unfold B5 at hl; exact Iw (by omega) (by omega)
 have hcnt:Q4 l n≤l.length:=List.countP_le_length
 have hw2:IntKind.wrap .i64 (2 * ((Q4 l n:Nat):Int))=2 * ((Q4 l n:Nat):Int):=Iw (by omega) (by omega)
 have hr:=Adi l many n hm h5 l.length 0 0 (by omega) (by omega)
 simp only [List.drop_zero,Nat.zero_add] at hr
 unfold Ev
 rw [if_pos h1,Ako,show((0:Int),(0:Int),l)=(((0:Nat):Int),((0:Nat):Int),l) from rfl,hr,R.ok_bind]
 simp only [D4,Ko]
 rw [show(List.countP (fun a=>decide (n≤a)) l)=Q4 l n from rfl,hw2]
 by_cases h3:2 * ((Q4 l n:Nat):Int) > many
 ·rw [if_pos (by simpa using h3),Abw (by omega) h2 hl,R.ok_bind]
  unfold I4
  by_cases h4:(log.getD (n - 1).toNat Iy).Term=term
  ·rw [if_pos (by simpa using h4),if_pos (show Kt term log l n from⟨by omega,h4⟩)]
  ·rw [if_neg (by simpa using h4),if_neg (fun q:Kt term log l n=>h4 q.2),hw]
 ·rw [if_neg (by simpa using h3),if_neg (fun q:Kt term log l n=>h3 (by have:=q.1; omega))]
  unfold I4
  rw [if_neg (by simp),hw]
theorem Aa2 {many term commit:Int}{log:List Record}{l:List Int}(hm:(l.length:Int)=many)(h5:many≤5)(hc:0≤commit)(hl:log.length≤B5) : ∀ (d:Nat) (n:Int),n=commit+d→n≤log.length →
  (∀ j,commit<j→j≤n→Kt term log l j→(∀ i,j<i→i≤n→¬ Kt term log l i)→loop (Lv fun n l2 l3=>Ev many term commit n l2 l3) (n,log,l)=.ok (.inr (j,log,l))) ∧
  ((∀ i,commit<i→i≤n→¬ Kt term log l i)→loop (Lv fun n l2 l3=>Ev many term commit n l2 l3) (n,log,l)=.ok (.inl (log,l)))
 | 0,n,hn,hle=>by
  constructor
  ·intro j h1 h2; omega
  ·intro _
   rw [H5]
   have:(Lv fun n l2 l3=>Ev many term commit n l2 l3) (n,log,l)=.ok (.inr (.inl (log,l))):=by
    simp only [Lv,Ev]
    rw [if_neg (by omega)]
   rw [this]; rfl
 | d+1,n,hn,hle=>by
  have hs:(Lv fun n l2 l3=>Ev many term commit n l2 l3) (n,log,l)=_:=Ago (term:=term) hm h5 hc hl (n:=n) (by omega) hle
  obtain⟨i1,i2⟩:=Aa2 (term:=term) hm h5 hc hl d (n - 1) (by omega) (by omega)
  constructor
  ·intro j h1 h2 hg hno
   rw [H5,hs]
   by_cases hj:j=n
   ·subst hj
    rw [if_pos hg]; rfl
   ·rw [if_neg (hno n (by omega) (Int.le_refl _)),R.ok_bind]
    exact i1 j h1 (by omega) hg fun i hi hi2=>hno i hi (by omega)
  ·intro hno
   rw [H5,hs,if_neg (hno n (by omega) (Int.le_refl _)),R.ok_bind]
   exact i2 fun i hi hi2=>hno i hi (by omega)
theorem Aj1 {many term commit:Int}{log:List Record}{l:List Int}(rID vote role:Int)(votes:List Bool)(hm:(l.length:Int)=many)(h0:1≤many)(h5:many≤5)(hc:0≤commit∧commit≤log.length)(hl:log.length≤B5)(hf:Et term 0 log=true)(ha : ∀ a ∈ l,0≤a∧a≤log.length) :
  Kq rID many term vote role commit votes log l=.ok (Ph term log commit l,log,l):=by
 have h1:1≤l.length:=by omega
 obtain⟨a1,a2⟩:=Adh h1 hf ha hc.1
 obtain⟨l1,l2⟩:=Aa2 (term:=term) hm h5 hc.1 hl (log.length - commit.toNat) (log.length:Int) (by omega) (Int.le_refl _)
 unfold Kq
 by_cases he:Ph term log commit l=commit
 ·rw [l2 (a2 he),R.ok_bind,he]
  rfl
 ·obtain⟨b1,b2,b3,b4⟩:=a1 he
  rw [l1 _ b1 b2 b3 fun i hi _=>b4 i hi,R.ok_bind]
theorem Aii {t:Int}{l:List Record}{d:List Int}(h:Et t 0 l=true)(ht:1≤t):Et t 0 (l++[({ Term:=t,Data:=d }:Record)])=true:=by
 obtain⟨q1,q2⟩:=(Ni t l 0).1 h
 refine(Ni t _ 0).2 ⟨fun a ha=>?_,?_⟩
 ·rcases List.mem_append.1 ha with h' | h'
  ·exact q1 a h'
  ·rw [List.mem_singleton.1 h']
   exact⟨ht,Int.le_refl _,by show(0:Int)≤t; omega⟩
 ·rw [List.pairwise_append]
  exact⟨q2,List.pairwise_singleton _ _,fun a ha b hb=>by rw [List.mem_singleton.1 hb]; exact(q1 a ha).2.1⟩
theorem rprop_eq {r:Replica}{data:List Int}(hl:r.Log.length≤B5):L7 r data=Ey r data:=by
 by_cases h:Good r
 ·rw [Afy h hl]
  have hmany:=h.many
  have hid:=h.id
  have hml:=h.mlen
  unfold L7
  rw [rcheck_eq hl,P7 hl h,R.ok_bind,if_neg (by simp)]
  by_cases h1:r.Role=2
  ·rw [if_neg (show ¬ ((r.Role != 2)=true) by simp [h1]),if_pos h1]
   by_cases h2:r.Log.length≥4096
   ·rw [if_pos (show(r.Log.length:Int)≥4096 by omega),if_pos h2]
    rfl
   ·rw [if_neg (show ¬ ((r.Log.length:Int)≥4096) by omega),if_neg h2,if_pos (by unfold B5; omega),if_pos (by simp only [List.length_singleton]; unfold B5; omega)]
    unfold On
    have hlt:r.ID.toNat<r.Match.length:=by omega
    have hi:C5 r.Match r.ID=.ok (r.Match.getD r.ID.toNat 0):=by
     have:=Hv (l:=r.Match) (j:=r.ID.toNat) (a:=r.Match.getD r.ID.toNat 0) (by simp only [List.getD,List.getElem?_eq_getElem hlt,Option.getD_some])
     rwa [show((r.ID.toNat:Nat):Int)=r.ID by omega] at this
    rw [if_pos (by unfold B5; omega),hi,R.ok_bind]
    have hterm:=(h.lead (by omega)).2.1
    rw [Aj1 r.ID r.Vote r.Role r.Votes (by simp; omega) (by omega) hmany.2 ⟨h.commit.1,by have:=h.commit.2; simp only [List.length_append,List.length_singleton]; omega⟩ (by simp only [List.length_append,List.length_singleton]; unfold B5; omega) (Aii h.fits hterm) (by
     intro a ha
     rcases List.mem_or_eq_of_mem_set ha with h' | h'
     ·have:=(h.shape hl).mat a h'
      simp only [List.length_append,List.length_singleton]
      omega
     ·subst h'; omega)]
    simp only [R.ok_bind]
    unfold P8
    have:=Aa5 (P9 (r.Log++[({ Term:=r.Term,Data:=data }:Record)]) (U2 r data).1.Commit) (U2 r data).1 (by show 0≤r.Many∧r.Many≤5; omega)
    simp only [U2,P9] at this
    rw [this]
    rfl
  ·rw [if_pos (show(r.Role != 2)=true by simpa using h1),if_neg h1]
   rfl
 ·rw [Adb h hl]
  unfold L7
  rw [rcheck_eq hl,Q8 hl h]
  rfl
end Rp
end Go.Am

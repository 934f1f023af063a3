/- Written by shrink.py from texts of ours: comments struck, what is not reached left out, names short. -/
import Derived.Test.YtgigefcfankeeaaU3
import Derived.Test.YtgigefcfankeeaaU1
import Derived.Test.YtgigefcfankeeaaU2
import Derived.RangeFuncIn
import Derived.RangeFuncLeaves
import Derived.Shelf.SortM.Plain
import Derived.Shelf.SortM.SortNone
import Derived.Shelf.Slices.CompactI
import Derived.Deep.DeepHandedRow
import Derived.Lib.LaidU8
import Derived.Lay
import Derived.MakeChecks
import Derived.LaidMore
import Derived.WideKeyElems2
import Derived.KernelRfl
import Derived.Lib.SlBytesConst
import Derived.Lib.Bytealg
import Derived.Lib.ItoaNum
import Derived.Lib.Join
import Derived.Lib.AtoiAll
namespace Go.Am
open Go
set_option linter.unusedSimpArgs false
set_option linter.unusedVariables false
set_option linter.unusedSectionVars false
inductive AFz (h h2:Ak):AO→AO→Prop
 | same (x:AO):AFz h h2 x x
 | rows (g st:Nat) (rs rs':List (List AV)) (hl:rs.length=rs'.length) (hr : ∀ r ∈ rs',E8 st r) (hc : ∀ i j,i<rs.length→j<st→Fz h h2 (cell rs i j) (cell rs' i j)):AFz h h2 (.rows g st rs) (.rows g st rs')
def HFz (h h2:Ak):Prop := ∀ o y,h2 o=some y → ∃ x,h o=some x∧AFz h h2 x y
theorem AFz.gen {h h2:Ak}{x y:AO}(k:AFz h h2 x y):x.gen=y.gen:=by cases k <;> rfl
theorem HFz.subG {h h2:Ak}(k:HFz h h2):Ae5 h2 h:=fun o y e=>let ⟨x,h1,h2⟩:=k o y e; ⟨x,h1,h2.gen⟩
theorem Sim.fz {P:Program}[GW P]{B:Base P}{mu:Mu}{h h2:Ak}{w:World}(s:Sim B mu h w)(k:HFz h h2):Sim B mu h2 w:=by
 refine⟨s.base,s.muOk,s.fin,?_,?_,?_,?_,s.glob,fun o g x e=>by
  obtain⟨y,h1,hx⟩:=k o _ e
  cases hx with
  | same _=>exact s.blks o g x h1⟩
 ·obtain⟨N,hN⟩:=s.finh
  refine⟨N,fun o ho=>?_⟩
  cases hq:h2 o with
  | none=>rfl
  | some y=>obtain⟨x,h1,_⟩:=k o y hq; rw [hN o ho] at h1; cases h1
 ·intro o g st rs e
  obtain⟨x,h1,hx⟩:=k o _ e
  cases hx with
  | same _=>
   obtain⟨l,k1,k2,k3,k4,k5,k6⟩:=s.rows o g st rs h1
   exact⟨l,k1,k2,k3,k4,k5,fun i j hi hj=>let ⟨c,c1,c2⟩:=k6 i j hi hj; ⟨c,c1,Ln s k.subG (.same _) c2⟩⟩
  | rows _ _ rs0 _ hl hr hc=>
   obtain⟨l,k1,k2,k3,k4,k5,k6⟩:=s.rows o g st rs0 h1
   exact⟨l,k1,k2,k3,by rw [← hl]; exact k4,hr,fun i j hi hj=>let ⟨c,c1,c2⟩:=k6 i j (hl ▸ hi) hj; ⟨c,c1,Ln s k.subG (hc i j (hl ▸ hi) hj) c2⟩⟩
 ·intro o g es e
  obtain⟨x,h1,hx⟩:=k o _ e
  cases hx with
  | same _=>
   obtain⟨l,k1,k2,ens,clock,k3,k4,k5⟩:=s.maps o g es h1
   exact⟨l,k1,k2,ens,clock,k3,k4,fun i hi=>⟨Ln s k.subG (.same _) (k5 i hi).1,Ln s k.subG (.same _) (k5 i hi).2⟩⟩
 ·intro o o' x x' l l' e e' h1 h2 hb
  obtain⟨y,k1,k2⟩:=k _ _ e
  obtain⟨y',k1',k2'⟩:=k _ _ e'
  exact s.inj o o' y y' l l' k1 k1' (by rw [k2.gen]; exact h1) (by rw [k2'.gen]; exact h2) hb
section
variable {P:Program} [GW P] {f:FuncId} {n:Nat} {d:FK} {fr:Nat→AV} {ds:List AD} {h h2:Ak} {u:AU} {Q:QT} {k:List Item}
theorem Ak0 {todo:List Item}{fr':Nat→AV}(hs:HFz h h2)(hz : ∀ t,Fz h h2 (fr t) (fr' t))(hr:Fo P f n d todo fr' ds h2 u Q):Fo P f n d todo fr ds h u Q:=by
 intro B mu w a cs p
 exact(hr B mu w a cs ⟨p.size,fun t=>Ln p.sim hs.subG (hz t) (p.fr t),p.ds.ext (E9.subG hs.subG),p.sim.fz hs,p.cs.ext (E9.subG hs.subG),p.rnd,p.fb⟩).ext (E9.subG hs.subG)
theorem Aai {fn:Func}{vs:List AV}{v':AV}(hf:P.funcs[f]? = some fn)(hx:Im P h fr fn.results.toList=some vs)(hs:HFz h h2)(hz:Fz h h2 (Kr vs) v')(hu:d=false)(hq:Q (.ret v') h2 u):Pv P f n d .ret fr [] h u Q:=by
 intro B mu w a cs todo mode p hm
 obtain⟨c,h1,h2'⟩:=Tn p.sim p.fr hx
 have hd:a.defers=[]:=p.ds
 have hmode:=hm.ret_inv
 refine⟨.returned c,w,cs,_,.ret v',h2,mu,u,hq,Steps.refl P _,rfl,rfl,(by subst hu; exact⟨hmode,hd,fn,hf,h1⟩),Ln p.sim hs.subG hz h2',p.sim.fz hs,(E9.subG hs.subG).g,?_⟩
 subst hu
 rfl
end
inductive HL (h h2:Ak):List (Option AO)→List (Option AO)→Prop
 | nil:HL h h2 [] []
 | keep {x:Option AO} {xs ys:List (Option AO)} (r:HL h h2 xs ys):HL h h2 (x::xs) (x::ys)
 | drop {x:Option AO} {xs ys:List (Option AO)} (r:HL h h2 xs ys):HL h h2 (x::xs) (none::ys)
 | fz {g st:Nat} {row row':List AV} {xs ys:List (Option AO)} (hz:LF h h2 row row') (hl:row'.length=st) (hf:row'.all AV.flat=true) (r:HL h h2 xs ys):HL h h2 (some (.rows g st [row])::xs) (some (.rows g st [row'])::ys)
theorem HL.get {h h2:Ak}{xs ys:List (Option AO)}(k:HL h h2 xs ys):xs.length=ys.length ∧ ∀ (j:Nat) (y:AO),ys[j]? = some (some y) → ∃ x,xs[j]? = some (some x)∧AFz h h2 x y:=by
 induction k with
 | nil=>exact⟨rfl,fun j y e=>by simp at e⟩
 | keep r ih=>
  refine⟨by simp [ih.1],fun j y e=>?_⟩
  cases j with
  | zero=>simp only [List.getElem?_cons_zero,Option.some.injEq] at e; subst e; exact⟨y,by simp,.same _⟩
  | succ j=>simpa using ih.2 j y (by simpa using e)
 | drop r ih=>
  refine⟨by simp [ih.1],fun j y e=>?_⟩
  cases j with
  | zero=>simp at e
  | succ j=>simpa using ih.2 j y (by simpa using e)
 | @fz g st row row' xs ys hz hl hf r ih=>
  refine⟨by simp [ih.1],fun j y e=>?_⟩
  cases j with
  | zero=>
   simp only [List.getElem?_cons_zero,Option.some.injEq] at e
   subst e
   refine⟨.rows g st [row],by simp only [List.getElem?_cons_zero],.rows g st [row] [row'] rfl ?_ ?_⟩
   ·intro r hr
    rw [List.mem_singleton.1 hr]
    exact⟨hl,fun v hv=>List.all_eq_true.1 hf v hv⟩
   ·intro i j hi hj
    have:i=0:=by simpa using hi
    subst this
    have:=hz.all.2 j (by rw [hz.all.1,hl]; exact hj)
    simpa [cell] using this
  | succ j=>simpa using ih.2 j y (by simpa using e)
theorem HL.hfz {h0:Ak}{ids:List Nat}{N:Nat}{xs ys:List (Option AO)}(hI:Ids h0 ids N)(hl:xs.length=N)(k:HL (hp h0 ids xs) (hp h0 ids ys) xs ys):HFz (hp h0 ids xs) (hp h0 ids ys):=by
 intro o y e
 obtain⟨k1,k2⟩:=k.get
 by_cases ho:o ∈ ids
 ·obtain⟨j,hj,rfl⟩:=List.mem_iff_getElem.1 ho
  have ej:ids[j]=ix ids j:=by simp [ix,List.getD,hj]
  rw [ej] at e ⊢
  have hjl:j<ys.length:=by rw [← k1,hl,← hI.len]; exact hj
  have hy:=hI.at (xs:=ys) (j:=j) (x:=ys[j]) (by rw [← k1,hl]) (List.getElem?_eq_getElem hjl)
  rw [hy] at e
  obtain⟨x,hx,hz⟩:=k2 j y (by rw [List.getElem?_eq_getElem hjl,e])
  exact⟨x,hI.at hl hx,hz⟩
 ·rw [R7 ho] at e
  exact⟨y,by rw [R7 ho]; exact e,.same _⟩
section
variable {P:Program} [GW P] {f:FuncId} {n:Nat} {d:FK} {β:Type} {Q:Spec β} {m:R β} {ds:List AD} {u:AU} {k:List Item} {l:List (Nat×AV)} {all:List Oper}
variable {h0:Ak} {ids:List Nat} {xs:List (Option AO)} {N:Nat}
theorem Ah5 {todo:List Item}(ys:List (Option AO))(l':List (Nat×AV))(hI:Ids h0 ids N)(hl:xs.length=N)(hx:HL (hp h0 ids xs) (hp h0 ids ys) xs ys)(hf:FrFz (hp h0 ids xs) (hp h0 ids ys) l l')
  (hr:WR P f n d Q m todo (A7 l') ds (hp h0 ids ys) u):WR P f n d Q m todo (A7 l) ds (hp h0 ids xs) u:=fun hb=>Ak0 (hx.hfz hI hl) hf.get (hr hb)
theorem Aiv {ops:List Oper}(ys:List (Option AO))(l':List (Nat×AV))(hI:Ids h0 ids N)(hl:xs.length=N)(hx:HL (hp h0 ids xs) (hp h0 ids ys) xs ys)(hf:FrFz (hp h0 ids xs) (hp h0 ids ys) l l')
  (hr:WO P f n d Q k all m ops (A7 l') ds (hp h0 ids ys) u):WO P f n d Q k all m ops (A7 l) ds (hp h0 ids xs) u:=fun hb i hi=>Ak0 (hx.hfz hI hl) hf.get (hr hb i hi)
end
def Sk:List Nat→List (Option AO)→List (Option AO)
 | [],xs=>xs
 | j::js,xs=>Sk js (xs.set j none)
def Rz:List Nat→List (Option AO)→List (Option AO)→List (Option AO)
 | j::js,y::ys,xs=>(Rz js ys (xs.set j none)).set j y
 | _,_,xs=>xs
def W1 (ids:List Nat):List Nat→List Nat
 | []=>[]
 | j::js=>ix ids j::W1 ids js
def Rg (N:Nat):List Nat→Bool
 | []=>true
 | j::js=>Nat.blt j N && !js.contains j&&Rg N js
theorem Ahb : ∀ (js:List Nat) (xs:List (Option AO)),(Sk js xs).length=xs.length
 | [],_=>rfl
 | j::js,xs=>by rw [Sk,Ahb js]; simp
theorem Aet : ∀ (js:List Nat) (ys xs:List (Option AO)),(Rz js ys xs).length=xs.length
 | [],_,_=>by simp [Rz]
 | _::_,[],_=>by simp [Rz]
 | j::js,y::ys,xs=>by rw [Rz,List.length_set,Aet js]; simp
theorem Aeo : ∀ (js:List Nat) (xs:List (Option AO)) (i:Nat),xs[i]? = some none→(Sk js xs)[i]? = some none
 | [],_,_,h=>h
 | j::js,xs,i,h=>Aeo js _ i (by
  rw [List.getElem?_set]
  split
  ·rename_i hq; subst hq
   rw [if_pos]
   rcases Nat.lt_or_ge j xs.length with hh | hh
   ·exact hh
   ·rw [List.getElem?_eq_none hh] at h; cases h
  ·exact h)
theorem Ai9 : ∀ (js:List Nat) (xs:List (Option AO)) (i:Nat),i ∈ js→i<xs.length→(Sk js xs)[i]? = some none
 | j::js,xs,i,hm,hi=>by
  rcases List.mem_cons.1 hm with rfl | hm
  ·exact Aeo js _ i (by simp [hi])
  ·exact Ai9 js _ i hm (by simpa using hi)
section
variable {h0:Ak} {ids:List Nat} {N:Nat}
theorem Yr (hI:Ids h0 ids N) : ∀ {js:List Nat} {ys xs:List (Option AO)},xs.length=N→js.length=ys.length→Rg N js=true→hp (hp h0 ids (Sk js xs)) (W1 ids js) ys=hp h0 ids (Rz js ys xs)
 | [],[],xs,_,_,_=>rfl
 | j::js,y::ys,xs,hl,hj,hk=>by
  simp only [Rg,Bool.and_eq_true] at hk
  simp only [W1,hp,Sk,Rz]
  rw [Yr hI (js:=js) (ys:=ys) (xs:=xs.set j none) (by simpa using hl) (by simpa using hj) hk.2]
  rw [hI.set (by rw [Aet]; simpa using hl) hk.1.1]
theorem Ids.sub' (hI:Ids h0 ids N){js:List Nat}{xs:List (Option AO)}(hl:xs.length=N)(hk:Rg N js=true):Ids (hp h0 ids (Sk js xs)) (W1 ids js) js.length:=by
 have hlt : ∀ {js:List Nat},Rg N js=true → ∀ j ∈ js,j<N:=by
  intro js
  induction js with
  | nil=>intro _ j hj; cases hj
  | cons i js ih=>
   intro hk j hj
   simp only [Rg,Bool.and_eq_true] at hk
   rcases List.mem_cons.1 hj with rfl | hj
   ·simpa using hk.1.1
   ·exact ih hk.2 j hj
 have hmem : ∀ {js:List Nat} {o:Nat},o ∈ W1 ids js → ∃ j ∈ js,o=ix ids j:=by
  intro js
  induction js with
  | nil=>intro o ho; cases ho
  | cons i js ih=>
   intro o ho
   rcases List.mem_cons.1 ho with rfl | ho
   ·exact⟨i,List.mem_cons_self ..,rfl⟩
   ·obtain⟨j,h1,h2⟩:=ih ho; exact⟨j,List.mem_cons_of_mem _ h1,h2⟩
 have hinj : ∀ {i j:Nat},i<N→j<N→ix ids i=ix ids j→i=j:=by
  intro i j hi hj e
  rw [← hI.len] at hi hj
  simp only [ix,List.getD,List.getElem?_eq_getElem hi,List.getElem?_eq_getElem hj,Option.getD_some] at e
  rcases Nat.lt_trichotomy i j with hh | hh | hh
  ·exact absurd e (List.pairwise_iff_getElem.1 hI.nodup i j hi hj hh)
  ·exact hh
  ·exact absurd e.symm (List.pairwise_iff_getElem.1 hI.nodup j i hj hi hh)
 refine⟨?_,?_,?_⟩
 ·have key : ∀ {js:List Nat},Rg N js=true→(W1 ids js).Nodup:=by
   intro js
   induction js with
   | nil=>intro _; exact List.nodup_nil
   | cons i js ih=>
    intro hk
    have hk':=hk
    simp only [Rg,Bool.and_eq_true] at hk
    refine List.nodup_cons.2 ⟨fun hm=>?_,ih hk.2⟩
    obtain⟨j,h1,h2⟩:=hmem hm
    have:=hinj (by simpa using hk.1.1) (hlt hk.2 j h1) h2
    subst this
    have:=hk.1.2
    simp [h1] at this
  exact key hk
 ·intro o ho
  obtain⟨j,h1,rfl⟩:=hmem ho
  exact hI.at (by rw [Ahb]; exact hl) (Ai9 js xs j h1 (by rw [hl]; exact hlt hk j h1))
 ·clear hk
  induction js with
  | nil=>rfl
  | cons i js ih=>simp only [W1,List.length_cons]; rw [ih]
end
def Eg {α:Type}(S:α→AV→Ak→Prop)(h0:Ak)(m:R α):AR→Ak→Prop:=fun r h'=>match m with
 | .ok a => ∃ v,r=.ret v∧S a v h'
 | .pan v=>r=.panic v.av∧h'=h0
 | .bad=>False
def Abw {α:Type}(S:α→AV→Ak→Prop)(h0:Ak):Spec α:=⟨fun m=>m≠.bad,fun h=>h rfl,fun m r h' _=>Eg S h0 m r h'⟩
def tkf (ids:List Nat):Nat→Nat→List Nat
 | 0,_=>[]
 | k+1,j=>ix ids j::tkf ids k (j+1)
theorem Aew : ∀ (ids:List Nat) (k j:Nat),j+k≤ids.length→(ids.drop j).take k=tkf ids k j
 | ids,0,j,_=>by simp [tkf]
 | ids,k+1,j,h=>by
  have hj:j<ids.length:=by omega
  rw [List.drop_eq_getElem_cons hj,List.take_succ_cons,tkf,Aew ids k (j+1) (by omega)]
  simp [ix,List.getD,hj]
section
variable {P:Program} [GW P] {f:FuncId} {n:Nat} {α:Type} {m:R α} {S:α→AV→Ak→Prop} {h0:Ak}
theorem Ce {fn : Func} {c : Code} {args : List AV} {os0 : List Nat} {K : Nat} {xs : List (Option AO)} (N : Nat) (hf : P.funcs[f]? = some fn) (hb : fn.body = some c) (hn : fn.name ≠ "runtime.NumGoroutine") (hnt : fn.ntmps = n) (hl : Nat.ble args.length n = true)
  (hI0 : Ids h0 os0 K) (hx : xs.length = K)
  (hr : ∀ ids, (∀ j, Nat.blt j K = true → ix ids j = ix os0 j) → Ids h0 ids (K + N) → WR P f n false (Abw S h0) m [.code c] (A7 (V4 0 args)) [] (hp h0 ids (xs ++ List.replicate N none)) .ret) :
  m ≠ .bad → Bw P f args (hp h0 os0 xs) (Eg S h0 m) := by
 intro hb'
 refine Q7 hf hb hn hnt (by simpa using hl) ?_
 refine Zq N os0 fun os h1 h2 h3 h4 => ?_
 have hout : ∀ o ∈ os, o ∉ os0 := fun o ho => h4 o ho
 have hI : Ids h0 (os0 ++ os) (K + N) := by
  refine ⟨List.nodup_append.2 ⟨hI0.nodup, h2, fun a ha b hb hq => hout b hb (hq ▸ ha)⟩, fun o ho => ?_, by simp [hI0.len, h1]⟩
  rcases List.mem_append.1 ho with ho | ho
  ·exact hI0.fresh o ho
  ·have := h3 o ho
   rwa [R7 (hout o ho)] at this
 have e : hp h0 (os0 ++ os) (xs ++ List.replicate N none) = hp h0 os0 xs := by
  rw [Ta (by rw [hI0.len, hx]), Rh fun o ho => hI.fresh o (List.mem_append_right _ ho)]
 have := hr (os0 ++ os) (fun j hj => by
  have hj' : j < os0.length := by rw [hI0.len]; simpa using hj
  simp [ix, List.getD, List.getElem?_append_left hj']) hI hb'
 rw [e] at this
 refine Q8 (fun t => ?_) this
 rcases Re args 0 t with h | ⟨_, h⟩
 ·exact .inl h
 ·exact .inr h
section
variable {ids:List Nat} {xs:List (Option AO)} {K N:Nat} {l:List (Nat×AV)} {k:List Item} {u:AU}
theorem Acn (hI:Ids h0 ids (K+N)){ys:List (Option AO)}(hy:ys.length=K):hp h0 ids (ys++List.replicate N none)=hp h0 (tkf ids K 0) ys:=by
 have e:=Aew ids K 0 (by rw [hI.len]; omega)
 rw [List.drop_zero] at e
 rw [← e]
 have e2:ids=ids.take K++ids.drop K:=(List.take_append_drop K ids).symm
 conv=>lhs; rw [e2]
 rw [Ta (by rw [List.length_take,hI.len,hy]; omega),Rh fun o ho=>hI.fresh o (List.mem_of_mem_drop ho)]
theorem Cu {fn:Func}{a:α}{vs:List AV}{v:AV}(ys:List (Option AO))(hf:P.funcs[f]? = some fn)(hI:Ids h0 ids (K+N))(hl:xs.length=K+N)(hr:Im P (hp h0 ids xs) (A7 l) fn.results.toList=some vs)
  (hy:ys.length=K) (hx:HL (hp h0 ids xs) (hp h0 ids (ys++List.replicate N none)) xs (ys++List.replicate N none)) (hz:Fz (hp h0 ids xs) (hp h0 ids (ys++List.replicate N none)) (Kr vs) v) (hS:S a v (hp h0 (tkf ids K 0) ys)) :
  WR P f n false (Abw S h0) (.ok a) (.code .ret::k) (A7 l) [] (hp h0 ids xs) u:=fun _=>by
 refine Uo (Aai hf hr (hx.hfz hI hl) hz rfl ⟨v,rfl,?_⟩)
 rw [Acn hI hy]; exact hS
theorem F4 {fn:Func}{a:α}{vs:List AV}{v:AV}(ys:List (Option AO))(hf:P.funcs[f]? = some fn)(hI:Ids h0 ids (K+N))(hl:xs.length=K+N)(hr:Im P (hp h0 ids xs) (A7 l) fn.results.toList=some vs)
  (hy:ys.length=K) (hx:HL (hp h0 ids xs) (hp h0 ids (ys++List.replicate N none)) xs (ys++List.replicate N none)) (hz:Fz (hp h0 ids xs) (hp h0 ids (ys++List.replicate N none)) (Kr vs) v) (hS:S a v (hp h0 (tkf ids K 0) ys)) :
  WR P f n false (Abw S h0) (.ok a) [] (A7 l) [] (hp h0 ids xs) u:=fun _=>by
 refine Zn (Aai hf hr (hx.hfz hI hl) hz rfl ⟨v,rfl,?_⟩)
 rw [Acn hI hy]; exact hS
theorem Bp {fn:Func}{v:PV}{fr:Nat→AV}(hf:P.funcs[f]? = some fn)(hI:Ids h0 ids (K+N)):WU P f n false (Abw S h0) (.pan v) (.pan v.av false) fr [] (hp h0 ids xs) u:=fun _=>
 Ae7 hf (hI.sub xs) (.same _) ⟨rfl,rfl⟩
end
end
section
variable {P:Program} [GW P] {f:FuncId} {n:Nat} {d:FK} {β γ:Type} {Q:Spec β} {m:R β} {ds:List AD} {u:AU} {k:List Item} {l:List (Nat×AV)} {F:γ→R β}
variable {all r:List Oper} {ty:TypeId} {pos:String} {after:Array Edge} {h0:Ak} {ids:List Nat} {xs:List (Option AO)} {N:Nat}
theorem Aoi {ops:List Oper}{fr:Nat→AV}(js:List Nat){xs zs:List (Option AO)}(ys:List (Option AO))(hI:Ids h0 ids N)(hl:xs.length=N)(hk:Rg N js=true)(hz:js.length=zs.length)(e:Rz js zs xs=ys)(hr:WO P f n d Q k all m ops fr ds (hp h0 ids ys) u) :
  WO P f n d Q k all m ops fr ds (hp (hp h0 ids (Sk js xs)) (W1 ids js) zs) u:=by
 subst e
 rw [Yr hI hl hz hk]; exact hr
theorem B0 {α:Type}{dst:Option Tmp}{x:Operand}{as0:List Operand}{ts:Array TypeId}{g:FuncId}{fst cap A:List AV}{gd:Option (Nat×Bool)}{mg:R α}{S:α→AV→Ak→Prop}{rest:α→R γ}{zs:List (Option AO)}(js:List Nat)(hI:Ids h0 ids N)(hl:xs.length=N)(hk:Rg N js=true)
  (hc:mg≠.bad→Bw P g A (hp (hp h0 ids (Sk js xs)) (W1 ids js) zs) (Eg S (hp h0 ids (Sk js xs)) mg)) (hz:js.length=zs.length) (e2:Rz js zs xs=xs)
  (ht:Gq n dst=true) (hw:F6 all (A7 l) ⟨dst,.call ⟨.value x,⟨as0⟩,ts⟩,ty,pos,after,gd⟩=some true) (hx:ev (A7 l) x=.func (.func g) fst cap) (ha:fst++Hq (A7 l) as0++cap=A)
  (hp' : ∀ v,mg=.pan v→WU P f n d Q (.pan v) (.pan v.av false) (A7 l) ds (hp h0 ids (Sk js xs)) u)
  (hk : ∀ a,mg=.ok a → ∀ v h',S a v h'→WO P f n d Q k all ((rest a).bind F) r (Hp (A7 l) dst v) ds h' u) :
  WO P f n d Q k all ((mg.bind rest).bind F) (⟨dst,.call ⟨.value x,⟨as0⟩,ts⟩,ty,pos,after,gd⟩::r) (A7 l) ds (hp h0 ids xs) u:=by
 rw [Yr hI hl hz ‹Rg N js=true›,e2] at hc
 refine Ab8 (R.bind_assoc _ _ _) (Nv ht hw fun hb K U hK hU=>?_)
 simp only [I1,hx]
 rw [ha]
 have hmb:mg≠.bad:=fun q=>by rw [q] at hb; exact Q.bad hb
 refine(hc hmb).mono fun r' h' hr=>?_
 cases hm:mg with
 | bad=>exact absurd hm hmb
 | ok a=>
  rw [hm] at hr hb hK
  obtain⟨v,rfl,hS⟩:=hr
  exact hK _ _ _ _ (hk a hm v h' hS)
 | pan v=>
  rw [hm] at hr hb hU
  obtain⟨rfl,rfl⟩:=hr
  exact hU _ _ _ _ _ (hp' v hm hb)
theorem Cb {ops:List Oper}{t:Nat}{v:AV}{h:Ak}(hr:WO P f n d Q k all m ops (A7 ((t,v)::l)) ds h u):WO P f n d Q k all m ops (Hp (A7 l) (some t) v) ds h u:=by rw [Fg]; exact hr
theorem E6 {α:Type}{pre:List (List Nat)}{plan:Hd}{pend:O3}{i:Nat}{dst:Option Tmp}{x:Operand}{as0:List Operand}{ts:Array TypeId}{g:FuncId}{fst cap A:List AV}{gd:Option (Nat×Bool)}{mg:R α}{S:α→AV→Ak→Prop}{rest:α→R γ}{zs:List (Option AO)}(js:List Nat)(hI:Ids h0 ids N)(hl:xs.length=N)(hk:Rg N js=true)
  (hc:mg≠.bad→Bw P g A (hp (hp h0 ids (Sk js xs)) (W1 ids js) zs) (Eg S (hp h0 ids (Sk js xs)) mg)) (hz:js.length=zs.length) (e2:Rz js zs xs=xs) (ho:all[i]? = some ⟨dst,.call ⟨.value x,⟨as0⟩,ts⟩,ty,pos,after,gd⟩)
  (ht:Gq n dst=true) (hw:F6 all (A7 l) ⟨dst,.call ⟨.value x,⟨as0⟩,ts⟩,ty,pos,after,gd⟩=some true) (hx:ev (A7 l) x=.func (.func g) fst cap) (ha:fst++Hq (A7 l) as0++cap=A)
  (hp' : ∀ v,mg=.pan v → ∀ fr,(∀ t,(all.any fun o=>o.dst==some t)=false→fr t=A7 l t)→WU P f n d Q (.pan v) (.pan v.av false) fr ds (hp h0 ids (Sk js xs)) u)
  (hk : ∀ a,mg=.ok a → ∀ v h',S a v h'→G7 P all pre i h' pend∧WP P f n d Q k all pre ((rest a).bind F) plan pend (Hp (A7 l) dst v) ds h' u) :
  WP P f n d Q k all pre ((mg.bind rest).bind F) ((true,i)::plan) pend (A7 l) ds (hp h0 ids xs) u:=by
 rw [Yr hI hl hz ‹Rg N js=true›,e2] at hc
 refine Abd (R.bind_assoc _ _ _) (W4 ho ht hw fun hb K U hK hU=>?_)
 simp only [I1,hx]
 rw [ha]
 have hmb:mg≠.bad:=fun q=>by rw [q] at hb; exact Q.bad hb
 refine(hc hmb).mono fun r' h' hr=>?_
 cases hm:mg with
 | bad=>exact absurd hm hmb
 | ok a=>
  rw [hm] at hr hb hK
  obtain⟨v,rfl,hS⟩:=hr
  obtain⟨k1,k2⟩:=hk a hm v h' hS
  exact hK _ _ _ _ k1 k2
 | pan v=>
  rw [hm] at hr hb hU
  obtain⟨rfl,rfl⟩:=hr
  exact hU _ _ _ _ _ (fun fr' hf=>hp' v hm fr' hf hb)
theorem F5 {pre:List (List Nat)}{plan:Hd}{pend:O3}{i:Nat}{fr:Nat→AV}(js:List Nat){xs zs:List (Option AO)}(ys:List (Option AO))(hI:Ids h0 ids N)(hl:xs.length=N)(hk:Rg N js=true)(hz:js.length=zs.length)(e:Rz js zs xs=ys)
  (hr:G7 P all pre i (hp h0 ids ys) pend∧WP P f n d Q k all pre m plan pend fr ds (hp h0 ids ys) u) :
  G7 P all pre i (hp (hp h0 ids (Sk js xs)) (W1 ids js) zs) pend∧WP P f n d Q k all pre m plan pend fr ds (hp (hp h0 ids (Sk js xs)) (W1 ids js) zs) u:=by
 subst e
 rw [Yr hI hl hz hk]; exact hr
theorem F7 {pre:List (List Nat)}{plan:Hd}{pend:O3}{t:Nat}{v:AV}{h:Ak}(hr:WP P f n d Q k all pre m plan pend (A7 ((t,v)::l)) ds h u):WP P f n d Q k all pre m plan pend (Hp (A7 l) (some t) v) ds h u:=by rw [Fg]; exact hr
end
end Go.Am
namespace Go.Am
open Go
set_option linter.unusedSimpArgs false
set_option linter.unusedVariables false
set_option linter.unusedSectionVars false
section
variable {P:Program} [GW P] {h:Ak} {t et:TypeId} {a b st:Nat} {z:List AV} {E:TI} {s:List UInt8} {k k':IntKind} {lo hi:Int} {α:Type} {e:α→List AV} {L:List α}
theorem Apw {n:Nat}(h1:0≤lo)(h2:lo≤(n:Int))(d:Nat):Il (some (.int k lo)) d n=some lo.toNat:=by simp only [Il]; rw [if_pos ⟨h1,h2⟩]
theorem Aow (hT:ti P t=some ⟨.sl et,a,b,z⟩)(hE:ti P et=some E)(hs:st=E.size)(hc:0≤lo∧lo≤(L.length:Int)):Ma P h t (.sl st (L.map e)) (some (.int k lo)) none none=some (.sl st ((L.drop lo.toNat).map e)):=by
 simp only [Ma,hT,hE,Il]
 rw [if_pos hs]
 simp only [List.length_map]
 rw [if_pos hc]
 simp only [Option.some.injEq,AV.sl.injEq,true_and]
 rw [List.take_of_length_le (by simp),List.map_drop]
theorem Aon (hT:ti P t=some ⟨.sl et,a,b,z⟩)(hE:ti P et=some E)(hs:st=E.size)(hc:0≤hi∧hi≤(L.length:Int)):Ma P h t (.sl st (L.map e)) none (some (.int k hi)) none=some (.sl st ((L.take hi.toNat).map e)):=by
 simp only [Ma,hT,hE]
 rw [if_pos hs,Apw hc.1 (by simpa using hc.2)]
 simp only [Il,List.drop_zero,Nat.sub_zero,List.map_take]
theorem G5 {m o g r c:Nat}{i:Int}(j:Nat)(hT:ti P t=some ⟨.arr m et,a,b,z⟩)(hE:ti P et=some E)(hi:i=(j:Int))(hj:Nat.blt j m=true):G1 P h t (.ptr o g r c) (.int k i)=some (.ptr o g r (c+j * E.size)):=by
 subst hi
 have:j<m:=by simpa using hj
 simp only [G1,hT,hE]
 rw [if_pos ⟨by omega,by omega⟩,Int.toNat_natCast]
end
section
variable {P:Program} [GW P] {f:FuncId} {n:Nat} {d:FK} {β γ:Type} {Q:Spec β} {fr:Nat→AV} {ds:List AD} {h:Ak} {u:AU} {k:List Item} {F:γ→R β} {all:List Oper}
theorem Aos {ops:List Oper}:WO P f n d Q k all ((R.bad:R γ).bind F) ops fr ds h u:=fun hb=>absurd hb Q.bad
theorem Jq {pre:List (List Nat)}{plan:Hd}{pend:O3}{p:Prop}[Decidable p]{A B:R γ}(ht:p→WP P f n d Q k all pre (A.bind F) plan pend fr ds h u)(hf:¬ p→WP P f n d Q k all pre (B.bind F) plan pend fr ds h u):WP P f n d Q k all pre ((if p then A else B).bind F) plan pend fr ds h u:=by
 intro hb
 by_cases hp:p
 ·simp only [if_pos hp] at hb ⊢; exact ht hp hb
 ·simp only [if_neg hp] at hb ⊢; exact hf hp hb
theorem S8 {pre:List (List Nat)}{plan:Hd}{pend:O3}:WP P f n d Q k all pre ((R.bad:R γ).bind F) plan pend fr ds h u:=fun hb=>absurd hb Q.bad
end
def Cy (l:List Int):Str:=l.map fun n=>UInt8.ofNat n.toNat
def Ht (s:Str):List Int:=s.map fun b=>(b.toNat:Int)
theorem Aac : ∀ l:List Int,Pm (l.map (rI .u8))=some (Cy l)
 | []=>rfl
 | n::l=>by
  have:=Aac l
  simp only [List.map_cons,rI,Pm] at this ⊢
  rw [this]
  rfl
section
variable {P:Program} [GW P] {h:Ak} {s t e:TypeId} {a b c d st:Nat} {z1 z2:List AV} {E:TI} {L:List Int}
theorem P5 (hS:ti P s=some ⟨.sl e,a,b,z1⟩)(hT:ti P t=some ⟨.str,c,d,z2⟩)(hE:ti P e=some E)(hk:E.k=.int .u8):Sa P h s t (.sl 1 (L.map (rI .u8)))=some (.str (Cy L)):=by
 simp only [Sa,hS,hT,hE]
 rw [if_pos ⟨hk,trivial⟩,Aac]; rfl
theorem Apb {P:Program}[GW P]{fr:Nat→AV}{x:Operand}{K:AV→Ak→Prop}{S:Str}{E:TI}(hS:ti P s=some ⟨.str,a,b,z1⟩)(hT:ti P t=some ⟨.sl e,c,d,z2⟩)(hE:ti P e=some E)(hk:E.k=.int .u8)(hx:ev fr x=.str S)(hl:S.length≤Ca)(hK:K (.sl 1 ((Ht S).map (rI .u8))) h):Gw P fr h (.convert s t x) K:=by
 simp only [Gw,Wu,hS,hT,hE,hx]
 refine⟨hk,hl,?_⟩
 have:(Ht S).map (rI .u8)=S.map fun b=>[AV.int .u8 b.toNat]:=by simp [Ht,rI,Function.comp_def]
 rw [this] at hK; exact hK
end
section
variable {P:Program} [GW P] [GW P]
theorem Sz.mk {g : FuncId} {gf : Func} {gc : Code} (h1 : P.funcs[g]? = some gf) (h2 : gf.body = some gc) (h3 : gf.name ≠ "runtime.NumGoroutine") : Sz P g := ⟨gf, gc, h1, h2, h3⟩
theorem Am7 {h:Ak}{mu:Mu}{w:World}{a:AV}{cargs:Array Value}(k:Oi h mu w [a] cargs.toList) : ∃ c,cargs = #[c]∧RV h mu w a c:=by
 obtain⟨l⟩:=cargs
 match l,k.1 with
 | [c],_=>exact⟨c,rfl,by simpa using k.2 0 (by simp)⟩
theorem Aot {h:Ak}{mu:Mu}{w:World}{t:IntKind}{n:Int}{c:Value}(k:RV h mu w (.int t n) c):c=.int t n:=by cases k; rfl
end
end Go.Am
namespace Go.Am
open Go
set_option linter.unusedSimpArgs false
set_option linter.unusedVariables false
set_option linter.unusedSectionVars false
inductive HM (h h2:Ak):List (Option AO)→List (Option AO)→Prop
 | nil:HM h h2 [] []
 | keep {x:Option AO} {xs ys:List (Option AO)} (r:HM h h2 xs ys):HM h h2 (x::xs) (x::ys)
 | drop {x:Option AO} {xs ys:List (Option AO)} (r:HM h h2 xs ys):HM h h2 (x::xs) (none::ys)
 | own {α:Type} {e:α→List AV} {L:List α} {v:AV} {g st i:Nat} {y:α} {row:List AV} {xs ys:List (Option AO)} (hr : ∀ x,E8 st (e x)) (hz:LF h h2 row (e y)) (r:HM h h2 xs ys) :
   HM h h2 (A2 v g st ((L.map e).set i row)::xs) (A2 v g st ((L.set i y).map e)::ys)
theorem HM.get {h h2:Ak}{xs ys:List (Option AO)}(k:HM h h2 xs ys):xs.length=ys.length ∧ ∀ (j:Nat) (y:AO),ys[j]? = some (some y) → ∃ x,xs[j]? = some (some x)∧AFz h h2 x y:=by
 induction k with
 | nil=>exact⟨rfl,fun j y e=>by simp at e⟩
 | keep r ih=>
  refine⟨by simp [ih.1],fun j y e=>?_⟩
  cases j with
  | zero=>simp only [List.getElem?_cons_zero,Option.some.injEq] at e; subst e; exact⟨y,by simp,.same _⟩
  | succ j=>simpa using ih.2 j y (by simpa using e)
 | drop r ih=>
  refine⟨by simp [ih.1],fun j y e=>?_⟩
  cases j with
  | zero=>simp at e
  | succ j=>simpa using ih.2 j y (by simpa using e)
 | @own α e L v g st i y row xs ys hr hz r ih=>
  refine⟨by simp [ih.1],fun j z hz'=>?_⟩
  cases j with
  | succ j=>simpa using ih.2 j z (by simpa using hz')
  | zero=>
   simp only [List.getElem?_cons_zero,Option.some.injEq] at hz' ⊢
   have key:AFz h h2 (.rows g st ((L.map e).set i row)) (.rows g st ((L.set i y).map e)):=by
    refine .rows g st _ _ (by simp) (fun q hq=>?_) fun a b ha hb=>?_
    ·obtain⟨w,_,rfl⟩:=List.mem_map.1 hq
     exact hr w
    ·rw [List.map_set]
     by_cases hia:i=a
     ·subst hia
      have hlt:i<(L.map e).length:=by simpa using ha
      simp only [cell]
      have e1:((L.map e).set i row).getD i []=row:=by rw [List.getD_eq_getElem?_getD,List.getElem?_set_self hlt]; rfl
      have e2:((L.map e).set i (e y)).getD i []=e y:=by rw [List.getD_eq_getElem?_getD,List.getElem?_set_self hlt]; rfl
      rw [e1,e2]
      exact hz.all.2 b (by rw [hz.all.1,(hr y).1]; exact hb)
     ·simp only [cell]
      have e1:((L.map e).set i row).getD a []=(L.map e).getD a []:=by simp [List.getD,List.getElem?_set_ne hia]
      have e2:((L.map e).set i (e y)).getD a []=(L.map e).getD a []:=by simp [List.getD,List.getElem?_set_ne hia]
      rw [e1,e2]
      exact .same _
   unfold A2 at hz' ⊢
   split at hz'
   ·cases hz'
   ·rename_i hv
    cases hz'
    exact⟨_,rfl,key⟩
theorem HM.hfz {h0:Ak}{ids:List Nat}{N:Nat}{xs ys:List (Option AO)}(hI:Ids h0 ids N)(hl:xs.length=N)(k:HM (hp h0 ids xs) (hp h0 ids ys) xs ys):HFz (hp h0 ids xs) (hp h0 ids ys):=by
 intro o y e
 obtain⟨k1,k2⟩:=k.get
 by_cases ho:o ∈ ids
 ·obtain⟨j,hj,rfl⟩:=List.mem_iff_getElem.1 ho
  have ej:ids[j]=ix ids j:=by simp [ix,List.getD,hj]
  rw [ej] at e ⊢
  have hjl:j<ys.length:=by rw [← k1,hl,← hI.len]; exact hj
  have hy:=hI.at (xs:=ys) (j:=j) (x:=ys[j]) (by rw [← k1,hl]) (List.getElem?_eq_getElem hjl)
  rw [hy] at e
  obtain⟨x,hx,hz⟩:=k2 j y (by rw [List.getElem?_eq_getElem hjl,e])
  exact⟨x,hI.at hl hx,hz⟩
 ·rw [R7 ho] at e
  exact⟨y,by rw [R7 ho]; exact e,.same _⟩
end Go.Am
namespace Go.Am
open Go
set_option linter.unusedSimpArgs false
set_option linter.unusedVariables false
set_option linter.unusedSectionVars false
def rV {α:Type}{n:Nat}(e:α→List AV)(v:Vector α n):List AV:=v.toList.flatMap e
def Yh {α:Type}{n:Nat}(v:Vector α n)(i:Nat)(z:α):α:=v.toList.getD i z
def Amr {α:Type}(n:Nat)(x:α):Vector α n:=Vector.replicate n x
section
variable {α:Type} {n:Nat} {e:α→List AV} {E:α→AV} {v:Vector α n} {i:Nat}
theorem Aab {s:Nat}(he : ∀ x,(e x).length=s) : ∀ l:List α,(l.flatMap e).length=l.length * s
 | []=>by simp
 | a::l=>by simp [he a,Aab he l,Nat.add_mul,Nat.add_comm]
theorem Ao7 {s m:Nat}(he : ∀ x,E8 s (e x))(hm:n * s=m)(v:Vector α n):E8 m (rV e v):=by
 refine⟨by rw [rV,Aab fun x=>(he x).1]; simpa using hm,fun a ha=>?_⟩
 obtain⟨x,_,hx⟩:=List.mem_flatMap.1 ha
 exact(he x).2 a hx
theorem E8.all {s:Nat}{r:List AV}(h:E8 s r):r.all AV.flat=true:=List.all_eq_true.2 h.2
theorem Aje (he : ∀ x,e x=[E x]):rV e v=v.toList.map E:=by
 rw [rV]
 induction v.toList with
 | nil=>rfl
 | cons a l ih=>simp [he,ih]
theorem Apo (he : ∀ x,e x=[E x])(x:α):rV e (Amr n x)=List.replicate n (E x):=by rw [Aje he]; simp [Amr]
theorem Aqe (he : ∀ x,e x=[E x])(hi:i<n)(z:α):Mt (rV e v) i 1 false=some (E (Yh v i z)):=by
 have hl:i<v.toList.length:=by simpa using hi
 rw [Aje he]
 simp only [Mt,Bool.false_eq_true,if_false,List.length_map,hl,if_true,Yh]
 congr 1
 simp [List.getD,List.getElem?_eq_getElem hl]
end
section
variable {P:Program} [GW P] {h:Ak} {t et:TypeId} {a b:Nat} {z:List AV} {E:TI} {k:IntKind}
theorem Akn {m o g:Nat}{i:Int}(hT:ti P t=some ⟨.arr m et,a,b,z⟩)(hE:ti P et=some E)(h1:E.size=1)(hi:0≤i∧i<(m:Int)):G1 P h t (.ptr o g 0 0) (.int k i)=some (.ptr o g 0 i.toNat):=by
 simp only [G1,hT,hE,h1]
 rw [if_pos ⟨hi.1,by omega⟩]
 simp
theorem Alh {i:Int}{m:Nat}(h:0≤i∧i<(m:Int)):i.toNat<m:=by omega
end
section
variable {P:Program} [GW P] {f:FuncId} {n:Nat} {d:FK} {β:Type} {Q:Spec β} {m:R β} {ds:List AD} {u:AU} {k:List Item} {l:List (Nat×AV)} {all r:List Oper} {ty:TypeId} {pos:String} {after:Array Edge} {h0:Ak} {ids:List Nat} {xs:List (Option AO)} {N:Nat}
theorem Aku {t:Nat}{e:TypeId}{T:TI}{j st:Nat}{row:List AV}(hI:Ids h0 ids N)(hl:xs.length=N)(hjn:Nat.blt j N=true)(hj:xs[j]? = some none)(ht:Nat.blt t n=true)(hT:ti P e=some T)(hz:T.z=row)(hr:E8 st row)
  (hk : ∀ g,WO P f n d Q k all m r (A7 ((t,.ptr (ix ids j) g 0 0)::l)) ds (hp h0 ids (xs.set j (some (.rows g st [row])))) u) :
  WO P f n d Q k all m (⟨some t,.alloc e,ty,pos,after,none⟩::r) (A7 l) ds (hp h0 ids xs) u:=by
 subst hz
 refine Ck hI hl hjn hj ht hT hr.all fun g=>?_
 rw [hr.1]; exact hk g
end
theorem Jt {h h2:Ak} : ∀ l:List AV,LF h h2 l l
 | []=>.nil
 | a::l=>.cons (.same a) (Jt l)
def R.np {α:Type}:R α→R α
 | .pan _=>.bad
 | m=>m
theorem R.np_ne {α:Type}(m:R α)(v:PV):m.np≠.pan v:=by cases m <;> simp [R.np]
@[simp] theorem R.np_ok {α:Type}(a:α):(R.ok a).np=.ok a:=rfl
end Go.Am
namespace Go.Am
open Go
set_option linter.unusedSimpArgs false
set_option linter.unusedVariables false
set_option linter.unusedSectionVars false
section
variable {P:Program} [GW P] {B:Base P} {mu:Mu} {h:Ak} {w:World}
theorem Sim.pushB (s:Sim B mu h w){o g:Nat}(x:Obj)(ho:h o=none)(hg:mu o g=none) :
  Sim B (D8 mu o g ⟨w.heap.size,0,0,0,false⟩) (upd h o (some (.blk g x))) (w.alloc x)∧E9 h mu w (upd h o (some (.blk g x))) (D8 mu o g ⟨w.heap.size,0,0,0,false⟩) (w.alloc x):=by
 have hmu : ∀ o' g' l,mu o' g'=some l→D8 mu o g ⟨w.heap.size,0,0,0,false⟩ o' g'=some l:=by
  intro o' g' l hl
  unfold D8
  rw [if_neg]
  ·exact hl
  ·rintro⟨rfl,rfl⟩; rw [hg] at hl; cases hl
 have hinv : ∀ o' g' l,D8 mu o g ⟨w.heap.size,0,0,0,false⟩ o' g'=some l→(o'=o∧g'=g∧l=⟨w.heap.size,0,0,0,false⟩)∨mu o' g'=some l:=by
  intro o' g' l hl
  unfold D8 at hl
  split at hl
  ·rename_i hh; cases hl; exact .inl ⟨hh.1,hh.2,rfl⟩
  ·exact .inr hl
 have hlive : ∀ o' y,upd h o (some (.blk g x)) o'=some y→(o'=o∧y=.blk g x)∨(o'≠o∧h o'=some y):=by
  intro o' y hx
  unfold upd at hx
  split at hx
  ·cases hx; exact .inl ⟨‹_›,rfl⟩
  ·exact .inr ⟨‹_›,hx⟩
 have hlt : ∀ {o' g' l},mu o' g'=some l→l.b<w.heap.size:=fun hl=>(s.muOk _ _ _ hl).2.1
 have hM : ∀ b,b<w.heap.size→¬ D2 h mu b→¬ D2 (upd h o (some (.blk g x))) (D8 mu o g ⟨w.heap.size,0,0,0,false⟩) b:=by
  rintro b hb hn ⟨o',y,l,hx,hl,rfl⟩
  rcases hinv _ _ _ hl with⟨_,_,rfl⟩ | hl'
  ·simp at hb
  ·rcases hlive _ _ hx with⟨rfl,rfl⟩ | ⟨_,hx'⟩
   ·simp only [AO.gen] at hl'; rw [hg] at hl'; cases hl'
   ·exact hn ⟨o',y,l,hx',hl',rfl⟩
 have ext:E9 h mu w (upd h o (some (.blk g x))) (D8 mu o g ⟨w.heap.size,0,0,0,false⟩) (w.alloc x):=
  ⟨rfl,rfl,rfl,by rw [Fk]; omega,fun b hb hn=>⟨D4 hb,hM b hb hn⟩,hmu⟩
 refine⟨⟨?_,?_,?_,?_,?_,?_,?_,s.globE ext,?_⟩,ext⟩
 ·rw [Fk]; exact Nat.le_succ_of_le s.base
 ·intro o' g' l hl
  rcases hinv _ _ _ hl with⟨_,_,rfl⟩ | hl'
  ·exact⟨s.base,by rw [Fk]; simp,fun hh=>by simp at hh⟩
  ·obtain⟨h1,h2,h3⟩:=s.muOk _ _ _ hl'
   refine⟨h1,by rw [Fk]; omega,fun hcc=>?_⟩
   rw [D4 h2]; exact h3 hcc
 ·obtain⟨N,hN⟩:=s.fin
  refine⟨max N (g+1),fun o' g' hle=>?_⟩
  unfold D8
  rw [if_neg (by omega)]
  exact hN _ _ (by omega)
 ·obtain⟨N,hN⟩:=s.finh
  refine⟨max N (o+1),fun o' hle=>?_⟩
  unfold upd
  rw [if_neg (by omega)]
  exact hN _ (by omega)
 ·intro o' g' st' rs' hx
  rcases hlive _ _ hx with⟨rfl,hx'⟩ | ⟨hne,hx'⟩
  ·cases hx'
  ·obtain⟨l,h1,h2,h3,h4,h5,h6⟩:=s.rows _ _ _ _ hx'
   refine⟨l,hmu _ _ _ h1,h2,h3,h4,h5,fun i j hi hj=>?_⟩
   obtain⟨c,hc1,hc2⟩:=h6 i j hi hj
   refine⟨c,?_,hc2.ext ext⟩
   rw [cell?_of_heap (w:=w) (a:=⟨l.b,l.base+i * st'+j,none⟩) (D4 (hlt h1))]; exact hc1
 ·intro o' g' es hx
  rcases hlive _ _ hx with⟨rfl,hx'⟩ | ⟨hne,hx'⟩
  ·cases hx'
  ·obtain⟨l,h1,h2,ens,clock,h3,h4,h5⟩:=s.maps _ _ _ hx'
   exact⟨l,hmu _ _ _ h1,h2,ens,clock,by rw [D4 (hlt h1)]; exact h3,h4,fun i hi=>⟨(h5 i hi).1.ext ext,(h5 i hi).2.ext ext⟩⟩
 ·intro o1 o2 x1 x2 l1 l2 hx1 hx2 hl1 hl2 hbb
  have side : ∀ {o1 x1 l1},upd h o (some (.blk g x)) o1=some x1→D8 mu o g ⟨w.heap.size,0,0,0,false⟩ o1 x1.gen=some l1→(o1=o∧l1.b=w.heap.size)∨(o1≠o∧h o1=some x1∧mu o1 x1.gen=some l1):=by
   intro o1 x1 l1 h1 q1
   rcases hlive _ _ h1 with⟨rfl,rfl⟩ | ⟨hne,h1'⟩
   ·rcases hinv _ _ _ q1 with⟨_,_,rfl⟩ | q1'
    ·exact .inl ⟨rfl,rfl⟩
    ·simp only [AO.gen] at q1'; rw [hg] at q1'; cases q1'
   ·rcases hinv _ _ _ q1 with⟨e1,_,_⟩ | q1'
    ·exact absurd e1 hne
    ·exact .inr ⟨hne,h1',q1'⟩
  rcases side hx1 hl1 with⟨e1,b1⟩ | ⟨n1,a1,c1⟩ <;> rcases side hx2 hl2 with⟨e2,b2⟩ | ⟨n2,a2,c2⟩
  ·rw [e1,e2]
  ·have:=hlt c2; omega
  ·have:=hlt c1; omega
  ·exact s.inj _ _ _ _ _ _ a1 a2 c1 c2 hbb
 ·intro o' g' y hx
  rcases hlive _ _ hx with⟨rfl,hx'⟩ | ⟨hne,hx'⟩
  ·cases hx'
   exact⟨⟨w.heap.size,0,0,0,false⟩,by simp [D8],rfl,Mh⟩
  ·obtain⟨l,h1,h2,h3⟩:=s.blks _ _ _ hx'
   exact⟨l,hmu _ _ _ h1,h2,by rw [D4 (hlt h1)]; exact h3⟩
theorem Sim.setB (s:Sim B mu h w){o g:Nat}{x x':Obj}{l:Loc}(hx:h o=some (.blk g x))(hl:mu o g=some l)(hnc : ∀ c e f,x≠.cells c e f) :
  Sim B mu (upd h o (some (.blk g x'))) { w with heap:=w.heap.setIfInBounds l.b x' }∧E9 h mu w (upd h o (some (.blk g x'))) mu { w with heap:=w.heap.setIfInBounds l.b x' }:=by
 obtain⟨l0,hl0,hlc,hb0⟩:=s.blks _ _ _ hx
 rw [hl] at hl0; cases hl0
 have hlt0:=(s.muOk _ _ _ hl).2.1
 generalize hw:({ w with heap:=w.heap.setIfInBounds l.b x' }:World)=w'
 have hblk:w'.heap[l.b]? = some x':=by rw [← hw]; simp [hlt0]
 have hother : ∀ b,b≠l.b→w'.heap[b]? = w.heap[b]? := fun b hne=>by rw [← hw]; exact Array.getElem?_setIfInBounds_ne (Ne.symm hne)
 have hsize:w'.heap.size=w.heap.size:=by rw [← hw]; simp
 have hlive : ∀ o1 y,upd h o (some (.blk g x')) o1=some y→(o1=o∧y=.blk g x')∨(o1≠o∧h o1=some y):=by
  intro o1 y h1
  unfold upd at h1
  split at h1
  ·cases h1; exact .inl ⟨‹_›,rfl⟩
  ·exact .inr ⟨‹_›,h1⟩
 have hMl:D2 h mu l.b:=⟨o,_,l,hx,hl,rfl⟩
 have hM : ∀ b,¬ D2 h mu b→¬ D2 (upd h o (some (.blk g x'))) mu b:=by
  rintro b hn ⟨o1,y,l1,h1,h2,rfl⟩
  rcases hlive _ _ h1 with⟨rfl,rfl⟩ | ⟨_,h1'⟩
  ·exact hn ⟨_,_,_,hx,h2,rfl⟩
  ·exact hn ⟨_,_,_,h1',h2,rfl⟩
 have ext:E9 h mu w (upd h o (some (.blk g x'))) mu w':=
  ⟨by rw [← hw],by rw [← hw],by rw [← hw],by rw [hsize]; exact Nat.le_refl _,fun b _ hb=>⟨hother b (fun e=>hb (e ▸ hMl)),hM b hb⟩,fun _ _ _ h=>h⟩
 have hnb : ∀ {o1 y l1},o1≠o→h o1=some y→mu o1 y.gen=some l1→l1.b≠l.b:=fun hne h1 h2 hb=>hne (s.inj _ _ _ _ _ _ h1 hx h2 hl hb)
 refine⟨⟨by rw [hsize]; exact s.base,?_,s.fin,?_,?_,?_,?_,s.globE ext,?_⟩,ext⟩
 ·intro o1 g1 l1 h1
  obtain⟨k1,k2,k3⟩:=s.muOk _ _ _ h1
  refine⟨k1,by rw [hsize]; exact k2,fun hcc=>?_⟩
  have hbb:l1.b≠l.b:=by
   intro hbb
   obtain⟨c1,e1,f1,q1,_⟩:=k3 hcc
   rw [hbb,hb0] at q1
   exact hnc _ _ _ (Option.some.inj q1)
  rw [hother _ hbb]; exact k3 hcc
 ·obtain⟨N,hN⟩:=s.finh
  refine⟨max N (o+1),fun o' hle=>?_⟩
  unfold upd
  rw [if_neg (by omega)]
  exact hN _ (by omega)
 ·intro o1 g1 st1 rs1 h1
  rcases hlive _ _ h1 with⟨rfl,h1'⟩ | ⟨hne,h1'⟩
  ·cases h1'
  ·obtain⟨l1,k1,k2,k3,k4,k5,k6⟩:=s.rows _ _ _ _ h1'
   refine⟨l1,k1,k2,k3,k4,k5,fun i j hi hj=>?_⟩
   obtain⟨c,hc1,hc2⟩:=k6 i j hi hj
   refine⟨c,?_,hc2.ext ext⟩
   rw [cell?_of_heap (w:=w) (w':=w') (a:=⟨l1.b,l1.base+i * st1+j,none⟩) (hother _ (hnb hne h1' k1))]; exact hc1
 ·intro o1 g1 es1 h1
  rcases hlive _ _ h1 with⟨rfl,h1'⟩ | ⟨hne,h1'⟩
  ·cases h1'
  ·obtain⟨l1,k1,k2,ens1,clock1,k3,k4,k5⟩:=s.maps _ _ _ h1'
   exact⟨l1,k1,k2,ens1,clock1,by rw [hother _ (hnb hne h1' k1)]; exact k3,k4,fun i hi=>⟨(k5 i hi).1.ext ext,(k5 i hi).2.ext ext⟩⟩
 ·intro o1 o2 x1 x2 l1 l2 h1 h2 q1 q2 hbb
  rcases hlive _ _ h1 with⟨rfl,rfl⟩ | ⟨n1,a1⟩ <;> rcases hlive _ _ h2 with⟨rfl,rfl⟩ | ⟨n2,a2⟩
  ·rfl
  ·simp only [AO.gen] at q1; rw [hl] at q1; cases q1; exact absurd hbb.symm (hnb n2 a2 q2)
  ·simp only [AO.gen] at q2; rw [hl] at q2; cases q2; exact absurd hbb (hnb n1 a1 q1)
  ·exact s.inj _ _ _ _ _ _ a1 a2 q1 q2 hbb
 ·intro o1 g1 y h1
  rcases hlive _ _ h1 with⟨rfl,h1'⟩ | ⟨hne,h1'⟩
  ·cases h1'
   exact⟨l,hl,hlc,hblk⟩
  ·obtain⟨l1,k1,k2,k3⟩:=s.blks _ _ _ h1'
   exact⟨l1,k1,k2,by rw [hother _ (hnb hne h1' k1)]; exact k3⟩
end
end Go.Am
namespace Go.Am
open Go
set_option linter.unusedSimpArgs false
set_option linter.unusedVariables false
set_option linter.unusedSectionVars false
section
variable {P:Program} [GW P] {f:FuncId} {n:Nat} {d:FK} {fr:Nat→AV} {ds:List AD} {h:Ak} {u:AU} {Q:QT} {k:List Item}
theorem Ac9 {l o g:Nat}{r:Loop}(hd:d.ro=some (l,o,g))(ho:h o=some (.blk g (.loop r)))(hs:r.state=.ready)(hr:Fo P f n d k fr ds (upd h o (some (.blk g (.loop { r with state:=.busy })))) u Q) :
  Fo P f n d (.beginRound::k) fr ds h u Q:=by
 intro B mu w a cs p
 obtain⟨loc,hl,rfl⟩:=p.rnd _ _ _ hd
 obtain⟨l0,hl0,_,hb⟩:=p.sim.blks _ _ _ ho
 rw [hl] at hl0; cases hl0
 have hrun:(Instr.beginRound loc.b).run P w=.ok () { w with heap:=w.heap.setIfInBounds loc.b (.loop { r with state:=.busy }) }:=by
  simp [Instr.beginRound,Instr.getLoop,getObj,setObj,Sem.run,Sem.run_bind,hb,hs]
 obtain⟨s',e'⟩:=p.sim.setB (x':=.loop { r with state:=.busy }) ho hl (fun _ _ _ hh=>by cases hh)
 exact .ext e' (.head (stepR_beginRound (by simp [b0,hd]) hrun) (hr B mu _ a cs (p.ext e' s')))
def Uh (fr:Nat→AV):List Nat→List AV→Nat→AV
 | p::ps,v::vs=>Uh (upd fr p v) ps vs
 | _,_=>fr
theorem Af2 {mu:Mu}{w:World} : ∀ (ps:List Nat) (args:List AV) (cargs:List Value) (fr:Nat→AV) (tmps:Array Value),tmps.size=n→(∀ p ∈ ps,p<n)→(∀ t,RV h mu w (fr t) (tmps.getD t undef))→Oi h mu w args cargs →
  (∀ t,RV h mu w (Uh fr ps args t) (((ps.zip cargs).foldl (fun tmps x=>tmps.setIfInBounds x.1 x.2) tmps).getD t undef))∧((ps.zip cargs).foldl (fun tmps x=>tmps.setIfInBounds x.1 x.2) tmps).size=n
 | [],_,_,fr,tmps,hs,_,hf,_=>⟨by simpa [Uh] using hf,by simpa using hs⟩
 | p::ps,[],[],fr,tmps,hs,_,hf,_=>⟨by simpa [Uh] using hf,by simpa using hs⟩
 | p::ps,[],c::cs,fr,tmps,hs,_,hf,ha=>by have:=ha.1; simp at this
 | p::ps,v::vs,[],fr,tmps,hs,_,hf,ha=>by have:=ha.1; simp at this
 | p::ps,v::vs,c::cs,fr,tmps,hs,hp,hf,ha=>by
  have hv:RV h mu w v c:=by simpa using ha.2 0 (by simp)
  have hp0:=hp p (List.mem_cons_self ..)
  refine Af2 ps vs cs (upd fr p v) (tmps.setIfInBounds p c) (by simpa using hs) (fun q hq=>hp q (List.mem_cons_of_mem _ hq)) (fun t=>?_) ⟨by have:=ha.1; simpa using this,fun i hi=>by simpa using ha.2 (i+1) (by simpa using hi)⟩
  unfold upd
  by_cases ht:t=p
  ·subst ht
   rw [if_pos rfl]
   simp [hs,hp0]; exact hv
  ·rw [if_neg ht]
   have:=hf t
   simpa [Array.getD_eq_getD_getElem?,Array.getElem?_setIfInBounds_ne (Ne.symm ht)] using this
theorem Aph {mu:Mu}{w:World}{M:Nat→Prop}{c:Code}{v:Value}(hc:jav c≠.tup [])(h:Rv w mu M (jav c) v):v=jv c:=by
 cases c with
 | ret=>have h:Rv w mu M (.bool true) v:=h; cases h; rfl
 | exit id=>have h:Rv w mu M (.int .u64 id) v:=h; cases h; rfl
 | _=>exact absurd rfl hc
theorem Apy {c:Code}{k:List Item}(hj:Tb c k=true):jv c≠undef:=by
 cases c <;> simp [Tb] at hj <;> simp [jv,undef]
theorem Ao1 {c c':Code}{k:List Item}(hj:Tb c k=true)(hc:jav c'≠.tup [])(h:jv c'=jv c):c=c':=by
 cases c with
 | ret=>
  cases c' with
  | ret=>rfl
  | exit id=>simp [jv] at h
  | _=>exact absurd rfl hc
 | exit id=>
  cases c' with
  | ret=>simp [jv] at h
  | exit id'=>
   have h:(id':Int)=(id:Int):=by simpa [jv] using h
   rw [Int.ofNat.inj h]
  | _=>exact absurd rfl hc
 | _=>simp [Tb] at hj
theorem Z6 {y:YF}{o g:Nat}{r:Loop}{args:List AV}{K E:AV→Ak→Prop}(ho:h o=some (.blk g (.loop r)))(hrd:r.state=.ready)(hpe:r.pending=none)(hfn:r.fn=f)(hsz:r.tmps.size=n)(hps : ∀ p ∈ r.params.toList,p<n)
  (hy : ∀ {mu:Mu} {w:World} {l:Nat},y.F w mu (D2 h mu) l → ∀ t,RV h mu w (fr t) (r.tmps.getD t undef)) (hla:args.length=r.params.size)
  (hrun : ∀ l,Fo P f n ⟨false,some (l,o,g)⟩ [.code r.assign,.beginRound,.code r.body] (Uh fr r.params.toList args) [] h .ret (fun res h' _=>match res with
   | .ret v=>h' o=some (.blk g (.loop { r with state:=.busy }))∧((v=.tup []∧K (.bool true) (upd h' o (some (.blk g (.loop r))))) ∨ ∃ c,v=jav c∧jav c≠.tup []∧K (.bool false) (upd h' o (some (.blk g (.loop { r with state:=.done,pending:=some c })))))
   | .panic v=>E v h')):W2 P y o g args h K E:=by
 intro B mu w loc cargs s hl hyF ha
 obtain⟨l0,hl0,_,hb⟩:=s.blks _ _ _ ho
 rw [hl] at hl0; cases hl0
 have hcs:cargs.size=r.params.size:=by have:=ha.1; simp at this; omega
 refine⟨r,hb,hcs,fun c cs=>?_⟩
 have hz:(r.params.zip cargs).foldl (fun tmps (t,a)=>tmps.setIfInBounds t a) r.tmps=(r.params.toList.zip cargs.toList).foldl (fun tmps x=>tmps.setIfInBounds x.1 x.2) r.tmps:=by
  rw [← Array.foldl_toList,Array.toList_zip]
 obtain⟨q1,q2⟩:=Af2 (n:=n) r.params.toList args cargs.toList fr r.tmps hsz hps (hy hyF) ha
 rw [← hz] at q1 q2
 generalize (r.params.zip cargs).foldl (fun tmps (t,a)=>tmps.setIfInBounds t a) r.tmps=tmps at q1 q2
 subst hfn
 obtain⟨e,w',cs',frm,res,h',mu',u',a1,a2,a3,a4,a5,a6,a7,a8,a9⟩:=hrun loc.b ⟨B.n,w.heap.size⟩ mu w { tmps:=tmps,defers:=[] } (c::cs) ⟨q2,q1,rfl,s.rebase rfl,trivial,(fun l' o' g' hh=>by cases hh; exact⟨loc,hl,rfl⟩),s.base,Nat.le_refl _⟩
 have a9':cs'=c::cs:=a9
 subst a9'
 replace a7:Sim B mu' h' w':=a7.rebase rfl
 replace a8:=a8.ext
 have hfr:(b0 r.fn ⟨false,some (loc.b,o,g)⟩).atR { tmps:=tmps,defers:=[] } [.code r.assign,.beginRound,.code r.body]=Frame.round loc.b r.fn tmps r.assign r.body .normal:=by
  simp [Frame.round,Frame.atR,b0,KD]
 rw [hfr] at a2
 cases e with
 | outgrown=>cases res <;> exact a6.elim
 | returned v=>
  cases res with
  | panic _=>exact a6.elim
  | ret v'=>
   obtain⟨g1,g2,g4,g3⟩:=(a5:frm.roundOf=some loc.b∧frm.mode=.run∧frm.defers=[]∧((v=undef∧frm.todo=[]) ∨ ∃ c k,frm.todo=.code c::k∧Tb c k=true∧v=jv c))
   obtain⟨k1,k2⟩:=a1
   have hl':=a8.mu _ _ _ hl
   obtain⟨l1,hl1,_,hb1⟩:=a7.blks _ _ _ k1
   rw [hl'] at hl1; cases hl1
   have hk:frm.kind=.normal:=by rw [a4]; rfl
   rcases k2 with⟨rfl,k2⟩ | ⟨jc,rfl,hjc,k2⟩
   ·
    have hv:v=undef:=by
     have hh:RV h' mu' w' (.tup []) v:=a6
     cases hh with
     | tup vs cs hlen _=>
      have:cs=[]:=by simpa using hlen.symm
      subst this; rfl
    have htodo:frm.todo=[]:=by
     rcases g3 with⟨_,h⟩ | ⟨c',k',_,hj,hv'⟩
     ·exact h
     ·exact absurd (hv'.symm.trans hv) (Apy hj)
    have hend:(Instr.endRound loc.b none).run P w'=.ok (.bool true) { w' with heap:=w'.heap.setIfInBounds loc.b (.loop r) }:=by
     have:({ r with state:=.ready,pending:=none }:Loop)=r:=by
      cases r; simp_all
     simp [Instr.endRound,Instr.getLoop,getObj,setObj,Sem.run,Sem.run_bind,hb1]
     rw [← this]
    obtain⟨s',e'⟩:=a7.setB (x':=.loop r) k1 hl' (fun _ _ _ hh=>by cases hh)
    have hfe:frm=frm.atR { tmps:=frm.tmps,defers:=[] } []:=by
     cases frm; simp_all [Frame.atR]
    refine⟨.returned (.bool true),_,.ret (.bool true),_,mu',k2,s',a8.trans e',.bool true,?_⟩
    refine Steps.trans a2 (.one ?_)
    rw [hfe]
    exact stepR_round_end (b:=frm) g1 hk hend
   ·
    have hv:v=jv jc:=Aph hjc a6
    obtain⟨c',k',htodo,hj,hcc⟩ : ∃ c k,frm.todo=.code c::k∧Tb c k=true∧v=jv c:=by
     rcases g3 with⟨h,_⟩ | h
     ·exfalso
      rw [hv] at h
      cases jc with
      | ret=>simp [jv,undef] at h
      | exit id=>simp [jv,undef] at h
      | _=>exact hjc rfl
     ·exact h
    have hcj:c'=jc:=Ao1 hj hjc (hv.symm.trans hcc)
    subst hcj
    have hend:(Instr.endRound loc.b (some c')).run P w'=.ok (.bool false) { w' with heap:=w'.heap.setIfInBounds loc.b (.loop { r with state:=.done,pending:=some c' }) }:=by
     simp [Instr.endRound,Instr.getLoop,getObj,setObj,Sem.run,Sem.run_bind,hb1]
    obtain⟨s',e'⟩:=a7.setB (x':=.loop { r with state:=.done,pending:=some c' }) k1 hl' (fun _ _ _ hh=>by cases hh)
    have hfe:frm=frm.atR { tmps:=frm.tmps,defers:=[] } (.code c'::k'):=by
     cases frm; simp_all [Frame.atR]
    refine⟨.returned (.bool false),_,.ret (.bool false),_,mu',k2,s',a8.trans e',.bool false,?_⟩
    refine Steps.trans a2 (.one ?_)
    unfold Tb at hj
    split at hj
    ·rw [hfe]
     exact stepR_round_ret (b:=frm) g1 hk hend
    ·rw [hfe]
     exact stepR_round_exit (b:=frm) g1 hk (by simpa using hj) hend
    ·cases hj
 | panicked chain=>
  cases res with
  | ret _=>exact a6.elim
  | panic v=>
   exact⟨.panicked chain,w',.panic v,h',mu',a1,a7,a8,a6,Steps.trans a2 (.one (step_leave_panicked a5))⟩
theorem Sim.take {B:Base P}{mu:Mu}{w:World}{b:Nat}{x:Option (List Deferred)}(s:Sim B mu h w)(hb:w.heap[b]? = some (.deferred x))(hm:¬ D2 h mu b)(hn:B.n≤b){n0:Nat}(hn0:n0≤b) :
  Sim B mu h { w with heap:=w.heap.setIfInBounds b (.deferred none) }∧Aa0 n0 h mu w h mu { w with heap:=w.heap.setIfInBounds b (.deferred none) }:=by
 have hlt:b<w.heap.size:=by
  rcases Nat.lt_or_ge b w.heap.size with hh | hh
  ·exact hh
  ·rw [Array.getElem?_eq_none hh] at hb; cases hb
 have hne : ∀ k,k≠b→(w.heap.setIfInBounds b (.deferred none))[k]? = w.heap[k]? := fun k hk=>Array.getElem?_setIfInBounds_ne (Ne.symm hk)
 have hself:(w.heap.setIfInBounds b (.deferred none))[b]? = some (.deferred none):=by simp [hlt]
 have ext:Aa0 n0 h mu w h mu { w with heap:=w.heap.setIfInBounds b (.deferred none) }:=
  ⟨rfl,rfl,rfl,by simp,fun k hk hkm=>⟨by
   by_cases hq:k=b
   ·subst hq; exact .inr ⟨hn0,_,_,hb,hself⟩
   ·exact .inl (hne k hq),hkm⟩,fun _ _ _ h=>h⟩
 have hcell : ∀ a:Addr,({ w with heap:=w.heap.setIfInBounds b (.deferred none) }:World).cell? a=w.cell? a:=fun a=>by
  by_cases hq:a.block=b
  ·unfold World.cell?
   show(match (w.heap.setIfInBounds b (.deferred none))[a.block]? with | some (.cells cells _ _)=>_ | _=>_)=_
   rw [hq,hself,hb]
  ·exact cell?_of_heap (hne _ hq)
 have hnb : ∀ {o x l},h o=some x→mu o x.gen=some l→l.b≠b:=fun h1 h2 hq=>hm ⟨_,_,_,h1,h2,hq⟩
 refine⟨⟨by simpa using s.base,fun o g l hl=>?_,s.fin,s.finh,fun o g st rs hx=>?_,fun o g es hx=>?_,s.inj,GW.step s.glob fun k hk=>hne k (by omega),fun o g x hx=>?_⟩,ext⟩
 ·obtain⟨h1,h2,h3⟩:=s.muOk o g l hl
  refine⟨h1,by simpa using h2,fun hc=>?_⟩
  obtain⟨cells,e,f,k1,k2,k3⟩:=h3 hc
  have:l.b≠b:=fun hq=>by rw [hq,hb] at k1; cases k1
  exact⟨cells,e,f,(hne _ this).trans k1,k2,k3⟩
 ·obtain⟨l,h1,h2,h3,h4,h5,h6⟩:=s.rows o g st rs hx
  refine⟨l,h1,h2,h3,h4,h5,fun i j hi hj=>?_⟩
  obtain⟨c,hc1,hc2⟩:=h6 i j hi hj
  exact⟨c,(hcell _).trans hc1,hc2.extG ext⟩
 ·obtain⟨l,h1,h2,ens,clock,h3,h4,h5⟩:=s.maps o g es hx
  exact⟨l,h1,h2,ens,clock,⟨(hne _ (hnb hx h1)).trans h3.1,h3.2⟩,h4,fun i hi=>⟨(h5 i hi).1.extG ext,(h5 i hi).2.extG ext⟩⟩
 ·obtain⟨l,h1,h2,h3⟩:=s.blks o g x hx
  exact⟨l,h1,h2,(hne _ (hnb hx h1)).trans h3⟩
theorem Oi.extG {n:Nat}{h h':Ak}{mu mu':Mu}{w w':World}(e:Aa0 n h mu w h' mu' w'){l:List AV}{cs:List Value}(k:Oi h mu w l cs):Oi h' mu' w' l cs:=⟨k.1,fun i hi=>(k.2 i hi).extG e⟩
theorem Py.extG {n:Nat}{h h':Ak}{mu mu':Mu}{w w':World}(e:Aa0 n h mu w h' mu' w'){u:AU}{m:FrameMode}(k:Py h mu w u m):Py h' mu' w' u m:=by
 unfold Py at k ⊢
 split at k
 ·trivial
 ·exact⟨k.1,k.2.1,k.2.2.extG e⟩
 ·exact k.elim
theorem Alq {m:AU}(hr:Pv P f n d m fr ds h u Q)(hds:ds.all (fun d => !d.isStar)=true:=by rfl):Pv P f n d m fr (AD.star::ds) h u Q:=by
 intro B mu w a cs todo mode p hm
 have hp:=p.ds
 unfold Qd at hp
 obtain⟨c1,c2,hq,⟨bs,hnd,hbs,hall⟩,hrest⟩:=hp
 have hmr:mode≠.run:=by intro hh; subst hh; cases m <;> simp [Py] at hm
 have keep : ∀ {mu:Mu} {w w':World} {n0 fb:Nat} (e:Aa0 n0 h mu w h mu w') (ds:List AD) (cs:List Deferred),ds.all (fun d => !d.isStar)=true→Qd h mu w fb ds cs→Qd h mu w' fb ds cs:=by
  intro mu w w' n0 fb e ds
  induction ds with
  | nil=>intro cs _ hh; exact hh
  | cons d ds ih=>
   intro cs hal hh
   simp only [List.all_cons,Bool.and_eq_true,Bool.not_eq_true'] at hal
   unfold Qd at hh ⊢
   rw [hal.1] at hh ⊢
   obtain⟨c,c2,h1,⟨cap,h2,h2'⟩,h3⟩:=hh
   exact⟨c,c2,h1,⟨cap,h2,h2'.extG e⟩,ih c2 hal.2 h3⟩
 have key : ∀ (bs:List Nat) (w:World) (c1:List Deferred) (a:Act),Pre n d fr ds h u B mu w { a with defers:=c2 } cs→Py h mu w m mode→a.defers=c1++c2→bs.Nodup→c1.map (·.target)=bs.map (fun b=>.collected b) →
   (∀ b ∈ bs,b<w.heap.size∧¬ D2 h mu b∧B.fb≤b∧w.heap[b]? = some (.deferred (some [])))→Nw P f d B h mu w cs Q (lone { (b0 f d).atR a todo with mode:=mode } cs w):=by
  intro bs
  induction bs with
  | nil=>
   intro w c1 a p hm hq _ hbs _
   have:c1=[]:=by simpa using hbs
   subst this
   have ha:({ a with defers:=c2 }:Act)=a:=by cases a; simp at hq; subst hq; rfl
   rw [ha] at p
   exact hr B mu w a cs todo mode p hm
  | cons b bs ih=>
   intro w c1 a p hm hq hnd hbs hall
   match c1,hbs with
   | dc::c1,hbs=>
    simp only [List.map_cons,List.cons.injEq] at hbs
    obtain⟨k1,k2,k3,k4⟩:=hall b (List.mem_cons_self ..)
    obtain⟨s',e'⟩:=p.sim.take k4 k2 (Nat.le_trans p.fb.1 k3) k3
    have hk:(Instr.takeDeferred b).run P w=.ok [] { w with heap:=w.heap.setIfInBounds b (.deferred none) }:=by
     simp [Instr.takeDeferred,getObj,setObj,Sem.run,Sem.run_bind,k4]
    have h1:=step_collected (P:=P) (fr:={ (b0 f d).atR a todo with mode:=mode }) (cs:=cs) (w:=w) hmr (d:=dc) (ds:=c1++c2) (by simpa [Frame.atR] using hq) hbs.1 hk
    have p':Pre n d fr ds h u B mu { w with heap:=w.heap.setIfInBounds b (.deferred none) } { a with defers:=c2 } cs:=
     ⟨p.size,fun t=>(p.fr t).extG e',keep e' ds c2 hds p.ds,s',by
      obtain⟨q,ro⟩:=d
      cases q with
      | false=>trivial
      | true=>obtain⟨c,r,h1,h2⟩:=p.cs; exact⟨c,r,h1,h2.extG e'⟩,p.rnd,p.fb.1,by simpa using p.fb.2⟩
    have hnd':=List.nodup_cons.1 hnd
    exact .extG e' (.head h1 (ih _ c1 { a with defers:=c1++c2 } p' (hm.extG e') rfl hnd'.2 hbs.2 (fun b' hb'=>by
     obtain⟨q1,q2,q3,q4⟩:=hall b' (List.mem_cons_of_mem _ hb')
     refine⟨by simpa using q1,q2,q3,?_⟩
     have hne:b'≠b:=fun hq=>hnd'.1 (hq ▸ hb')
     exact(Array.getElem?_setIfInBounds_ne (Ne.symm hne)).trans q4)))
 exact key bs w c1 a ⟨p.size,p.fr,hrest,p.sim,p.cs,p.rnd,p.fb⟩ hm hq hnd hbs hall
theorem Amd {todo:List Item}(hr:Fo P f n d todo fr (AD.star::ds) h u Q):Fo P f n d todo fr ds h u Q:=fun B mu w a cs p=>
 hr B mu w a cs ⟨p.size,p.fr,⟨[],a.defers,rfl,⟨[],List.nodup_nil,rfl,fun b hb=>by cases hb⟩,p.ds⟩,p.sim,p.cs,p.rnd,p.fb⟩
structure LpOk (f n:Nat)(params:Array Tmp)(assign body:Code)(r:Loop):Prop where
 ready:r.state=.ready
 pend:r.pending=none
 fn:r.fn=f
 size:r.tmps.size=n
 params:r.params=params
 assign:r.assign=assign
 body:r.body=body
theorem X8 {x:Operand}{params:Array Tmp}{assign body:Code}{gf:FuncId}{cap:List AV}(oL:Nat)(hro:d.ro=none)(hx:ev fr x=.func (.func gf) [] cap)(hoL:h oL=none)
  (hgo : ∀ (gL:Nat) (y:YF) (r:Loop),LpOk f n params assign body r→(∀ {mu:Mu} {w:World} {M:Nat→Prop} {l:Nat},y.F w mu M l → ∀ t,Rv w mu M (fr t) (r.tmps.getD t undef)) →
   Bw P gf ([.yld y oL gL]++cap) (upd h oL (some (.blk gL (.loop r)))) (fun res h'=>match res with
    | .ret _ => ∃ r':Loop,h' oL=some (.blk gL (.loop r'))∧r'.state≠.busy∧Fo P f n d ((r'.pending.map Item.code).toList++k) fr (AD.star::ds) (upd h' oL none) u Q
    | .panic v=>Pv P f n d (.pan v false) fr (AD.star::ds) (upd h' oL none) u Q)) :
  Fo P f n d (.code (.rangeFunc x params assign body)::k) fr (AD.star::ds) h u Q:=by
 intro B mu w a cs p
 obtain⟨s1,e1⟩:=p.sim.junk (.deferred (some []))
 obtain⟨gL,hgL⟩:=s1.fresh oL
 generalize hr:({ state:=.ready,pending:=none,fn:=f,tmps:=a.tmps,params:=params,assign:=assign,body:=body,defers:=w.heap.size }:Loop)=r
 obtain⟨s2,e2⟩:=s1.pushB (.loop r) hoL hgL
 have e12:=e1.trans e2
 have hsz1:(w.alloc (.deferred (some []))).heap.size=w.heap.size+1:=Fk ..
 have hent:(Instr.enterLoop (b0 f d).fn a.tmps params assign body (b0 f d).roundOf).run P w=.ok (w.heap.size+1,[{ target:=.collected w.heap.size,args := #[] }]) ((w.alloc (.deferred (some []))).alloc (.loop r)):=by
  have hro':(b0 f d).roundOf=none:=by simp [b0,hro]
  rw [hro',← hr,← hsz1]
  rfl
 have p2:=p.ext e12 s2
 let y:YF:=⟨fun w mu M l => ∀ t,Rv w mu M (fr t) (a.tmps.getD t undef),fun e hh t=>(hh t).extG e⟩
 have hcall:=hgo gL y r (by subst hr; exact⟨rfl,rfl,rfl,p.size,rfl,rfl,rfl⟩) (fun hh t=>by subst hr; exact hh t)
 obtain⟨hb,hcall⟩:=hcall
 have hxv:=Nk p2.fr x
 rw [hx] at hxv
 obtain⟨f2,c2,hfv,hf2,hc2⟩:=Aav hxv
 have hf2':f2=[]:=by have:=hf2.1; simp at this; exact List.length_eq_zero_iff.1 this.symm
 subst hf2'
 have hinv:((resolve a.eval (rangeCall x (w.heap.size+1)) 0) >>= fun d=>invoke d.target d.args).run P ((w.alloc (.deferred (some []))).alloc (.loop r))=.ok (.enter gf (#[] ++ #[Value.func (.yield (w.heap.size+1)) #[] #[]]++c2.toArray)) ((w.alloc (.deferred (some []))).alloc (.loop r)):=by
  have:=Z3 (P:=P) (ρ:=a.eval) (x:=x) (args := #[.const (.func (.yield (w.heap.size+1)) #[] #[])]) (ts := #[]) (ty:=0) (w:=(w.alloc (.deferred (some []))).alloc (.loop r)) hfv hb
  simpa [rangeCall,Act.eval] using this
 have hres : ∃ dd,(resolve a.eval (rangeCall x (w.heap.size+1)) 0).run P ((w.alloc (.deferred (some []))).alloc (.loop r))=.ok dd ((w.alloc (.deferred (some []))).alloc (.loop r))∧(invoke dd.target dd.args).run P ((w.alloc (.deferred (some []))).alloc (.loop r))=.ok (.enter gf (#[] ++ #[Value.func (.yield (w.heap.size+1)) #[] #[]]++c2.toArray)) ((w.alloc (.deferred (some []))).alloc (.loop r)):=by
  rw [Sem.run_bind] at hinv
  have hrr : ∃ dd,(resolve a.eval (rangeCall x (w.heap.size+1)) 0).run P ((w.alloc (.deferred (some []))).alloc (.loop r))=.ok dd ((w.alloc (.deferred (some []))).alloc (.loop r)):=by
   simp [rangeCall,resolve,hfv,Deferred.ofValue]
  obtain⟨dd,hdd⟩:=hrr
  refine⟨dd,hdd,?_⟩
  rw [hdd] at hinv
  simpa using hinv
 obtain⟨dd,hd1,hd2⟩:=hres
 have henter:=stepR_rangeFunc (P:=P) (b:=b0 f d) (a:=a) (k:=k) (cs:=cs) (w:=w) hent hd1 hd2
 have hlL:D8 mu oL gL ⟨(w.alloc (.deferred (some []))).heap.size,0,0,0,false⟩ oL gL=some ⟨(w.alloc (.deferred (some []))).heap.size,0,0,0,false⟩:=by
  simp [D8]
 have hargs:Oi (upd h oL (some (.blk gL (.loop r)))) (D8 mu oL gL ⟨(w.alloc (.deferred (some []))).heap.size,0,0,0,false⟩) ((w.alloc (.deferred (some []))).alloc (.loop r)) ([.yld y oL gL]++cap) (#[] ++ #[Value.func (.yield (w.heap.size+1)) #[] #[]]++c2.toArray).toList:=by
  simp only [Array.toList_append,List.nil_append]
  refine Oi.append ⟨rfl,fun i hi=>?_⟩ hc2
  have:i=0:=by simpa using hi
  subst this
  have hv:=Rv.yld (w:=(w.alloc (.deferred (some []))).alloc (.loop r)) (M:=D2 (upd h oL (some (.blk gL (.loop r)))) (D8 mu oL gL ⟨(w.alloc (.deferred (some []))).heap.size,0,0,0,false⟩)) y oL gL _ hlL (fun t=>p2.fr t)
  show Rv _ _ _ (.yld y oL gL) (.func (.yield (w.heap.size+1)) #[] #[])
  rw [← hsz1]
  exact hv
 obtain⟨e,w',frm,⟨res,h',mu',hQ,hs',hext,hE⟩,hcomes,hfn,hleave⟩:=hcall B _ _ _ s2 hargs ((b0 f d).atR { a with defers:=[{ target:=.collected w.heap.size,args := #[] }]++a.defers } (.inRangeFunc (w.heap.size+1)::k)::cs)
 have p3:=p2.ext hext hs'
 have hsubL:Jj (upd h' oL none) h':=fun o' y' hh=>by
  unfold upd at hh
  split at hh
  ·cases hh
  ·exact hh
 have hmark:Qd h' mu' w' B.fb (AD.star::ds) ([{ target:=.collected w.heap.size,args := #[] }]++a.defers):=by
  have hp0:=p.ds
  unfold Qd at hp0 ⊢
  obtain⟨c1,c2,hq,⟨bs,k1,k2,k3⟩,hrest⟩:=hp0
  have E:=e12.trans hext
  have hD:(w.alloc (.deferred (some []))).heap[w.heap.size]? = some (.deferred (some [])):=Mh
  have hD2:((w.alloc (.deferred (some []))).alloc (.loop r)).heap[w.heap.size]? = some (.deferred (some [])):=by rw [D4 (by rw [hsz1]; omega)]; exact hD
  have hDm:¬ D2 (upd h oL (some (.blk gL (.loop r)))) (D8 mu oL gL ⟨(w.alloc (.deferred (some []))).heap.size,0,0,0,false⟩) w.heap.size:=by
   rintro⟨o1,x1,l1,q1,q2,q3⟩
   by_cases ho1:o1=oL
   ·subst ho1
    rw [Af9] at q1; cases q1
    rw [show(AO.blk gL (.loop r)).gen=gL from rfl,hlL] at q2; cases q2
    simp only at q3; rw [hsz1] at q3; omega
   ·rw [Aa8 _ _ _ ho1] at q1
    have:mu o1 x1.gen=some l1:=by
     have:D8 mu oL gL ⟨(w.alloc (.deferred (some []))).heap.size,0,0,0,false⟩ o1 x1.gen=mu o1 x1.gen:=by simp [D8,ho1]
     rw [← this]; exact q2
    have:=(p.sim.muOk _ _ _ this).2.1
    omega
  have hsz2:((w.alloc (.deferred (some []))).alloc (.loop r)).heap.size=w.heap.size+2:=by rw [Fk,hsz1]
  obtain⟨j1,j2⟩:=hext.same w.heap.size (by rw [hsz2]; omega) hDm
  refine⟨{ target:=.collected w.heap.size,args := #[] }::c1,c2,by rw [hq]; rfl,⟨w.heap.size::bs,List.nodup_cons.2 ⟨fun hm=>by have:=(k3 _ hm).1; omega,k1⟩,by simp [k2],fun b hb=>?_⟩,hrest.ext E⟩
  rcases List.mem_cons.1 hb with rfl | hb
  ·exact⟨Nat.lt_of_lt_of_le (by rw [hsz2]; omega) hext.size,j2,p.fb.2,j1.trans hD2⟩
  ·obtain⟨q1,q2,q3,q4⟩:=k3 b hb
   obtain⟨s1,s2⟩:=E.same b q1 q2
   exact⟨Nat.lt_of_lt_of_le q1 E.size,s2,q3,s1.trans q4⟩
 have p4:Pre n d fr (AD.star::ds) h' u B mu' w' { a with defers:=[{ target:=.collected w.heap.size,args := #[] }]++a.defers } cs:=⟨p3.size,p3.fr,hmark,hs',p3.cs,p3.rnd,p3.fb⟩
 cases e with
 | outgrown=>cases res <;> exact hE.elim
 | returned c=>
  cases res with
  | panic v=>exact hE.elim
  | ret v=>
   obtain⟨r',hr',hst,hrun⟩:=hQ
   have hfin:=step_leave_returned hleave (c:=(b0 f d).atR { a with defers:=[{ target:=.collected w.heap.size,args := #[] }]++a.defers } (.inRangeFunc (w.heap.size+1)::k)) (cs:=cs)
   rw [finish_atR_inRangeFunc] at hfin
   have hlL':=hext.mu _ _ _ hlL
   rw [hsz1] at hlL'
   obtain⟨l1,hl1,_,hb1⟩:=hs'.blks _ _ _ hr'
   rw [hlL'] at hl1; cases hl1
   have hend:(Instr.endLoop (w.heap.size+1)).run P w'=.ok r'.pending { w' with heap:=w'.heap.setIfInBounds (w.heap.size+1) (.loop { r' with state:=.exhausted }) }:=by
    have hnb:(r'.state==.busy)=false:=by
     cases hq:r'.state with
     | busy=>exact absurd hq hst
     | ready=>rfl
     | done=>rfl
     | exhausted=>rfl
    simp [Instr.endLoop,Instr.getLoop,getObj,setObj,Sem.run,Sem.run_bind,hb1,hnb,hst]
   obtain⟨s5,e5⟩:=hs'.setB (x':=.loop { r' with state:=.exhausted }) hr' hlL' (fun _ _ _ hh=>by cases hh)
   have hsub5:Jj (upd h' oL none) (upd h' oL (some (.blk gL (.loop { r' with state:=.exhausted })))):=fun o' y' hh=>by
    unfold upd at hh ⊢
    split at hh
    ·cases hh
    ·rename_i hq; rw [if_neg hq]; exact hh
   have p5:=(p4.ext e5 s5).ext (E9.sub hsub5) (s5.sub hsub5)
   exact .ext (e12.trans hext) (.ext e5 (.ext (E9.sub hsub5) (.steps (.head henter (Steps.trans hcomes (.head hfin (.one (stepR_endRangeFunc hend))))) (hrun B mu' _ _ cs p5))))
 | panicked chain=>
  cases res with
  | ret v=>exact hE.elim
  | panic v=>
   have hfin:=step_leave_panicked hleave (c:=(b0 f d).atR { a with defers:=[{ target:=.collected w.heap.size,args := #[] }]++a.defers } (.inRangeFunc (w.heap.size+1)::k)) (cs:=cs)
   obtain⟨x',hx',x1,x2,x3⟩:=hE.panic_inv
   cases hx'
   rw [Frame.raise_atR] at hfin
   have p5:=p4.ext (E9.sub hsubL) (hs'.sub hsubL)
   have hu5:Py (upd h' oL none) mu' w' (.pan v false) (.panicking [x']):=⟨x1,x2,x3.ext (E9.sub hsubL)⟩
   exact .ext (e12.trans hext) (.ext (E9.sub hsubL) (.steps (.head henter (Steps.trans hcomes (.one hfin))) (hQ B mu' w' _ cs _ _ p5 hu5)))
end
end Go.Am
namespace Go.Am
open Go
set_option linter.unusedSimpArgs false
set_option linter.unusedVariables false
set_option linter.unusedSectionVars false
def Aap {σ:Type}(St:σ→Ak→Prop)(m:R σ):AR→Ak→Prop:=fun r h'=>match m with
 | .ok s=>(∃ v,r=.ret v)∧St s h'
 | .pan v=>r=.panic v.av ∧ ∃ s,St s h'
 | .bad=>False
def Aih {σ:Type}(St:σ→Ak→Prop):Spec σ:=⟨fun m=>m≠.bad,fun h=>h rfl,fun m r h' _=>Aap St m r h'⟩
section
variable {P:Program} [GW P] {f:FuncId} {n:Nat} {d:FK} {σ β γ:Type} {Q:Spec β} {ds:List AD} {h:Ak} {u:AU} {k:List Item} {l:List (Nat×AV)} {St:σ→Ak→Prop} {m:R σ}
theorem Afv {fn : Func} {c : Code} {args : List AV} (hf : P.funcs[f]? = some fn) (hb : fn.body = some c) (hn : fn.name ≠ "runtime.NumGoroutine") (hnt : fn.ntmps = n) (hl : Nat.ble args.length n = true)
  (hr : WR P f n false (Aih St) m [.code c] (A7 (V4 0 args)) [] h .ret) (hm : m ≠ .bad) : Bw P f args h (Aap St m) := by
 refine Q7 hf hb hn hnt (by simpa using hl) ?_
 refine Q8 (fun t => ?_) (hr hm)
 rcases Re args 0 t with h | ⟨_, h⟩
 ·exact .inl h
 ·exact .inr h
theorem Anr {fn:Func}{s:σ}{vs:List AV}{fr:Nat→AV}(hf:P.funcs[f]? = some fn)(hr:Im P h fr fn.results.toList=some vs)(hs:St s h):WR P f n false (Aih St) (.ok s) (.code .ret::k) fr [] h u:=fun _=>
 Uo (Ac4 hf hr ⟨⟨_,rfl⟩,hs⟩)
theorem Ahl {fn:Func}{s:σ}{vs:List AV}{fr:Nat→AV}(hf:P.funcs[f]? = some fn)(hr:Im P h fr fn.results.toList=some vs)(hs:St s h):WR P f n false (Aih St) (.ok s) [] fr [] h u:=fun _=>
 Zn (Ac4 hf hr ⟨⟨_,rfl⟩,hs⟩)
def YOk (P:Program)[GW P](y:YF)(o g:Nat)(A:List AV)(St:σ→Ak→Prop)(b:σ→R σ):Prop:=
 ∀ s h,St s h → ∀ s',b s=.ok s'→W2 P y o g A h (fun v h'=>v=.bool true∧St s' h') (fun _ _=>False)
section
variable {all r:List Oper} {ty:TypeId} {pos:String} {after:Array Edge} {F:γ→R β}
theorem Ala {t:Nat}{x:Operand}{as0:List Operand}{ts:Array TypeId}{y:YF}{o g:Nat}{A:List AV}{b:σ→R σ}{s:σ}{rest:σ→R γ}(ht:Nat.blt t n=true)(hx:ev (A7 l) x=.yld y o g)(ha:Hq (A7 l) as0=A)(hs:St s h)
  (hy:YOk P y o g A St b) (hnp : ∀ v,b s≠.pan v) (hk : ∀ s',b s=.ok s' → ∀ h',St s' h'→WO P f n d Q k all ((rest s').bind F) r (A7 ((t,.bool true)::l)) ds h' u) :
  WO P f n d Q k all (((b s).bind rest).bind F) (⟨some t,.call ⟨.value x,⟨as0⟩,ts⟩,ty,pos,after,none⟩::r) (A7 l) ds h u:=by
 refine Ab8 (R.bind_assoc _ _ _) (Nv (by simpa [Gq] using ht) rfl fun hb K U hK hU=>?_)
 simp only [I1,hx]
 rw [ha]
 cases hm:b s with
 | bad=>rw [hm] at hb; exact absurd hb Q.bad
 | pan v=>exact absurd hm (hnp v)
 | ok s'=>
  have hk':=hk s' hm
  rw [hm] at hK
  refine S4 (fun v h' hv=>?_) (fun _ _ hf=>hf.elim) (hy s h hs s' hm)
  obtain⟨rfl,hs'⟩:=hv
  exact hK _ _ _ _ (by rw [Fg]; exact hk' h' hs')
end
def Aer {σ:Type}(o g:Nat)(r:Loop)(St:σ→Ak→Prop):Spec σ:=⟨fun m => ∃ s:σ,m=.ok s,(fun h=>by obtain⟨s,h⟩:=h; cases h),fun m a h' _ => ∃ s:σ,m=.ok s∧a=.ret (.tup [])∧h' o=some (.blk g (.loop { r with state:=.busy }))∧St s (upd h' o (some (.blk g (.loop r))))⟩
theorem An7 {lo:Nat×Nat×Nat}{o g:Nat}{r:Loop}{s:σ}{fr:Nat→AV}(ho:h o=some (.blk g (.loop { r with state:=.busy })))(hs:St s (upd h o (some (.blk g (.loop r))))) :
  WR P f n ⟨false,some lo⟩ (Aer o g r St) (.ok s) [] fr [] h u:=by
 intro hV B mu w a cs p
 have hd:a.defers=[]:=p.ds
 refine⟨.returned undef,w,cs,_,.ret (.tup []),h,mu,u,⟨s,rfl,rfl,ho,hs⟩,Steps.refl P _,rfl,rfl,?_,.und,p.sim,(Ext.refl _ _ _).g,.refl p.cs⟩
 exact⟨rfl,rfl,hd,.inl ⟨rfl,rfl⟩⟩
theorem Akp {y:YF}{o g:Nat}{r:Loop}{params:Array Tmp}{assign body:Code}{A:List AV}{b:σ→R σ}(hlp:LpOk f n params assign body r)(hps:params.toList.all (fun p=>Nat.blt p n)=true)(hla:A.length=params.size)
  (hy : ∀ {mu:Mu} {w:World} {M:Nat→Prop} {lo:Nat},y.F w mu M lo → ∀ t,Rv w mu M (A7 l t) (r.tmps.getD t undef)) (hat : ∀ s h,St s h→h o=some (.blk g (.loop r)))
  (hr : ∀ (lo:Nat) (s:σ) (h:Ak),St s h→WR P f n ⟨false,some (lo,o,g)⟩ (Aer o g r St) (b s) [.code assign,.beginRound,.code body] (Uh (A7 l) params.toList A) [] h .ret):YOk P y o g A St b:=by
 intro s h hs s' hb
 obtain⟨h1,h2,h3,h4,rfl,rfl,rfl⟩:=hlp
 refine Z6 (f:=f) (n:=n) (fr:=A7 l) (hat s h hs) h1 h2 h3 h4 (fun p hp=>by have:=List.all_eq_true.1 hps p hp; simpa using this) (fun hF t=>hy hF t) hla fun lo=>?_
 refine Ae1 (hr lo s h hs ⟨s',hb⟩) fun a h' u' hq=>?_
 obtain⟨s2,e,rfl,hb1,hs2⟩:=hq
 rw [hb] at e; cases e
 exact⟨hb1,.inl ⟨rfl,rfl,hs2⟩⟩
theorem Yn : ∀ (ps:List Nat) (A:List AV) (l:List (Nat×AV)),Uh (A7 l) ps A=A7 ((ps.zip A).reverse++l)
 | [],_,l=>rfl
 | p::ps,[],l=>rfl
 | p::ps,v::A,l=>by
  rw [Uh]
  have:upd (A7 l) p v=A7 ((p,v)::l):=Fg l p v
  rw [this,Yn ps A]
  simp
section
variable {h0:Ak} {ids:List Nat} {xs:List (Option AO)} {N:Nat} {F:γ→R β}
theorem Ap2 {lo:Nat×Nat×Nat}{o g:Nat}{r:Loop}{m:R σ}{todo:List Item}{fr:Nat→AV}(hr:WR P f n ⟨false,some lo⟩ (Aer o g r St) m todo fr ds h u):WR P f n ⟨false,some lo⟩ (Aer o g r St) m.np todo fr ds h u:=by
 intro hV
 cases m with
 | ok s=>exact hr hV
 | pan v=>obtain⟨s,h⟩:=hV; cases h
 | bad=>obtain⟨s,h⟩:=hV; cases h
theorem Ak3 {Q:Spec β}{m:R β}{todo:List Item}{fr:Nat→AV}(l':List (Nat×AV))(e:fr=A7 l')(hr:WR P f n d Q m todo (A7 l') ds h u):WR P f n d Q m todo fr ds h u:=e ▸ hr
theorem Wm {Q:Spec β}{m:R β}{lr jL g:Nat}{r:Loop}{fr:Nat→AV}(hI:Ids h0 ids N)(hl:xs.length=N)(hj:Nat.blt jL N=true)(hx:xs[jL]? = some (some (.blk g (.loop r))))(hs:r.state=.ready)
  (hr:WR P f n ⟨false,some (lr,ix ids jL,g)⟩ Q m k fr ds (hp h0 ids (xs.set jL (some (.blk g (.loop { r with state:=.busy }))))) u):WR P f n ⟨false,some (lr,ix ids jL,g)⟩ Q m (.beginRound::k) fr ds (hp h0 ids xs) u:=fun hb=>
 Ac9 rfl (hI.at hl hx) hs (by rw [hI.set hl hj]; exact hr hb)
theorem Al9 {lo:Nat×Nat×Nat}{jL g:Nat}{r:Loop}{s:σ}{fr:Nat→AV}(hI:Ids h0 ids N)(hl:xs.length=N)(hj:Nat.blt jL N=true)(hx:xs[jL]? = some (some (.blk g (.loop { r with state:=.busy }))))(hs:St s (hp h0 ids (xs.set jL (some (.blk g (.loop r)))))) :
  WR P f n ⟨false,some lo⟩ (Aer (ix ids jL) g r St) (.ok s) [] fr [] (hp h0 ids xs) u:=An7 (hI.at hl hx) (by rw [hI.set hl hj]; exact hs)
theorem Af4 {Q:Spec β}{m:R β}{todo:List Item}{fr:Nat→AV}{j:Nat}{y:Option AO}(ys:List (Option AO))(hI:Ids h0 ids N)(hl:xs.length=N)(hj:Nat.blt j N=true)(e:xs.set j y=ys)(hr:WR P f n d Q m todo fr ds (hp h0 ids ys) u):WR P f n d Q m todo fr ds (upd (hp h0 ids xs) (ix ids j) y) u:=by
 rw [hI.set hl hj,e]; exact hr
theorem Af0 {Q:Spec β}{m:R β}{a:AU}{fr:Nat→AV}{j:Nat}{y:Option AO}(ys:List (Option AO))(hI:Ids h0 ids N)(hl:xs.length=N)(hj:Nat.blt j N=true)(e:xs.set j y=ys)(hr:WU P f n d Q m a fr ds (hp h0 ids ys) u):WU P f n d Q m a fr ds (upd (hp h0 ids xs) (ix ids j) y) u:=by
 rw [hI.set hl hj,e]; exact hr
end
theorem Aeq {x:Operand}{params:Array Tmp}{assign body:Code}{gf:FuncId}{cap:List AV}{m:R σ}{rest:σ→R β}{h0:Ak}{ids:List Nat}{xs:List (Option AO)}{N:Nat}(jL:Nat)(St:Nat→Loop→σ→Ak→Prop)
  (hro:d.ro=none) (hx:ev (A7 l) x=.func (.func gf) [] cap) (hI:Ids h0 ids N) (hl:xs.length=N) (hjL:Nat.blt jL N=true) (hxL:xs[jL]? = some none)
  (hgo : ∀ (gL:Nat) (y:YF) (r:Loop),LpOk f n params assign body r→(∀ {mu:Mu} {w:World} {M:Nat→Prop} {lo:Nat},y.F w mu M lo → ∀ t,Rv w mu M (A7 l t) (r.tmps.getD t undef)) →
   (m≠.bad→Bw P gf ([.yld y (ix ids jL) gL]++cap) (hp h0 ids (xs.set jL (some (.blk gL (.loop r))))) (Aap (St gL r) m)) ∧
   (∀ s h',St gL r s h'→h' (ix ids jL)=some (.blk gL (.loop r))) ∧
   (∀ s,m=.ok s → ∀ h',St gL r s h'→WR P f n d Q (rest s) k (A7 l) (AD.star::ds) (upd h' (ix ids jL) none) u) ∧
   (∀ v,m=.pan v → ∀ s h',St gL r s h'→WU P f n d Q (.pan v) (.pan v.av false) (A7 l) (AD.star::ds) (upd h' (ix ids jL) none) u)) :
  WR P f n d Q (m.bind rest) (.code (.rangeFunc x params assign body)::k) (A7 l) (AD.star::ds) (hp h0 ids xs) u:=by
 intro hV
 refine X8 (ix ids jL) hro hx (hI.at hl hxL) fun gL y r hlp hyF=>?_
 obtain⟨c1,c2,c3,c4⟩:=hgo gL y r hlp hyF
 rw [hI.set hl hjL]
 have hmb:m≠.bad:=fun e=>by rw [e] at hV; exact Q.bad hV
 refine(c1 hmb).mono fun res h' hq=>?_
 cases hm:m with
 | bad=>exact absurd hm hmb
 | ok s=>
  rw [hm] at hq
  obtain⟨⟨v,rfl⟩,hs⟩:=hq
  refine⟨r,c2 s h' hs,by rw [hlp.ready]; exact fun e=>(by cases e),?_⟩
  rw [hlp.pend]
  refine c3 s hm h' hs ?_
  rw [hm] at hV; exact hV
 | pan v=>
  rw [hm] at hq
  obtain⟨rfl,s,hs⟩:=hq
  refine c4 v hm s h' hs ?_
  rw [hm] at hV; exact hV
theorem Ae6 {x:Operand}{params:Array Tmp}{assign body:Code}{gf:FuncId}{cap:List AV}{m:R σ}{rest:σ→R γ}{F:γ→R β}{h0:Ak}{ids:List Nat}{xs:List (Option AO)}{N:Nat}(jL:Nat)(St:Nat→Loop→σ→Ak→Prop)
  (hro:d.ro=none) (hx:ev (A7 l) x=.func (.func gf) [] cap) (hI:Ids h0 ids N) (hl:xs.length=N) (hjL:Nat.blt jL N=true) (hxL:xs[jL]? = some none)
  (hgo : ∀ (gL:Nat) (y:YF) (r:Loop),LpOk f n params assign body r→(∀ {mu:Mu} {w:World} {M:Nat→Prop} {lo:Nat},y.F w mu M lo → ∀ t,Rv w mu M (A7 l t) (r.tmps.getD t undef)) →
   (m≠.bad→Bw P gf ([.yld y (ix ids jL) gL]++cap) (hp h0 ids (xs.set jL (some (.blk gL (.loop r))))) (Aap (St gL r) m)) ∧
   (∀ s h',St gL r s h'→h' (ix ids jL)=some (.blk gL (.loop r))) ∧
   (∀ s,m=.ok s → ∀ h',St gL r s h'→WR P f n d Q ((rest s).bind F) k (A7 l) (AD.star::ds) (upd h' (ix ids jL) none) u) ∧
   (∀ v,m=.pan v → ∀ s h',St gL r s h'→WU P f n d Q (.pan v) (.pan v.av false) (A7 l) (AD.star::ds) (upd h' (ix ids jL) none) u)) :
  WR P f n d Q ((m.bind rest).bind F) (.code (.rangeFunc x params assign body)::k) (A7 l) (AD.star::ds) (hp h0 ids xs) u:=by
 rw [R.bind_assoc]
 exact Aeq jL St hro hx hI hl hjL hxL hgo
theorem Sy {m:R β}{a:AU}{fr:Nat→AV}(hr:WU P f n d Q m a fr ds h u)(hds:ds.all (fun d => !d.isStar)=true:=by rfl):WU P f n d Q m a fr (AD.star::ds) h u:=fun hV=>Alq (hr hV) hds
theorem Ag6 {m:R β}{fr:Nat→AV}(hr:WR P f n d Q m k fr (AD.star::ds) h u):WR P f n d Q m k fr ds h u:=fun hV=>Amd (hr hV)
theorem Acw {m:R β}{fr:Nat→AV}(hr:WU P f n d Q m .ret fr ds h u)(hro:d.ro=none:=by rfl):WR P f n d Q m (.code .ret::k) fr ds h u:=fun hV=>Uo (hr hV) hro
end
section
variable {P:Program} [GW P] {f:FuncId} {n:Nat} {α:Type} {u:AU} {l:List (Nat×AV)} {h0:Ak} {ids:List Nat} {xs:List (Option AO)} {N K:Nat} {e:α→AV}
theorem Ajh {fn:Func}{a:α}{vs:List AV}(hf:P.funcs[f]? = some fn)(hI:Ids h0 ids N)(hr:Im P (hp h0 ids xs) (A7 l) fn.results.toList=some vs)(hz:Fz (hp h0 ids xs) h0 (Kr vs) (e a)) :
  WU P f n false (Aev e h0) (.ok a) .ret (A7 l) [] (hp h0 ids xs) u:=fun _=>So hf hr (hI.sub xs) hz rfl ⟨rfl,rfl⟩
theorem Ank {S:α→AV→Ak→Prop}{fn:Func}{a:α}{vs:List AV}{v:AV}(ys:List (Option AO))(hf:P.funcs[f]? = some fn)(hI:Ids h0 ids (K+N))(hl:xs.length=K+N)(hr:Im P (hp h0 ids xs) (A7 l) fn.results.toList=some vs)
  (hy:ys.length=K) (hx:HL (hp h0 ids xs) (hp h0 ids (ys++List.replicate N none)) xs (ys++List.replicate N none)) (hz:Fz (hp h0 ids xs) (hp h0 ids (ys++List.replicate N none)) (Kr vs) v) (hS:S a v (hp h0 (tkf ids K 0) ys)) :
  WU P f n false (Abw S h0) (.ok a) .ret (A7 l) [] (hp h0 ids xs) u:=fun _=>by
 refine Aai hf hr (hx.hfz hI hl) hz rfl ⟨v,rfl,?_⟩
 rw [Acn hI hy]; exact hS
end
section
variable {P:Program} [GW P] {f:FuncId} {n:Nat} {d:FK} {σ ε β γ:Type} {Q:Spec β} {ds:List AD} {h:Ak} {u:AU} {k:List Item} {l:List (Nat×AV)} {St:σ ⊕ ε→Ak→Prop}
def Alv (P:Program)[GW P](y:YF)(o g:Nat)(A:List AV)(St:σ ⊕ ε→Ak→Prop)(b:σ→R (σ ⊕ ε)):Prop:=
 ∀ s h,St (.inl s) h → ∀ x,b s=.ok x→W2 P y o g A h (fun v h'=>v=.bool x.isLeft∧St x h') (fun _ _=>False)
section
variable {all r:List Oper} {ty:TypeId} {pos:String} {after:Array Edge} {F:γ→R β}
theorem Akt {i:Nat}{pre:List (List Nat)}{plan:Hd}{pend:O3}{t:Nat}{x:Operand}{as0:List Operand}{ts:Array TypeId}{y:YF}{o g:Nat}{A:List AV}{b:σ→R (σ ⊕ ε)}{s:σ}{r1:σ→R γ}{r2:ε→R γ}(ho:all[i]? = some ⟨some t,.call ⟨.value x,⟨as0⟩,ts⟩,ty,pos,after,none⟩)(ht:Nat.blt t n=true)(hx:ev (A7 l) x=.yld y o g)(ha:Hq (A7 l) as0=A)(hs:St (.inl s) h)
  (hy:Alv P y o g A St b) (hnp : ∀ v,b s≠.pan v) (hpd : ∀ h',G7 P all pre i h' pend) (hk1 : ∀ s',b s=.ok (.inl s') → ∀ h',St (.inl s') h'→WP P f n d Q k all pre ((r1 s').bind F) plan pend (A7 ((t,.bool true)::l)) ds h' u)
  (hk2 : ∀ e,b s=.ok (.inr e) → ∀ h',St (.inr e) h'→WP P f n d Q k all pre ((r2 e).bind F) plan pend (A7 ((t,.bool false)::l)) ds h' u) :
  WP P f n d Q k all pre (((b s).bind (Jk r1 r2)).bind F) ((true,i)::plan) pend (A7 l) ds h u:=by
 refine Abd (R.bind_assoc _ _ _) (W4 ho (by simpa [Gq] using ht) rfl fun hb K U hK hU=>?_)
 simp only [I1,hx]
 rw [ha]
 cases hm:b s with
 | bad=>rw [hm] at hb; exact absurd hb Q.bad
 | pan v=>exact absurd hm (hnp v)
 | ok z=>
  rw [hm] at hK
  refine S4 (fun v h' hv=>?_) (fun _ _ hf=>hf.elim) (hy s h hs z hm)
  obtain⟨rfl,hs'⟩:=hv
  cases z with
  | inl s'=>exact hK _ _ _ _ (hpd h') (by rw [Fg]; exact hk1 s' hm h' hs')
  | inr e=>exact hK _ _ _ _ (hpd h') (by rw [Fg]; exact hk2 e hm h' hs')
end
def Xw {σ ε:Type}(o g:Nat)(r:Loop)(St:σ ⊕ ε→Ak→Prop)(jm:ε→Code):Spec (σ ⊕ ε):=⟨fun m => ∃ s,m=.ok s,(fun h=>by obtain⟨s,h⟩:=h; cases h),fun m a h' _ => ∃ s,m=.ok s∧h' o=some (.blk g (.loop { r with state:=.busy })) ∧
 match s with
 | .inl _=>a=.ret (.tup [])∧St s (upd h' o (some (.blk g (.loop r))))
 | .inr e=>a=.ret (jav (jm e))∧jav (jm e)≠.tup []∧St s (upd h' o (some (.blk g (.loop { r with state:=.done,pending:=some (jm e) }))))⟩
section
variable {lo:Nat×Nat×Nat} {o g:Nat} {r:Loop} {jm:ε→Code} {fr:Nat→AV}
theorem Ak8 {s:σ}(ho:h o=some (.blk g (.loop { r with state:=.busy })))(hs:St (.inl s) (upd h o (some (.blk g (.loop r))))) :
  WR P f n ⟨false,some lo⟩ (Xw o g r St jm) (.ok (.inl s)) [] fr [] h u:=by
 intro hV B mu w a cs p
 have hd:a.defers=[]:=p.ds
 refine⟨.returned undef,w,cs,_,.ret (.tup []),h,mu,u,⟨_,rfl,ho,rfl,hs⟩,Steps.refl P _,rfl,rfl,?_,.und,p.sim,(Ext.refl _ _ _).g,.refl p.cs⟩
 exact⟨rfl,rfl,hd,.inl ⟨rfl,rfl⟩⟩
theorem Aln {e:ε}(hj:jm e=.ret)(ho:h o=some (.blk g (.loop { r with state:=.busy })))(hs:St (.inr e) (upd h o (some (.blk g (.loop { r with state:=.done,pending:=some .ret }))))) :
  WR P f n ⟨false,some lo⟩ (Xw o g r St jm) (.ok (.inr e)) (.code .ret::k) fr [] h u:=by
 intro hV B mu w a cs p
 have hd:a.defers=[]:=p.ds
 refine⟨.returned (.bool true),w,cs,_,.ret (.bool true),h,mu,u,⟨_,rfl,ho,by rw [hj]; rfl,by rw [hj]; simp [jav],by rw [hj]; exact hs⟩,Steps.refl P _,rfl,rfl,?_,.bool true,p.sim,(Ext.refl _ _ _).g,.refl p.cs⟩
 exact⟨rfl,rfl,hd,.inr ⟨.ret,k,rfl,rfl,rfl⟩⟩
theorem Aov {m:R (σ ⊕ ε)}{todo:List Item}(hr:WR P f n ⟨false,some lo⟩ (Xw o g r St jm) m todo fr ds h u):WR P f n ⟨false,some lo⟩ (Xw o g r St jm) m.np todo fr ds h u:=by
 intro hV
 cases m with
 | ok s=>exact hr hV
 | pan v=>obtain⟨s,h⟩:=hV; cases h
 | bad=>obtain⟨s,h⟩:=hV; cases h
end
theorem Ah2 {y:YF}{o g:Nat}{r:Loop}{jm:ε→Code}{params:Array Tmp}{assign body:Code}{A:List AV}{b:σ→R (σ ⊕ ε)}(hlp:LpOk f n params assign body r)(hps:params.toList.all (fun p=>Nat.blt p n)=true)(hla:A.length=params.size)
  (hy : ∀ {mu:Mu} {w:World} {M:Nat→Prop} {lo:Nat},y.F w mu M lo → ∀ t,Rv w mu M (A7 l t) (r.tmps.getD t undef)) (hat : ∀ s h,St (.inl s) h→h o=some (.blk g (.loop r)))
  (hr : ∀ (lo:Nat) (s:σ) (h:Ak),St (.inl s) h→WR P f n ⟨false,some (lo,o,g)⟩ (Xw o g r St jm) (b s) [.code assign,.beginRound,.code body] (Uh (A7 l) params.toList A) [] h .ret):Alv P y o g A St b:=by
 intro s h hs x hb
 obtain⟨h1,h2,h3,h4,rfl,rfl,rfl⟩:=hlp
 refine Z6 (f:=f) (n:=n) (fr:=A7 l) (hat s h hs) h1 h2 h3 h4 (fun p hp=>by have:=List.all_eq_true.1 hps p hp; simpa using this) (fun hF t=>hy hF t) hla fun lo=>?_
 refine Ae1 (hr lo s h hs ⟨x,hb⟩) fun a h' u' hq=>?_
 obtain⟨s2,e,hb1,hs2⟩:=hq
 rw [hb] at e; cases e
 cases x with
 | inl s'=>obtain⟨rfl,hs2⟩:=hs2; exact⟨hb1,.inl ⟨rfl,rfl,hs2⟩⟩
 | inr e=>obtain⟨rfl,hne,hs2⟩:=hs2; exact⟨hb1,.inr ⟨_,rfl,hne,rfl,hs2⟩⟩
section
variable {h0:Ak} {ids:List Nat} {xs:List (Option AO)} {N:Nat} {lo:Nat×Nat×Nat} {jL g:Nat} {r:Loop} {jm:ε→Code} {fr:Nat→AV}
theorem Ajd {s:σ}(hI:Ids h0 ids N)(hl:xs.length=N)(hj:Nat.blt jL N=true)(hx:xs[jL]? = some (some (.blk g (.loop { r with state:=.busy }))))(hs:St (.inl s) (hp h0 ids (xs.set jL (some (.blk g (.loop r)))))) :
  WR P f n ⟨false,some lo⟩ (Xw (ix ids jL) g r St jm) (.ok (.inl s)) [] fr [] (hp h0 ids xs) u:=Ak8 (hI.at hl hx) (by rw [hI.set hl hj]; exact hs)
theorem Akq {e:ε}(hjm:jm e=.ret)(hI:Ids h0 ids N)(hl:xs.length=N)(hj:Nat.blt jL N=true)(hx:xs[jL]? = some (some (.blk g (.loop { r with state:=.busy }))))(hs:St (.inr e) (hp h0 ids (xs.set jL (some (.blk g (.loop { r with state:=.done,pending:=some .ret })))))) :
  WR P f n ⟨false,some lo⟩ (Xw (ix ids jL) g r St jm) (.ok (.inr e)) (.code .ret::k) fr [] (hp h0 ids xs) u:=Aln hjm (hI.at hl hx) (by rw [hI.set hl hj]; exact hs)
end
theorem Aea {x:Operand}{params:Array Tmp}{assign body:Code}{gf:FuncId}{cap:List AV}{m:R (σ ⊕ ε)}{r1:σ→R γ}{r2:ε→R γ}{F:γ→R β}{h0:Ak}{ids:List Nat}{xs:List (Option AO)}{N:Nat}(jL:Nat)(jm:ε→Code)(St:Nat→Loop→σ ⊕ ε→Ak→Prop)
  (hro:d.ro=none) (hx:ev (A7 l) x=.func (.func gf) [] cap) (hI:Ids h0 ids N) (hl:xs.length=N) (hjL:Nat.blt jL N=true) (hxL:xs[jL]? = some none)
  (hgo : ∀ (gL:Nat) (y:YF) (r:Loop),LpOk f n params assign body r→(∀ {mu:Mu} {w:World} {M:Nat→Prop} {lo:Nat},y.F w mu M lo → ∀ t,Rv w mu M (A7 l t) (r.tmps.getD t undef)) →
   (m≠.bad→Bw P gf ([.yld y (ix ids jL) gL]++cap) (hp h0 ids (xs.set jL (some (.blk gL (.loop r))))) (Aap (St gL r) m)) ∧
   (∀ s h',St gL r (.inl s) h'→h' (ix ids jL)=some (.blk gL (.loop r))) ∧
   (∀ e h',St gL r (.inr e) h'→h' (ix ids jL)=some (.blk gL (.loop { r with state:=.done,pending:=some (jm e) }))) ∧
   (∀ s h',St gL r (.inl s) h'→WR P f n d Q ((r1 s).bind F) k (A7 l) (AD.star::ds) (upd h' (ix ids jL) none) u) ∧
   (∀ e h',St gL r (.inr e) h'→WR P f n d Q ((r2 e).bind F) (.code (jm e)::k) (A7 l) (AD.star::ds) (upd h' (ix ids jL) none) u) ∧
   (∀ v,m=.pan v → ∀ s h',St gL r s h'→WU P f n d Q (.pan v) (.pan v.av false) (A7 l) (AD.star::ds) (upd h' (ix ids jL) none) u)) :
  WR P f n d Q ((m.bind (Jk r1 r2)).bind F) (.code (.rangeFunc x params assign body)::k) (A7 l) (AD.star::ds) (hp h0 ids xs) u:=by
 rw [R.bind_assoc]
 intro hV
 refine X8 (ix ids jL) hro hx (hI.at hl hxL) fun gL y r hlp hyF=>?_
 obtain⟨c1,c2,c2',c3,c3',c4⟩:=hgo gL y r hlp hyF
 rw [hI.set hl hjL]
 have hmb:m≠.bad:=fun e=>by rw [e] at hV; exact Q.bad hV
 refine(c1 hmb).mono fun res h' hq=>?_
 cases hm:m with
 | bad=>exact absurd hm hmb
 | ok s=>
  rw [hm] at hq
  obtain⟨⟨v,rfl⟩,hs⟩:=hq
  rw [hm] at hV
  cases s with
  | inl s=>
   refine⟨r,c2 s h' hs,by rw [hlp.ready]; exact fun e=>(by cases e),?_⟩
   rw [hlp.pend]
   exact c3 s h' hs hV
  | inr e=>
   refine⟨_,c2' e h' hs,fun hh=>(by cases hh),?_⟩
   exact c3' e h' hs hV
 | pan v=>
  rw [hm] at hq
  obtain⟨rfl,s,hs⟩:=hq
  refine c4 v hm s h' hs ?_
  rw [hm] at hV; exact hV
end
end Go.Am
namespace Go.Am
@[reducible] def un9 {α β γ δ ε ζ η θ ι ω:Type}(f:α→β→γ→δ→ε→ζ→η→θ→ι→ω):α×β×γ×δ×ε×ζ×η×θ×ι→ω | (x0,x1,x2,x3,x4,x5,x6,x7,x8)=>f x0 x1 x2 x3 x4 x5 x6 x7 x8
@[simp] theorem Aq3 {α β γ δ ε ζ η θ ι ω:Type}(f:α→β→γ→δ→ε→ζ→η→θ→ι→ω)(x0:α)(x1:β)(x2:γ)(x3:δ)(x4:ε)(x5:ζ)(x6:η)(x7:θ)(x8:ι):un9 f (x0,x1,x2,x3,x4,x5,x6,x7,x8)=f x0 x1 x2 x3 x4 x5 x6 x7 x8:=rfl
end Go.Am
namespace Go.Am
open Go
set_option linter.unusedSimpArgs false
set_option linter.unusedVariables false
set_option linter.unusedSectionVars false
theorem Acs {P:Program}[GW P]{t:TypeId}{k k':IntKind}{a b c:Int}(hb:decide (0≤b)=true)(hc:2 ^ (min b.toNat k.bits)=c):Kw P .shr t (.int k a) (.int k' b)=some (.int k (a.fdiv c)):=by
 have hb':0≤b:=by simpa using hb
 simp only [Kw,if_pos hb',hc]
def Hb (l:List Int):List Int:=l.mergeSort fun x y=>decide (x≤y)
def R1 (l:List Int):R Unit:=if l.length≤Ca then .ok () else .bad
theorem Qb (l:List Int):(Hb l).length=l.length:=List.length_mergeSort _
theorem A8.sort {v:AV}{o g:Nat}{L:List Int}(h:A8 v o g L.length):A8 v o g (Hb L).length:=by rw [Qb]; exact h
section
variable {P:Program} [GW P] {B:Base P} {h:Ak} {mu:Mu} {w:World}
theorem Ai0 (s:Sim B mu h w){o g:Nat}{L:List Int}(hx:h o=some (.rows g 1 (L.map (rI .i64)))){l:Loc}(hl:mu o g=some l):Sort.Holds (Value.int .i64) w l.b l.base L.toArray∧l.b<w.heap.size:=by
 obtain⟨l',cells,e,f,k1,k2,k3,k4,k5,k6,k7,k8,k9⟩:=s.obj hx
 rw [hl] at k1; cases k1
 have hsz:l.base+L.length≤l.size:=by simpa using k4
 refine⟨fun j hj=>?_,(s.muOk _ _ _ hl).2.1⟩
 have hj':j<L.length:=by simpa using hj
 obtain⟨x,hx1,hx2⟩:=k9 j 0 (by simpa using hj') (by omega)
 have e3:cell (L.map (rI .i64)) j 0=.int .i64 (L[j]):=by simp [cell,rI,List.getD,List.getElem?_eq_getElem hj']
 rw [e3] at hx2
 have:=Aot hx2
 subst this
 constructor
 ·unfold World.cell?
  rw [k6]
  have:cells[l.base+j]? = some (.int .i64 L[j]):=by simpa using hx1
  simp [this,hj']
 ·unfold World.frozen?
  rw [k6]
  have:=k8 (l.base+j) (by omega)
  cases hq:(decide (f.1≤l.base+j)&&decide (l.base+j<f.2)) with
  | false=>exact hq
  | true=>
   simp only [Bool.and_eq_true,decide_eq_true_eq] at hq
   exact absurd hq this
theorem Ali (s:Sim B mu h w){o g:Nat}{L L2:List Int}(hx:h o=some (.rows g 1 (L.map (rI .i64)))){l:Loc}(hl:mu o g=some l){M:List Int}(hM:M.length=L.length)(h2 : ∀ i (hi:i<L2.length),M[i]? = some L2[i]){w':World}
  (hw : ∃ n os,w'=Sort.grow (Sort.putRow (Value.int .i64) (Sort.ahead w n) l.b l.base M.toArray) os) :
  Sim B mu (upd h o (some (.rows g 1 (L2.map (rI .i64))))) w'∧E9 h mu w (upd h o (some (.rows g 1 (L2.map (rI .i64))))) mu w':=by
 obtain⟨n,os,rfl⟩:=hw
 obtain⟨l',cells,e,f,k1,k2,k3,k4,k5,k6,k7,k8,k9⟩:=s.obj hx
 rw [hl] at k1; cases k1
 have hsz:l.base+L.length≤l.size:=by simpa using k4
 have hl2:L2.length≤M.length:=by
  rcases Nat.lt_or_ge M.length L2.length with hh | hh
  ·have:=h2 M.length hh
   rw [List.getElem?_eq_none (Nat.le_refl _)] at this; cases this
  ·exact hh
 have hb:l.b<w.heap.size:=(s.muOk _ _ _ hl).2.1
 have hput:=Sim.put (w':=Sort.putRow (Value.int .i64) (Sort.ahead w n) l.b l.base M.toArray) (rs':=L2.map (rI .i64)) (l':=l) (g':=g) (cells':=Sort.putCells (Value.int .i64) l.base M.toArray cells) (e:=e) (f:=f) s hx hl rfl rfl rfl
  (by simp [Sort.putRow,Sort.mapBlock,Sort.ahead])
  (fun b hbne=>by
   simp only [Sort.putRow,Sort.mapBlock,Sort.ahead,Array.getElem?_modify]
   rw [if_neg (fun hh=>hbne hh.symm)])
  (by
   simp only [Sort.putRow,Sort.mapBlock,Sort.ahead,Array.getElem?_modify,if_true,k6,Option.map_some]
   rfl)
  (by simp [Sort.putCells,k7]) k8 (.inl ⟨rfl,rfl⟩) rfl rfl k2
  (by rw [k3]; simp; omega)
  (by
   intro r hr
   rw [k3]
   obtain⟨x,_,rfl⟩:=List.mem_map.1 hr
   exact Kp x)
  (by
   intro i j hi hj
   rw [k3] at hj
   have hj0:j=0:=by omega
   subst hj0
   have hi':i<L2.length:=by simpa using hi
   have e3:cell (L2.map (rI .i64)) i 0=.int .i64 (L2[i]):=by simp [cell,rI,List.getD,List.getElem?_eq_getElem hi']
   refine⟨.int .i64 L2[i],?_,by rw [e3]; exact .int _ _⟩
   have hM1:=h2 i hi'
   have hc:l.base+i<cells.size:=by rw [k7]; omega
   rw [k3]
   have e4:(M.toArray)[l.base+i * 1+0 - l.base]! = L2[i]:=by
    rw [show l.base+i * 1+0 - l.base=i by omega]
    simp [hM1]
   unfold Sort.putCells
   rw [Array.getElem?_mapIdx,Array.getElem?_eq_getElem (by omega)]
   simp only [Option.map_some]
   rw [if_pos ⟨by omega,by simp; omega⟩,e4])
 rw [k3] at hput
 have e1:D8 mu o g l=mu:=by
  funext o1 g1
  unfold D8
  split
  ·rename_i hh; obtain⟨rfl,rfl⟩:=hh; exact hl.symm
  ·rfl
 rw [e1] at hput
 obtain⟨q1,q2⟩:=Below.ext (w':=Sort.grow (Sort.putRow (Value.int .i64) (Sort.ahead w n) l.b l.base M.toArray) os) hput.1 ⟨rfl,rfl,rfl,by simp,fun i hi=>Sort.heap_grow_old _ _ hi⟩
 exact⟨q1,hput.2.trans q2⟩
theorem An8 {v:AV}{o g n:Nat}(hv:A8 v o g n){c:Value}(hr:RV h mu w v c):(∃ a,v=.emp∧n=0∧c=.slice a 0 0) ∨ ∃ l cap,v=.ref o g 0 n∧mu o g=some l∧n≤Ca∧n≤cap∧l.base+cap * l.st≤l.size∧c=.slice (some ⟨l.b,l.base,none⟩) n cap:=by
 rcases hv with⟨rfl,rfl⟩ | rfl
 ·cases hr with
  | emp a=>exact .inl ⟨a,rfl,rfl,rfl⟩
 ·cases hr with
  | ref _ _ _ _ cap l hl hc hcap hlim hsz=>
   refine .inr ⟨l,cap,rfl,hl,hlim,hcap,by simpa using hsz,by simp⟩
theorem Aie {sf:Nat}{L:List Int}{v:AV}{h0:Ak}{o g:Nat}(hI0:Ids h0 [o] 1)(hb:Sz P sf)(hv:A8 v o g L.length)
  (hs : ∀ (blk off cap:Nat) (zs:List Int) (w:World),Sort.Holds (Value.int .i64) w blk off zs.toArray→blk<w.heap.size→zs.length<4611686018427387904 →
   Calls P sf #[.slice (some ⟨blk,off,none⟩) zs.length cap] w fun e w'=>e=.returned (.tuple #[]) ∧ ∃ n os,w'=Sort.grow (Sort.putRow (Value.int .i64) (Sort.ahead w n) blk off (zs.mergeSort fun x y=>decide (x≤y)).toArray) os)
  (hn : ∀ (p:Option Addr) (cap:Nat) (w:World),Calls P sf #[.slice p 0 cap] w fun e w'=>e=.returned (.tuple #[])∧w'=w) :
  R1 L≠.bad→Bw P sf [v] (hp h0 [o] [A2 v g 1 (L.map (rI .i64))]) (Eg (fun _ v' h'=>v'=.tup []∧h'=hp h0 [o] [A2 v g 1 ((Hb L).map (rI .i64))]) h0 (R1 L)):=by
 intro hne
 unfold R1 at hne ⊢
 split at hne
 case isFalse=>exact absurd rfl hne
 rename_i hlim
 rw [if_pos hlim]
 refine⟨hb,fun B mu w cargs s ha=>?_⟩
 obtain⟨c,rfl,hc⟩:=Am7 ha
 rcases An8 hv hc with⟨a,rfl,hn0,rfl⟩ | ⟨l,cap,rfl,hl,_,hcap,hsz,rfl⟩
 ·have hL:L=[]:=List.eq_nil_of_length_eq_zero hn0
  subst hL
  refine(hn a 0 w).mono ?_
  rintro e w' ⟨rfl,rfl⟩
  exact⟨.ret (.tup []),_,mu,⟨_,rfl,rfl,rfl⟩,s,Ext.refl _ _ _,.tup _ _ rfl fun i hi=>by simp at hi⟩
 ·have hx:hp h0 [o] [A2 (.ref o g 0 L.length) g 1 (L.map (rI .i64))] o=some (.rows g 1 (L.map (rI .i64))):=hI0.at (xs:=[_]) rfl (j:=0) rfl
  obtain⟨hH,hblk⟩:=Ai0 s hx hl
  refine(hs l.b l.base cap L w hH hblk (by simp only [Ca] at hlim; omega)).mono ?_
  rintro e w' ⟨rfl,n,os,rfl⟩
  obtain⟨q1,q2⟩:=Ali s hx hl (L2:=Hb L) (M:=L.mergeSort fun x y=>decide (x≤y)) (List.length_mergeSort _) (fun i hi=>List.getElem?_eq_getElem hi) ⟨n,os,rfl⟩
  have e5:upd (hp h0 [o] [A2 (.ref o g 0 L.length) g 1 (L.map (rI .i64))]) o (some (.rows g 1 ((Hb L).map (rI .i64))))=hp h0 [o] [some (.rows g 1 ((Hb L).map (rI .i64)))]:=hI0.set rfl (j:=0) rfl
  rw [e5] at q1 q2
  exact⟨.ret (.tup []),_,mu,⟨_,rfl,rfl,rfl⟩,q1,q2,.tup _ _ rfl fun i hi=>by simp at hi⟩
def Wl (h:Ak)(mu:Mu)(w:World)(st:Nat)(rs:List (List AV))(cs:List Value):Prop:=cs.length=rs.length * st ∧ ∀ i j,i<rs.length→j<st→RV h mu w (cell rs i j) (cs.getD (i * st+j) undef)
theorem Aj2 {rs:List (List AV)}{n i j:Nat}(h:i<n):cell (rs.take n) i j=cell rs i j:=by
 unfold cell; simp [List.getD,List.getElem?_take,h]
theorem Ajp {rs:List (List AV)}{n i j:Nat}:cell (rs.drop n) i j=cell rs (n+i) j:=by
 unfold cell; simp [List.getD,List.getElem?_drop]
theorem Wl.take {st n:Nat}{rs:List (List AV)}{cs:List Value}(h1:Wl h mu w st rs cs)(hn:n≤rs.length):Wl h mu w st (rs.take n) (cs.take (n * st)):=by
 have hm:n * st≤rs.length * st:=Nat.mul_le_mul_right _ hn
 refine⟨by rw [List.length_take,List.length_take,h1.1,Nat.min_eq_left hm,Nat.min_eq_left hn],fun i j hi hj=>?_⟩
 rw [List.length_take] at hi
 have:=Pe (st:=st) (show i<n by omega) hj
 rw [Aj2 (by omega)]
 have e:(cs.take (n * st)).getD (i * st+j) undef=cs.getD (i * st+j) undef:=by simp [List.getD,List.getElem?_take,this]
 rw [e]
 exact h1.2 i j (by omega) hj
theorem Wl.drop {st n:Nat}{rs:List (List AV)}{cs:List Value}(h1:Wl h mu w st rs cs)(hn:n≤rs.length):Wl h mu w st (rs.drop n) (cs.drop (n * st)):=by
 refine⟨by rw [List.length_drop,List.length_drop,h1.1,Nat.sub_mul],fun i j hi hj=>?_⟩
 rw [List.length_drop] at hi
 rw [Ajp]
 have e:(cs.drop (n * st)).getD (i * st+j) undef=cs.getD ((n+i) * st+j) undef:=by
  simp only [List.getD,List.getElem?_drop]
  rw [show n * st+(i * st+j)=(n+i) * st+j by rw [Nat.add_mul]; omega]
 rw [e]
 exact h1.2 (n+i) j (by omega) hj
end
end Go.Am
namespace Go.Am
open Go
set_option linter.unusedVariables false
set_option linter.unusedSectionVars false
def Nn (k:IntKind)(a b:Int):Int:=k.wrap (BitVec.ofInt k.bits a &&& BitVec.ofInt k.bits b).toNat
def Th (k:IntKind)(a b:Int):Int:=k.wrap (BitVec.ofInt k.bits a ||| BitVec.ofInt k.bits b).toNat
def Tl (k:IntKind)(a b:Int):Int:=k.wrap (BitVec.ofInt k.bits a ^^^ BitVec.ofInt k.bits b).toNat
def P7 (k:IntKind)(a b:Int):Int:=k.wrap (a * 2 ^ (min b.toNat k.bits))
theorem Ahe {P:Program}[GW P]{t:TypeId}{k:IntKind}{a b:Int}:Kw P .and t (.int k a) (.int k b)=some (.int k (Nn k a b)):=by simp [Kw,Nn]
theorem Aj0 {P:Program}[GW P]{t:TypeId}{k:IntKind}{a b:Int}:Kw P .or t (.int k a) (.int k b)=some (.int k (Th k a b)):=by simp [Kw,Th]
theorem Ahx {P:Program}[GW P]{t:TypeId}{k:IntKind}{a b:Int}:Kw P .xor t (.int k a) (.int k b)=some (.int k (Tl k a b)):=by simp [Kw,Tl]
theorem Aft {P:Program}[GW P]{t:TypeId}{k k':IntKind}{a b:Int}(hb:0≤b):Kw P .shl t (.int k a) (.int k' b)=some (.int k (P7 k a b)):=by simp only [Kw,if_pos hb,P7]
end Go.Am
namespace Go.Am
open Go
set_option linter.unusedVariables false
set_option linter.unusedSectionVars false
end Go.Am
namespace Go.Am
open Go
set_option linter.unusedVariables false
set_option linter.unusedSectionVars false
structure FMapAt (w:World)(m g:Nat)(es:List (Str×AV)):Prop where
 ex : ∃ (b:Nat) (ens:Array MapEntry) (clock:Nat) (es2:List (Str×AV)),w.cell? ⟨g,0,none⟩=some (.map (some b))∧b<m∧w.heap[b]? = some (.map ens clock)∧es2.Perm es∧es2.length=ens.size ∧
  ∀ i,i<es2.length→(ens.getD i default).key=.string ⟨(es2.getD i ([],.und)).1.toArray⟩ ∧ ∃ k,(es2.getD i ([],.und)).2=.func (.func k) [] []∧(ens.getD i default).val=.func (.func k) #[] #[]
 nd:(es.map (·.1)).Nodup
theorem FMapAt.keep {w w':World}{m g:Nat}{es:List (Str×AV)}(k:FMapAt w m g es)(hg:g<m)(e : ∀ b,b<m→w'.heap[b]? = w.heap[b]?):FMapAt w' m g es:=by
 obtain⟨⟨b,ens,clock,es2,h1,h2,h3,h4,h5,h6⟩,hnd⟩:=k
 exact⟨⟨b,ens,clock,es2,by rw [cell?_of_heap (w:=w) (a:=⟨g,0,none⟩) (e g hg)]; exact h1,h2,by rw [e b h2]; exact h3,h4,h5,h6⟩,hnd⟩
theorem FMapAt.rv {w:World}{m g:Nat}{es:List (Str×AV)}(k:FMapAt w m g es)(hm:m≤w.heap.size){mu:Mu}{M:Nat→Prop}(hM : ∀ b,M b→m≤b) : ∃ x,w.cell? ⟨g,0,none⟩=some x∧Rv w mu M (.mapc es) x:=by
 obtain⟨⟨b,ens,clock,es2,h1,h2,h3,h4,h5,h6⟩,hnd⟩:=k
 refine⟨_,h1,.mapc es es2 h4 hnd b ens clock h3 h5 (fun i hi=>(h6 i hi).1) (fun i hi=>?_) (fun hb=>by have:=hM b hb; omega) (by omega)⟩
 obtain⟨_,k,e1,e2⟩:=h6 i hi
 rw [e1,e2]
 exact .func _ [] [] [] [] rfl rfl (fun i hi=>by simp at hi) (fun i hi=>by simp at hi)
open Go.ChangeShapes Go.WideShapes Go.WideElems
end Go.Am
namespace Go.Am
open Go
set_option linter.unusedVariables false
set_option linter.unusedSectionVars false
set_option linter.unusedSimpArgs false
abbrev AV.q (ids:List Nat)(j g:Nat):AV:=.ptr (ix ids j) g 0 0
abbrev AV.I (n:Int):AV:=.int .i64 n
abbrev Sc.I (n:Int):Sc:=.int .i64 n
section
variable (P:Program) [GW P]
def Aho:Op→Bool
 | .move _=>true
 | .assign _=>true
 | .pick _ _ _=>true
 | .build _ _=>true
 | .nilCheck _=>true
 | .binOp _ _ _ _ _=>true
 | .unOp _ _ _=>true
 | .makeInterface _ _=>true
 | .makeFunc _ _ _=>true
 | .fieldAddr _ _ _=>true
 | .field _ _ _=>true
 | .typeAssert _ _ _ _=>true
 | .extract _ _=>true
 | _=>false
def Alt (xs:List (Option AO))(fr:Nat→AV)(j:Nat)(op:Op):Option (AV×Option (Nat×Nat×Nat)):=
 match op with
 | .load t a=>match ev fr a with
  | .ptr o g r c=>match ti P t,xs[j]? with
   | some T,some (some (.rows g' st rs))=>match rs[r]? with
    | some row=>(Mt row c T.size T.k.agg).map fun v=>(v,some (o,g,g'))
    | none=>none
   | _,_=>none
  | .cp row c=>match ti P t with
   | some T=>(Mt row c T.size T.k.agg).map fun v=>(v,none)
   | none=>none
  | _=>none
 | op=>if Aho op then(Ef P fr hE op).map fun v=>(v,none) else none
def O1 (n:Nat)(all:List Oper)(xs:List (Option AO)):List Oper→List Nat→List (Nat×AV)→Option (List (Nat×AV)×List (Nat×Nat)×List (Nat×Nat))
 | [],_,l=>some (l,[],[])
 | o::ops,hs,l=>if Gq n o.dst then match F6 all (A7 l) o,o.dst with
   | some true,some t=>match Alt P xs (A7 l) (hs.headD 0) o.op with
    | some (v,none)=>O1 n all xs ops hs ((t,v)::l)
    | some (v,some (ob,g,g'))=>(O1 n all xs ops hs.tail ((t,v)::l)).map fun r=>(r.1,(ob,g)::r.2.1,(hs.headD 0,g')::r.2.2)
    | none=>none
   | some false,some t=>O1 n all xs ops hs ((t,.und)::l)
   | some false,none=>O1 n all xs ops hs l
   | _,_=>none
  else none
def Ahc (ops:List Oper)(ks:List Nat)(l:List (Nat×AV)):Bool:=ops.all fun o=>match o.dst with
 | none=>true
 | some t=>ks.contains t || !(l.any fun p=>Nat.beq t p.1)
end
section
variable {P:Program} [GW P] {f:FuncId} {n:Nat} {d:FK} {β γ:Type} {Q:Spec β} {m:R β} {ds:List AD} {h:Ak} {u:AU} {k:List Item} {l:List (Nat×AV)} {F:γ→R β}
variable {all:List Oper} {h0:Ak} {ids:List Nat} {xs:List (Option AO)} {N:Nat}
theorem Ab5 {fr:Nat→AV}{j:Nat}{op:Op}{v:AV}{q:Option (Nat×Nat×Nat)}(hI:Ids h0 ids N)(hl:xs.length=N)(hx:Alt P xs fr j op=some (v,q))(hq : ∀ o g g',q=some (o,g,g')→o=ix ids j∧g=g'):Ef P fr (hp h0 ids xs) op=some v:=by
 unfold Alt at hx
 split at hx
 ·rename_i t a
  show Oq P _ t (ev fr a)=_
  split at hx
  ·rename_i o g r c ha
   rw [ha]
   split at hx
   ·rename_i T g' st rs hT hj
    split at hx
    ·rename_i row hr
     simp only [Option.map_eq_some_iff,Prod.mk.injEq] at hx
     obtain⟨v',h1,rfl,rfl⟩:=hx
     obtain⟨rfl,rfl⟩:=hq _ _ _ rfl
     exact Al hI hl hj hr hT h1
    ·cases hx
   ·cases hx
  ·rename_i row c ha
   rw [ha]
   split at hx
   ·rename_i T hT
    simp only [Option.map_eq_some_iff,Prod.mk.injEq] at hx
    obtain⟨v',h1,rfl,rfl⟩:=hx
    exact Hk hT h1
   ·cases hx
  ·cases hx
 split at hx
 ·rename_i hp
  simp only [Option.map_eq_some_iff,Prod.mk.injEq] at hx
  obtain⟨v',h1,rfl,rfl⟩:=hx
  revert h1
  cases op <;> first
   | exact id
   | (simp [Aho] at hp)
 ·cases hx
theorem Yx {rest:List Oper} : ∀ {ops:List Oper} {hs:List Nat} {l l':List (Nat×AV)} {A B:List (Nat×Nat)},O1 P n all xs ops hs l=some (l',A,B)→A=B.map (fun q=>(ix ids q.1,q.2))→Ids h0 ids N→xs.length=N →
  WO P f n d Q k all m rest (A7 l') ds (hp h0 ids xs) u→WO P f n d Q k all m (ops++rest) (A7 l) ds (hp h0 ids xs) u
 | [],hs,l,l',A,B,hx,hA,hI,hl,hk=>by
  simp only [O1,Option.some.injEq,Prod.mk.injEq] at hx
  obtain⟨rfl,rfl,rfl⟩:=hx
  exact hk
 | o::ops,hs,l,l',A,B,hx,hA,hI,hl,hk=>by
  unfold O1 at hx
  split at hx
  ·rename_i hd
   split at hx
   ·rename_i t hw ht
    rw [ht] at hd
    have step : ∀ {v:AV},Ef P (A7 l) (hp h0 ids xs) o.op=some v→WO P f n d Q k all m (ops++rest) (A7 ((t,v)::l)) ds (hp h0 ids xs) u→WO P f n d Q k all m (o::ops++rest) (A7 l) ds (hp h0 ids xs) u:=by
     intro v hv hk'
     refine Nv (by rw [ht]; exact hd) hw fun hb K U hK hU=>Acf (t:=ds) hv (hK _ _ _ _ ?_)
     rw [ht,Fg]; exact hk'
    split at hx
    ·rename_i v hr
     exact step (Ab5 hI hl hr (fun _ _ _ h=>by cases h)) (Yx hx hA hI hl hk)
    ·rename_i v ob g g' hr
     simp only [Option.map_eq_some_iff,Prod.mk.injEq] at hx
     obtain⟨⟨l1,A1,B1⟩,hx,rfl,rfl,rfl⟩:=hx
     simp only [List.map_cons,List.cons.injEq,Prod.mk.injEq] at hA
     exact step (Ab5 hI hl hr (fun o2 g2 g2' h=>by cases h; exact hA.1)) (Yx hx hA.2 hI hl hk)
    ·cases hx
   ·rename_i t hw ht
    rw [ht] at hd
    exact Ahi (by rw [ht]; exact hd) hw (by rw [ht,Fg]; exact Yx hx hA hI hl hk)
   ·rename_i hw ht
    exact Ahi (by rw [ht]; rfl) hw (by rw [ht]; exact Yx hx hA hI hl hk)
   ·cases hx
  ·cases hx
theorem Wv {ops:List Oper}{ks:List Nat}{news:List (Nat×AV)} : ∀ {hs:List Nat} {l l':List (Nat×AV)} {A B:List (Nat×Nat)} {ops:List Oper},O1 P n all xs ops hs l=some (l',A,B) → ∀ t,(∀ o ∈ ops,o.dst≠some t)→A7 l' t=A7 l t
 | hs,l,l',A,B,[],hx,t,ho=>by
  simp only [O1,Option.some.injEq,Prod.mk.injEq] at hx
  obtain⟨rfl,rfl,rfl⟩:=hx
  rfl
 | hs,l,l',A,B,o::ops,hx,t,ho=>by
  have ho' : ∀ o ∈ ops,o.dst≠some t:=fun q hq=>ho q (List.mem_cons_of_mem _ hq)
  have hne : ∀ {t':Nat} {v:AV},o.dst=some t'→A7 ((t',v)::l) t=A7 l t:=by
   intro t' v h
   have:t≠t':=fun e=>ho o (List.mem_cons_self ..) (e ▸ h)
   simp only [A7]
   have:Nat.beq t t'=false:=by
    cases hq:Nat.beq t t' with
    | false=>rfl
    | true=>exact absurd (Nat.eq_of_beq_eq_true hq) this
   rw [this]; rfl
  unfold O1 at hx
  split at hx
  ·split at hx
   ·rename_i t' hw ht
    split at hx
    ·rw [Wv (ks:=ks) (news:=news) (ops:=ops) hx t ho',hne ht]
    ·simp only [Option.map_eq_some_iff,Prod.mk.injEq] at hx
     obtain⟨⟨l1,A1,B1⟩,hx,rfl,rfl,rfl⟩:=hx
     rw [Wv (ks:=ks) (news:=news) (ops:=ops) hx t ho',hne ht]
    ·cases hx
   ·rename_i t' hw ht
    rw [Wv (ks:=ks) (news:=news) (ops:=ops) hx t ho',hne ht]
   ·exact Wv (ks:=ks) (news:=news) (ops:=ops) hx t ho'
   ·cases hx
  ·cases hx
theorem Aqo {ops:List Oper}(K:Nat)(hs:List Nat)(news:List (Nat×AV))(hI:Ids h0 ids N)(hl:xs.length=N)
  (hc:(O1 P n all xs (ops.take K) hs l).map (fun r=>(news.map (fun p=>A7 r.1 p.1),r.2.1,Ahc (ops.take K) (news.map (·.1)) l))=some (news.map (·.2),((O1 P n all xs (ops.take K) hs l).elim [] fun r=>r.2.2.map fun q=>(ix ids q.1,q.2)),true))
  (hk:WO P f n d Q k all m (ops.drop K) (A7 (news++l)) ds (hp h0 ids xs) u):WO P f n d Q k all m ops (A7 l) ds (hp h0 ids xs) u:=by
 cases hr:O1 P n all xs (ops.take K) hs l with
 | none=>rw [hr] at hc; cases hc
 | some r=>
  obtain⟨l',A,B⟩:=r
  rw [hr] at hc
  simp only [Option.map_some,Option.elim_some,Option.some.injEq,Prod.mk.injEq] at hc
  obtain⟨h1,h2,h3⟩:=hc
  have:=Yx (rest:=ops.drop K) hr h2 hI hl (f:=f) (d:=d) (Q:=Q) (k:=k) (m:=m) (ds:=ds) (u:=u) (fun hb i hi=>Q8 (fun t=>?_) (hk hb i hi))
  ·rwa [List.take_append_drop] at this
  ·
   have key : ∀ (ns:List (Nat×AV)),ns.map (fun p=>A7 l' p.1)=ns.map (·.2)→(∀ s,s ∈ ns.map (·.1)→s ∈ news.map (·.1))→(∀ s,s ∈ news.map (·.1)→s=t→s ∈ ns.map (·.1))→A7 (ns++l) t=.any∨A7 (ns++l) t=A7 l' t:=by
    intro ns
    induction ns with
    | nil=>
     intro _ _ hsub
     simp only [List.nil_append]
     by_cases hin:l.any (fun p=>Nat.beq t p.1)=true
     ·right
      symm
      refine Wv (ks:=[]) (news:=[]) (ops:=ops.take K) hr t fun o ho hd=>?_
      have:=List.all_eq_true.1 h3 o ho
      rw [hd] at this
      simp only [Bool.or_eq_true,Bool.not_eq_true',List.contains_iff_mem] at this
      rcases this with hc | hc
      ·exact absurd (hsub t hc rfl) (by simp)
      ·rw [hc] at hin; cases hin
     ·left
      have : ∀ l:List (Nat×AV),l.any (fun p=>Nat.beq t p.1)≠true→A7 l t=.any:=by
       intro l
       induction l with
       | nil=>intro _; rfl
       | cons p l ih=>
        intro hne
        simp only [List.any_cons] at hne
        simp only [A7]
        have h1:Nat.beq t p.1=false:=by cases hq:Nat.beq t p.1 with | false=>rfl | true=>exact absurd (by rw [hq]; rfl) hne
        rw [h1]
        exact ih (fun h=>hne (by rw [h,h1]; rfl))
      exact this l hin
    | cons p ns ih=>
     intro hv h4 h5
     simp only [List.map_cons,List.cons.injEq] at hv
     simp only [List.cons_append,A7]
     cases hq:Nat.beq t p.1 with
     | true=>
      right
      have:t=p.1:=Nat.eq_of_beq_eq_true hq
      subst this
      exact hv.1.symm
     | false=>
      refine ih hv.2 (fun s hs=>h4 s (by simp [hs])) (fun s hs e=>?_)
      rcases List.mem_cons.1 (h5 s hs e) with h | h
      ·subst e; rw [h] at hq; simp at hq
      ·exact h
   exact key news h1 (fun s hs=>hs) (fun s hs _=>hs)
theorem As {ops:List Oper}(K:Nat)(hs:List Nat)(news:List (Nat×AV))(hk:WO P f n d Q k all m (ops.drop K) (A7 (news++l)) ds (hp h0 ids xs) u)(hI:Ids h0 ids N:=by assumption)(hl:xs.length=N:=by rfl)
  (hc:(O1 P n all xs (ops.take K) hs l).map (fun r=>(news.map (fun p=>A7 r.1 p.1),r.2.1,Ahc (ops.take K) (news.map (·.1)) l))=some (news.map (·.2),((O1 P n all xs (ops.take K) hs l).elim [] fun r=>r.2.2.map fun q=>(ix ids q.1,q.2)),true):=by kernel_rfl):WO P f n d Q k all m ops (A7 l) ds (hp h0 ids xs) u:=Aqo K hs news hI hl hc hk
theorem By {ops:List Oper}{t:Nat}{b b':Bool}(hb:b=b')(ht:A7 l t=.bool b)(hk:WO P f n d Q k all m ops (A7 ((t,.bool b')::l)) ds h u):WO P f n d Q k all m ops (A7 l) ds h u:=by
 subst hb
 refine fun hV i hi=>Q8 (fun s=>?_) (hk hV i hi)
 right
 simp only [A7]
 cases hq:Nat.beq s t with
 | true=>rw [Nat.eq_of_beq_eq_true hq,ht]; rfl
 | false=>rfl
theorem C6 {ops:List Oper}{fr:Nat→AV}(js:List Nat){zs ys:List (Option AO)}(hI:Ids h0 ids N)(hl:xs.length=N)(hk:Rg N js=true)(hz:js.length=zs.length)(hr:WO P f n d Q k all m ops fr ds (hp h0 ids ys) u)
  (e:Rz js zs xs=ys:=by first | (simp only [List.set_cons_zero,List.set_cons_succ,List.cons_append,List.nil_append,List.replicate_succ,List.replicate_zero,Rz,Ux,Ue,AV.cells,AV.I,AV.q]; rfl) | rfl):WO P f n d Q k all m ops fr ds (hp (hp h0 ids (Sk js xs)) (W1 ids js) zs) u:=Aoi js ys hI hl hk hz e hr
theorem Bm {todo:List Item}{l':List (Nat×AV)}(hr:WR P f n d Q m todo (A7 l') ds h u)(hx:FrIs l l':=by repeat (first | exact .nil | refine .cons rfl ?_)):WR P f n d Q m todo (A7 l) ds h u:=Hv l' hx hr
theorem Ch {ops:List Oper}{l':List (Nat×AV)}(hr:WO P f n d Q k all m ops (A7 l') ds h u)(hx:FrIs l l':=by repeat (first | exact .nil | refine .cons rfl ?_)):WO P f n d Q k all m ops (A7 l) ds h u:=D7 l' hx hr
theorem A3 {todo:List Item}{fr:Nat→AV}{ys:List (Option AO)}(hr:WR P f n d Q m todo fr ds (hp h0 ids ys) u)(e:xs=ys:=by first | (simp only [List.set_cons_zero,List.set_cons_succ,List.cons_append,List.nil_append,List.replicate_succ,List.replicate_zero,Rz,Ux,Ue,AV.cells,AV.I,AV.q]; rfl) | rfl) :
  WR P f n d Q m todo fr ds (hp h0 ids xs) u:=e ▸ hr
end
section
variable {P:Program} [GW P] {fr:Nat→AV} {h:Ak} {all:List Oper} {pre:List (List Nat)} {pend:O3} {ty:TypeId} {pos:String} {after:Array Edge} {i:Nat}
theorem Xm {j t jg tj:Nat}{want:Bool}{v:AV}{op:Op}(hj:(all[jg]?).bind (·.dst)=some tj)(ho:all[j]? = some ⟨some t,op,ty,pos,after,some (jg,want)⟩)(hg:fr tj=.bool want)(hv:Ef P fr h op=some v)(hr:G7 P all pre i h pend):G7 P all pre i h ((j,fr,v)::pend):=by
 refine⟨?_,hr⟩
 split
 ·trivial
 ·rw [ho]; simp only [aF,G2 hj hg,hv]
end
section
variable {P:Program} [GW P] {h:Ak} {all:List Oper} {pre:List (List Nat)} {pend:O3} {i:Nat} {a b c d e f g o:Nat} {fa fb fc fd fe ff fg fo:Nat→AV} {va vb vc vd ve vf vg vo:AV}
theorem Be (hc:(cl pre i a&&cl pre i b)=true)(hr:G7 P all pre i h pend):G7 P all pre i h ((a,fa,va)::(b,fb,vb)::pend):=by
 rw [Bool.and_eq_true] at hc
 exact Ax hc.1 (Ax hc.2 hr)
theorem Bc (hc:((cl pre i a&&cl pre i b)&&(cl pre i c&&cl pre i d))=true)(hr:G7 P all pre i h pend):G7 P all pre i h ((a,fa,va)::(b,fb,vb)::(c,fc,vc)::(d,fd,vd)::pend):=by
 rw [Bool.and_eq_true] at hc
 exact Be hc.1 (Be hc.2 hr)
theorem Ba (hc:(((cl pre i a&&cl pre i b)&&(cl pre i c&&cl pre i d))&&((cl pre i e&&cl pre i f)&&(cl pre i g&&cl pre i o)))=true)(hr:G7 P all pre i h pend) :
  G7 P all pre i h ((a,fa,va)::(b,fb,vb)::(c,fc,vc)::(d,fd,vd)::(e,fe,ve)::(f,ff,vf)::(g,fg,vg)::(o,fo,vo)::pend):=by
 rw [Bool.and_eq_true] at hc
 exact Bc hc.1 (Bc hc.2 hr)
end
section
variable {P:Program} [GW P] {s ft:TypeId} {fs:List (Nat×TypeId)} {a b:Nat} {z:List AV} {F:TI}
theorem Ap {o g r:Nat}(c off i:Nat)(hT:ti P s=some ⟨.st fs,a,b,z⟩)(hf:fs[i]? = some (off,ft))(hF:ti P ft=some F)(h0:Nat.beq F.size 0=false):K3 P s (.ptr o g r c) i=some (.ptr o g r (c+off)):=Aox hT hf hF h0
end
theorem O {α:Sort _}{a:α}:a=a:=rfl
theorem FI {l l':List (Nat×AV)}(h:l'.map (fun p=>A7 l p.1)=l'.map (·.2)):FrIs l l':=by
 induction l' with
 | nil=>exact .nil
 | cons p r ih=>
  rw [List.map_cons,List.map_cons] at h
  injection h with h1 h2
  exact .cons h1 (ih h2)
end Go.Am
namespace Go.Am
open Go
set_option linter.unusedSimpArgs false
set_option linter.unusedVariables false
set_option linter.unusedSectionVars false
section
variable {P:Program} [GW P] {f:FuncId} {n:Nat} {d:FK} {β:Type} {Q:Spec β} {m:R β} {ds:List AD} {h:Ak} {u:AU} {k:List Item} {l:List (Nat×AV)} {all r:List Oper}
variable {h0:Ak} {ids:List Nat} {xs:List (Option AO)} {N:Nat} {ty:TypeId} {pos:String} {after:Array Edge}
theorem Aly {e:TypeId}{x:Operand}{v:AV}{j o g' n':Nat}{fr:Nat→AV}{K:AV→Ak→Prop}(hv:A8 v o g' n')(hI:Ids h0 ids N)(hl:xs.length=N)(hjn:Nat.blt j N=true)(hj:xs[j]? = some none)(hx:ev fr x=v)
  (hk : ∀ g,K (.ptr (ix ids j) g 0 0) (hp h0 ids (xs.set j (some (.rows g 1 [[v]]))))):Gw P fr (hp h0 ids xs) (.box e x) K:=by
 refine Anh (v:=v) hI hl hjn hj hx hv.ok (by rw [hv.cells]; simp [hv.flat]) fun g=>?_
 rw [hv.cells]
 exact hk g
theorem Aob {t:Nat}{e:TypeId}{x:Operand}{v:AV}{j o g' n':Nat}(hv:A8 v o g' n')(hI:Ids h0 ids N)(hl:xs.length=N)(hjn:Nat.blt j N=true)(hj:xs[j]? = some none)(ht:Nat.blt t n=true)(hx:ev (A7 l) x=v)
  (hk : ∀ g,WO P f n d Q k all m r (A7 ((t,.ptr (ix ids j) g 0 0)::l)) ds (hp h0 ids (xs.set j (some (.rows g 1 [[v]])))) u) :
  WO P f n d Q k all m (⟨some t,.box e x,ty,pos,after,none⟩::r) (A7 l) ds (hp h0 ids xs) u:=
 Xn ht (fun _ _=>rfl) fun K hK=>Aly hv hI hl hjn hj hx fun g=>hK _ _ (hk g)
end
theorem Aba {P:Program}[GW P]{g:FuncId}{γ:Type}{A:List AV}{u u':AU}{h0:Ak}{ids:List Nat}{N:Nat}{Hc:R γ}{ys zs:List (Option AO)}{cells:γ→List (Option AO)}(c1 c2:Nat)(hI:Ids h0 ids N)(hc:Nat.ble (c1+c2) N=true)(hy:ys.length=c1)(hz:zs.length=c2)(hcl : ∀ x,(cells x).length=c1)
  (h:Ids (hp h0 ((ids.drop c1).take c2) zs) (ids.take c1) c1→(∃ a,Hc=.ok a)→Ky P g A u (hp (hp h0 ((ids.drop c1).take c2) zs) (ids.take c1) ys) (Sw (fun x=>hp (hp h0 ((ids.drop c1).take c2) zs) (ids.take c1) (cells x)) u' Hc)) :
  (∃ a,Hc=.ok a)→Ky P g A u (hp h0 (ids.take (c1+c2)) (ys++zs)) (Sw (fun x=>hp h0 (ids.take (c1+c2)) (cells x++zs)) u' Hc):=by
 intro hx
 have hc':c1+c2≤N:=by simpa using hc
 have e:ids.take (c1+c2)=ids.take c1++(ids.drop c1).take c2:=List.take_add
 have hl1:(ids.take c1).length=c1:=by rw [List.length_take,hI.len]; omega
 have hn:=hI.nodup.sublist (List.take_sublist (c1+c2) ids)
 rw [e] at hn
 have hI1:Ids (hp h0 ((ids.drop c1).take c2) zs) (ids.take c1) c1:=by
  refine⟨(List.nodup_append.1 hn).1,fun o ho=>?_,hl1⟩
  rw [R7 fun hm=>(List.nodup_append.1 hn).2.2 o ho o hm rfl]
  exact hI.fresh o (List.mem_of_mem_take ho)
 have:=h hI1 hx
 rw [e,Ta (by rw [hl1,hy])]
 have e2:(fun x=>hp h0 (ids.take c1++(ids.drop c1).take c2) (cells x++zs))=fun x=>hp (hp h0 ((ids.drop c1).take c2) zs) (ids.take c1) (cells x):=by
  funext x
  rw [Ta (by rw [hl1,hcl])]
 rw [e2]
 exact this
end Go.Am
namespace Go.Am
open Go
@[irreducible] def Y5:Nat:=4000000
theorem Aid (S:Str):(Ht S).map (rI .u8)=S.map fun b=>[.int .u8 (b.toNat:Int)]:=by
 simp only [Ht,List.map_map]
 rfl
theorem Anv {P:Program}[GW P]{h:Ak}{S:Str}{n:Nat}{b:Bool}(hn:n=1)(hb:b=true):Of P h n b (.str S)=some ((Ht S).map (rI .u8)):=by
 subst hn; subst hb
 rw [Aid]
 rfl
section
set_option linter.unusedVariables false
set_option linter.unusedSectionVars false
variable {P:Program} [GW P] {f:FuncId} {n:Nat} {d:FK} {fr:Nat→AV} {ds:List AD} {h:Ak} {u:AU} {Q:QT} {k:List Item}
theorem Aco {ops:Array Oper}{i:Nat}{rest':List Nat}{t1 t2:Nat}{sT et:TypeId}{c:Nat}{ps:List (Nat×Operand)}{ty1 ty2:TypeId}{pos1 pos2:String}{af1 af2:Array Edge}{a1 b1:Nat}{z1:List AV}{E:TI}{rows rows':List (List AV)}
  (h1:ops[i]? = some ⟨some t1,.buildSlice sT c ⟨ps⟩,ty1,pos1,af1,none⟩) (h2:ops[i+1]? = some ⟨some t2,.convert sT sT (.tmp t1),ty2,pos2,af2,none⟩) (ht1:t1<n) (ht2:t2<n)
  (hS:ti P sT=some ⟨.sl et,a1,b1,z1⟩) (hE:ti P et=some E) (hk:E.k=.int .u8) (hc:c≠0) (hsz:0<E.size) (hlim:c * E.size≤2 ^ 24) (hz:E.z.all AV.flat=true)
  (hf:Pc E.size (List.replicate c E.z) (Pu fr ps)=some rows) (hsim:RowsSim E.size rows rows')
  (hr:Fo P f n d (.inRegion ops rest'::k) (Hp (Hp fr (some t1) .any) (some t2) (.sl E.size rows')) ds h u Q):Fo P f n d (.inRegion ops (i::(i+1)::rest')::k) fr ds h u Q:=by
 intro B mu w a cs p
 have s:=p.sim
 obtain⟨p1,p2⟩:=Zc p.fr ps
 obtain⟨dS,hdS,hkS⟩:=Gj hS
 have:=J5 hkS; subst this
 obtain⟨dE,hdE,hkE⟩:=Gj hE
 have:=Q1 (hk ▸ hkE); subst this
 obtain⟨dd,ii,z,e1,e2,e3,e4,e5,e6,e7,e8,_⟩:=Mz hE
 obtain⟨arr,f1,⟨r1,r2,r3⟩,f3⟩:=Sv (Pu fr ps) _ _ _ p1 p2 (Xs (i:=ii) e4 e5 hz c) hf
 rw [List.length_replicate] at f3
 have hrun:(Instr.buildSlice sT c (ps.map fun p=>(p.1,a.eval p.2)).toArray).run P w=.ok (.slice (some ⟨w.heap.size,0,none⟩) c c) (w.alloc (.cells arr et)):=by
  have f1':=f1
  have hlim':=hlim
  have hsz':=hsz
  rw [e7] at f1' hlim' hsz'
  exact run_buildSlice w sT et c _ arr ii z hdS e2 e3 (by omega) (by
   intro hq
   rcases Nat.mul_eq_zero.1 hq with hq | hq <;> omega) (by simpa using f1')
 have g1:(execOp a.eval ⟨some t1,.buildSlice sT c ⟨ps⟩,ty1,pos1,af1,none⟩).run P w=.ok (.value (.slice (some ⟨w.heap.size,0,none⟩) c c)) (w.alloc (.cells arr et)):=by
  simp only [execOp]
  have:(Array.map (fun p=>(p.1,a.eval p.2)) (⟨ps⟩:Array (Nat×Operand)))=(ps.map fun p=>(p.1,a.eval p.2)).toArray:=by simp
  simp [this,hrun]
 have hcv:=Lib.run_convert_bytes_const (P:=P) w sT et arr c c hdS hdE
 have hev:(a.put (some t1) (.slice (some ⟨w.heap.size,0,none⟩) c c)).eval (.tmp t1)=.slice (some ⟨w.heap.size,0,none⟩) c c:=by
  simp [Act.put,Act.eval,p.size,ht1]
 have g2:(execOp (a.put (some t1) (.slice (some ⟨w.heap.size,0,none⟩) c c)).eval ⟨some t2,.convert sT sT (.tmp t1),ty2,pos2,af2,none⟩).run P (w.alloc (.cells arr et))=.ok (.value (.slice (some ⟨w.heap.size,0,none⟩) c c)) (w.alloc (.cells arr et (arr.size,arr.size+1))):=by
  simp only [execOp,hev]
  simp [hcv]
 rw [← Oper.semAt_eq (b0 f d).roundOf _ _ (fun c hc=>by cases hc)] at g1
 rw [← Oper.semAt_eq (b0 f d).roundOf _ _ (fun c hc=>by cases hc)] at g2
 have st1:=Aak (b:=b0 f d) (a:=a) (rest:=(i+1)::rest') (k:=k) (cs:=cs) h1 rfl g1
 have st2:=Aak (b:=b0 f d) (a:=a.put (some t1) (.slice (some ⟨w.heap.size,0,none⟩) c c)) (rest:=rest') (k:=k) (cs:=cs) h2 rfl g2
 have hj:=s.junk (.cells arr et (arr.size,arr.size+1))
 have hLIM:c≤Ca:=by have:=Nat.le_mul_of_pos_right c hsz; unfold Ca; omega
 have hlen':rows'.length=c:=hsim.len.trans f3
 have hv:RV h mu (w.alloc (.cells arr et (arr.size,arr.size+1))) (.sl E.size rows') (.slice (some ⟨w.heap.size,0,none⟩) c c):=by
  have key : ∃ vs:Nat→Nat→Value,∀ i j,i<rows'.length→j<E.size→(w.alloc (.cells arr et (arr.size,arr.size+1))).cell? ⟨w.heap.size,0+i * E.size+j,none⟩=some (vs i j)∧RV h mu (w.alloc (.cells arr et (arr.size,arr.size+1))) (cell rows' i j) (vs i j):=by
   refine⟨fun i j=>((w.alloc (.cells arr et (arr.size,arr.size+1))).cell? ⟨w.heap.size,0+i * E.size+j,none⟩).getD undef,fun i j hi hj'=>?_⟩
   obtain⟨c',hc1,hc2⟩:=r3 i j (by rw [f3,← hlen']; exact hi) hj'
   have hx:(w.alloc (.cells arr et (arr.size,arr.size+1))).cell? ⟨w.heap.size,0+i * E.size+j,none⟩=some c':=by
    unfold World.cell?
    rw [Mh,Nat.zero_add]; simpa using hc1
   have hg:((w.alloc (.cells arr et (arr.size,arr.size+1))).cell? ⟨w.heap.size,0+i * E.size+j,none⟩).getD undef=c':=by rw [hx]; rfl
   refine⟨by show _=some (((w.alloc (.cells arr et (arr.size,arr.size+1))).cell? ⟨w.heap.size,0+i * E.size+j,none⟩).getD undef); rw [hg]; exact hx,?_⟩
   show RV h mu _ _ (((w.alloc (.cells arr et (arr.size,arr.size+1))).cell? ⟨w.heap.size,0+i * E.size+j,none⟩).getD undef)
   rw [hg]
   exact(hsim.cells i j (by rw [f3,← hlen']; exact hi) hj').rv (hc2.ext hj.2)
  obtain⟨vs,hvs⟩:=key
  have:=Rv.sl (w:=w.alloc (.cells arr et (arr.size,arr.size+1))) (mu:=mu) (M:=D2 h mu) E.size rows' w.heap.size 0 c vs (by omega) (by omega) (fun i j hi hj=>(hvs i j hi hj).1) (fun i j hi hj=>(hvs i j hi hj).2) hsim.ok (fun hm=>by have:=D2.lt s hm; omega) (by rw [Fk]; omega)
  rw [hlen'] at this
  exact this
 have q:=p.ext hj.2 hj.1
 have q1:=q.put (dst:=some t1) (by simpa [Gq] using ht1) (v:=.any) (c:=.slice (some ⟨w.heap.size,0,none⟩) c c) (.any _)
 have q2:=q1.put (dst:=some t2) (by simpa [Gq] using ht2) hv
 exact .ext hj.2 (.head st1 (.head st2 (hr B mu _ _ cs q2)))
end
section
variable {P:Program} [GW P] {f:FuncId} {n:Nat} {d:FK} {α β:Type} {Q:Spec β} {m:R β} {ds:List AD} {h:Ak} {u:AU} {k:List Item} {l:List (Nat×AV)} {all r:List Oper}
theorem X9 {L:List Int}{t1 t2:Nat}{sT et:TypeId}{c:Nat}{ps:List (Nat×Operand)}{ty1 ty2:TypeId}{pos1 pos2:String}{af1 af2:Array Edge}{a1 b1:Nat}{z1:List AV}{E:TI}{rows:List (List AV)}
  (ht1:Nat.blt t1 n=true) (ht2:Nat.blt t2 n=true) (hS:ti P sT=some ⟨.sl et,a1,b1,z1⟩) (hE:ti P et=some E) (hk:E.k=.int .u8) (hst:E.size=1)
  (hc:Nat.beq c 0=false) (hlim:Nat.ble c 16777216=true) (hz:E.z.all AV.flat=true) (hf:Pc E.size (List.replicate c E.z) (Pu (A7 l) ps)=some rows) (hsim:RowsSimL rows (L.map (rI .u8))) (hrl:rows.all (fun r=>Nat.beq r.length 1)=true)
  (hr:WO P f n d Q k all m r (A7 ((t2,.sl 1 (L.map (rI .u8)))::(t1,.any)::l)) ds h u):WO P f n d Q k all m (⟨some t1,.buildSlice sT c ⟨ps⟩,ty1,pos1,af1,none⟩::⟨some t2,.convert sT sT (.tmp t1),ty2,pos2,af2,none⟩::r) (A7 l) ds h u:=by
 intro hb i hi
 have h1:(⟨all⟩:Array Oper)[i]? = some ⟨some t1,.buildSlice sT c ⟨ps⟩,ty1,pos1,af1,none⟩:=by simpa using hi 0
 have h2:(⟨all⟩:Array Oper)[i+1]? = some ⟨some t2,.convert sT sT (.tmp t1),ty2,pos2,af2,none⟩:=by simpa using hi 1
 have hi' : ∀ j,all[i+1+1+j]? = r[j]? := fun j=>by have:=hi (j+2); rw [show i+(j+2)=i+1+1+j by omega] at this; simpa using this
 simp only [List.length_cons,List.range'_succ]
 have hc':c≠0:=fun q=>by rw [q] at hc; cases hc
 refine Aco (rows':=L.map (rI .u8)) h1 h2 (by simpa using ht1) (by simpa using ht2) hS hE hk hc' (by omega) (by rw [hst]; simpa using hlim) hz hf ?_ ?_
 ·exact hst ▸ hsim.sim (fun x=>Kp x) fun r hr'=>by simpa using List.all_eq_true.1 hrl r hr'
 ·rw [Fg,Fg,hst]
  exact hr hb (i+1+1) hi'
end
section
variable {P:Program} [GW P] {h:Ak} {α:Type} {e e':α→List AV} {L:List α} {x:α} {t et:TypeId} {a b st:Nat} {z:List AV} {E:TI} {k:IntKind}
theorem Qk {i:Int}(he : ∀ x,e x=e' x)(hT:ti P t=some ⟨.sl et,a,b,z⟩)(hE:ti P et=some E)(hs:st=E.size)(h0:0≤i)(hx:L[i.toNat]? = some x):G1 P h t (.sl st (L.map e)) (.int k i)=some (.cp (e' x) 0):=
 he x ▸ Ik hT hE hs h0 hx
theorem Xz {i:Nat}(he : ∀ x,e x=e' x)(hT:ti P t=some ⟨.sl et,a,b,z⟩)(hE:ti P et=some E)(hs:st=E.size)(hx:L[i]? = some x):G1 P h t (.sl st (L.map e)) (.int k (i:Int))=some (.cp (e' x) 0):=
 he x ▸ Pk hT hE hs hx
end
section
variable {P:Program} [GW P] {all:List Oper} {pre:List (List Nat)} {i:Nat} {h:Ak} {fr:Nat→AV} {pend:O3} {ty:TypeId} {pos:String} {after:Array Edge}
theorem Afh {j t jg tj:Nat}{want b:Bool}{op:Op}(hj:(all[jg]?).bind (·.dst)=some tj)(ho:all[j]? = some ⟨some t,op,ty,pos,after,some (jg,want)⟩)(hg:fr tj=.bool b)(hne:(b==want)=false)(hr:G7 P all pre i h pend):G7 P all pre i h ((j,fr,.und)::pend):=by
 refine⟨?_,hr⟩
 split
 ·trivial
 ·rw [ho]; simp only [aF,Rr hj hg,hne]
end
section
set_option linter.unusedVariables false
set_option linter.unusedSectionVars false
variable {P:Program} [GW P] {f:FuncId} {n:Nat} {d:FK} {α β:Type} {Q:Spec β} {m:R β} {ds:List AD} {h:Ak} {u:AU} {k:List Item} {l:List (Nat×AV)} {all r:List Oper}
theorem An5 {t et:TypeId}{a b st:Nat}{z:List AV}{E:TI}{L:List α}{e:α→List AV}{k k':IntKind}{i:Int}(hT:ti P t=some ⟨.sl et,a,b,z⟩)(hE:ti P et=some E)(hs:st=E.size)(hc:0≤i∧i≤(L.length:Int))(hp:i≠0) :
  Ma P h t (.sl st (L.map e)) none (some (.int k i)) (some (.int k' i))=some (.sl st ((L.take i.toNat).map e)):=by
 unfold Ma
 simp only [hT,hE]
 split
 ·rename_i q1 q2; cases q1; cases q2; exact absurd rfl hp
 ·rename_i q0 q1 q2; cases q0
 ·rename_i q0 q1 q2 _ _
  cases q1; cases q2
  cases q0
  rw [if_pos ⟨hs,hc.1,Int.le_refl _,by simpa using hc.2⟩]
  simp only [Il,List.drop_zero,Nat.sub_zero,List.map_take]
 ·rename_i q _ _
  exact(q _ _ _ _ _ rfl rfl rfl).elim
theorem Amj {t et:TypeId}{a b st:Nat}{z:List AV}{E:TI}{rows:List (List AV)}{k k':IntKind}(hT:ti P t=some ⟨.sl et,a,b,z⟩)(hE:ti P et=some E) :
  Ma P h t (.sl st rows) none (some (.int k 0)) (some (.int k' 0))=some .emp:=by
 simp only [Ma,hT,hE]
theorem Akh {t:Nat}{T et ty:TypeId}{pos:String}{after:Array Edge}{a b st:Nat}{z:List AV}{E:TI}{L:List α}{e:α→List AV}{k1 k2:IntKind}{i:Int}{x hi mx:Operand}
  (ht:Nat.blt t n=true) (hx:ev (A7 l) x=.sl st (L.map e)) (hh:ev (A7 l) hi=.int k1 i) (hm:ev (A7 l) mx=.int k2 i) (hT:ti P T=some ⟨.sl et,a,b,z⟩) (hE:ti P et=some E) (hs:st=E.size) (hc:0≤i∧i≤(L.length:Int))
  (hk:WO P f n d Q k all m r (A7 ((t,.sl st ((L.take i.toNat).map e))::l)) ds h u):WO P f n d Q k all m (⟨some t,.slice T x none (some hi) (some mx),ty,pos,after,none⟩::r) (A7 l) ds h u:=by
 by_cases hp:i=0
 ·subst hp
  refine Af .emp ht ?_ ?_
  ·show Ma P h T (ev (A7 l) x) none (some (ev (A7 l) hi)) (some (ev (A7 l) mx))=_
   rw [hx,hh,hm]
   exact Amj hT hE
  ·intro hb i hi'
   refine Abt (Jj.refl _) (fun s=>?_) rfl rfl (hk hb i hi')
   simp only [A7]
   cases hq:Nat.beq s t with
   | true=>exact .emp _
   | false=>exact .same _
 ·refine Af _ ht ?_ hk
  show Ma P h T (ev (A7 l) x) none (some (ev (A7 l) hi)) (some (ev (A7 l) mx))=_
  rw [hx,hh,hm]
  exact An5 hT hE hs hc hp
end
theorem Acq:Y5=4000000:=by unfold Y5; rfl
end Go.Am
namespace Go.Am
open Go
set_option maxRecDepth 100000
set_option maxHeartbeats 4000000
set_option linter.unusedSimpArgs false
set_option linter.unusedVariables false
structure Record where
 Term:Int
 Data:(List Int)
 deriving DecidableEq
def Aq (x:Record):List AV:=[(.int .i64 x.Term),(.sl 1 (List.map (rI .u8) x.Data))]
theorem L6 (x:Record):E8 2 (Aq x):=P1 rfl rfl
def Nj:Record:={ Term:=0,Data:=[] }
structure Message where
 Kind:Int
 From:Int
 To:Int
 Term:Int
 Last:Int
 LastTerm:Int
 Log:(List Record)
 Commit:Int
 Match:Int
 Granted:Bool
 deriving DecidableEq
def Ai (x:Message):List AV:=[(.int .i64 x.Kind),(.int .i64 x.From),(.int .i64 x.To),(.int .i64 x.Term),(.int .i64 x.Last),(.int .i64 x.LastTerm),(.sl 2 (List.map Aq x.Log)),(.int .i64 x.Commit),(.int .i64 x.Match),(.bool x.Granted)]
theorem Ip (x:Message):E8 10 (Ai x):=P1 rfl rfl
structure T44 where
 Kind:Int
 At:Int
 Data:Int
 deriving DecidableEq
def Qv (x:T44):List AV:=[(.int .u8 x.Kind),(.int .u8 x.At),(.int .u8 x.Data)]
theorem Apg (x:T44):E8 3 (Qv x):=P1 rfl rfl
structure Replica where
 ID:Int
 Many:Int
 Term:Int
 Vote:Int
 Log:(List Record)
 Role:Int
 Commit:Int
 Votes:(List Bool)
 Match:(List Int)
 deriving DecidableEq
def Ao (x:Replica):List AV:=[(.int .i64 x.ID),(.int .i64 x.Many),(.int .i64 x.Term),(.int .i64 x.Vote),(.sl 2 (List.map Aq x.Log)),(.int .i64 x.Role),(.int .i64 x.Commit),(.sl 1 (List.map rB x.Votes)),(.sl 1 (List.map (rI .i64) x.Match))]
theorem Aiu (x:Replica):E8 9 (Ao x):=P1 rfl rfl
structure T38 where
 fReplicas:(List Replica)
 fSent:(List Message)
 deriving DecidableEq
structure Value where
 Kind:Int
 N:Int
 S:Str
 L:(List Value)
mutual
def rValueA:Value→List AV
 | ⟨Kind_,N_,S_,L_⟩=>[(.int .i64 Kind_),(.int .i64 N_),(.str S_),(.sl 4 (rValueAs L_))]
def rValueAs:List Value→List (List AV)
 | []=>[]
 | a::l=>rValueA a::rValueAs l
end
theorem Aad : ∀ l:List Value,rValueAs l=l.map rValueA
 | []=>by rw [rValueAs]; rfl
 | a::l=>by rw [rValueAs,List.map_cons,Aad l]
def Bt (x:Value):List AV:=[(.int .i64 x.Kind),(.int .i64 x.N),(.str x.S),(.sl 4 (List.map rValueA x.L))]
theorem Hn (x:Value):rValueA x=Bt x:=by
 cases x
 rw [rValueA]
 simp only [Aad]
 rfl
theorem Lk {w:List AV}{x:Value}(h:RowSim w (Bt x)):RowSim w (rValueA x):=(Hn x).symm ▸ h
theorem Sr (x:Value):E8 4 (rValueA x):=by rw [Hn]; exact P1 rfl rfl
def zeroValue:Value:={ Kind:=0,N:=0,S:=[],L:=[] }
structure T87 where
 Replica:Replica
 fSent:(List Message)
 deriving DecidableEq
def Xe (x:T87):List AV:=[(.int .i64 x.Replica.ID),(.int .i64 x.Replica.Many),(.int .i64 x.Replica.Term),(.int .i64 x.Replica.Vote),(.sl 2 (List.map Aq x.Replica.Log)),(.int .i64 x.Replica.Role),(.int .i64 x.Replica.Commit),(.sl 1 (List.map rB x.Replica.Votes)),(.sl 1 (List.map (rI .i64) x.Replica.Match)),(.sl 10 (List.map Ai x.fSent))]
structure T104 where
 fE:Int
 deriving DecidableEq
def Abk (x:T104):List AV:=[(.int .i64 x.fE)]
structure T107 where
 fRest:(List Int)
 deriving DecidableEq
def Kn (x:T107):List AV:=[(.sl 1 (List.map (rI .u8) x.fRest))]
structure T111 where
 B:(List Int)
 At:Int
 Bad:Bool
 deriving DecidableEq
end Go.Am
namespace Go.Am
open Go
set_option maxRecDepth 100000
set_option maxHeartbeats 4000000
set_option linter.unusedSimpArgs false
set_option linter.unusedVariables false
noncomputable section
def Bv (n:Int)(lo:Int)(hi:Int):R Bool:=
 .ok ((decide (lo≤n))&&(decide (n≤hi)))
def L8 (rID:Int)(rMany:Int)(rTerm:Int)(rVote:Int)(rRole:Int)(rCommit:Int):R Unit:=
 .ok ()
def Kx (l:List Bool)(l1:List Int):R ((List Bool)×(List Int)):=
 .ok (l,l1)
def I0 (n:Int):R ((List Bool)×(List Int)):=
 if(0:Int)≤n∧(n:Int)≤n∧(Int.toNat n) * 1≤Ca then
 if(0:Int)≤n∧(n:Int)≤n∧(Int.toNat n) * 8≤Ca then
 Kx (List.replicate (Int.toNat n) false) (List.replicate (Int.toNat n) (0:Int)) else .bad else .bad
def Iu (s_ReplicaID:Int)(s_ReplicaMany:Int)(s_ReplicaTerm:Int)(s_ReplicaVote:Int)(s_ReplicaRole:Int)(s_ReplicaCommit:Int):R ((List Bool)×(List Int)):=
 (Bv s_ReplicaMany 0 5).bind fun r=>
 if r then
(I0 s_ReplicaMany)
else
(I0 0)
def Jg (id:Int)(many:Int):R (Replica×Int):=
 (Bv many 1 5).bind fun r=>
 (if(!r) then R.ok true else(Bv id 0 (IntKind.wrap .i64 (many - 1))).bind fun r1=>
 R.ok (!r1)).bind (fun(b:Bool)=>if b then
(.ok (({ ID:=0,Many:=0,Term:=0,Vote:=0,Log:=[],Role:=0,Commit:=0,Votes:=[],Match:=[] }:Replica),470))
else
((L8 id many 0 (-1) 0 0).bind fun _=>
 (Iu id many 0 (-1) 0 0).bind fun r2=>
 .ok (({ ID:=id,Many:=many,Term:=0,Vote:=(-1),Log:=[],Role:=0,Commit:=0,Votes:=r2.1,Match:=r2.2 }:Replica),0)))
def Bl (ok:Bool)(e:Int):R Unit:=
 if ok then
(.ok ())
else
(.pan ⟨105,.one .i64 e⟩)
def Ib (x1:Bool):R (Unit ⊕ Bool):=
 if x1 then
(.ok (.inr (false)))
else
(.ok (.inl ()))
def Ki (l:List Record)(term:Int)(j:Nat)(a:Record):R (Unit ⊕ Bool):=
 (Bv a.Term 1 term).bind fun r=>
 if(!r) then
(Ib true)
else
(if(decide ((j:Int) > 0)) then
((Cs l (IntKind.wrap .i64 ((j:Int) - 1))).bind fun a1=>
 Ib (decide (a1.Term > a.Term)))
else
(Ib false))
def G6 (l:List Record)(term:Int):R Bool:=
 (each (fun j a=>fun _=>Ki l term j a) 0 l ()).bind (Jk (fun _=>.ok true) (fun r=>.ok r))
def Jp:R Unit:=
 .ok ()
def Ff (p:T104):R Unit:=
 .ok ()
def F8 (n:Int):R Int:=
 (Ff ({ fE:=n }:T104)).bind fun _=>
 .ok (({ fE:=n }:T104).fE)
def Fe (r:Replica)(j:Nat)(a:Int):R Unit:=
 (Bv a 0 (r.Log.length:Int)).bind fun r10=>
 (Bl r10 470).bind fun _=>
 (if(r.Role != 0) then R.ok true else(if(a==0) then(Cs r.Votes (j:Int)).bind fun a1=>
 R.ok (!a1) else R.ok false).bind (fun(b6:Bool)=>R.ok b6)).bind (fun(b5:Bool)=>(Bl b5 470).bind fun _=>
 .ok ())
def Lf (r:Replica):R Int:=
 (Bv r.Many 1 5).bind fun r1=>
 (if r1 then(Bv r.ID 0 (IntKind.wrap .i64 (r.Many - 1))).bind fun r2=>
 R.ok r2 else R.ok false).bind (fun(b:Bool)=>(if b then(Bv r.Term 0 1048576).bind fun r3=>
 R.ok r3 else R.ok false).bind (fun(b1:Bool)=>(if b1 then(Bv r.Vote (-1) (IntKind.wrap .i64 (r.Many - 1))).bind fun r4=>
 R.ok r4 else R.ok false).bind (fun(b2:Bool)=>(Bl b2 470).bind fun _=>
 (G6 r.Log r.Term).bind fun r6=>
 (if r6 then(Bv r.Role 0 2).bind fun r7=>
 R.ok r7 else R.ok false).bind (fun(b3:Bool)=>(if b3 then(Bv r.Commit 0 (r.Log.length:Int)).bind fun r8=>
 R.ok r8 else R.ok false).bind (fun(b4:Bool)=>(Bl ((b4&&((r.Votes.length:Int)==r.Many))&&((r.Match.length:Int)==r.Many)) 470).bind fun _=>
 (Gb (fun j a=>fun _=>Fe r j a) 0 r.Match ()).bind ((fun _=>(if(r.Role==0) then R.ok true else(if((r.Vote==r.ID)&&(decide (r.Term≥1))) then(Cs r.Votes r.ID).bind fun a2=>
 R.ok a2 else R.ok false).bind (fun(b8:Bool)=>R.ok b8)).bind (fun(b7:Bool)=>(Bl b7 470).bind fun _=>
 .ok 0))))))))
def D6 (r:Replica):R Int:=
 (Lf r).catch' (Iw 105 .i64 (fun n=>(F8 n).bind fun p=>.ok p) (fun _=>.bad))
def Dg (r:Replica):R Unit:=
 .ok ()
def Gy (s:List Record):R (List Record):=if s.length * 32≤Ca then .ok s else .bad
def Fv (s:List Int):R (List Int):=if s.length * 8≤Ca then .ok s else .bad
def Ew (l:List Int):R Unit:=
 .ok ()
section
variable {σ_:Type}
def Gd (b_:Int→σ_→R σ_)(a:Int)(s:σ_):R σ_:=
 (b_ a s).bind fun s1=>
 .ok s1
def Ko (b:List Int)(b_:Int→σ_→R σ_)(s_:σ_):R σ_:=
 (Gb (fun _ a=>fun s=>Gd b_ a s) 0 b s_).bind ((fun s=>.ok s))
end
def N1 (l:List Int):R Unit:=R1 l
def Fs (a:Int)(l:List Int):R (List Int):=
 if(l.length+[a].length) * 8≤Ca then
 .ok (l++[a]) else .bad
def H9 (s:List Int):R (List Int):=
 (Ko s (fun a z_=>R.np ((fun l=>Fs a l) z_)) []).bind (fun l=>.ok l)
def Gc (s:List Int):R (List Int):=
 (H9 s).bind fun r=>
 .ok r
def D5 (s:List Int):R (List Int):=
 (Gc s).bind fun s1=>
 (N1 s1).bind fun _=>
 .ok (Hb s1)
def Eo (s0_ReplicaCommit:Int)(a:Int)(x:Bool)(l3:List Record):R (Int×(List Record)):=
 if x then
(.ok (a,l3))
else
(.ok (s0_ReplicaCommit,l3))
def D9 (s0_ReplicaID:Int)(s0_ReplicaMany:Int)(s0_ReplicaTerm:Int)(s0_ReplicaVote:Int)(s0_ReplicaRole:Int)(s0_ReplicaCommit:Int)(s0_ReplicaVotes:List Bool)(l:List Record)(l1:List Int):R (Int×(List Record)):=
 (Ew l1).bind fun _=>
 (D5 l1).bind fun l2=>
 (Cs l2 (IntKind.wrap .i64 (Int.tdiv (IntKind.wrap .i64 ((l2.length:Int) - 1)) 2))).bind fun a=>
 if(decide (a > s0_ReplicaCommit)) then
((Cs l (IntKind.wrap .i64 (a - 1))).bind fun a1=>
 Eo s0_ReplicaCommit a (a1.Term==s0_ReplicaTerm) l)
else
(Eo s0_ReplicaCommit a false l)
def Kc (vto:Int)(m:Message)(s0_Replica:Replica)(l:List Message):R (List Message):=
 if(l.length+[({ Kind:=m.Kind,From:=s0_Replica.ID,To:=vto,Term:=s0_Replica.Term,Last:=m.Last,LastTerm:=m.LastTerm,Log:=m.Log,Commit:=m.Commit,Match:=m.Match,Granted:=m.Granted }:Message)].length) * 96≤Ca then
 .ok (l++[({ Kind:=m.Kind,From:=s0_Replica.ID,To:=vto,Term:=s0_Replica.Term,Last:=m.Last,LastTerm:=m.LastTerm,Log:=m.Log,Commit:=m.Commit,Match:=m.Match,Granted:=m.Granted }:Message)]) else .bad
def Hy (m:Message)(s_Replica:Replica)(x:Int)(l:List Message):R ((Int×(List Message)) ⊕ (List Message)):=
 if x<s_Replica.Many then
(if(x != s_Replica.ID) then
((Kc x m s_Replica l).bind fun r=>
 .ok (.inl ((IntKind.wrap .i64 (x+1)),r)))
else
(.ok (.inl ((IntKind.wrap .i64 (x+1)),l))))
else
(.ok (.inr (l)))
def Je (l1:List Message):R (List Message):=
 .ok l1
def Gz (m:Message)(s_Replica:Replica):R (List Message):=
 (loop (Dn fun x l=>Hy m s_Replica x l) (0,[])).bind (fun l1=>Je l1)
def E5 (s0_ReplicaID:Int)(s0_ReplicaMany:Int)(s0_ReplicaTerm:Int)(s0_ReplicaVote:Int)(s0_ReplicaRole:Int)(s0_ReplicaCommit:Int)(s0_ReplicaVotes:List Bool)(s0_ReplicaMatch:List Int)(l:List Record):R (List Message):=
 (Gz ({ Kind:=3,From:=0,To:=0,Term:=0,Last:=0,LastTerm:=0,Log:=l,Commit:=s0_ReplicaCommit,Match:=0,Granted:=false }:Message) ({ ID:=s0_ReplicaID,Many:=s0_ReplicaMany,Term:=s0_ReplicaTerm,Vote:=s0_ReplicaVote,Log:=l,Role:=s0_ReplicaRole,Commit:=s0_ReplicaCommit,Votes:=s0_ReplicaVotes,Match:=s0_ReplicaMatch }:Replica)).bind fun r=>
 .ok r
def Jw (r:Replica)(l:List Record):R (Replica×(List Message)×Int):=
 (Fv r.Match).bind fun r3=>
 (Cs r3 r.ID).bind fun a=>
 (D9 r.ID r.Many r.Term r.Vote r.Role r.Commit r.Votes l (r3.set r.ID.toNat (l.length:Int))).bind fun r4=>
 (E5 r.ID r.Many r.Term r.Vote r.Role r4.1 r.Votes (r3.set r.ID.toNat (l.length:Int)) r4.2).bind fun r5=>
 .ok (({ ID:=r.ID,Many:=r.Many,Term:=r.Term,Vote:=r.Vote,Log:=r4.2,Role:=r.Role,Commit:=r4.1,Votes:=r.Votes,Match:=(r3.set r.ID.toNat (l.length:Int)) }:Replica),r5,0)
def Ha (r:Replica)(data:List Int):R (Replica×(List Message)×Int):=
 (D6 r).bind fun e=>
 if(e != 0) then
(.ok (({ ID:=0,Many:=0,Term:=0,Vote:=0,Log:=[],Role:=0,Commit:=0,Votes:=[],Match:=[] }:Replica),[],e))
else
(if(r.Role != 2) then
(.ok (({ ID:=0,Many:=0,Term:=0,Vote:=0,Log:=[],Role:=0,Commit:=0,Votes:=[],Match:=[] }:Replica),[],470))
else
(if(r.Log.length:Int)≥4096 then
(.ok (({ ID:=0,Many:=0,Term:=0,Vote:=0,Log:=[],Role:=0,Commit:=0,Votes:=[],Match:=[] }:Replica),[],2))
else
((Dg r).bind fun _=>
 (Gy r.Log).bind fun r1=>
 if(r1.length+[({ Term:=r.Term,Data:=data }:Record)].length) * 32≤Ca then
 Jw r (r1++[({ Term:=r.Term,Data:=data }:Record)]) else .bad)))
def J3 (l:List Bool)(l1:List Int):R ((List Bool)×(List Int)):=
 .ok (l,l1)
def Ic (n:Int):R ((List Bool)×(List Int)):=
 if(0:Int)≤n∧(n:Int)≤n∧(Int.toNat n) * 1≤Ca then
 if(0:Int)≤n∧(n:Int)≤n∧(Int.toNat n) * 8≤Ca then
 J3 (List.replicate (Int.toNat n) false) (List.replicate (Int.toNat n) (0:Int)) else .bad else .bad
def Cx (s_Replica:Replica):R ((List Bool)×(List Int)):=
 (Bv s_Replica.Many 0 5).bind fun r=>
 if r then
(Ic s_Replica.Many)
else
(Ic 0)
def Gn (s:T87):R Int:=
 if((s.Replica.Log.length:Int)==0) then
(.ok 0)
else
((Cs s.Replica.Log (IntKind.wrap .i64 ((s.Replica.Log.length:Int) - 1))).bind fun a=>
 .ok a.Term)
def Fl (vto:Int)(mKind:Int)(mFrom:Int)(mTo:Int)(mTerm:Int)(mLast:Int)(mLastTerm:Int)(mCommit:Int)(mMatch:Int)(mGranted:Bool)(s_Replica:Replica):R (List Message):=
 if [({ Kind:=mKind,From:=s_Replica.ID,To:=vto,Term:=s_Replica.Term,Last:=mLast,LastTerm:=mLastTerm,Log:=[],Commit:=mCommit,Match:=mMatch,Granted:=mGranted }:Message)].length * 96≤Ca then
 .ok [({ Kind:=mKind,From:=s_Replica.ID,To:=vto,Term:=s_Replica.Term,Last:=mLast,LastTerm:=mLastTerm,Log:=[],Commit:=mCommit,Match:=mMatch,Granted:=mGranted }:Message)] else .bad
def I8 (m:Message)(granted:Bool)(vReplica:Replica):R (Replica×(List Message)):=
 (Fl m.From 2 0 0 0 0 0 0 0 granted vReplica).bind fun r2=>
 .ok (vReplica,r2)
def Fm (m:Message)(s_Replica:Replica)(granted:Bool):R (Replica×(List Message)):=
 if granted then
(I8 m granted ({ ID:=s_Replica.ID,Many:=s_Replica.Many,Term:=s_Replica.Term,Vote:=m.From,Log:=s_Replica.Log,Role:=s_Replica.Role,Commit:=s_Replica.Commit,Votes:=s_Replica.Votes,Match:=s_Replica.Match }:Replica))
else
(I8 m granted s_Replica)
def Gt (m:Message)(s_Replica:Replica)(good:Bool):R (Replica×(List Message)):=
 if(m.Term==s_Replica.Term) then
(if(s_Replica.Vote==(-1)) then
(Fm m s_Replica good)
else
(if(s_Replica.Vote==m.From) then
(Fm m s_Replica good)
else
(Fm m s_Replica false)))
else
(Fm m s_Replica false)
def H5 (m:Message)(s_Replica:Replica):R (Replica×(List Message)):=
 (Gn ({ Replica:=s_Replica,fSent:=[] }:T87)).bind fun r=>
 if(decide (m.LastTerm > r)) then
(Gt m s_Replica true)
else
((Gn ({ Replica:=s_Replica,fSent:=[] }:T87)).bind fun r1=>
 if(m.LastTerm==r1) then
(Gt m s_Replica (decide (m.Last≥(s_Replica.Log.length:Int))))
else
(Gt m s_Replica false))
def Ls (s:List Bool):R (List Bool):=if s.length * 1≤Ca then .ok s else .bad
def Em (s0_ReplicaCommit:Int)(a:Int)(x:Bool):R Int:=
 if x then
(.ok a)
else
(.ok s0_ReplicaCommit)
def Et (s0_ReplicaID:Int)(s0_ReplicaMany:Int)(s0_ReplicaTerm:Int)(s0_ReplicaVote:Int)(s0_ReplicaLog:List Record)(s0_ReplicaRole:Int)(s0_ReplicaCommit:Int)(l:List Bool)(l1:List Int):R Int:=
 (Ew l1).bind fun _=>
 (D5 l1).bind fun l2=>
 (Cs l2 (IntKind.wrap .i64 (Int.tdiv (IntKind.wrap .i64 ((l2.length:Int) - 1)) 2))).bind fun a=>
 if(decide (a > s0_ReplicaCommit)) then
((Cs s0_ReplicaLog (IntKind.wrap .i64 (a - 1))).bind fun a1=>
 Em s0_ReplicaCommit a (a1.Term==s0_ReplicaTerm))
else
(Em s0_ReplicaCommit a false)
def Jz (vto:Int)(m:Message)(s0_ReplicaID:Int)(s0_ReplicaMany:Int)(s0_ReplicaTerm:Int)(s0_ReplicaVote:Int)(s0_ReplicaLog:List Record)(s0_ReplicaRole:Int)(s0_ReplicaCommit:Int)(s0_ReplicaMatch:List Int)(l:List Message):R (List Message):=
 if(l.length+[({ Kind:=m.Kind,From:=s0_ReplicaID,To:=vto,Term:=s0_ReplicaTerm,Last:=m.Last,LastTerm:=m.LastTerm,Log:=m.Log,Commit:=m.Commit,Match:=m.Match,Granted:=m.Granted }:Message)].length) * 96≤Ca then
 .ok (l++[({ Kind:=m.Kind,From:=s0_ReplicaID,To:=vto,Term:=s0_ReplicaTerm,Last:=m.Last,LastTerm:=m.LastTerm,Log:=m.Log,Commit:=m.Commit,Match:=m.Match,Granted:=m.Granted }:Message)]) else .bad
def H1 (m:Message)(s_ReplicaID:Int)(s_ReplicaMany:Int)(s_ReplicaTerm:Int)(s_ReplicaVote:Int)(s_ReplicaLog:List Record)(s_ReplicaRole:Int)(s_ReplicaCommit:Int)(s_ReplicaMatch:List Int)(x:Int)(l:List Message):R ((Int×(List Message)) ⊕ (List Message)):=
 if x<s_ReplicaMany then
(if(x != s_ReplicaID) then
((Jz x m s_ReplicaID s_ReplicaMany s_ReplicaTerm s_ReplicaVote s_ReplicaLog s_ReplicaRole s_ReplicaCommit s_ReplicaMatch l).bind fun r=>
 .ok (.inl ((IntKind.wrap .i64 (x+1)),r)))
else
(.ok (.inl ((IntKind.wrap .i64 (x+1)),l))))
else
(.ok (.inr (l)))
def Jf (l1:List Message):R (List Message):=
 .ok l1
def F0 (m:Message)(s_ReplicaID:Int)(s_ReplicaMany:Int)(s_ReplicaTerm:Int)(s_ReplicaVote:Int)(s_ReplicaLog:List Record)(s_ReplicaRole:Int)(s_ReplicaCommit:Int)(s_ReplicaMatch:List Int):R (List Message):=
 (loop (Dn fun x l=>H1 m s_ReplicaID s_ReplicaMany s_ReplicaTerm s_ReplicaVote s_ReplicaLog s_ReplicaRole s_ReplicaCommit s_ReplicaMatch x l) (0,[])).bind (fun l1=>Jf l1)
def Gk (s_ReplicaID:Int)(s_ReplicaMany:Int)(s_ReplicaTerm:Int)(s_ReplicaVote:Int)(s_ReplicaLog:List Record)(s_ReplicaRole:Int)(s_ReplicaCommit:Int)(s_ReplicaMatch:List Int):R (List Message):=
 (F0 ({ Kind:=3,From:=0,To:=0,Term:=0,Last:=0,LastTerm:=0,Log:=s_ReplicaLog,Commit:=s_ReplicaCommit,Match:=0,Granted:=false }:Message) s_ReplicaID s_ReplicaMany s_ReplicaTerm s_ReplicaVote s_ReplicaLog s_ReplicaRole s_ReplicaCommit s_ReplicaMatch).bind fun r=>
 .ok r
def Hg (s0_ReplicaID:Int)(s0_ReplicaMany:Int)(s0_ReplicaTerm:Int)(s0_ReplicaVote:Int)(s0_ReplicaLog:List Record)(s0_ReplicaCommit:Int)(l:List Bool)(l1:List Int):R (Int×(List Int)×(List Message)):=
 (Cs l1 s0_ReplicaID).bind fun a=>
 (Et s0_ReplicaID s0_ReplicaMany s0_ReplicaTerm s0_ReplicaVote s0_ReplicaLog 2 s0_ReplicaCommit l (l1.set s0_ReplicaID.toNat (s0_ReplicaLog.length:Int))).bind fun r=>
 (Gk s0_ReplicaID s0_ReplicaMany s0_ReplicaTerm s0_ReplicaVote s0_ReplicaLog 2 r (l1.set s0_ReplicaID.toNat (s0_ReplicaLog.length:Int))).bind fun r1=>
 .ok (r,(l1.set s0_ReplicaID.toNat (s0_ReplicaLog.length:Int)),r1)
def Ek (s0_ReplicaID:Int)(s0_ReplicaMany:Int)(s0_ReplicaTerm:Int)(s0_ReplicaVote:Int)(s0_ReplicaLog:List Record)(s0_ReplicaRole:Int)(s0_ReplicaCommit:Int)(s0_ReplicaMatch:List Int)(l:List Bool):R (Int×(List Int)×(List Message)):=
 if(0:Int)≤s0_ReplicaMany∧(s0_ReplicaMany:Int)≤s0_ReplicaMany∧(Int.toNat s0_ReplicaMany) * 8≤Ca then
 Hg s0_ReplicaID s0_ReplicaMany s0_ReplicaTerm s0_ReplicaVote s0_ReplicaLog s0_ReplicaCommit l (List.replicate (Int.toNat s0_ReplicaMany) (0:Int)) else .bad
def Fi (j:Nat)(n:Int)(x2:List Bool):R (Int×(List Bool)):=
 (Cs x2 (j:Int)).bind fun a2=>
 if a2 then
(.ok ((IntKind.wrap .i64 (n+1)),x2))
else
(.ok (n,x2))
def Dz (m:Message)(s_Replica:Replica)(x:Bool):R (Int×Int×(List Bool)×(List Int)×(List Message)):=
 if x then
(.ok (s_Replica.Role,s_Replica.Commit,s_Replica.Votes,s_Replica.Match,[]))
else
((Ls s_Replica.Votes).bind fun r=>
 (Cs r m.From).bind fun a=>
 (Gb (fun j _=>Dn fun n x2=>Fi j n x2) 0 (r.set m.From.toNat true) (0,(r.set m.From.toNat true))).bind ((Dn fun n x2=>if(IntKind.wrap .i64 (2 * n)) > s_Replica.Many then
((Ek s_Replica.ID s_Replica.Many s_Replica.Term s_Replica.Vote s_Replica.Log s_Replica.Role s_Replica.Commit s_Replica.Match x2).bind fun r1=>
 .ok (2,r1.1,x2,r1.2.1,r1.2.2))
else
(.ok (s_Replica.Role,s_Replica.Commit,x2,s_Replica.Match,[])))))
def E2 (m:Message)(s_Replica:Replica):R (Int×Int×(List Bool)×(List Int)×(List Message)):=
 if(s_Replica.Role != 1) then
(Dz m s_Replica true)
else
(if(m.Term != s_Replica.Term) then
(Dz m s_Replica true)
else
(Dz m s_Replica (!m.Granted)))
def Lj (a:List Record)(b:List Record):R Unit:=
 .ok ()
section
variable {σ_ ε_:Type}
def Fw (b:List Record)(c:List Record)(b_:Record→Record→σ_→R (σ_ ⊕ ε_))(x:Int)(s:σ_):R ((Int×σ_) ⊕ (σ_ ⊕ (σ_ ⊕ ε_))):=
 if x<(if(c.length:Int)<(b.length:Int) then(c.length:Int) else(b.length:Int)) then
((Cs b x).bind fun a=>
 (Cs c x).bind fun a1=>
 (b_ a a1 s).bind (Jk (fun s1=>
 .ok (.inl ((IntKind.wrap .i64 (x+1)),s1))) (fun e=>
 .ok (.inr (.inr ((.inr e)))))))
else
(.ok (.inr (.inl (s))))
def I7 (s2:σ_):R (σ_ ⊕ ε_):=
 .ok (.inl s2)
def Jm (b:List Record)(c:List Record)(b_:Record→Record→σ_→R (σ_ ⊕ ε_))(s_:σ_):R (σ_ ⊕ ε_):=
 (loop (Dn fun x s=>Fw b c b_ x s) (0,s_)).bind (Jk (fun s2=>I7 s2) (fun r=>.ok r))
end
def H4 (a1:Record)(a2:Record):R (Unit ⊕ Unit):=
 if((a1.Term != a2.Term)||(!((Cy a1.Data)==(Cy a2.Data)))) then
(.ok (.inr ()))
else
(.ok (.inl ()))
def Jn (a:List Record)(b:List Record):R Bool:=
 (Lj a b).bind fun _=>
 (Jm a b (fun a1 a2 z_=>R.np ((fun _=>H4 a1 a2) z_)) ()).bind (Jk (fun _=>.ok (decide ((a.length:Int)≤(b.length:Int)))) (fun _=>.ok false))
def Ju (vto:Int)(mKind:Int)(mFrom:Int)(mTo:Int)(mTerm:Int)(mLast:Int)(mLastTerm:Int)(mCommit:Int)(mMatch:Int)(mGranted:Bool)(s_ReplicaID:Int)(s_ReplicaMany:Int)(s_ReplicaTerm:Int)(s_ReplicaVote:Int)(s_ReplicaLog:List Record)(s_ReplicaRole:Int)(s_ReplicaCommit:Int):R (List Message):=
 if [({ Kind:=mKind,From:=s_ReplicaID,To:=vto,Term:=s_ReplicaTerm,Last:=mLast,LastTerm:=mLastTerm,Log:=[],Commit:=mCommit,Match:=mMatch,Granted:=mGranted }:Message)].length * 96≤Ca then
 .ok [({ Kind:=mKind,From:=s_ReplicaID,To:=vto,Term:=s_ReplicaTerm,Last:=mLast,LastTerm:=mLastTerm,Log:=[],Commit:=mCommit,Match:=mMatch,Granted:=mGranted }:Message)] else .bad
def Ey (m:Message)(s_Replica:Replica)(r1:((List Bool)×(List Int)))(vLog:List Record):R ((List Record)×Int×Int×(List Bool)×(List Int)×(List Message)):=
 (Ju m.From 4 0 0 0 0 0 0 (m.Log.length:Int) true s_Replica.ID s_Replica.Many s_Replica.Term s_Replica.Vote vLog 0 (if m.Commit > s_Replica.Commit then m.Commit else s_Replica.Commit)).bind fun r5=>
 .ok (vLog,0,(if m.Commit > s_Replica.Commit then m.Commit else s_Replica.Commit),r1.1,r1.2,r5)
def Fq (m:Message)(s_Replica:Replica):R ((List Record)×Int×Int×(List Bool)×(List Int)×(List Message)):=
 if m.Term<s_Replica.Term then
((Fl m.From 4 0 0 0 0 0 0 0 false s_Replica).bind fun r=>
 .ok (s_Replica.Log,s_Replica.Role,s_Replica.Commit,s_Replica.Votes,s_Replica.Match,r))
else
(if(s_Replica.Role==2) then
(.ok (s_Replica.Log,s_Replica.Role,s_Replica.Commit,s_Replica.Votes,s_Replica.Match,[]))
else
((Cx s_Replica).bind fun r1=>
 (Jn m.Log s_Replica.Log).bind fun r2=>
 if r2 then
(Ey m s_Replica r1 s_Replica.Log)
else
(if(0:Int)≤s_Replica.Commit∧s_Replica.Commit≤(s_Replica.Log.length:Int) then
 (Jn (s_Replica.Log.take (Int.toNat s_Replica.Commit)) m.Log).bind fun r3=>
 (Bl r3 470).bind fun _=>
 Ey m s_Replica r1 m.Log else .bad)))
def En (s0_ReplicaID:Int)(s0_ReplicaMany:Int)(s0_ReplicaTerm:Int)(s0_ReplicaVote:Int)(s0_ReplicaLog:List Record)(s0_ReplicaRole:Int)(s0_ReplicaCommit:Int)(s0_ReplicaVotes:List Bool)(l:List Int)(a:Int)(x:Bool):R Replica:=
 if x then
(.ok ({ ID:=s0_ReplicaID,Many:=s0_ReplicaMany,Term:=s0_ReplicaTerm,Vote:=s0_ReplicaVote,Log:=s0_ReplicaLog,Role:=s0_ReplicaRole,Commit:=a,Votes:=s0_ReplicaVotes,Match:=l }:Replica))
else
(.ok ({ ID:=s0_ReplicaID,Many:=s0_ReplicaMany,Term:=s0_ReplicaTerm,Vote:=s0_ReplicaVote,Log:=s0_ReplicaLog,Role:=s0_ReplicaRole,Commit:=s0_ReplicaCommit,Votes:=s0_ReplicaVotes,Match:=l }:Replica))
def Ge (s0_ReplicaID:Int)(s0_ReplicaMany:Int)(s0_ReplicaTerm:Int)(s0_ReplicaVote:Int)(s0_ReplicaLog:List Record)(s0_ReplicaRole:Int)(s0_ReplicaCommit:Int)(s0_ReplicaVotes:List Bool)(l:List Int):R Replica:=
 (Ew l).bind fun _=>
 (D5 l).bind fun l1=>
 (Cs l1 (IntKind.wrap .i64 (Int.tdiv (IntKind.wrap .i64 ((l1.length:Int) - 1)) 2))).bind fun a=>
 if(decide (a > s0_ReplicaCommit)) then
((Cs s0_ReplicaLog (IntKind.wrap .i64 (a - 1))).bind fun a1=>
 En s0_ReplicaID s0_ReplicaMany s0_ReplicaTerm s0_ReplicaVote s0_ReplicaLog s0_ReplicaRole s0_ReplicaCommit s0_ReplicaVotes l a (a1.Term==s0_ReplicaTerm))
else
(En s0_ReplicaID s0_ReplicaMany s0_ReplicaTerm s0_ReplicaVote s0_ReplicaLog s0_ReplicaRole s0_ReplicaCommit s0_ReplicaVotes l a false)
def Eh (m:Message)(s_Replica:Replica)(x:Bool):R Replica:=
 if x then
(.ok s_Replica)
else
((Bl (decide (m.Match≤(s_Replica.Log.length:Int))) 470).bind fun _=>
 (Fv s_Replica.Match).bind fun r1=>
 (Cs r1 m.From).bind fun a=>
 (Ge s_Replica.ID s_Replica.Many s_Replica.Term s_Replica.Vote s_Replica.Log s_Replica.Role s_Replica.Commit s_Replica.Votes (r1.set m.From.toNat (if m.Match > a then m.Match else a))).bind fun r2=>
 .ok r2)
def Fd (m:Message)(s_Replica:Replica):R Replica:=
 if(s_Replica.Role != 2) then
(Eh m s_Replica true)
else
(if(m.Term != s_Replica.Term) then
(Eh m s_Replica true)
else
(Eh m s_Replica (!m.Granted)))
def Eu (n:Int):R Int:=
 (Ff ({ fE:=n }:T104)).bind fun _=>
 .ok (({ fE:=n }:T104).fE)
def Dj (m:Message)(vID1:Int)(vMany1:Int)(vTerm1:Int)(vVote1:Int)(vLog1:List Record)(vRole1:Int)(vCommit1:Int)(vVotes1:List Bool)(vMatch1:List Int):R (Replica×(List Message)×Int):=
 if m.Kind=0 then
(.bad)
else
(if m.Kind=1 then
((H5 m ({ ID:=vID1,Many:=vMany1,Term:=vTerm1,Vote:=vVote1,Log:=vLog1,Role:=vRole1,Commit:=vCommit1,Votes:=vVotes1,Match:=vMatch1 }:Replica)).bind fun r10=>
 .ok (r10.1,r10.2,0))
else
(if m.Kind=2 then
((E2 m ({ ID:=vID1,Many:=vMany1,Term:=vTerm1,Vote:=vVote1,Log:=vLog1,Role:=vRole1,Commit:=vCommit1,Votes:=vVotes1,Match:=vMatch1 }:Replica)).bind fun r11=>
 .ok (({ ID:=(({ ID:=vID1,Many:=vMany1,Term:=vTerm1,Vote:=vVote1,Log:=vLog1,Role:=vRole1,Commit:=vCommit1,Votes:=vVotes1,Match:=vMatch1 }:Replica).ID),Many:=(({ ID:=vID1,Many:=vMany1,Term:=vTerm1,Vote:=vVote1,Log:=vLog1,Role:=vRole1,Commit:=vCommit1,Votes:=vVotes1,Match:=vMatch1 }:Replica).Many),Term:=(({ ID:=vID1,Many:=vMany1,Term:=vTerm1,Vote:=vVote1,Log:=vLog1,Role:=vRole1,Commit:=vCommit1,Votes:=vVotes1,Match:=vMatch1 }:Replica).Term),Vote:=(({ ID:=vID1,Many:=vMany1,Term:=vTerm1,Vote:=vVote1,Log:=vLog1,Role:=vRole1,Commit:=vCommit1,Votes:=vVotes1,Match:=vMatch1 }:Replica).Vote),Log:=(({ ID:=vID1,Many:=vMany1,Term:=vTerm1,Vote:=vVote1,Log:=vLog1,Role:=vRole1,Commit:=vCommit1,Votes:=vVotes1,Match:=vMatch1 }:Replica).Log),Role:=r11.1,Commit:=r11.2.1,Votes:=r11.2.2.1,Match:=r11.2.2.2.1 }:Replica),r11.2.2.2.2,0))
else
(if m.Kind=3 then
((Fq m ({ ID:=vID1,Many:=vMany1,Term:=vTerm1,Vote:=vVote1,Log:=vLog1,Role:=vRole1,Commit:=vCommit1,Votes:=vVotes1,Match:=vMatch1 }:Replica)).bind fun r12=>
 .ok (({ ID:=(({ ID:=vID1,Many:=vMany1,Term:=vTerm1,Vote:=vVote1,Log:=vLog1,Role:=vRole1,Commit:=vCommit1,Votes:=vVotes1,Match:=vMatch1 }:Replica).ID),Many:=(({ ID:=vID1,Many:=vMany1,Term:=vTerm1,Vote:=vVote1,Log:=vLog1,Role:=vRole1,Commit:=vCommit1,Votes:=vVotes1,Match:=vMatch1 }:Replica).Many),Term:=(({ ID:=vID1,Many:=vMany1,Term:=vTerm1,Vote:=vVote1,Log:=vLog1,Role:=vRole1,Commit:=vCommit1,Votes:=vVotes1,Match:=vMatch1 }:Replica).Term),Vote:=(({ ID:=vID1,Many:=vMany1,Term:=vTerm1,Vote:=vVote1,Log:=vLog1,Role:=vRole1,Commit:=vCommit1,Votes:=vVotes1,Match:=vMatch1 }:Replica).Vote),Log:=r12.1,Role:=r12.2.1,Commit:=r12.2.2.1,Votes:=r12.2.2.2.1,Match:=r12.2.2.2.2.1 }:Replica),r12.2.2.2.2.2,0))
else
(if m.Kind=4 then
((Fd m ({ ID:=vID1,Many:=vMany1,Term:=vTerm1,Vote:=vVote1,Log:=vLog1,Role:=vRole1,Commit:=vCommit1,Votes:=vVotes1,Match:=vMatch1 }:Replica)).bind fun r13=>
 .ok (r13,[],0))
else
(.bad)))))
def I3 (r:Replica)(m:Message):R (Replica×(List Message)×Int):=
 (D6 r).bind fun r1=>
 if(r1 != 0) then
(.ok (({ ID:=0,Many:=0,Term:=0,Vote:=0,Log:=[],Role:=0,Commit:=0,Votes:=[],Match:=[] }:Replica),[],r1))
else
((Bv m.Kind 1 4).bind fun r2=>
 (if(r2&&(m.To==r.ID)) then(Bv m.From 0 (IntKind.wrap .i64 (r.Many - 1))).bind fun r3=>
 R.ok r3 else R.ok false).bind (fun(b:Bool)=>(if(b&&(m.From != r.ID)) then(Bv m.Term 1 1048576).bind fun r4=>
 R.ok r4 else R.ok false).bind (fun(b1:Bool)=>(Bl b1 470).bind fun _=>
 (if(decide ((if m.Match<(if m.LastTerm<m.Last then m.LastTerm else m.Last) then m.Match else(if m.LastTerm<m.Last then m.LastTerm else m.Last))≥0)) then(Bv m.Commit 0 (m.Log.length:Int)).bind fun r6=>
 R.ok r6 else R.ok false).bind (fun(b2:Bool)=>(if b2 then(G6 m.Log m.Term).bind fun r7=>
 R.ok r7 else R.ok false).bind (fun(b3:Bool)=>(Bl b3 470).bind fun _=>
 (Dg r).bind fun _=>
 if m.Term > r.Term then
((Cx ({ ID:=r.ID,Many:=r.Many,Term:=m.Term,Vote:=(-1),Log:=r.Log,Role:=r.Role,Commit:=r.Commit,Votes:=r.Votes,Match:=r.Match }:Replica)).bind fun r9=>
 Dj m (({ ID:=r.ID,Many:=r.Many,Term:=m.Term,Vote:=(-1),Log:=r.Log,Role:=r.Role,Commit:=r.Commit,Votes:=r.Votes,Match:=r.Match }:Replica).ID) (({ ID:=r.ID,Many:=r.Many,Term:=m.Term,Vote:=(-1),Log:=r.Log,Role:=r.Role,Commit:=r.Commit,Votes:=r.Votes,Match:=r.Match }:Replica).Many) (({ ID:=r.ID,Many:=r.Many,Term:=m.Term,Vote:=(-1),Log:=r.Log,Role:=r.Role,Commit:=r.Commit,Votes:=r.Votes,Match:=r.Match }:Replica).Term) (({ ID:=r.ID,Many:=r.Many,Term:=m.Term,Vote:=(-1),Log:=r.Log,Role:=r.Role,Commit:=r.Commit,Votes:=r.Votes,Match:=r.Match }:Replica).Vote) (({ ID:=r.ID,Many:=r.Many,Term:=m.Term,Vote:=(-1),Log:=r.Log,Role:=r.Role,Commit:=r.Commit,Votes:=r.Votes,Match:=r.Match }:Replica).Log) 0 (({ ID:=r.ID,Many:=r.Many,Term:=m.Term,Vote:=(-1),Log:=r.Log,Role:=r.Role,Commit:=r.Commit,Votes:=r.Votes,Match:=r.Match }:Replica).Commit) r9.1 r9.2)
else
(Dj m r.ID r.Many r.Term r.Vote r.Log r.Role r.Commit r.Votes r.Match))))))
def I5 (r:Replica)(m:Message):R (Replica×(List Message)×Int):=
 (I3 r m).catch' (Iw 105 .i64 (fun n=>(Eu n).bind fun p=>.ok (({ ID:=0,Many:=0,Term:=0,Vote:=0,Log:=[],Role:=0,Commit:=0,Votes:=[],Match:=[] }:Replica),[],p)) (fun _=>.bad))
def Iz (s0_ReplicaID:Int)(s0_ReplicaMany:Int)(s0_ReplicaTerm:Int)(s0_ReplicaVote:Int)(s0_ReplicaLog:List Record)(s0_ReplicaCommit:Int)(l:List Bool)(l1:List Int):R (Int×(List Int)×(List Message)):=
 (Cs l1 s0_ReplicaID).bind fun a=>
 (Et s0_ReplicaID s0_ReplicaMany s0_ReplicaTerm s0_ReplicaVote s0_ReplicaLog 2 s0_ReplicaCommit l (l1.set s0_ReplicaID.toNat (s0_ReplicaLog.length:Int))).bind fun r=>
 (Gk s0_ReplicaID s0_ReplicaMany s0_ReplicaTerm s0_ReplicaVote s0_ReplicaLog 2 r (l1.set s0_ReplicaID.toNat (s0_ReplicaLog.length:Int))).bind fun r1=>
 .ok (r,(l1.set s0_ReplicaID.toNat (s0_ReplicaLog.length:Int)),r1)
def Gi (s0_ReplicaID:Int)(s0_ReplicaMany:Int)(s0_ReplicaTerm:Int)(s0_ReplicaVote:Int)(s0_ReplicaLog:List Record)(s0_ReplicaRole:Int)(s0_ReplicaCommit:Int)(l:List Bool):R (Int×(List Int)×(List Message)):=
 if(0:Int)≤s0_ReplicaMany∧(s0_ReplicaMany:Int)≤s0_ReplicaMany∧(Int.toNat s0_ReplicaMany) * 8≤Ca then
 Iz s0_ReplicaID s0_ReplicaMany s0_ReplicaTerm s0_ReplicaVote s0_ReplicaLog s0_ReplicaCommit l (List.replicate (Int.toNat s0_ReplicaMany) (0:Int)) else .bad
def Jo (vto:Int)(mKind:Int)(mFrom:Int)(mTo:Int)(mTerm:Int)(mLast:Int)(mLastTerm:Int)(mCommit:Int)(mMatch:Int)(mGranted:Bool)(s0_ReplicaID:Int)(s0_ReplicaMany:Int)(s0_ReplicaTerm:Int)(s0_ReplicaVote:Int)(s0_ReplicaLog:List Record)(s0_ReplicaRole:Int)(s0_ReplicaCommit:Int)(l:List Message):R (List Message):=
 if(l.length+[({ Kind:=mKind,From:=s0_ReplicaID,To:=vto,Term:=s0_ReplicaTerm,Last:=mLast,LastTerm:=mLastTerm,Log:=[],Commit:=mCommit,Match:=mMatch,Granted:=mGranted }:Message)].length) * 96≤Ca then
 .ok (l++[({ Kind:=mKind,From:=s0_ReplicaID,To:=vto,Term:=s0_ReplicaTerm,Last:=mLast,LastTerm:=mLastTerm,Log:=[],Commit:=mCommit,Match:=mMatch,Granted:=mGranted }:Message)]) else .bad
def Hx (mKind:Int)(mFrom:Int)(mTo:Int)(mTerm:Int)(mLast:Int)(mLastTerm:Int)(mCommit:Int)(mMatch:Int)(mGranted:Bool)(s_ReplicaID:Int)(s_ReplicaMany:Int)(s_ReplicaTerm:Int)(s_ReplicaVote:Int)(s_ReplicaLog:List Record)(s_ReplicaRole:Int)(s_ReplicaCommit:Int)(x:Int)(l:List Message):R ((Int×(List Message)) ⊕ (List Message)):=
 if x<s_ReplicaMany then
(if(x != s_ReplicaID) then
((Jo x mKind mFrom mTo mTerm mLast mLastTerm mCommit mMatch mGranted s_ReplicaID s_ReplicaMany s_ReplicaTerm s_ReplicaVote s_ReplicaLog s_ReplicaRole s_ReplicaCommit l).bind fun r=>
 .ok (.inl ((IntKind.wrap .i64 (x+1)),r)))
else
(.ok (.inl ((IntKind.wrap .i64 (x+1)),l))))
else
(.ok (.inr (l)))
def Jh (l1:List Message):R (List Message):=
 .ok l1
def Fx (mKind:Int)(mFrom:Int)(mTo:Int)(mTerm:Int)(mLast:Int)(mLastTerm:Int)(mCommit:Int)(mMatch:Int)(mGranted:Bool)(s_ReplicaID:Int)(s_ReplicaMany:Int)(s_ReplicaTerm:Int)(s_ReplicaVote:Int)(s_ReplicaLog:List Record)(s_ReplicaRole:Int)(s_ReplicaCommit:Int):R (List Message):=
 (loop (Dn fun x l=>Hx mKind mFrom mTo mTerm mLast mLastTerm mCommit mMatch mGranted s_ReplicaID s_ReplicaMany s_ReplicaTerm s_ReplicaVote s_ReplicaLog s_ReplicaRole s_ReplicaCommit x l) (0,[])).bind (fun l1=>Jh l1)
def G9 (r:Replica):R (Replica×(List Message)×Int):=
 (D6 r).bind fun e=>
 if(e != 0) then
(.ok (({ ID:=0,Many:=0,Term:=0,Vote:=0,Log:=[],Role:=0,Commit:=0,Votes:=[],Match:=[] }:Replica),[],e))
else
(if(r.Term==1048576) then
(.ok (({ ID:=0,Many:=0,Term:=0,Vote:=0,Log:=[],Role:=0,Commit:=0,Votes:=[],Match:=[] }:Replica),[],2))
else
((Dg r).bind fun _=>
 (Cx r).bind fun r1=>
 (Cs r1.1 r.ID).bind fun a=>
 if(r.Many==1) then
((Gi r.ID r.Many (IntKind.wrap .i64 (r.Term+1)) r.ID r.Log 1 r.Commit (r1.1.set r.ID.toNat true)).bind fun r2=>
 .ok (({ ID:=r.ID,Many:=r.Many,Term:=(IntKind.wrap .i64 (r.Term+1)),Vote:=r.ID,Log:=r.Log,Role:=2,Commit:=r2.1,Votes:=(r1.1.set r.ID.toNat true),Match:=r2.2.1 }:Replica),r2.2.2,0))
else
((Gn ({ Replica:=({ ID:=r.ID,Many:=r.Many,Term:=(IntKind.wrap .i64 (r.Term+1)),Vote:=r.ID,Log:=r.Log,Role:=1,Commit:=r.Commit,Votes:=(r1.1.set r.ID.toNat true),Match:=r1.2 }:Replica),fSent:=[] }:T87)).bind fun r3=>
 (Fx 1 0 0 0 (r.Log.length:Int) r3 0 0 false r.ID r.Many (IntKind.wrap .i64 (r.Term+1)) r.ID r.Log 1 r.Commit).bind fun r4=>
 .ok (({ ID:=r.ID,Many:=r.Many,Term:=(IntKind.wrap .i64 (r.Term+1)),Vote:=r.ID,Log:=r.Log,Role:=1,Commit:=r.Commit,Votes:=(r1.1.set r.ID.toNat true),Match:=r1.2 }:Replica),r4,0))))
def Df (n:Int):R Value:=
 .ok ({ Kind:=1,N:=n,S:=[],L:=[] }:Value)
def Kq (W_:Value→R (Int×Bool))(a:Value)(depth:Int):R (Int ⊕ (Int×Bool)):=
 (W_ a).bind fun r=>
 if r.2 then
(.ok (.inl (if r.1 > depth then r.1 else depth)))
else
(.ok (.inr ((0,false))))
def Oc (W_:Value→R (Int×Bool))(v:Value):R (Int×Bool):=
 (if((decide (v.Kind<1))||(decide (v.Kind > 3))) then R.ok true else if(0:Int)≤v.Kind∧v.Kind<4 then
 R.ok (!(Yh (#v[false,((v.S==[])&&((v.L.length:Int)==0)),((v.N==0)&&((v.L.length:Int)==0)),((v.N==0)&&(v.S==[]))]:(Vector Bool 4)) (Int.toNat v.Kind) false)) else .bad).bind (fun(b:Bool)=>if b then
(.ok (0,false))
else
(if v.Kind<3 then
(.ok (0,true))
else
((each (fun _ a=>fun depth=>Kq W_ a depth) 0 v.L 0).bind (Jk (fun depth=>.ok ((IntKind.wrap .i64 (depth+1)),true)) (fun r=>.ok r)))))
def Ny:Nat→Value→R (Int×Bool)
 | 0,_=>.bad
 | n+1,v=>Oc (Ny n) v
def Sd (v:Value):R (Int×Bool):=Ny Y5 v
def Q3 (v:Value):R Int:=
 (Sd v).bind fun r=>
 if r.2 then
(if r.1 > 16 then
(.ok 2)
else
(.ok 0))
else
(.ok 1)
def Lq:R Unit:=
 .ok ()
def Qe (n:Int):R Int:=
 .ok (Tl .u64 (P7 .u64 (IntKind.wrap .u64 n) 1) (IntKind.wrap .u64 (Int.fdiv n 9223372036854775808)))
def La (u1:Int)(b:List Int):R ((Int×(List Int)) ⊕ (Int×(List Int))):=
 if u1≥128 then
(if(b.length+[(Th .u8 (IntKind.wrap .u8 u1) 128)].length) * 1≤Ca then
 .ok (.inl ((Int.fdiv u1 128),(b++[(Th .u8 (IntKind.wrap .u8 u1) 128)]))) else .bad)
else
(.ok (.inr ((u1,b))))
def Lb (u2:Int)(b1:List Int):R (List Int):=
 if(b1.length+[(IntKind.wrap .u8 u2)].length) * 1≤Ca then
 .ok (b1++[(IntKind.wrap .u8 u2)]) else .bad
def Ia (u:Int)(l:List Int):R (List Int):=
 (loop (Dn fun u1 b=>La u1 b) (u,l)).bind (Dn fun u2 b1=>Lb u2 b1)
def Gl (v1:Value)(l:List Int):R (List Int):=
 if(l.length+[1].length) * 1≤Ca then
 (Qe v1.N).bind fun r=>
 (Ia r (l++[1])).bind fun r1=>
 .ok r1 else .bad
def Gp (v1:Value)(l:List Int):R (List Int):=
 if(l.length+[2].length) * 1≤Ca then
 (Ia (IntKind.wrap .u64 (v1.S.length:Int)) (l++[2])).bind fun r=>
 if(r.length+(Ht v1.S).length) * 1≤Ca then
 .ok (r++(Ht v1.S)) else .bad else .bad
def Hh (W_:Value→(List Int)→R (List Int))(a:Value)(b1:List Int):R (List Int):=
 if a.Kind=0 then
(.bad)
else
(if a.Kind=1 then
((Gl a b1).bind fun b2=>
 .ok b2)
else
(if a.Kind=2 then
((Gp a b1).bind fun b3=>
 .ok b3)
else
(if a.Kind=3 then
((W_ a b1).bind fun b4=>
 .ok b4)
else
(.bad))))
def H0 (W_:Value→(List Int)→R (List Int))(v1:Value)(l:List Int):R (List Int):=
 if(l.length+[3].length) * 1≤Ca then
 (Ia (IntKind.wrap .u64 (v1.L.length:Int)) (l++[3])).bind fun b=>
 (Gb (fun _ a=>fun b1=>Hh W_ a b1) 0 v1.L b).bind ((fun b1=>.ok b1)) else .bad
def Hz:Nat→Value→(List Int)→R (List Int)
 | 0,_,_=>.bad
 | n+1,v1,l=>H0 (Hz n) v1 l
def Km (v1:Value)(l:List Int):R (List Int):=Hz Y5 v1 l
def Ie (a:Value)(b1:List Int):R (List Int):=
 if a.Kind=0 then
(.bad)
else
(if a.Kind=1 then
((Gl a b1).bind fun b2=>
 .ok b2)
else
(if a.Kind=2 then
((Gp a b1).bind fun b3=>
 .ok b3)
else
(if a.Kind=3 then
((Km a b1).bind fun b4=>
 .ok b4)
else
(.bad))))
def Jr (v1:Value):R (List Int):=
 if [3].length * 1≤Ca then
 (Ia (IntKind.wrap .u64 (v1.L.length:Int)) [3]).bind fun b=>
 (Gb (fun _ a=>fun b1=>Ie a b1) 0 v1.L b).bind ((fun b1=>.ok b1)) else .bad
def N6 (v:Value):R ((List Int)×Int):=
 (Q3 v).bind fun e=>
 if(e != 0) then
(.ok ([],e))
else
((Lq).bind fun _=>
 if v.Kind=0 then
(.bad)
else
(if v.Kind=1 then
((Gl v []).bind fun b=>
 .ok (b,0))
else
(if v.Kind=2 then
((Gp v []).bind fun b1=>
 .ok (b1,0))
else
(if v.Kind=3 then
((Jr v).bind fun b2=>
 .ok (b2,0))
else
(.bad)))))
def Lp (a:Record)(l:List Value):R (List Value):=
 (Df a.Term).bind fun r=>
 if(l.length+[({ Kind:=3,N:=0,S:=[],L:=[r,({ Kind:=2,N:=0,S:=(Cy a.Data),L:=[] }:Value)] }:Value)].length) * 56≤Ca then
 .ok (l++[({ Kind:=3,N:=0,S:=[],L:=[r,({ Kind:=2,N:=0,S:=(Cy a.Data),L:=[] }:Value)] }:Value)]) else .bad
def H2 (m:Message)(l:List Value)(granted:Int):R ((List Int)×Int):=
 (Df m.Kind).bind fun r1=>
 (Df m.From).bind fun r2=>
 (Df m.To).bind fun r3=>
 (Df m.Term).bind fun r4=>
 (Df m.Last).bind fun r5=>
 (Df m.LastTerm).bind fun r6=>
 (Df m.Commit).bind fun r7=>
 (Df m.Match).bind fun r8=>
 (Df granted).bind fun r9=>
 (N6 ({ Kind:=3,N:=0,S:=[],L:=[r1,r2,r3,r4,r5,r6,({ Kind:=3,N:=0,S:=[],L:=l }:Value),r7,r8,r9] }:Value)).bind fun r10=>
 .ok (r10.1,r10.2)
def Oa (m:Message):R ((List Int)×Int):=
 (Gb (fun _ a=>fun l=>Lp a l) 0 m.Log []).bind ((fun l=>if m.Granted then
(H2 m l 1)
else
(H2 m l 0)))
def E1 (r:T107)(ok:Bool):R Unit:=
 if ok then
(.ok ())
else
(.pan ⟨28,.int .i64 10⟩)
def H3 (n:Int)(s:T107):R Unit:=
 (E1 s (decide (n≤(s.fRest.length:Int)))).bind fun _=>
 if(0:Int)≤n∧n≤(s.fRest.length:Int) then
 if(0:Int)≤n∧n≤(s.fRest.length:Int) then
 .ok () else .bad else .bad
def Jd (u:Int)(i:Int)(fRest:List Int):R ((Int×Int×(List Int)) ⊕ (Int×T107)):=
 (H3 1 ({ fRest:=fRest }:T107)).bind fun _=>
 (Cs (({ fRest:=fRest }:T107).fRest.take 1) 0).bind fun a=>
 (E1 ({ fRest:=(({ fRest:=fRest }:T107).fRest.drop 1) }:T107) (((i==0)||(a != 0))&&((decide (i<9))||(decide (a≤1))))).bind fun _=>
 if(0:Int)≤(IntKind.wrap .i64 (7 * i)) then if a<128 then
(.ok (.inr (((Th .u64 u (P7 .u64 (IntKind.wrap .u64 (Nn .u8 a 127)) (IntKind.wrap .i64 (7 * i)))),({ fRest:=(({ fRest:=fRest }:T107).fRest.drop 1) }:T107)))))
else
(.ok (.inl ((Th .u64 u (P7 .u64 (IntKind.wrap .u64 (Nn .u8 a 127)) (IntKind.wrap .i64 (7 * i)))),(IntKind.wrap .i64 (i+1)),(({ fRest:=fRest }:T107).fRest.drop 1)))) else .bad
def H7 (s:T107):R (Int×T107):=
 (loop (J7 fun u i fRest=>Jd u i fRest) (0,0,s.fRest)).bind (fun r=>.ok r)
def R4 (u:Int):R Int:=
 .ok (Tl .i64 (IntKind.wrap .i64 (Int.fdiv u 2)) (IntKind.wrap .i64 (0 - (IntKind.wrap .i64 (Nn .u64 u 1)))))
def H6 (s:T107):R (Int×T107):=
 (H7 s).bind fun n=>
 (E1 n.2 (decide (n.1≤(IntKind.wrap .u64 (n.2.fRest.length:Int))))).bind fun _=>
 .ok ((IntKind.wrap .i64 n.1),n.2)
def If (depth:Int)(W_:Int→T107→R (Value×T107))(r6:(Int×T107))(x:Int)(o:T107)(l:List Value):R ((Int×T107×(List Value)) ⊕ (T107×(List Value))):=
 if x<r6.1 then
((W_ (IntKind.wrap .i64 (depth+1)) o).bind fun r7=>
 if(l.length+[r7.1].length) * 56≤Ca then
 .ok (.inl ((IntKind.wrap .i64 (x+1)),r7.2,(l++[r7.1]))) else .bad)
else
(.ok (.inr ((o,l))))
def Js (a:Int)(o1:T107)(l1:List Value):R (Value×T107):=
 .ok (({ Kind:=(IntKind.wrap .i64 a),N:=0,S:=[],L:=l1 }:Value),o1)
def In (W_:Int→T107→R (Value×T107))(depth:Int)(s:T107):R (Value×T107):=
 (H3 1 s).bind fun _=>
 (Cs (s.fRest.take 1) 0).bind fun a=>
 if((IntKind.wrap .i64 a)==1) then
((H7 ({ fRest:=(s.fRest.drop 1) }:T107)).bind fun r1=>
 (R4 r1.1).bind fun r2=>
 .ok (({ Kind:=(IntKind.wrap .i64 a),N:=r2,S:=[],L:=[] }:Value),r1.2))
else
(if((IntKind.wrap .i64 a)==2) then
((H6 ({ fRest:=(s.fRest.drop 1) }:T107)).bind fun r3=>
 (H3 r3.1 r3.2).bind fun _=>
 .ok (({ Kind:=(IntKind.wrap .i64 a),N:=0,S:=(Cy (r3.2.fRest.take (Int.toNat r3.1))),L:=[] }:Value),({ fRest:=(r3.2.fRest.drop (Int.toNat r3.1)) }:T107)))
else
(if((IntKind.wrap .i64 a)==3) then
((E1 ({ fRest:=(s.fRest.drop 1) }:T107) (decide (depth<16))).bind fun _=>
 (H6 ({ fRest:=(s.fRest.drop 1) }:T107)).bind fun r6=>
 (loop (J7 fun x o l=>If depth W_ r6 x o l) (0,r6.2,[])).bind (Dn fun o1 l1=>Js a o1 l1))
else
((E1 ({ fRest:=(s.fRest.drop 1) }:T107) false).bind fun _=>
 .ok (({ Kind:=(IntKind.wrap .i64 a),N:=0,S:=[],L:=[] }:Value),({ fRest:=(s.fRest.drop 1) }:T107)))))
def Iq:Nat→Int→T107→R (Value×T107)
 | 0,_,_=>.bad
 | n+1,depth,s=>In (Iq n) depth s
def K6 (depth:Int)(s:T107):R (Value×T107):=Iq Y5 depth s
def Fy (n:Int):R Int:=
 .ok n
def Nz (b:List Int):R (Value×Int):=
 (K6 0 ({ fRest:=b }:T107)).bind fun r=>
 (E1 r.2 ((r.2.fRest.length:Int)==0)).bind fun _=>
 .ok (r.1,0)
def Sb (b:List Int):R (Value×Int):=
 (Nz b).catch' (Mg 28 .i64 (fun n=>(Fy n).bind fun p=>.ok (({ Kind:=0,N:=0,S:=[],L:=[] }:Value),p)) (fun _=>.bad))
def Bu (i:Int)(b:Value):R Int:=
 (Cs b.L i).bind fun a=>
 (Bl (a.Kind==1) 470).bind fun _=>
 .ok a.N
def E4 (n:Int):R Int:=
 (Ff ({ fE:=n }:T104)).bind fun _=>
 .ok (({ fE:=n }:T104).fE)
def Ks (a2:Value)(l:List Record):R (List Record):=
 (if((a2.Kind==3)&&((a2.L.length:Int)==2)) then(Cs a2.L 0).bind fun a3=>
 R.ok (a3.Kind==1) else R.ok false).bind (fun(b2:Bool)=>(if b2 then(Cs a2.L 1).bind fun a4=>
 R.ok (a4.Kind==2) else R.ok false).bind (fun(b3:Bool)=>(Bl b3 470).bind fun _=>
 (Cs a2.L 0).bind fun a5=>
 (Cs a2.L 1).bind fun a6=>
 if a6.S.length≤Ca then
 if(l.length+[({ Term:=a5.N,Data:=(Ht a6.S) }:Record)].length) * 32≤Ca then
 .ok (l++[({ Term:=a5.N,Data:=(Ht a6.S) }:Record)]) else .bad else .bad))
def Mj (b:List Int):R (Message×Int):=
 (Sb b).bind fun r=>
 if(r.2 != 0) then
(.ok (({ Kind:=0,From:=0,To:=0,Term:=0,Last:=0,LastTerm:=0,Log:=[],Commit:=0,Match:=0,Granted:=false }:Message),r.2))
else
((if((r.1.Kind==3)&&((r.1.L.length:Int)==10)) then(Cs r.1.L 6).bind fun a=>
 R.ok (a.Kind==3) else R.ok false).bind (fun(b1:Bool)=>(Bl b1 470).bind fun _=>
 (Bu 0 r.1).bind fun r2=>
 (Bu 1 r.1).bind fun r3=>
 (Bu 2 r.1).bind fun r4=>
 (Bu 3 r.1).bind fun r5=>
 (Bu 4 r.1).bind fun r6=>
 (Bu 5 r.1).bind fun r7=>
 (Bu 7 r.1).bind fun r8=>
 (Bu 8 r.1).bind fun r9=>
 (Bu 9 r.1).bind fun r10=>
 (Bu 9 r.1).bind fun r11=>
 (Bv r11 0 1).bind fun r12=>
 (Bl r12 470).bind fun _=>
 (Cs r.1.L 6).bind fun a1=>
 (Gb (fun _ a2=>fun l=>Ks a2 l) 0 a1.L []).bind ((fun l=>.ok (({ Kind:=r2,From:=r3,To:=r4,Term:=r5,Last:=r6,LastTerm:=r7,Log:=l,Commit:=r8,Match:=r9,Granted:=(r10==1) }:Message),0)))))
def N7 (b:List Int):R (Message×Int):=
 (Mj b).catch' (Iw 105 .i64 (fun n=>(E4 n).bind fun p=>.ok (({ Kind:=0,From:=0,To:=0,Term:=0,Last:=0,LastTerm:=0,Log:=[],Commit:=0,Match:=0,Granted:=false }:Message),p)) (fun _=>.bad))
def Gr (r:Replica)(j:Nat)(a:Record)(l:(List (List Int))):R ((List (List Int)) ⊕ (List (List Int))):=
 if(j:Int)≥r.Commit then
(.ok (.inr (l)))
else
(if(l.length+[a.Data].length) * 24≤Ca then
 .ok (.inl (l++[a.Data])) else .bad)
def Ir (l1:(List (List Int))):R (List (List Int)):=
 .ok l1
def C9 (r:Replica):R (List (List Int)):=
 (each (fun j a=>fun l=>Gr r j a l) 0 r.Log []).bind (Jk (fun l=>Ir l) (fun l1=>Ir l1))
def Gs (r:Replica):R Replica:=
 (Dg r).bind fun _=>
 (Cx r).bind fun r1=>
 .ok ({ ID:=r.ID,Many:=r.Many,Term:=r.Term,Vote:=r.Vote,Log:=r.Log,Role:=0,Commit:=0,Votes:=r1.1,Match:=r1.2 }:Replica)
def Ql:R Bool:=
 (Jg 0 3).bind fun r=>
 (Jg 0 6).bind fun r1=>
 (Ha r.1 []).bind fun r2=>
 (I5 r.1 ({ Kind:=0,From:=0,To:=0,Term:=0,Last:=0,LastTerm:=0,Log:=[],Commit:=0,Match:=0,Granted:=false }:Message)).bind fun r3=>
 (Jg 0 1).bind fun r4=>
 (G9 r4.1).bind fun r5=>
 (Ha r5.1 [97]).bind fun r6=>
 (G9 r.1).bind fun r7=>
 (I5 r7.1 ({ Kind:=2,From:=2,To:=0,Term:=1,Last:=0,LastTerm:=0,Log:=[],Commit:=0,Match:=0,Granted:=true }:Message)).bind fun r8=>
 (Oa ({ Kind:=3,From:=0,To:=0,Term:=0,Last:=0,LastTerm:=0,Log:=[({ Term:=3,Data:=[120] }:Record)],Commit:=1,Match:=0,Granted:=true }:Message)).bind fun r9=>
 (N7 r9.1).bind fun r10=>
 (N6 ({ Kind:=1,N:=0,S:=[],L:=[] }:Value)).bind fun r11=>
 (N7 r11.1).bind fun r12=>
 (if(((((((((((((r.2 != 0)||(r1.2 != 470))||(r2.2.2 != 470))||(r3.2.2 != 470))||(r4.2 != 0))||(r5.2.2 != 0))||(r6.2.2 != 0))||(r7.2.2 != 0))||(r8.2.2 != 0))||(r9.2 != 0))||(r10.2 != 0))||(r11.2 != 0))||(r12.2 != 470)) then R.ok true else(D6 ({ ID:=0,Many:=0,Term:=0,Vote:=0,Log:=[],Role:=0,Commit:=0,Votes:=[],Match:=[] }:Replica)).bind fun r13=>
 R.ok (r13 != 470)).bind (fun(b:Bool)=>(if b then R.ok true else(D6 r.1).bind fun r14=>
 R.ok (r14 != 0)).bind (fun(b1:Bool)=>if b1 then
(.ok false)
else
((C9 r6.1).bind fun r15=>
 (if(((r5.2.1.length:Int)==0)&&((r15.length:Int)==1)) then(Cs r15 0).bind fun a=>
 R.ok ((Cy a)==[97]) else R.ok false).bind (fun(b2:Bool)=>(if b2 then(Gs r6.1).bind fun r16=>
 (C9 r16).bind fun r17=>
 R.ok ((r17.length:Int)==0) else R.ok false).bind (fun(b3:Bool)=>(if(b3&&((r7.2.1.length:Int)==2)) then(Cs r7.2.1 0).bind fun a1=>
 R.ok (a1.Kind==1) else R.ok false).bind (fun(b4:Bool)=>(if((b4&&(r8.1.Role==2))&&((r8.2.1.length:Int)==2)) then(Cs r8.2.1 1).bind fun a2=>
 R.ok (a2.Kind==3) else R.ok false).bind (fun(b5:Bool)=>(if((b5&&r10.1.Granted)&&((r10.1.Log.length:Int)==1)) then(Cs r10.1.Log 0).bind fun a3=>
 R.ok ((Cy a3.Data)==[120]) else R.ok false).bind (fun(b6:Bool)=>.ok b6))))))))
def Hm (many:Int)(i:Int)(l:List Replica):R ((Int×(List Replica)) ⊕ ((List Replica) ⊕ (Bool×(List Replica)))):=
 if i<many then
((Jg i many).bind fun r=>
 if(r.2 != 0) then
(.ok (.inr (.inr ((false,l)))))
else
(if(l.length+[r.1].length) * 120≤Ca then
 .ok (.inl ((IntKind.wrap .i64 (i+1)),(l++[r.1]))) else .bad))
else
(.ok (.inr (.inl (l))))
def Pb (l1:List Replica):R (Bool×(List Replica)):=
 .ok (true,l1)
def M5 (many:Int):R (Bool×(List Replica)):=
 (loop (Dn fun i l=>Hm many i l) (0,[])).bind (Jk (fun l1=>Pb l1) (fun r=>.ok r))
def Nd (b:(List (List Int)))(j:Nat)(a1:List Int):R (Unit ⊕ Bool):=
 (Cs b (j:Int)).bind fun a2=>
 if((Cy a1)==(Cy a2)) then
(.ok (.inl ()))
else
(.ok (.inr (false)))
def Qc (a:(List (List Int)))(b:(List (List Int))):R Bool:=
 if(a.length:Int) > (b.length:Int) then
(.ok false)
else
((each (fun j a1=>fun _=>Nd b j a1) 0 a ()).bind (Jk (fun _=>.ok true) (fun r=>.ok r)))
def Ng (k:Int)(l2:List Message)(l3:List Replica)(a1:Message):R (Unit ⊕ (Bool×(List Replica)×(List Message))):=
 if((a1.From != k)||(a1.To==k)) then
(.ok (.inr ((false,l3,l2))))
else
(.ok (.inl ()))
def Ka (k:Int)(c:Replica)(l:List Message)(l2:List Message)(x:Bool)(l3:List Replica):R (Bool×(List Replica)×(List Message)):=
 if x then
(.ok (false,l3,l2))
else
((each (fun _ a1=>fun _=>Ng k l2 l3 a1) 0 l ()).bind (Jk (fun _=>(Cs l3 k).bind fun a2=>
 if(l2.length+l.length) * 96≤Ca then
 .ok (true,(l3.set k.toNat c),(l2++l)) else .bad) (fun r=>.ok r)))
def I9 (k:Int)(c:Replica)(l:List Message)(l1:List Replica)(l2:List Message):R (Bool×(List Replica)×(List Message)):=
 (D6 c).bind fun r=>
 if(r != 0) then
(Ka k c l l2 true l1)
else
(if(c.ID != k) then
(Ka k c l l2 true l1)
else
(if(c.Many != (l1.length:Int)) then
(Ka k c l l2 true l1)
else
((Cs l1 k).bind fun a=>
 Ka k c l l2 (decide (c.Term<a.Term)) l1)))
def Px:R Unit:=
 .bad
def Kk (k:Int)(c:Replica)(l1:List Message)(x:Bool)(l2:List Replica):R (Bool×(List Replica)×(List Message)):=
 if x then
(.ok (false,l2,l1))
else
((Gb (fun _ _=>fun _=>Px) 0 (List.range 0) ()).bind ((fun _=>(Cs l2 k).bind fun a2=>
 if(l1.length+([]:List Message).length) * 96≤Ca then
 .ok (true,(l2.set k.toNat c),(l1++([]:List Message))) else .bad)))
def Jb (k:Int)(c:Replica)(l:List Replica)(l1:List Message):R (Bool×(List Replica)×(List Message)):=
 (D6 c).bind fun r=>
 if(r != 0) then
(Kk k c l1 true l)
else
(if(c.ID != k) then
(Kk k c l1 true l)
else
(if(c.Many != (l.length:Int)) then
(Kk k c l1 true l)
else
((Cs l k).bind fun a=>
 Kk k c l1 (decide (c.Term<a.Term)) l)))
def Nb (l1:List Message)(a:Message)(l2:List Message)(e:Int)(l3:List Replica)(o:Replica):R (Bool×(List Replica)×(List Message)):=
 if(e != 0) then
(.ok (false,l3,l1))
else
((I9 a.To o l2 l3 l1).bind fun r2=>
 .ok (r2.1,r2.2.1,r2.2.2))
def Kj (n:Int)(l:List Replica)(l1:List Message):R (Bool×(List Replica)×(List Message)):=
 (Cs l1 n).bind fun a=>
 if((decide (a.To<0))||(decide (a.To≥(l.length:Int)))) then
(.ok (false,l,l1))
else
((Cs l a.To).bind fun a1=>
 (I5 a1 a).bind fun r=>
 Nb l1 a r.2.1 r.2.2 l r.1)
def Pd (a:T44)(l:List Replica)(l1:List Message)(l2:List Message)(e:Int)(l3:List Replica)(o:Replica):R (Bool×(List Replica)×(List Message)):=
 if(e != 0) then
((Cs l3 (Int.tmod (IntKind.wrap .i64 a.At) (l.length:Int))).bind fun a5=>
 if(a5.Role != 2) then
(.ok (true,l3,l1))
else
(.ok ((e==2),l3,l1)))
else
((I9 (Int.tmod (IntKind.wrap .i64 a.At) (l.length:Int)) o l2 l3 l1).bind fun r5=>
 .ok (r5.1,r5.2.1,r5.2.2))
def G0 (a:T44)(l:List Replica)(l1:List Message):R (Bool×(List Replica)×(List Message)):=
 if(l.length:Int)≠0 then if(a.Kind==0) then
((Cs l (Int.tmod (IntKind.wrap .i64 a.At) (l.length:Int))).bind fun a1=>
 (G9 a1).bind fun r=>
 if(r.2.2 != 0) then
(.ok ((r.2.2==2),l,l1))
else
((I9 (Int.tmod (IntKind.wrap .i64 a.At) (l.length:Int)) r.1 r.2.1 l l1).bind fun r1=>
 .ok (r1.1,r1.2.1,r1.2.2)))
else
(if(a.Kind==1) then
((Cs l (Int.tmod (IntKind.wrap .i64 a.At) (l.length:Int))).bind fun a2=>
 (Ha a2 [a.Data]).bind fun r2=>
 Pd a l l1 r2.2.1 r2.2.2 l r2.1)
else
(if(a.Kind==2) then
((Cs l (Int.tmod (IntKind.wrap .i64 a.At) (l.length:Int))).bind fun a6=>
 (Gs a6).bind fun r6=>
 (Jb (Int.tmod (IntKind.wrap .i64 a.At) (l.length:Int)) r6 l l1).bind fun r7=>
 .ok (r7.1,r7.2.1,r7.2.2))
else
(if((l1.length:Int)==0) then
(.ok (true,l,l1))
else
(if(l1.length:Int)≠0 then(Kj (Int.tmod (IntKind.wrap .i64 ((IntKind.wrap .i64 a.Kind)+(IntKind.wrap .i64 (256 * (IntKind.wrap .i64 a.Data))))) (l1.length:Int)) l l1).bind fun r8=>
 .ok (r8.1,r8.2.1,r8.2.2) else .bad)))) else .bad
def Iv (term:Int)(i:Int)(l1:List Message)(x:List Message):R ((Int×(List Message)×(List Message)) ⊕ ((List Message)×(List Message))):=
 if i<(l1.length:Int) then
((Cs l1 i).bind fun a=>
 if(a.Term==term) then
(if(x.length+[a].length) * 96≤Ca then
 .ok (.inl ((IntKind.wrap .i64 (i+1)),l1,(x++[a]))) else .bad)
else
(.ok (.inl ((IntKind.wrap .i64 (i+1)),l1,x))))
else
(.ok (.inr ((l1,x))))
def Qn (l2:List Message)(x1:List Message):R ((List Message)×(List Message)):=
 .ok (l2,x1)
def Pl (term:Int)(l:List Message):R ((List Message)×(List Message)):=
 (loop (J7 fun i l1 x=>Iv term i l1 x) (0,l,[])).bind (Dn fun l2 x1=>Qn l2 x1)
def Es (i:Int)(l2:List Replica)(l3:List Message):R ((Int×(List Replica)×(List Message)) ⊕ (((List Replica)×(List Message)) ⊕ (Bool×(List Replica)×(List Message)))):=
 if i<(l3.length:Int) then
(if(l3.length:Int) > 200 then
(.ok (.inr (.inr ((false,l2,l3)))))
else
((Kj i l2 l3).bind fun r=>
 if r.1 then
(.ok (.inl ((IntKind.wrap .i64 (i+1)),r.2.1,r.2.2)))
else
(.ok (.inr (.inr ((false,r.2.1,r.2.2)))))))
else
(.ok (.inr (.inl ((l2,l3)))))
def Ld (l4:List Replica)(l5:List Message):R (Bool×(List Replica)×(List Message)):=
 .ok (true,l4,l5)
def Fr (l:List Replica)(l1:List Message):R (Bool×(List Replica)×(List Message)):=
 (loop (J7 fun i l2 l3=>Es i l2 l3) (0,l,l1)).bind (Jk (Dn fun l4 l5=>Ld l4 l5) (fun r=>.ok r))
def Lt (r:Replica)(l:List Record):R (Int×Replica×(List Message)):=
 (Fv r.Match).bind fun r3=>
 (Cs r3 r.ID).bind fun a=>
 (D9 r.ID r.Many r.Term r.Vote r.Role r.Commit r.Votes l (r3.set r.ID.toNat (l.length:Int))).bind fun r4=>
 (E5 r.ID r.Many r.Term r.Vote r.Role r4.1 r.Votes (r3.set r.ID.toNat (l.length:Int)) r4.2).bind fun r5=>
 .ok (0,({ ID:=r.ID,Many:=r.Many,Term:=r.Term,Vote:=r.Vote,Log:=r4.2,Role:=r.Role,Commit:=r4.1,Votes:=r.Votes,Match:=(r3.set r.ID.toNat (l.length:Int)) }:Replica),r5)
def I2 (r:Replica)(data:List Int):R (Int×Replica×(List Message)):=
 (D6 r).bind fun e=>
 if(e != 0) then
(.ok (e,({ ID:=0,Many:=0,Term:=0,Vote:=0,Log:=[],Role:=0,Commit:=0,Votes:=[],Match:=[] }:Replica),[]))
else
(if(r.Role != 2) then
(.ok (470,({ ID:=0,Many:=0,Term:=0,Vote:=0,Log:=[],Role:=0,Commit:=0,Votes:=[],Match:=[] }:Replica),[]))
else
(if(r.Log.length:Int)≥4096 then
(.ok (2,({ ID:=0,Many:=0,Term:=0,Vote:=0,Log:=[],Role:=0,Commit:=0,Votes:=[],Match:=[] }:Replica),[]))
else
((Dg r).bind fun _=>
 (Gy r.Log).bind fun r1=>
 if(r1.length+[({ Term:=r.Term,Data:=data }:Record)].length) * 32≤Ca then
 Lt r (r1++[({ Term:=r.Term,Data:=data }:Record)]) else .bad)))
def Oy (r:Replica)(l:List Record):R (Int×Replica×(List Message)):=
 (Fv r.Match).bind fun r3=>
 (Cs r3 r.ID).bind fun a=>
 (D9 r.ID r.Many r.Term r.Vote r.Role r.Commit r.Votes l (r3.set r.ID.toNat (l.length:Int))).bind fun r4=>
 (E5 r.ID r.Many r.Term r.Vote r.Role r4.1 r.Votes (r3.set r.ID.toNat (l.length:Int)) r4.2).bind fun r5=>
 .ok (0,({ ID:=r.ID,Many:=r.Many,Term:=r.Term,Vote:=r.Vote,Log:=r4.2,Role:=r.Role,Commit:=r4.1,Votes:=r.Votes,Match:=(r3.set r.ID.toNat (l.length:Int)) }:Replica),r5)
def Lr (r:Replica):R (Int×Replica×(List Message)):=
 (D6 r).bind fun e=>
 if(e != 0) then
(.ok (e,({ ID:=0,Many:=0,Term:=0,Vote:=0,Log:=[],Role:=0,Commit:=0,Votes:=[],Match:=[] }:Replica),[]))
else
(if(r.Role != 2) then
(.ok (470,({ ID:=0,Many:=0,Term:=0,Vote:=0,Log:=[],Role:=0,Commit:=0,Votes:=[],Match:=[] }:Replica),[]))
else
(if(r.Log.length:Int)≥4096 then
(.ok (2,({ ID:=0,Many:=0,Term:=0,Vote:=0,Log:=[],Role:=0,Commit:=0,Votes:=[],Match:=[] }:Replica),[]))
else
((Dg r).bind fun _=>
 (Gy r.Log).bind fun r1=>
 if(r1.length+[({ Term:=r.Term,Data:=[] }:Record)].length) * 32≤Ca then
 Oy r (r1++[({ Term:=r.Term,Data:=[] }:Record)]) else .bad)))
def G3 (a1:T44)(l:List Replica)(l1:List Message):R (((List Replica)×(List Message)) ⊕ Bool):=
 (G0 a1 l l1).bind fun r2=>
 if r2.1 then
(.ok (.inl (r2.2.1,r2.2.2)))
else
(.ok (.inr (false)))
def J0 (x2:Int)(x3:Int)(l2:List Replica)(a2:Replica)(x6:Int):R ((Int×Int×Int×(List Replica)) ⊕ (Int×Int×(List Replica))):=
 .ok (.inl (x6,(if a2.Term > x2 then a2.Term else x2),(IntKind.wrap .i64 (x3+1)),l2))
def F2 (x1:Int)(x2:Int)(x3:Int)(l2:List Replica)(a2:Replica)(a3:Replica)(x4:Int)(x5:Int):R ((Int×Int×Int×(List Replica)) ⊕ (Int×Int×(List Replica))):=
 if((decide (x4 > x5))||((x4==x5)&&(decide ((a2.Log.length:Int) > (a3.Log.length:Int))))) then
(J0 x2 x3 l2 a2 x3)
else
(J0 x2 x3 l2 a2 x1)
def Ih (x1:Int)(x2:Int)(x3:Int)(l2:List Replica)(a2:Replica)(a3:Replica)(x4:Int):R ((Int×Int×Int×(List Replica)) ⊕ (Int×Int×(List Replica))):=
 if(a3.Log.length:Int) > 0 then
((Cs a3.Log (IntKind.wrap .i64 ((a3.Log.length:Int) - 1))).bind fun a5=>
 F2 x1 x2 x3 l2 a2 a3 x4 a5.Term)
else
(F2 x1 x2 x3 l2 a2 a3 x4 0)
def Er (x1:Int)(x2:Int)(x3:Int)(l2:List Replica):R ((Int×Int×Int×(List Replica)) ⊕ (Int×Int×(List Replica))):=
 if x3<(l2.length:Int) then
((Cs l2 x3).bind fun a2=>
 (Cs l2 x1).bind fun a3=>
 if(a2.Log.length:Int) > 0 then
((Cs a2.Log (IntKind.wrap .i64 ((a2.Log.length:Int) - 1))).bind fun a4=>
 Ih x1 x2 x3 l2 a2 a3 a4.Term)
else
(Ih x1 x2 x3 l2 a2 a3 0))
else
(.ok (.inr ((x1,x2,l2))))
def Ea (x7:Int)(x8:Int)(x9:Int)(l4:List Replica)(l5:List Message):R ((Int×(List Replica)×(List Message)) ⊕ (((List Replica)×(List Message)) ⊕ Bool)):=
 if x9≤x8 then
((G0 ({ Kind:=0,At:=(IntKind.wrap .u8 x7),Data:=0 }:T44) l4 l5).bind fun r3=>
 if r3.1 then
(.ok (.inl ((IntKind.wrap .i64 (x9+1)),r3.2.1,r3.2.2)))
else
(.ok (.inr (.inr (false)))))
else
(.ok (.inr (.inl ((l4,l5)))))
def Fa (r12:(List (List Int)))(x11:Int)(l8:List Replica):R ((Int×(List Replica)) ⊕ (Unit ⊕ Bool)):=
 if x11<(l8.length:Int) then
((Cs l8 x11).bind fun a12=>
 (C9 a12).bind fun r13=>
 (Qc r13 r12).bind fun r14=>
 if((!r14)||(decide ((r13.length:Int)<(IntKind.wrap .i64 ((r12.length:Int) - 1))))) then
(.ok (.inr (.inr (false))))
else
(.ok (.inl ((IntKind.wrap .i64 (x11+1)),l8))))
else
(.ok (.inr (.inl (()))))
def Li:R Bool:=
 .ok true
def Ig (r:Bool)(r11:(Bool×(List Replica)×(List Message)))(r12:(List (List Int)))(x10:Bool):R Bool:=
 if x10 then
(.ok false)
else
((loop (Dn fun x11 l8=>Fa r12 x11 l8) (0,r11.2.1)).bind (Jk (fun _=>Li) (fun r=>.ok r)))
def J1 (c:List Int)(r:Bool)(x7:Int)(l6:List Replica)(l7:List Message):R Bool:=
 (Cs l6 x7).bind fun a7=>
 (Pl a7.Term l7).bind fun r4=>
 (Fr l6 r4.2).bind fun r5=>
 if r5.1 then
((Cs r5.2.1 x7).bind fun a8=>
 (I2 a8 c).bind fun r6=>
 (Jb x7 r6.2.1 r5.2.1 r5.2.2).bind fun r7=>
 if((r6.1 != 0)||(!r7.1)) then
(.ok false)
else
((Fr r7.2.1 r6.2.2).bind fun r8=>
 if r8.1 then
((Cs r8.2.1 x7).bind fun a9=>
 (Lr a9).bind fun r9=>
 (Jb x7 r9.2.1 r8.2.1 r8.2.2).bind fun r10=>
 if((r9.1 != 0)||(!r10.1)) then
(.ok false)
else
((Fr r10.2.1 r9.2.2).bind fun r11=>
 if r11.1 then
((Cs r11.2.1 x7).bind fun a10=>
 (C9 a10).bind fun r12=>
 if((r12.length:Int) != (a10.Log.length:Int)) then
(Ig r r11 r12 true)
else
(if(decide ((r12.length:Int)<2)) then
(Ig r r11 r12 true)
else
((Cs r12 (IntKind.wrap .i64 ((r12.length:Int) - 2))).bind fun a11=>
 Ig r r11 r12 (!((Cy a11)==(Cy c))))))
else
(.ok false)))
else
(.ok false)))
else
(.ok false)
def Ii (c:List Int)(r:Bool)(l1:List Message)(x7:Int)(x8:Int)(l3:List Replica):R Bool:=
 (Cs l3 x7).bind fun a6=>
 (loop (J7 fun x9 l4 l5=>Ea x7 x8 x9 l4 l5) (a6.Term,l3,l1)).bind (Jk (Dn fun l6 l7=>J1 c r x7 l6 l7) (fun r=>.ok r))
def M9 (a:Int)(b:List T44)(c:List Int):R Bool:=
 (Ql).bind fun r=>
 if r then
(if((decide ((b.length:Int) > 30))||(decide ((c.length:Int) > 20))) then
(.ok true)
else
((M5 (IntKind.wrap .i64 (1+(IntKind.wrap .i64 (Int.tmod a 5))))).bind fun r1=>
 if r1.1 then
((each (fun _ a1=>Dn fun l l1=>G3 a1 l l1) 0 b (r1.2,[])).bind (Jk (Dn fun l l1=>(loop (T3 fun x1 x2 x3 l2=>Er x1 x2 x3 l2) (0,0,0,l)).bind (J7 fun x7 x8 l3=>Ii c r l1 x7 x8 l3)) (fun r=>.ok r)))
else
(.ok false)))
else
(.ok false)
end
end Go.Am
namespace Go.Am
open Go
set_option linter.unusedVariables false
def Aay:Ty T44:=⟨Qv,fun x=>(Od .u8).good x.Kind∧(Od .u8).good x.At∧(Od .u8).good x.Data∧True,fun x=>((Od .u8).bulk x.Kind+((Od .u8).bulk x.At+((Od .u8).bulk x.Data+(0))))+1⟩
def Ot:Prop := ∀ (a0:Int) (a1:List T44) (a2:List Int) (_:(Od .u8).good a0) (_:(Zd 3 Aay).good a1) (_:(Zd 1 (Od .u8)).good a2),(Od .u8).bulk a0+((Zd 3 Aay).bulk a1+((Zd 1 (Od .u8)).bulk a2))≤1048576→M9 a0 a1 a2=.ok true
end Go.Am
namespace Go.Am
open Go
set_option linter.unusedVariables false
set_option linter.unusedSimpArgs false
namespace Rp
theorem Ok (n lo hi:Int):Bv n lo hi=.ok (decide (lo≤n)&&decide (n≤hi)):=rfl
theorem Ti (b:Bool)(e:Int):Bl b e=if b then .ok () else .pan ⟨105,.one .i64 e⟩:=rfl
def Fh (term:Int):Int→List Record→Bool
 | _,[]=>true
 | p,a::l=>decide (1≤a.Term)&&decide (a.Term≤term)&&decide (p≤a.Term)&&Fh term a.Term l
theorem Ads (term:Int)(L:List Record)(hL:L.length≤Ca) : ∀ (l:List Record) (k:Nat) (p:Int),L.drop k=l→(k=0∧p=0 ∨ ∃ j b,k=j+1∧L[j]? = some b∧p=b.Term) →
  each (fun j a=>fun _=>Ki L term j a) k l ()=if Fh term p l then .ok (.inl ()) else .ok (.inr false)
 | [],k,p,_,_=>by simp [Fh]
 | a::l,k,p,hd,hp=>by
  have hlt:k<L.length:=by
   rcases Nat.lt_or_ge k L.length with hh | hh
   ·exact hh
   ·rw [List.drop_eq_nil_of_le hh] at hd; cases hd
  have ha:L[k]? = some a:=by
   have:=List.getElem?_drop (xs:=L) (i:=k) (j:=0)
   rw [hd] at this; simpa using this.symm
  have hd':L.drop (k+1)=l:=by
   have:=congrArg List.tail hd
   simpa using this
  have ih:=Ads term L hL l (k+1) a.Term hd' (.inr ⟨k,a,rfl,ha,rfl⟩)
  have hb:Ki L term k a=if decide (1≤a.Term)&&decide (a.Term≤term)&&decide (p≤a.Term) then .ok (.inl ()) else .ok (.inr false):=by
   unfold Ki
   rw [Ok]
   simp only [R.ok_bind]
   by_cases h1:(decide (1≤a.Term)&&decide (a.Term≤term))=true
   ·rw [h1]
    simp only [Bool.not_true,Bool.false_eq_true,if_false,Bool.true_and]
    rcases hp with⟨rfl,rfl⟩ | ⟨j,b,rfl,hb,rfl⟩
    ·have h2:(0:Int)≤a.Term:=by simp at h1; omega
     simp [Ib,h2]
    ·have hj:((j+1:Nat):Int) > 0:=by omega
     have hw:IntKind.wrap .i64 (((j+1:Nat):Int) - 1)=(j:Int):=by
      unfold Ca at hL
      rw [Ga (by omega) (by omega)]; omega
     simp only [hj,decide_true,if_true,hw,D0 hb,R.ok_bind]
     by_cases h3:b.Term≤a.Term
     ·simp [Ib,h3,show ¬ a.Term<b.Term by omega]
     ·simp [Ib,h3,show a.Term<b.Term by omega]
   ·have h1':(decide (1≤a.Term)&&decide (a.Term≤term))=false:=by simpa using h1
    rw [h1']
    simp [Ib]
  rw [M7,hb]
  by_cases hc:(decide (1≤a.Term)&&decide (a.Term≤term)&&decide (p≤a.Term))=true
  ·rw [if_pos hc]
   have h0:Fh term p (a::l)=Fh term a.Term l:=by
    show(decide (1≤a.Term)&&decide (a.Term≤term)&&decide (p≤a.Term)&&Fh term a.Term l)=_
    rw [hc]; rfl
   rw [h0]
   exact ih
  ·rw [if_neg hc]
   have h0:Fh term p (a::l)=false:=by
    have:(decide (1≤a.Term)&&decide (a.Term≤term)&&decide (p≤a.Term))=false:=by simpa using hc
    show(decide (1≤a.Term)&&decide (a.Term≤term)&&decide (p≤a.Term)&&Fh term a.Term l)=false
    rw [this]; rfl
   rw [h0]; rfl
theorem Aha (l:List Record)(term:Int)(hl:l.length≤Ca):G6 l term=.ok (Fh term 0 l):=by
 unfold G6
 rw [Ads term l hl l 0 0 rfl (.inl ⟨rfl,rfl⟩)]
 cases Fh term 0 l <;> simp [Jk]
theorem Rx (term:Int) : ∀ (l:List Record) (p:Int),Fh term p l=true↔(∀ a ∈ l,1≤a.Term∧a.Term≤term∧p≤a.Term)∧l.Pairwise (fun a b=>a.Term≤b.Term)
 | [],p=>by simp [Fh]
 | a::l,p=>by
  simp only [Fh,Bool.and_eq_true,decide_eq_true_eq,Rx term l a.Term,List.mem_cons,forall_eq_or_imp,List.pairwise_cons]
  constructor
  ·rintro⟨⟨⟨h1,h2⟩,h3⟩,h4,h5⟩
   exact⟨⟨⟨h1,h2,h3⟩,fun b hb=>⟨(h4 b hb).1,(h4 b hb).2.1,by have:=(h4 b hb).2.2; omega⟩⟩,fun b hb=>(h4 b hb).2.2,h5⟩
  ·rintro⟨⟨⟨h1,h2,h3⟩,h4⟩,h5,h6⟩
   exact⟨⟨⟨h1,h2⟩,h3⟩,fun b hb=>⟨(h4 b hb).1,(h4 b hb).2.1,h5 b hb⟩,h6⟩
def I6:PV:=⟨105,.one .i64 470⟩
theorem Afi {α:Type}{b:Nat→α→Unit→R Unit} : ∀ (l:List α) (k:Nat),(∀ (j:Nat) a,l[j]? = some a→b (k+j) a ()=.ok ())→Gb b k l ()=.ok ()
 | [],k,_=>rfl
 | a::l,k,h=>by
  rw [Q2,show b k a ()=.ok () from h 0 a rfl]
  exact Afi l (k+1) fun j a ha=>by rw [show k+1+j=k+(j+1) by omega]; exact h (j+1) a (by simpa using ha)
structure Good (r:Replica):Prop where
 many:1≤r.Many∧r.Many≤5
 id:0≤r.ID∧r.ID<r.Many
 term:0≤r.Term∧r.Term≤1048576
 vote : -1≤r.Vote∧r.Vote<r.Many
 fits:Fh r.Term 0 r.Log=true
 role:0≤r.Role∧r.Role≤2
 commit:0≤r.Commit∧r.Commit≤r.Log.length
 votes:(r.Votes.length:Int)=r.Many
 mlen:(r.Match.length:Int)=r.Many
 mat : ∀ (j:Nat) a,r.Match[j]? = some a→(0≤a∧a≤r.Log.length)∧(r.Role=0→a=0∧r.Votes[j]? = some false)
 lead:r.Role≠0→r.Vote=r.ID∧1≤r.Term∧r.Votes[r.ID.toNat]? = some true
theorem Agv {r:Replica}(h:Lf r=.ok 0):D6 r=.ok 0:=by
 unfold D6
 rw [h]
 rfl
def c1 (r:Replica):Bool:=(decide (1≤r.Many)&&decide (r.Many≤5))&&((decide (0≤r.ID)&&decide (r.ID≤r.Many - 1))&&((decide (0≤r.Term)&&decide (r.Term≤1048576))&&(decide (-1≤r.Vote)&&decide (r.Vote≤r.Many - 1))))
def c2 (r:Replica):Bool:=(Fh r.Term 0 r.Log&&((decide (0≤r.Role)&&decide (r.Role≤2))&&(decide (0≤r.Commit)&&decide (r.Commit≤(r.Log.length:Int)))))&&((r.Votes.length:Int)==r.Many)&&((r.Match.length:Int)==r.Many)
def m3 (r:Replica)(j:Nat)(a:Int):Bool:=(decide (0≤a)&&decide (a≤(r.Log.length:Int)))&&(r.Role != 0||(a==0 && !(r.Votes.getD j false)))
def c4 (r:Replica):Bool:=r.Role==0||((r.Vote==r.ID)&&decide (r.Term≥1)&&r.Votes.getD r.ID.toNat false)
theorem Apz {r:Replica}{j:Nat}{a:Int}(hj:j<r.Votes.length):Fe r j a=if m3 r j a then .ok () else .pan I6:=by
 unfold Fe m3
 rw [Ok]
 simp only [R.ok_bind,Ti]
 cases h1:(decide (0≤a)&&decide (a≤(r.Log.length:Int))) with
 | false=>simp [I6]
 | true=>
  simp only [if_true,R.ok_bind,Bool.true_and]
  by_cases h2:r.Role=0
  ·simp only [h2,bne_self_eq_false,Bool.false_eq_true,if_false,Bool.false_or]
   by_cases h3:a=0
   ·have hv:r.Votes[j]? = some (r.Votes.getD j false):=by simp [List.getD,hj]
    subst h3
    simp only [beq_self_eq_true,if_true,D0 hv,R.ok_bind,Bool.true_and]
    cases r.Votes.getD j false <;> simp [I6]
   ·simp [h3,I6]
  ·simp [h2]
theorem Anl {r:Replica}(hl:r.Log.length≤Ca):Lf r=if c1 r then(if c2 r then((Gb (fun j a=>fun _=>Fe r j a) 0 r.Match ()).bind fun _=>if c4 r then .ok 0 else .pan I6) else .pan I6) else .pan I6:=by
 unfold Lf
 simp only [Ok,R.ok_bind,Ti,Aha _ _ hl]
 unfold c1
 cases h1:(decide (1≤r.Many)&&decide (r.Many≤5)) with
 | false=>simp [I6]
 | true=>
  have hm:1≤r.Many∧r.Many≤5:=by simpa using h1
  have hw:IntKind.wrap .i64 (r.Many - 1)=r.Many - 1:=Ga (by omega) (by omega)
  simp only [hw,if_true,R.ok_bind,Bool.true_and]
  cases h2:(decide (0≤r.ID)&&decide (r.ID≤r.Many - 1)) with
  | false=>simp [I6]
  | true=>
   have hi:0≤r.ID∧r.ID≤r.Many - 1:=by simpa using h2
   simp only [if_true,R.ok_bind,Bool.true_and]
   cases h3:(decide (0≤r.Term)&&decide (r.Term≤1048576)) with
   | false=>simp [I6]
   | true=>
    simp only [if_true,R.ok_bind,Bool.true_and]
    cases h4:(decide (-1≤r.Vote)&&decide (r.Vote≤r.Many - 1)) with
    | false=>simp [I6]
    | true=>
     simp only [if_true,R.ok_bind]
     unfold c2
     cases h5:Fh r.Term 0 r.Log with
     | false=>simp [I6]
     | true=>
      simp only [if_true,R.ok_bind,Bool.true_and]
      cases h6:(decide (0≤r.Role)&&decide (r.Role≤2)) with
      | false=>simp [I6]
      | true=>
       simp only [if_true,R.ok_bind,Bool.true_and]
       cases h7:((decide (0≤r.Commit)&&decide (r.Commit≤(r.Log.length:Int)))&&((r.Votes.length:Int)==r.Many)&&((r.Match.length:Int)==r.Many)) with
       | false=>simp [I6]
       | true=>
        simp only [if_true,R.ok_bind]
        congr 1
        funext _
        unfold c4
        by_cases h8:r.Role=0
        ·simp [h8]
        ·simp only [h8,beq_iff_eq,if_false,show(r.Role==0)=false by simpa using h8,Bool.false_or,Bool.false_eq_true]
         cases h9:((r.Vote==r.ID)&&decide (r.Term≥1)) with
         | false=>simp [I6]
         | true=>
          have hv:(r.Votes.length:Int)=r.Many:=by simp at h7; exact h7.1.2
          have hg:Cs r.Votes r.ID=.ok (r.Votes.getD r.ID.toNat false):=by
           have hlt:r.ID.toNat<r.Votes.length:=by omega
           have e:((r.ID.toNat:Nat):Int)=r.ID:=by omega
           have:=D0 (l:=r.Votes) (j:=r.ID.toNat) (a:=r.Votes.getD r.ID.toNat false) (by simp [List.getD,hlt])
           rw [e] at this
           exact this
          simp only [if_true,hg,R.ok_bind,Bool.true_and]
          cases r.Votes.getD r.ID.toNat false <;> simp [I6]
end Rp
end Go.Am
namespace Go.Am
open Go
set_option linter.unusedVariables false
set_option linter.unusedSimpArgs false
namespace Rp
theorem Alk (r:Replica):Good r↔c1 r=true∧c2 r=true∧(∀ (j:Nat) a,r.Match[j]? = some a→m3 r j a=true)∧c4 r=true:=by
 constructor
 ·intro h
  refine⟨?_,?_,fun j a ha=>?_,?_⟩
  ·have:=h.many; have:=h.id; have:=h.term; have:=h.vote
   simp only [c1,Bool.and_eq_true,decide_eq_true_eq]
   omega
  ·have:=h.role; have:=h.commit; have:=h.votes; have:=h.mlen
   simp only [c2,Bool.and_eq_true,decide_eq_true_eq,beq_iff_eq]
   exact⟨⟨⟨h.fits,h.role,h.commit⟩,h.votes⟩,h.mlen⟩
  ·obtain⟨h1,h2⟩:=h.mat j a ha
   simp only [m3,Bool.and_eq_true,decide_eq_true_eq,Bool.or_eq_true,bne_iff_ne,ne_eq,beq_iff_eq,Bool.not_eq_true']
   refine⟨h1,?_⟩
   by_cases h0:r.Role=0
   ·obtain⟨h3,h4⟩:=h2 h0
    exact .inr ⟨h3,by simp [List.getD,h4]⟩
   ·exact .inl h0
  ·simp only [c4,Bool.or_eq_true,beq_iff_eq,Bool.and_eq_true,decide_eq_true_eq]
   by_cases h0:r.Role=0
   ·exact .inl h0
   ·obtain⟨h3,h4,h5⟩:=h.lead h0
    exact .inr ⟨⟨h3,h4⟩,by simp [List.getD,h5]⟩
 ·rintro⟨h1,h2,h3,h4⟩
  simp only [c1,Bool.and_eq_true,decide_eq_true_eq] at h1
  simp only [c2,Bool.and_eq_true,decide_eq_true_eq,beq_iff_eq] at h2
  have hv:(r.Votes.length:Int)=r.Many:=h2.1.2
  refine⟨h1.1,⟨h1.2.1.1,by omega⟩,h1.2.2.1,⟨h1.2.2.2.1,by omega⟩,h2.1.1.1,h2.1.1.2.1,h2.1.1.2.2,hv,h2.2,fun j a ha=>?_,fun h0=>?_⟩
  ·have:=h3 j a ha
   simp only [m3,Bool.and_eq_true,decide_eq_true_eq,Bool.or_eq_true,bne_iff_ne,ne_eq,beq_iff_eq,Bool.not_eq_true'] at this
   refine⟨this.1,fun h0=>?_⟩
   rcases this.2 with h5 | ⟨h5,h6⟩
   ·exact absurd h0 h5
   ·refine⟨h5,?_⟩
    have hj:j<r.Votes.length:=by
     have:j<r.Match.length:=by
      rcases Nat.lt_or_ge j r.Match.length with hh | hh
      ·exact hh
      ·rw [List.getElem?_eq_none hh] at ha; cases ha
     omega
    rw [List.getElem?_eq_getElem hj]
    simp [List.getD,hj] at h6
    rw [h6]
  ·simp only [c4,Bool.or_eq_true,beq_iff_eq,Bool.and_eq_true,decide_eq_true_eq] at h4
   rcases h4 with h5 | ⟨⟨h5,h6⟩,h7⟩
   ·exact absurd h5 h0
   ·refine⟨h5,h6,?_⟩
    have hj:r.ID.toNat<r.Votes.length:=by omega
    rw [List.getElem?_eq_getElem hj]
    simp [List.getD,hj] at h7
    rw [h7]
theorem Aqg {r:Replica}(h1:c2 r=true){j:Nat}{a:Int}(ha:r.Match[j]? = some a):j<r.Votes.length:=by
 simp only [c2,Bool.and_eq_true,decide_eq_true_eq,beq_iff_eq] at h1
 have h2:=h1.1.2
 have h3:=h1.2
 have:j<r.Match.length:=by
  rcases Nat.lt_or_ge j r.Match.length with hh | hh
  ·exact hh
  ·rw [List.getElem?_eq_none hh] at ha; cases ha
 omega
theorem Qj {r:Replica}(hl:r.Log.length≤Ca)(h:Good r):D6 r=.ok 0:=by
 obtain⟨h1,h2,h3,h4⟩:=(Alk r).1 h
 refine Agv ?_
 rw [Anl hl,if_pos h1,if_pos h2,Afi r.Match 0 fun j a ha=>?_,R.ok_bind,if_pos h4]
 rw [Nat.zero_add,Apz (Aqg h2 ha),if_pos (h3 j a ha)]
end Rp
end Go.Am
namespace Go.Am
open Go
set_option linter.unusedVariables false
set_option linter.unusedSimpArgs false
namespace Rp
def E7 (l:List Record):Int:=match l.getLast? with
 | none=>0
 | some a=>a.Term
theorem Ag7 (r:Replica)(s:List Message)(hl:r.Log.length≤Ca):Gn ({ Replica:=r,fSent:=s }:T87)=.ok (E7 r.Log):=by
 unfold Gn E7
 rcases List.eq_nil_or_concat r.Log with h | ⟨l,a,h⟩
 ·simp [h]
 ·have hlen:r.Log.length=l.length+1:=by rw [h]; simp
  have hne:((r.Log.length:Int)==0)=false:=by rw [hlen]; simp; omega
  have hw:IntKind.wrap .i64 ((r.Log.length:Int) - 1)=(l.length:Int):=by
   unfold Ca at hl
   rw [Ga (by omega) (by omega)]; omega
  have hg:r.Log[l.length]? = some a:=by rw [h]; simp
  simp only [hne,Bool.false_eq_true,if_false,hw,D0 hg,R.ok_bind]
  rw [h]
  simp
theorem Vu {r:Replica}(h:0≤r.Many∧r.Many≤5):Cx r=.ok (List.replicate r.Many.toNat false,List.replicate r.Many.toNat 0):=by
 unfold Cx Ic J3
 rw [Ok]
 simp only [R.ok_bind,h.1,h.2,decide_true,Bool.and_self,if_true]
 rw [if_pos ⟨trivial,Int.le_refl _,by unfold Ca; omega⟩,if_pos ⟨trivial,Int.le_refl _,by unfold Ca; omega⟩]
def Sl (l:List Record):Prop := ∀ a ∈ l,∀ b ∈ a.Data,0≤b∧b<256
theorem Ad0 : ∀ {a b:List Int},(∀ x ∈ a,0≤x∧x<256)→(∀ x ∈ b,0≤x∧x<256)→Cy a=Cy b→a=b
 | [],[],_,_,_=>rfl
 | [],_::_,_,_,h=>by simp [Cy] at h
 | _::_,[],_,_,h=>by simp [Cy] at h
 | x::a,y::b,ha,hb,h=>by
  simp only [Cy,List.map_cons,List.cons.injEq] at h
  have e:=Ad0 (fun z hz=>ha z (List.mem_cons_of_mem _ hz)) (fun z hz=>hb z (List.mem_cons_of_mem _ hz)) h.2
  have h1:=ha x (List.mem_cons_self ..)
  have h2:=hb y (List.mem_cons_self ..)
  have h3:=congrArg UInt8.toNat h.1
  have e1:(UInt8.ofNat x.toNat).toNat=x.toNat:=by simp; omega
  have e2:(UInt8.ofNat y.toNat).toNat=y.toNat:=by simp; omega
  rw [e1,e2] at h3
  rw [e,show x=y by omega]
theorem Ah9 {a b:Record}(ha : ∀ x ∈ a.Data,0≤x∧x<256)(hb : ∀ x ∈ b.Data,0≤x∧x<256):H4 a b=if a=b then .ok (.inl ()) else .ok (.inr ()):=by
 unfold H4
 by_cases h:a=b
 ·subst h; simp
 ·rw [if_neg h,if_pos]
  simp only [Bool.or_eq_true,bne_iff_ne,ne_eq,Bool.not_eq_true',beq_eq_false_iff_ne]
  refine Classical.byContradiction fun hn=>h ?_
  have h1:a.Term=b.Term:=Classical.byContradiction fun hq=>hn (.inl hq)
  have h2:Cy a.Data=Cy b.Data:=Classical.byContradiction fun hq=>hn (.inr hq)
  have h3:=Ad0 ha hb h2
  cases a; cases b
  simp only at h1 h3
  rw [h1,h3]
theorem Ah1 {a b:List Record}(ha1:Sl a)(hb1:Sl b){k:Nat}(h1:k<a.length)(h2:k<b.length) :
  (Dn fun x s=>Fw a b (fun a1 a2 z_=>R.np ((fun _=>H4 a1 a2) z_)) x s) ((k:Int),())=if a[k]=b[k] then .ok (.inl (IntKind.wrap .i64 ((k:Int)+1),())) else .ok (.inr (.inr (.inr ()))):=by
 have hlt:((k:Int)<(if(b.length:Int)<(a.length:Int) then(b.length:Int) else(a.length:Int))):=by split <;> omega
 simp only [Dn,Fw,if_pos hlt,D0 (List.getElem?_eq_getElem h1),D0 (List.getElem?_eq_getElem h2),R.ok_bind,
   Ah9 (ha1 _ (List.getElem_mem h1)) (hb1 _ (List.getElem_mem h2))]
 by_cases hq:a[k]=b[k]
 ·rw [if_pos hq,if_pos hq]; rfl
 ·rw [if_neg hq,if_neg hq]; rfl
theorem Ab3 {a b:List Record}(hl:a.length≤Ca)(hb:b.length≤Ca)(ha1:Sl a)(hb1:Sl b) : ∀ (n k:Nat),k+n=min a.length b.length →
  loop (Dn fun x s=>Fw a b (fun a1 a2 z_=>R.np ((fun _=>H4 a1 a2) z_)) x s) ((k:Int),()) =
   if(a.drop k).take n=(b.drop k).take n then .ok (.inl ()) else .ok (.inr (.inr ()))
 | 0,k,hk=>by
  rw [Jy]
  have:¬ ((k:Int)<(if(b.length:Int)<(a.length:Int) then(b.length:Int) else(a.length:Int))):=by split <;> omega
  simp only [Dn,Fw,if_neg this,R.ok_bind,List.take_zero,if_true]
 | n+1,k,hk=>by
  have h1:k<a.length:=by omega
  have h2:k<b.length:=by omega
  have e1:a.drop k=a[k]::a.drop (k+1):=List.drop_eq_getElem_cons h1
  have e2:b.drop k=b[k]::b.drop (k+1):=List.drop_eq_getElem_cons h2
  have hw:IntKind.wrap .i64 ((k:Int)+1)=((k+1:Nat):Int):=by
   unfold Ca at hl hb
   rw [Ga (by omega) (by omega)]; omega
  have ih:=Ab3 hl hb ha1 hb1 n (k+1) (by omega)
  rw [Jy,Ah1 ha1 hb1 h1 h2,e1,e2,List.take_succ_cons,List.take_succ_cons]
  by_cases hq:a[k]=b[k]
  ·rw [if_pos hq,hw,R.ok_bind]
   simp only [hq,List.cons.injEq,true_and]
   exact ih
  ·rw [if_neg hq,R.ok_bind,if_neg]
   intro h
   exact hq (List.cons.inj h).1
open Classical in
theorem Ad2 {a b : List Record} (hl : a.length ≤ Ca) (hb : b.length ≤ Ca) (ha1 : Sl a) (hb1 : Sl b) : Jn a b = .ok (decide (a <+: b)) := by
 unfold Jn Lj Jm
 have := Ab3 hl hb ha1 hb1 (min a.length b.length) 0 (by omega)
 simp only [R.ok_bind]
 rw [show ((0 : Int), ()) = (((0 : Nat) : Int), ()) from rfl, this]
 simp only [List.drop_zero]
 by_cases hq : a.take (min a.length b.length) = b.take (min a.length b.length)
 ·rw [if_pos hq]
  simp only [R.ok_bind, Jk, I7]
  congr 1
  rw [decide_eq_decide]
  constructor
  ·intro h
   have h' : a.length ≤ b.length := by omega
   rw [show min a.length b.length = a.length by omega, List.take_length] at hq
   rw [hq]; exact List.take_prefix _ _
  ·intro h
   have := h.length_le
   omega
 ·rw [if_neg hq]
  simp only [R.ok_bind, Jk]
  congr 1
  symm
  rw [decide_eq_false_iff_not]
  intro h
  refine hq ?_
  have h' := h.length_le
  rw [show min a.length b.length = a.length by omega, List.take_length]
  exact (List.prefix_iff_eq_take.1 h)
end Rp
end Go.Am
namespace Go.Am
open Go
set_option linter.unusedVariables false
set_option linter.unusedSimpArgs false
namespace Rp
def Db (many id:Int):List Nat:=(List.range many.toNat).filter fun x=>decide ((x:Int)≠id)
theorem Aal {b:Int×List Message→R ((Int×List Message) ⊕ List Message)}{many id:Int}{g:Int→Message}(hm:0≤many∧many≤5)
  (hb : ∀ x l,b (x,l)=if x<many then(if(x != id) then((if(l.length+1) * 96≤Ca then R.ok (l++[g x]) else .bad).bind fun r=>.ok (.inl (IntKind.wrap .i64 (x+1),r))) else .ok (.inl (IntKind.wrap .i64 (x+1),l))) else .ok (.inr l)) :
  ∀ (n k:Nat) (l:List Message),k+n=many.toNat→l.length≤k→loop b ((k:Int),l)=.ok (l++(((List.range' k n).filter fun(x:Nat)=>decide ((x:Int)≠id)).map fun(x:Nat)=>g x))
 | 0,k,l,hk,hl=>by
  rw [Jy,hb,if_neg (by omega)]
  simp
 | n+1,k,l,hk,hl=>by
  have hw:IntKind.wrap .i64 ((k:Int)+1)=((k+1:Nat):Int):=by rw [Ga (by omega) (by omega)]; omega
  rw [Jy,hb,if_pos (by omega),List.range'_succ]
  by_cases hq:(k:Int)=id
  ·have h1:((k:Int) != id)=false:=by simpa using hq
   rw [h1]
   simp only [Bool.false_eq_true,if_false,R.ok_bind,hw]
   rw [Aal hm hb n (k+1) l (by omega) (by omega)]
   congr 2
   rw [List.filter_cons_of_neg (by simpa using hq)]
  ·have h1:((k:Int) != id)=true:=by simpa using hq
   rw [h1]
   simp only [if_true]
   rw [if_pos (by unfold Ca; omega)]
   simp only [R.ok_bind,hw]
   rw [Aal hm hb n (k+1) (l++[g k]) (by omega) (by simp; omega)]
   congr 1
   rw [List.filter_cons_of_pos (by simpa using hq)]
   simp
theorem X0 {b:Int×List Message→R ((Int×List Message) ⊕ List Message)}{many id:Int}{g:Int→Message}(hm:0≤many∧many≤5)
  (hb : ∀ x l,b (x,l)=if x<many then(if(x != id) then((if(l.length+1) * 96≤Ca then R.ok (l++[g x]) else .bad).bind fun r=>.ok (.inl (IntKind.wrap .i64 (x+1),r))) else .ok (.inl (IntKind.wrap .i64 (x+1),l))) else .ok (.inr l)) :
  loop b (0,[])=.ok ((Db many id).map fun(x:Nat)=>g x):=by
 have:=Aal hm hb many.toNat 0 [] (by omega) (by simp)
 rw [show((0:Int),([]:List Message))=(((0:Nat):Int),[]) from rfl,this]
 simp [Db,List.range_eq_range']
def Nr (r:Replica)(m:Message)(to:Int):Message:={ Kind:=m.Kind,From:=r.ID,To:=to,Term:=r.Term,Last:=m.Last,LastTerm:=m.LastTerm,Log:=m.Log,Commit:=m.Commit,Match:=m.Match,Granted:=m.Granted }
def Fb (log:List Record)(commit:Int):Message:={ Kind:=3,From:=0,To:=0,Term:=0,Last:=0,LastTerm:=0,Log:=log,Commit:=commit,Match:=0,Granted:=false }
def De (r:Replica)(m:Message):List Message:=(Db r.Many r.ID).map fun(x:Nat)=>Nr r m x
theorem Ae9 (m:Message)(r:Replica)(hm:0≤r.Many∧r.Many≤5):Gz m r=.ok (De r m):=by
 unfold Gz
 rw [X0 (g:=fun x=>Nr r m x) (id:=r.ID) hm fun x l=>by simp only [Dn,Hy,Kc,List.length_singleton,Nr]]
 rfl
theorem Al4 (m:Message)(r:Replica)(hm:0≤r.Many∧r.Many≤5):F0 m r.ID r.Many r.Term r.Vote r.Log r.Role r.Commit r.Match=.ok (De r m):=by
 unfold F0
 rw [X0 (g:=fun x=>Nr r m x) (id:=r.ID) hm fun x l=>by simp only [Dn,H1,Jz,List.length_singleton,Nr]]
 rfl
theorem Al6 (m:Message)(r:Replica)(hm:0≤r.Many∧r.Many≤5)(hl:m.Log=[]):Fx m.Kind m.From m.To m.Term m.Last m.LastTerm m.Commit m.Match m.Granted r.ID r.Many r.Term r.Vote r.Log r.Role r.Commit=.ok (De r m):=by
 unfold Fx
 rw [X0 (g:=fun x=>Nr r m x) (id:=r.ID) hm fun x l=>by simp only [Dn,Hx,Jo,List.length_singleton,Nr,hl]]
 rfl
theorem Aio (l:List Int)(hl:l.length≤5):Gc l=.ok l:=by
 have key : ∀ (l s:List Int) (k:Nat),l.length+s.length≤5→Gb (fun _ a=>fun s=>Gd (fun a z_=>R.np ((fun l=>Fs a l) z_)) a s) k l s=.ok (s++l):=by
  intro l
  induction l with
  | nil=>intro s k _; simp [Xg]
  | cons a l ih=>
   intro s k h
   simp only [List.length_cons] at h
   have hs:Gd (fun a z_=>R.np ((fun l=>Fs a l) z_)) a s=.ok (s++[a]):=by
    simp only [Gd,Fs,List.length_singleton]
    rw [if_pos (by unfold Ca; omega)]
    rfl
   rw [Q2,hs,R.ok_bind,ih (s++[a]) (k+1) (by simp; omega)]
   simp
 unfold Gc H9 Ko
 rw [key l [] 0 (by simpa using hl)]
 rfl
theorem Akd (l:List Int)(hl:l.length≤5):D5 l=.ok (Hb l):=by
 unfold D5 N1 R1
 rw [Aio l hl]
 simp only [R.ok_bind]
 rw [if_pos (by unfold Ca; omega)]
 rfl
def Ev (l:List Int):Int:=(Hb l).getD ((l.length - 1) / 2) 0
theorem Aks {l:List Int}(h1:1≤l.length)(hl:l.length≤5):Cs (Hb l) (IntKind.wrap .i64 (Int.tdiv (IntKind.wrap .i64 (((Hb l).length:Int) - 1)) 2))=.ok (Ev l):=by
 rw [Qb]
 have e1:IntKind.wrap .i64 ((l.length:Int) - 1)=((l.length - 1:Nat):Int):=by rw [Ga (by omega) (by omega)]; omega
 have e2:Int.tdiv ((l.length - 1:Nat):Int) 2=(((l.length - 1) / 2:Nat):Int):=by
  rw [show(2:Int)=((2:Nat):Int) from rfl,← Int.ofNat_tdiv]
 have e3:IntKind.wrap .i64 (((l.length - 1) / 2:Nat):Int)=(((l.length - 1) / 2:Nat):Int):=Ga (by omega) (by omega)
 rw [e1,e2,e3]
 refine D0 ?_
 have hlt:(l.length - 1) / 2<(Hb l).length:=by rw [Qb]; omega
 unfold Ev
 simp [List.getD,hlt]
def Nq (term:Int)(log:List Record)(commit:Int)(mat:List Int):Int:=
 if Ev mat > commit∧(log.getD (Ev mat - 1).toNat Nj).Term=term then Ev mat else commit
theorem An0 {log:List Record}{a:Int}(h0:1≤a)(h1:a≤log.length)(hl:log.length≤Ca):Cs log (IntKind.wrap .i64 (a - 1))=.ok (log.getD (a - 1).toNat Nj):=by
 unfold Ca at hl
 have hw:IntKind.wrap .i64 (a - 1)=(((a - 1).toNat:Nat):Int):=by rw [Ga (by omega) (by omega)]; omega
 rw [hw]
 refine D0 ?_
 have hlt:(a - 1).toNat<log.length:=by omega
 simp only [List.getD,List.getElem?_eq_getElem hlt,Option.getD_some]
theorem Um {l:List Int}(h1:1≤l.length):Ev l ∈ l:=by
 have hlt:(l.length - 1) / 2<(Hb l).length:=by rw [Qb]; omega
 have:Ev l ∈ Hb l:=by
  unfold Ev
  simp only [List.getD,List.getElem?_eq_getElem hlt,Option.getD_some]
  exact List.getElem_mem hlt
 exact List.mem_mergeSort.1 this
end Rp
end Go.Am
namespace Go.Am
open Go
set_option linter.unusedVariables false
set_option linter.unusedSimpArgs false
namespace Rp
def Hu (r:Replica):Replica:={ r with Role:=0,Votes:=List.replicate r.Many.toNat false,Match:=List.replicate r.Many.toNat 0 }
def Nt (r:Replica)(m:Message)(kind:Int)(granted:Bool)(mat:Int):Message:=
 { Kind:=kind,From:=r.ID,To:=m.From,Term:=r.Term,Last:=0,LastTerm:=0,Log:=[],Commit:=0,Match:=mat,Granted:=granted }
def Yw (r:Replica)(m:Message):Bool:=decide (m.LastTerm > E7 r.Log)||(decide (m.LastTerm=E7 r.Log)&&decide (m.Last≥(r.Log.length:Int)))
def Lo (r:Replica)(m:Message):Bool:=(decide (m.Term=r.Term)&&(decide (r.Vote = -1)||decide (r.Vote=m.From)))&&Yw r m
def Ml (r:Replica)(m:Message):Replica×List Message:=(if Lo r m then { r with Vote:=m.From } else r,[Nt r m 2 (Lo r m) 0])
theorem Zf {α:Type}(a:α)(c:Nat)(h:c≤96):[a].length * c≤Ca:=by simp only [List.length_singleton]; unfold Ca; omega
theorem Api (m:Message)(s:Replica)(g:Bool):Fm m s g=.ok (if g then { s with Vote:=m.From } else s,[Nt s m 2 g 0]):=by
 unfold Fm I8 Fl
 cases g
 ·simp only [Bool.false_eq_true,if_false]
  rw [if_pos (Zf _ 96 (by omega))]
  rfl
 ·simp only [if_true]
  rw [if_pos (Zf _ 96 (by omega))]
  rfl
theorem Aol (m:Message)(s:Replica)(g:Bool):Gt m s g=.ok (if(decide (m.Term=s.Term)&&(decide (s.Vote = -1)||decide (s.Vote=m.From)))&&g then { s with Vote:=m.From } else s,[Nt s m 2 ((decide (m.Term=s.Term)&&(decide (s.Vote = -1)||decide (s.Vote=m.From)))&&g) 0]):=by
 unfold Gt
 simp only [Api]
 by_cases h1:m.Term=s.Term
 ·by_cases h2:s.Vote = -1
  ·simp [h1,h2]
  ·by_cases h3:s.Vote=m.From
   ·simp [h1,h2,h3]
   ·simp [h1,h2,h3]
 ·simp [h1]
theorem Aok {m:Message}{s:Replica}(hl:s.Log.length≤Ca):H5 m s=.ok (Ml s m):=by
 unfold H5 Ml Lo Yw
 simp only [Ag7 s [] hl,R.ok_bind,Aol]
 by_cases h1:m.LastTerm > E7 s.Log
 ·simp [h1]
 ·by_cases h2:m.LastTerm=E7 s.Log
  ·simp [h2]
  ·simp [h1,h2]
theorem Aa5 (l:List Bool)(L:List Bool)(hL:L.length≤5) : ∀ (rest:List Bool) (k:Nat) (n:Int),L.drop k=rest→0≤n→n≤k →
  Gb (fun j _=>Dn fun n x2=>Fi j n x2) k rest (n,L)=.ok (n+(rest.count true:Nat),L)
 | [],k,n,_,_,_=>by simp [Xg]
 | a::rest,k,n,hd,h0,hk=>by
  have hlt:k<L.length:=by
   rcases Nat.lt_or_ge k L.length with hh | hh
   ·exact hh
   ·rw [List.drop_eq_nil_of_le hh] at hd; cases hd
  have ha:L[k]? = some a:=by
   have:=List.getElem?_drop (xs:=L) (i:=k) (j:=0)
   rw [hd] at this; simpa using this.symm
  have hd':L.drop (k+1)=rest:=by
   have:=congrArg List.tail hd
   simpa using this
  have hb:(Dn fun n x2=>Fi k n x2) (n,L)=.ok (n+(if a then 1 else 0),L):=by
   simp only [Dn,Fi,D0 ha,R.ok_bind]
   cases a
   ·simp
   ·simp only [if_true]
    rw [Ga (by omega) (by omega)]
  rw [Q2]
  simp only [hb,R.ok_bind]
  rw [Aa5 l L hL rest (k+1) _ hd' (by cases a <;> simp <;> omega) (by cases a <;> simp <;> omega)]
  cases a <;> simp <;> omega
def Ji (r:Replica):Replica×List Message:=
 let mat:=(List.replicate r.Many.toNat (0:Int)).set r.ID.toNat r.Log.length
 let r':Replica:={ r with Role:=2,Commit:=Nq r.Term r.Log r.Commit mat,Match:=mat }
 (r',De r' (Fb r.Log r'.Commit))
def K5 (r:Replica)(m:Message):Replica×List Message:=
 if r.Role=1∧m.Term=r.Term∧m.Granted=true then
  let r':Replica:={ r with Votes:=r.Votes.set m.From.toNat true }
  if 2 * ((r'.Votes.count true:Nat):Int) > r.Many then Ji r' else(r',[])
 else(r,[])
structure Shape (r:Replica):Prop where
 many:1≤r.Many∧r.Many≤5
 id:0≤r.ID∧r.ID<r.Many
 commit:0≤r.Commit∧r.Commit≤r.Log.length
 votes:(r.Votes.length:Int)=r.Many
 mlen:(r.Match.length:Int)=r.Many
 mat : ∀ a ∈ r.Match,0≤a∧a≤r.Log.length
 log:r.Log.length≤Ca
theorem Aiq {term commit:Int}{log:List Record}{mat:List Int}(hm1:1≤mat.length)(hm:mat.length≤5)(ha : ∀ a ∈ mat,0≤a∧a≤log.length)(hc:0≤commit)(hl:log.length≤Ca){α:Type}(J:Int→Bool→R α) :
  ((Ew mat).bind fun _=>(D5 mat).bind fun l2=>(Cs l2 (IntKind.wrap .i64 (Int.tdiv (IntKind.wrap .i64 ((l2.length:Int) - 1)) 2))).bind fun a=>
   if(decide (a > commit)) then((Cs log (IntKind.wrap .i64 (a - 1))).bind fun a1=>J a (a1.Term==term)) else(J a false)) =
  J (Ev mat) (decide (Ev mat > commit∧(log.getD (Ev mat - 1).toNat Nj).Term=term)):=by
 unfold Ew
 simp only [Akd mat hm,R.ok_bind,Aks hm1 hm]
 have h2:=ha _ (Um hm1)
 by_cases h1:Ev mat > commit
 ·simp only [h1,decide_true,if_true,true_and]
  rw [An0 (by omega) h2.2 hl,R.ok_bind]
  congr 1
 ·simp [h1]
theorem Ajy {r:Replica}{role:Int}{l:List Bool}{mat:List Int}(hm1:1≤mat.length)(hm:mat.length≤5)(ha : ∀ a ∈ mat,0≤a∧a≤r.Log.length)(hc:0≤r.Commit)(hl:r.Log.length≤Ca) :
  Et r.ID r.Many r.Term r.Vote r.Log role r.Commit l mat=.ok (Nq r.Term r.Log r.Commit mat):=by
 unfold Et
 rw [Aiq hm1 hm ha hc hl (J:=fun a x=>Em r.Commit a x)]
 unfold Em Nq
 by_cases h:Ev mat > r.Commit∧(r.Log.getD (Ev mat - 1).toNat Nj).Term=r.Term
 ·rw [decide_eq_true h,if_pos h,if_pos rfl]
 ·rw [decide_eq_false h,if_neg h,if_neg (by simp)]
theorem Ai5 {r:Replica}(hs:Shape r):Ek r.ID r.Many r.Term r.Vote r.Log r.Role r.Commit r.Match r.Votes=.ok ((Ji r).1.Commit,(Ji r).1.Match,(Ji r).2):=by
 have hmany:=hs.many
 have hid:=hs.id
 unfold Ek Hg
 rw [if_pos ⟨by omega,Int.le_refl _,by unfold Ca; omega⟩]
 have hi:Cs (List.replicate r.Many.toNat (0:Int)) r.ID=.ok 0:=by
  have:=D0 (l:=List.replicate r.Many.toNat (0:Int)) (j:=r.ID.toNat) (a:=0) (by rw [List.getElem?_replicate,if_pos (by omega)])
  rwa [show((r.ID.toNat:Nat):Int)=r.ID by omega] at this
 have hlen:((List.replicate r.Many.toNat (0:Int)).set r.ID.toNat r.Log.length).length=r.Many.toNat:=by simp
 have ha : ∀ a ∈ ((List.replicate r.Many.toNat (0:Int)).set r.ID.toNat r.Log.length),0≤a∧a≤r.Log.length:=by
  intro a ha
  rcases List.mem_or_eq_of_mem_set ha with h | h
  ·have:=List.eq_of_mem_replicate h; omega
  ·omega
 simp only [hi,R.ok_bind]
 rw [Ajy (r:=r) (by rw [hlen]; omega) (by rw [hlen]; omega) ha hs.commit.1 hs.log]
 simp only [R.ok_bind]
 unfold Gk
 have h4:=Al4 (Fb r.Log (Ji r).1.Commit) (Ji r).1 (by show 0≤r.Many∧r.Many≤5; omega)
 rw [show F0 ({ Kind:=3,From:=0,To:=0,Term:=0,Last:=0,LastTerm:=0,Log:=r.Log,Commit:=Nq r.Term r.Log r.Commit ((List.replicate r.Many.toNat (0:Int)).set r.ID.toNat r.Log.length),Match:=0,Granted:=false }:Message) r.ID r.Many r.Term r.Vote r.Log 2 (Nq r.Term r.Log r.Commit ((List.replicate r.Many.toNat (0:Int)).set r.ID.toNat r.Log.length)) ((List.replicate r.Many.toNat (0:Int)).set r.ID.toNat r.Log.length)=_ from h4]
 rfl
theorem Ane {m:Message}{r:Replica}(hs:Shape r)(hf:0≤m.From∧m.From<r.Many) : ∃ x l,K5 r m=(x,l)∧x.ID=r.ID∧x.Many=r.Many∧x.Term=r.Term∧x.Vote=r.Vote∧x.Log=r.Log∧E2 m r=.ok (x.Role,x.Commit,x.Votes,x.Match,l):=by
 have hno : ∀ b:Bool,b=true→Dz m r b=.ok (r.Role,r.Commit,r.Votes,r.Match,[]):=by
  rintro b rfl; rfl
 by_cases h:r.Role=1∧m.Term=r.Term∧m.Granted=true
 ·have e:E2 m r=Dz m r false:=by
   unfold E2
   simp [h.1,h.2.1,h.2.2]
  have hmany:=hs.many
  have hv:=hs.votes
  have hlt:m.From.toNat<r.Votes.length:=by omega
  have hi:Cs r.Votes m.From=.ok (r.Votes.getD m.From.toNat false):=by
   have:=D0 (l:=r.Votes) (j:=m.From.toNat) (a:=r.Votes.getD m.From.toNat false) (by simp only [List.getD,List.getElem?_eq_getElem hlt,Option.getD_some])
   rwa [show((m.From.toNat:Nat):Int)=m.From by omega] at this
  have hc:=Aa5 r.Votes (r.Votes.set m.From.toNat true) (by simp; omega) (r.Votes.set m.From.toNat true) 0 0 rfl (by omega) (by omega)
  have hcl:(r.Votes.set m.From.toNat true).count true≤5:=by
   have:=List.count_le_length (a:=true) (l:=r.Votes.set m.From.toNat true)
   simp only [List.length_set] at this
   omega
  have hw:IntKind.wrap .i64 (2 * (0+(((r.Votes.set m.From.toNat true).count true:Nat):Int)))=2 * (((r.Votes.set m.From.toNat true).count true:Nat):Int):=by
   rw [Ga (by omega) (by omega)]; omega
  have hs':Shape ({ r with Votes:=r.Votes.set m.From.toNat true }:Replica):=⟨hs.many,hs.id,hs.commit,by simpa using hs.votes,hs.mlen,hs.mat,hs.log⟩
  have body:Dz m r false=(if 2 * (((r.Votes.set m.From.toNat true).count true:Nat):Int) > r.Many then
    ((Ek r.ID r.Many r.Term r.Vote r.Log r.Role r.Commit r.Match (r.Votes.set m.From.toNat true)).bind fun r1=>.ok (2,r1.1,(r.Votes.set m.From.toNat true),r1.2.1,r1.2.2)) else .ok (r.Role,r.Commit,(r.Votes.set m.From.toNat true),r.Match,[])):=by
   unfold Dz Ls
   rw [if_neg (by simp),if_pos (by unfold Ca; omega)]
   simp only [R.ok_bind,hi]
   rw [hc]
   simp only [R.ok_bind,Dn,hw]
  unfold K5
  rw [if_pos h]
  by_cases h2:2 * (((r.Votes.set m.From.toNat true).count true:Nat):Int) > r.Many
  ·rw [if_pos h2] at body
   have h3:=Ai5 hs'
   refine⟨(Ji ({ r with Votes:=r.Votes.set m.From.toNat true }:Replica)).1,(Ji ({ r with Votes:=r.Votes.set m.From.toNat true }:Replica)).2,by show(if _ then _ else _)=_; rw [if_pos h2],rfl,rfl,rfl,rfl,rfl,?_⟩
   rw [e,body,show Ek r.ID r.Many r.Term r.Vote r.Log r.Role r.Commit r.Match (r.Votes.set m.From.toNat true)=_ from h3]
   rfl
  ·rw [if_neg h2] at body
   exact⟨({ r with Votes:=r.Votes.set m.From.toNat true }:Replica),[],by show(if _ then _ else _)=_; rw [if_neg h2],rfl,rfl,rfl,rfl,rfl,by rw [e,body]⟩
 ·refine⟨r,[],by unfold K5; rw [if_neg h],rfl,rfl,rfl,rfl,rfl,?_⟩
  unfold E2
  by_cases h1:r.Role=1
  ·by_cases h2:m.Term=r.Term
   ·have h3:m.Granted=false:=by
     cases hg:m.Granted with
     | false=>rfl
     | true=>exact absurd ⟨h1,h2,hg⟩ h
    simp only [h1,h2,h3,bne_self_eq_false,Bool.false_eq_true,if_false]
    have:=hno true rfl
    rw [h1] at this
    simpa using this
   ·have h2':(m.Term != r.Term)=true:=by simpa using h2
    simp only [h2',if_true,hno true rfl]
    split <;> rfl
  ·have h1':(r.Role != 1)=true:=by simpa using h1
   simp only [h1',if_true,hno true rfl]
end Rp
end Go.Am
namespace Go.Am
open Go
set_option linter.unusedVariables false
set_option linter.unusedSimpArgs false
namespace Rp
open Classical in
noncomputable def Pt (r : Replica) (m : Message) : Option (Replica × List Message) :=
 if m.Term < r.Term then some (r, [Nt r m 4 false 0])
 else if r.Role = 2 then some (r, [])
 else if m.Log <+: r.Log then some ({ Hu r with Commit := max r.Commit m.Commit }, [Nt r m 4 true m.Log.length])
 else if r.Log.take r.Commit.toNat <+: m.Log then some ({ Hu r with Log := m.Log, Commit := max r.Commit m.Commit }, [Nt r m 4 true m.Log.length])
 else none
def Qa (r:Replica)(m:Message):Option (Replica×List Message):=
 if r.Role=2∧m.Term=r.Term∧m.Granted=true then
  if m.Match≤r.Log.length then
   let mat:=r.Match.set m.From.toNat (max m.Match (r.Match.getD m.From.toNat 0))
   some ({ r with Match:=mat,Commit:=Nq r.Term r.Log r.Commit mat },[])
  else none
 else some (r,[])
theorem Akr (a b:Int):(if b > a then b else a)=max a b:=by omega
theorem Apm {m:Message}{r:Replica}(hs:Shape r)(hb1:Sl r.Log)(hb2:Sl m.Log)(hl:m.Log.length≤Ca):Fq m r =
  match Pt r m with
  | some (x,l)=>.ok (x.Log,x.Role,x.Commit,x.Votes,x.Match,l)
  | none=>.pan I6:=by
 have ht : ∀ g mat (s:Replica),Fl m.From 4 0 0 0 0 0 0 mat g s=.ok [Nt s m 4 g mat]:=by
  intro g mat s
  unfold Fl
  rw [if_pos (Zf _ 96 (by omega))]
  rfl
 have hj : ∀ (r1:List Bool×List Int) (log:List Record),Ey m r r1 log=.ok (log,0,max r.Commit m.Commit,r1.1,r1.2,[Nt r m 4 true m.Log.length]):=by
  intro r1 log
  unfold Ey Ju
  rw [if_pos (Zf _ 96 (by omega)),Akr]
  rfl
 have hmany:=hs.many
 unfold Fq Pt
 by_cases h1:m.Term<r.Term
 ·rw [if_pos h1,if_pos h1,ht]
  rfl
 ·rw [if_neg h1,if_neg h1]
  by_cases h2:r.Role=2
  ·rw [if_pos (by simpa using h2),if_pos h2]
  ·rw [if_neg (by simpa using h2),if_neg h2,Vu ⟨by omega,by omega⟩]
   simp only [R.ok_bind]
   rw [Ad2 hl hs.log hb2 hb1]
   simp only [R.ok_bind,hj]
   by_cases h3:m.Log <+: r.Log
   ·rw [if_pos (by simpa using h3),if_pos h3]
    rfl
   ·rw [if_neg (by simpa using h3),if_neg h3,if_pos hs.commit]
    have hb3:Sl (r.Log.take r.Commit.toNat):=fun a ha=>hb1 a (List.mem_of_mem_take ha)
    rw [Ad2 (by have:=hs.log; simp; omega) hl hb3 hb2]
    simp only [R.ok_bind,Ti]
    by_cases h4:r.Log.take r.Commit.toNat <+: m.Log
    ·rw [if_pos h4]
     simp only [h4,decide_true,if_true,R.ok_bind]
     rfl
    ·rw [if_neg h4]
     simp only [h4,decide_false,Bool.false_eq_true,if_false]
     rfl
theorem Aom {m:Message}{r:Replica}(hs:Shape r)(hf:0≤m.From∧m.From<r.Many)(hm:0≤m.Match):Fd m r =
  match Qa r m with
  | some (x,_)=>.ok x
  | none=>.pan I6:=by
 have hno : ∀ b:Bool,b=true→Eh m r b=.ok r:=by rintro b rfl; rfl
 by_cases h:r.Role=2∧m.Term=r.Term∧m.Granted=true
 ·have e:Fd m r=Eh m r false:=by
   unfold Fd
   simp [h.1,h.2.1,h.2.2]
  rw [e]
  unfold Eh Qa
  rw [if_pos h,if_neg (by simp),Ti]
  by_cases h1:m.Match≤r.Log.length
  ·have hmany:=hs.many
   have hv:=hs.mlen
   have hlt:m.From.toNat<r.Match.length:=by omega
   have hi:Cs r.Match m.From=.ok (r.Match.getD m.From.toNat 0):=by
    have:=D0 (l:=r.Match) (j:=m.From.toNat) (a:=r.Match.getD m.From.toNat 0) (by simp only [List.getD,List.getElem?_eq_getElem hlt,Option.getD_some])
    rwa [show((m.From.toNat:Nat):Int)=m.From by omega] at this
   have hg:=hs.mat (r.Match.getD m.From.toNat 0) (by simp only [List.getD,List.getElem?_eq_getElem hlt,Option.getD_some]; exact List.getElem_mem hlt)
   rw [if_pos (by simpa using h1),if_pos h1]
   unfold Fv
   rw [R.ok_bind,if_pos (by unfold Ca; omega)]
   simp only [R.ok_bind,hi]
   rw [show(if m.Match > r.Match.getD m.From.toNat 0 then m.Match else r.Match.getD m.From.toNat 0)=max m.Match (r.Match.getD m.From.toNat 0) by omega]
   unfold Ge
   rw [Aiq (by simp; omega) (by simp; omega) (by
    intro a ha
    rcases List.mem_or_eq_of_mem_set ha with h' | h'
    ·exact hs.mat a h'
    ·omega) hs.commit.1 hs.log (J:=fun a x=>En r.ID r.Many r.Term r.Vote r.Log r.Role r.Commit r.Votes (r.Match.set m.From.toNat (max m.Match (r.Match.getD m.From.toNat 0))) a x)]
   unfold En Nq
   by_cases h5:Ev (r.Match.set m.From.toNat (max m.Match (r.Match.getD m.From.toNat 0))) > r.Commit∧(r.Log.getD (Ev (r.Match.set m.From.toNat (max m.Match (r.Match.getD m.From.toNat 0))) - 1).toNat Nj).Term=r.Term
   ·rw [decide_eq_true h5,if_pos rfl,R.ok_bind]
    simp only [if_pos h5]
   ·rw [decide_eq_false h5,if_neg (by simp),R.ok_bind]
    simp only [if_neg h5]
  ·rw [if_neg (by simpa using h1),if_neg h1]
   rfl
 ·unfold Qa
  rw [if_neg h]
  unfold Fd
  by_cases h1:r.Role=2
  ·by_cases h2:m.Term=r.Term
   ·have h3:m.Granted=false:=by
     cases hg:m.Granted with
     | false=>rfl
     | true=>exact absurd ⟨h1,h2,hg⟩ h
    simp only [h1,h2,h3,bne_self_eq_false,Bool.false_eq_true,if_false]
    exact hno true rfl
   ·have h2':(m.Term != r.Term)=true:=by simpa using h2
    simp only [h2',if_true,hno true rfl]
    split <;> rfl
  ·have h1':(r.Role != 2)=true:=by simpa using h1
   simp only [h1',if_true,hno true rfl]
def mok (r:Replica)(m:Message):Bool:=
 ((decide (1≤m.Kind)&&decide (m.Kind≤4))&&(m.To==r.ID)&&(decide (0≤m.From)&&decide (m.From≤r.Many - 1))&&(m.From != r.ID)&&(decide (1≤m.Term)&&decide (m.Term≤1048576))) &&
 ((decide (0≤m.Match)&&decide (0≤m.LastTerm)&&decide (0≤m.Last))&&(decide (0≤m.Commit)&&decide (m.Commit≤(m.Log.length:Int)))&&Fh m.Term 0 m.Log)
def Jc (r:Replica)(m:Message):Replica:=if m.Term > r.Term then Hu { r with Term:=m.Term,Vote := -1 } else r
noncomputable def Lg (r:Replica)(m:Message):Option (Replica×List Message):=
 if m.Kind=1 then some (Ml r m) else if m.Kind=2 then some (K5 r m) else if m.Kind=3 then Pt r m else Qa r m
noncomputable def Kb (r:Replica)(m:Message):Option (Replica×List Message):=if mok r m then Lg (Jc r m) m else none
def Aee:Replica:={ ID:=0,Many:=0,Term:=0,Vote:=0,Log:=[],Role:=0,Commit:=0,Votes:=[],Match:=[] }
end Rp
end Go.Am
namespace Go.Am
open Go
set_option linter.unusedVariables false
set_option linter.unusedSimpArgs false
namespace Rp
structure Same (x r:Replica):Prop where
 id:x.ID=r.ID
 many:x.Many=r.Many
 term:x.Term=r.Term
theorem Ajs {r x:Replica}{m:Message}{l:List Message}(h:Pt r m=some (x,l)):Same x r∧x.Vote=r.Vote:=by
 unfold Pt at h
 split at h
 ·cases h; exact⟨⟨rfl,rfl,rfl⟩,rfl⟩
 split at h
 ·cases h; exact⟨⟨rfl,rfl,rfl⟩,rfl⟩
 split at h
 ·cases h; exact⟨⟨rfl,rfl,rfl⟩,rfl⟩
 split at h
 ·cases h; exact⟨⟨rfl,rfl,rfl⟩,rfl⟩
 ·cases h
theorem Aax {r x:Replica}{m:Message}{l:List Message}(h:Qa r m=some (x,l)):l=[]:=by
 unfold Qa at h
 split at h
 ·split at h
  ·cases h; rfl
  ·cases h
 ·cases h; rfl
def ans (o:Option (Replica×List Message)):R (Replica×List Message×Int):=match o with
 | some (x,l)=>.ok (x,l,0)
 | none=>.pan I6
theorem Am2 {s:Replica}{m:Message}(hs:Shape s)(hk:1≤m.Kind∧m.Kind≤4)(hf:0≤m.From∧m.From<s.Many)(hm:0≤m.Match)(hb1:Sl s.Log)(hb2:Sl m.Log)(hl:m.Log.length≤Ca) :
  Dj m s.ID s.Many s.Term s.Vote s.Log s.Role s.Commit s.Votes s.Match=ans (Lg s m):=by
 have eta:({ ID:=s.ID,Many:=s.Many,Term:=s.Term,Vote:=s.Vote,Log:=s.Log,Role:=s.Role,Commit:=s.Commit,Votes:=s.Votes,Match:=s.Match }:Replica)=s:=rfl
 unfold Dj Lg
 rw [if_neg (by omega)]
 simp only [eta]
 by_cases h1:m.Kind=1
 ·rw [if_pos h1,if_pos h1,Aok hs.log]
  rfl
 rw [if_neg h1,if_neg h1]
 by_cases h2:m.Kind=2
 ·rw [if_pos h2,if_pos h2]
  obtain⟨x,l,e1,q1,q2,q3,q4,q5,e2⟩:=Ane hs hf
  rw [e1,e2]
  simp only [R.ok_bind,ans]
  rw [← q1,← q2,← q3,← q4,← q5]
 rw [if_neg h2,if_neg h2]
 by_cases h3:m.Kind=3
 ·rw [if_pos h3,if_pos h3,Apm hs hb1 hb2 hl]
  cases ho:Pt s m with
  | none=>rfl
  | some p=>
   obtain⟨x,l⟩:=p
   obtain⟨q,q4⟩:=Ajs ho
   simp only [R.ok_bind,ans]
   rw [← q.id,← q.many,← q.term,← q4]
 rw [if_neg h3,if_neg h3,if_pos (by omega),Aom hs hf hm]
 cases ho:Qa s m with
 | none=>rfl
 | some p=>
  obtain⟨x,l⟩:=p
  have:=Aax ho
  subst this
  rfl
theorem Good.shape {r:Replica}(h:Good r)(hl:r.Log.length≤Ca):Shape r:=
 ⟨h.many,h.id,h.commit,h.votes,h.mlen,fun a ha=>by
  obtain⟨j,hj⟩:=List.getElem?_of_mem ha
  exact(h.mat j a hj).1,hl⟩
theorem Ae3 {r:Replica}(h:Shape r):Shape (Hu r):=
 ⟨h.many,h.id,h.commit,by have:=h.many; simp [Hu]; omega,by have:=h.many; simp [Hu]; omega,fun a ha=>by
  have:=List.eq_of_mem_replicate ha
  have:=h.commit
  simp only [Hu]
  omega,h.log⟩
theorem Aig {r:Replica}{m:Message}(h:Shape r):Shape (Jc r m):=by
 unfold Jc
 split
 ·exact Ae3 (r:={ r with Term:=m.Term,Vote := -1 }) ⟨h.many,h.id,h.commit,h.votes,h.mlen,h.mat,h.log⟩
 ·exact h
theorem Aou {r:Replica}{m:Message}(h:Good r)(hl:r.Log.length≤Ca)(hb1:Sl r.Log)(hb2:Sl m.Log)(hl2:m.Log.length≤Ca):I3 r m=ans (Kb r m):=by
 have hs:=h.shape hl
 have hmany:=h.many
 have hw:IntKind.wrap .i64 (r.Many - 1)=r.Many - 1:=Ga (by omega) (by omega)
 have hmin:decide ((if m.Match<(if m.LastTerm<m.Last then m.LastTerm else m.Last) then m.Match else(if m.LastTerm<m.Last then m.LastTerm else m.Last))≥0)=(decide (0≤m.Match)&&decide (0≤m.LastTerm)&&decide (0≤m.Last)):=by
  rw [Bool.eq_iff_iff]
  simp only [decide_eq_true_eq,Bool.and_eq_true]
  omega
 unfold I3 Kb
 rw [Qj hl h,R.ok_bind,if_neg (by simp)]
 simp only [Ok,R.ok_bind,Ti,Aha _ _ hl2,hw,hmin,Dg]
 unfold mok
 cases a1:((decide (1≤m.Kind)&&decide (m.Kind≤4))&&(m.To==r.ID)) with
 | false=>simp [ans,I6]
 | true=>
  simp only [if_true,R.ok_bind,Bool.true_and]
  cases a2:(decide (0≤m.From)&&decide (m.From≤r.Many - 1)) with
  | false=>simp [ans,I6]
  | true=>
   simp only [if_true,R.ok_bind,Bool.true_and]
   cases a3:(m.From != r.ID) with
   | false=>simp [ans,I6]
   | true=>
    simp only [if_true,R.ok_bind,Bool.true_and]
    cases a4:(decide (1≤m.Term)&&decide (m.Term≤1048576)) with
    | false=>simp [ans,I6]
    | true=>
     simp only [if_true,R.ok_bind,Bool.true_and]
     cases a5:(decide (0≤m.Match)&&decide (0≤m.LastTerm)&&decide (0≤m.Last)) with
     | false=>simp [ans,I6]
     | true=>
      simp only [if_true,R.ok_bind,Bool.true_and]
      cases a6:(decide (0≤m.Commit)&&decide (m.Commit≤(m.Log.length:Int))) with
      | false=>simp [ans,I6]
      | true=>
       simp only [if_true,R.ok_bind,Bool.true_and]
       cases a7:Fh m.Term 0 m.Log with
       | false=>simp [ans,I6]
       | true=>
        simp only [if_true,R.ok_bind]
        have hk:1≤m.Kind∧m.Kind≤4:=by
         simp only [Bool.and_eq_true,decide_eq_true_eq] at a1; exact a1.1
        have hf:0≤m.From∧m.From<r.Many:=by
         simp only [Bool.and_eq_true,decide_eq_true_eq] at a2; omega
        have hm:0≤m.Match:=by
         simp only [Bool.and_eq_true,decide_eq_true_eq] at a5; exact a5.1.1
        by_cases ht:m.Term > r.Term
        ·rw [if_pos ht,Vu (r:={ ID:=r.ID,Many:=r.Many,Term:=m.Term,Vote := -1,Log:=r.Log,Role:=r.Role,Commit:=r.Commit,Votes:=r.Votes,Match:=r.Match }) ⟨by show 0≤r.Many; omega,hmany.2⟩,R.ok_bind]
         have hbump:Jc r m=Hu { r with Term:=m.Term,Vote := -1 }:=by unfold Jc; rw [if_pos ht]
         have:=Am2 (s:=Hu { r with Term:=m.Term,Vote := -1 }) (m:=m) (hbump ▸ Aig hs) hk hf hm hb1 hb2 hl2
         rw [hbump,← this]
         rfl
        ·rw [if_neg ht]
         have hbump:Jc r m=r:=by unfold Jc; rw [if_neg ht]
         rw [hbump]
         exact Am2 hs hk hf hm hb1 hb2 hl2
theorem Anf {r:Replica}{m:Message}(h:Good r)(hl:r.Log.length≤Ca)(hb1:Sl r.Log)(hb2:Sl m.Log)(hl2:m.Log.length≤Ca):I5 r m=.ok (match Kb r m with
  | some (x,l)=>(x,l,0)
  | none=>(Aee,[],470)):=by
 unfold I5
 rw [Aou h hl hb1 hb2 hl2]
 cases Kb r m with
 | none=>rfl
 | some p=>rfl
end Rp
end Go.Am
namespace Go.Am
open Go
set_option linter.unusedVariables false
set_option linter.unusedSimpArgs false
namespace Rp
theorem Apk {r:Replica}(hs:Shape r)(role:Int):Gi r.ID r.Many r.Term r.Vote r.Log role r.Commit r.Votes=.ok ((Ji r).1.Commit,(Ji r).1.Match,(Ji r).2):=Ai5 hs
def Dc (r:Replica):Replica:={ r with Term:=r.Term+1,Vote:=r.ID,Role:=1,Votes:=(List.replicate r.Many.toNat false).set r.ID.toNat true,Match:=List.replicate r.Many.toNat 0 }
def K9 (r:Replica):Message:={ Kind:=1,From:=0,To:=0,Term:=0,Last:=r.Log.length,LastTerm:=E7 r.Log,Log:=[],Commit:=0,Match:=0,Granted:=false }
def Da (r:Replica):Replica×List Message:=if r.Many=1 then Ji (Dc r) else(Dc r,De (Dc r) (K9 r))
theorem Aem {r:Replica}(h:Shape r):Shape (Dc r):=
 ⟨h.many,h.id,h.commit,by have:=h.many; simp [Dc]; omega,by have:=h.many; simp [Dc]; omega,fun a ha=>by
  have:=List.eq_of_mem_replicate ha
  have:=h.commit
  simp only [Dc]
  omega,h.log⟩
theorem Aog {α:Type}{n i:Int}{a:α}(h0:0≤i)(h1:i<n):Cs (List.replicate n.toNat a) i=.ok a:=by
 have:=D0 (l:=List.replicate n.toNat a) (j:=i.toNat) (a:=a) (by rw [List.getElem?_replicate,if_pos (by omega)])
 rwa [show((i.toNat:Nat):Int)=i by omega] at this
theorem Am6 {r:Replica}(h:Good r)(hl:r.Log.length≤Ca):G9 r=.ok (if r.Term=1048576 then(Aee,[],2) else((Da r).1,(Da r).2,0)):=by
 have hs:=h.shape hl
 have hmany:=h.many
 have hid:=h.id
 unfold G9
 rw [Qj hl h,R.ok_bind,if_neg (by simp)]
 by_cases ht:r.Term=1048576
 ·rw [if_pos (by simpa using ht),if_pos ht]
  rfl
 ·have hw:IntKind.wrap .i64 (r.Term+1)=r.Term+1:=by have:=h.term; exact Ga (by omega) (by omega)
  rw [if_neg (by simpa using ht),if_neg ht]
  simp only [Dg,R.ok_bind]
  rw [Vu ⟨by omega,hmany.2⟩]
  simp only [R.ok_bind,Aog hid.1 hid.2,hw]
  unfold Da
  by_cases h1:r.Many=1
  ·rw [if_pos (by simpa using h1),if_pos h1]
   have:=Apk (Aem hs) 1
   rw [show Gi r.ID r.Many (r.Term+1) r.ID r.Log 1 r.Commit ((List.replicate r.Many.toNat false).set r.ID.toNat true)=_ from this]
   rfl
  ·rw [if_neg (by simpa using h1),if_neg h1]
   rw [show Gn ({ Replica:=({ ID:=r.ID,Many:=r.Many,Term:=r.Term+1,Vote:=r.ID,Log:=r.Log,Role:=1,Commit:=r.Commit,Votes:=(List.replicate r.Many.toNat false).set r.ID.toNat true,Match:=List.replicate r.Many.toNat 0 }:Replica),fSent:=[] }:T87)=.ok (E7 r.Log) from Ag7 (Dc r) [] hl]
   simp only [R.ok_bind]
   rw [show Fx 1 0 0 0 (r.Log.length:Int) (E7 r.Log) 0 0 false r.ID r.Many (r.Term+1) r.ID r.Log 1 r.Commit=.ok (De (Dc r) (K9 r)) from Al6 (K9 r) (Dc r) (by show 0≤r.Many∧r.Many≤5; omega) rfl]
   rfl
def F1 (r:Replica)(data:List Int):Replica×List Message:=
 let log:=r.Log++[({ Term:=r.Term,Data:=data }:Record)]
 let mat:=r.Match.set r.ID.toNat log.length
 let x:Replica:={ r with Log:=log,Match:=mat,Commit:=Nq r.Term log r.Commit mat }
 (x,De x (Fb log x.Commit))
theorem Adt {r:Replica}{log:List Record}{mat:List Int}(hm1:1≤mat.length)(hm:mat.length≤5)(ha : ∀ a ∈ mat,0≤a∧a≤log.length)(hc:0≤r.Commit)(hl:log.length≤Ca) :
  D9 r.ID r.Many r.Term r.Vote r.Role r.Commit r.Votes log mat=.ok (Nq r.Term log r.Commit mat,log):=by
 unfold D9
 rw [Aiq hm1 hm ha hc hl (J:=fun a x=>Eo r.Commit a x log)]
 unfold Eo Nq
 by_cases h:Ev mat > r.Commit∧(log.getD (Ev mat - 1).toNat Nj).Term=r.Term
 ·rw [decide_eq_true h,if_pos h,if_pos rfl]
 ·rw [decide_eq_false h,if_neg h,if_neg (by simp)]
theorem Ans {r:Replica}{data:List Int}(h:Good r)(hl:r.Log.length≤Ca):Ha r data=.ok (if r.Role=2 then(if r.Log.length≥4096 then(Aee,[],2) else((F1 r data).1,(F1 r data).2,0)) else(Aee,[],470)):=by
 have hmany:=h.many
 have hid:=h.id
 have hml:=h.mlen
 unfold Ha
 rw [Qj hl h,R.ok_bind,if_neg (by simp)]
 by_cases h1:r.Role=2
 ·rw [if_neg (show ¬ ((r.Role != 2)=true) by simp [h1]),if_pos h1]
  by_cases h2:r.Log.length≥4096
  ·rw [if_pos (show(r.Log.length:Int)≥4096 by omega),if_pos h2]
   rfl
  ·rw [if_neg (show ¬ ((r.Log.length:Int)≥4096) by omega),if_neg h2]
   unfold Dg Gy
   rw [R.ok_bind,if_pos (by unfold Ca; omega),R.ok_bind,if_pos (by simp only [List.length_singleton]; unfold Ca; omega)]
   unfold Jw Fv
   have hlt:r.ID.toNat<r.Match.length:=by omega
   have hi:Cs r.Match r.ID=.ok (r.Match.getD r.ID.toNat 0):=by
    have:=D0 (l:=r.Match) (j:=r.ID.toNat) (a:=r.Match.getD r.ID.toNat 0) (by simp only [List.getD,List.getElem?_eq_getElem hlt,Option.getD_some])
    rwa [show((r.ID.toNat:Nat):Int)=r.ID by omega] at this
   rw [if_pos (by unfold Ca; omega),R.ok_bind,hi,R.ok_bind]
   rw [Adt (by simp; omega) (by simp; omega) (by
    intro a ha
    rcases List.mem_or_eq_of_mem_set ha with h' | h'
    ·have:=(h.shape hl).mat a h'
     simp only [List.length_append,List.length_singleton]
     omega
    ·subst h'; omega) h.commit.1 (by simp only [List.length_append,List.length_singleton]; unfold Ca; omega)]
   simp only [R.ok_bind]
   unfold E5
   have:=Ae9 (Fb (r.Log++[({ Term:=r.Term,Data:=data }:Record)]) (F1 r data).1.Commit) (F1 r data).1 (by show 0≤r.Many∧r.Many≤5; omega)
   simp only [F1,Fb] at this
   rw [this]
   rfl
 ·rw [if_pos (show(r.Role != 2)=true by simpa using h1),if_neg h1]
  rfl
def Aeg (r:Replica):Replica:={ Hu r with Commit:=0 }
theorem Anj {r:Replica}(h:0≤r.Many∧r.Many≤5):Gs r=.ok (Aeg r):=by
 unfold Gs Dg
 rw [R.ok_bind,Vu h]
 rfl
theorem Anq (r:Replica)(hl:r.Log.length * 24≤Ca)(hc:0≤r.Commit):C9 r=.ok ((r.Log.take r.Commit.toNat).map (·.Data)):=by
 have key : ∀ (l:List Record) (k:Nat) (s:List (List Int)),s.length=k→k≤r.Commit.toNat→(k+l.length) * 24≤Ca → ∃ b,each (fun j a=>fun l=>Gr r j a l) k l s=.ok b∧(match b with | .inl x=>x | .inr x=>x)=s++(l.take (r.Commit.toNat - k)).map (·.Data):=by
  intro l
  induction l with
  | nil=>intro k s h1 h2 h3; exact⟨.inl s,rfl,by simp⟩
  | cons a l ih=>
   intro k s h1 h2 h3
   simp only [List.length_cons] at h3
   rw [M7]
   by_cases hk:(k:Int)≥r.Commit
   ·refine⟨.inr s,?_,?_⟩
    ·simp only [Gr,if_pos hk,R.ok_bind]
    ·rw [show r.Commit.toNat - k=0 by omega]; simp
   ·have hb:Gr r k a s=.ok (.inl (s++[a.Data])):=by
     simp only [Gr,if_neg hk,List.length_singleton]
     rw [if_pos (by rw [h1]; omega)]
    rw [hb]
    simp only [R.ok_bind]
    obtain⟨b,e1,e2⟩:=ih (k+1) (s++[a.Data]) (by simp [h1]) (by omega) (by omega)
    refine⟨b,e1,?_⟩
    rw [e2,show r.Commit.toNat - k=(r.Commit.toNat - (k+1))+1 by omega]
    simp
 unfold C9
 obtain⟨b,e1,e2⟩:=key r.Log 0 [] rfl (by omega) (by simpa using hl)
 rw [e1]
 simp only [List.nil_append,Nat.sub_zero] at e2
 cases b with
 | inl x=>simp only at e2; subst e2; rfl
 | inr x=>simp only at e2; subst e2; rfl
end Rp
end Go.Am
namespace Go.Am
open Go
set_option linter.unusedVariables false
set_option linter.unusedSimpArgs false
namespace Rp
theorem Yj {t t':Int}{l:List Record}(h:Fh t 0 l=true)(ht:t≤t'):Fh t' 0 l=true:=by
 rw [Rx] at h ⊢
 exact⟨fun a ha=>⟨(h.1 a ha).1,by have:=(h.1 a ha).2.1; omega,(h.1 a ha).2.2⟩,h.2⟩
theorem Pn {r:Replica}(h1:1≤r.Many∧r.Many≤5)(h2:0≤r.ID∧r.ID<r.Many)(h3:0≤r.Term∧r.Term≤1048576)(h4 : -1≤r.Vote∧r.Vote<r.Many)(h5:Fh r.Term 0 r.Log=true)(h6:0≤r.Commit∧r.Commit≤r.Log.length):Good (Hu r):=
 ⟨h1,h2,h3,h4,h5,⟨by show(0:Int)≤0; decide,by show(0:Int)≤2; decide⟩,h6,by simp [Hu]; omega,by simp [Hu]; omega,(fun j a ha=>by
  simp only [Hu,List.getElem?_replicate] at ha ⊢
  by_cases hj:j<r.Many.toNat
  ·rw [if_pos hj] at ha
   cases ha
   exact⟨by omega,fun _=>⟨rfl,by rw [if_pos hj]⟩⟩
  ·rw [if_neg hj] at ha; exact absurd ha (by simp)),fun h=>absurd rfl h⟩
structure MOk (r:Replica)(m:Message):Prop where
 kind:1≤m.Kind∧m.Kind≤4
 to:m.To=r.ID
 frm:0≤m.From∧m.From<r.Many
 ne:m.From≠r.ID
 term:1≤m.Term∧m.Term≤1048576
 mat:0≤m.Match
 lt:0≤m.LastTerm
 last:0≤m.Last
 commit:0≤m.Commit∧m.Commit≤m.Log.length
 fits:Fh m.Term 0 m.Log=true
theorem Ahd (r:Replica)(m:Message):mok r m=true↔MOk r m:=by
 simp only [mok,Bool.and_eq_true,decide_eq_true_eq,beq_iff_eq,bne_iff_ne,ne_eq]
 constructor
 ·rintro⟨⟨⟨⟨⟨h1,h2⟩,h3⟩,h4⟩,h5⟩,⟨⟨h6,h7⟩,h8⟩,h9⟩
  rcases h6 with⟨h6,h6'⟩
  exact⟨h1,h2,by omega,h4,h5,h6,h6',h7,h8,h9⟩
 ·rintro⟨h1,h2,h3,h4,h5,h6,h7,h8,h9,h10⟩
  exact⟨⟨⟨⟨⟨h1,h2⟩,by omega⟩,h4⟩,h5⟩,⟨⟨⟨h6,h7⟩,h8⟩,h9⟩,h10⟩
theorem Aj9 {r:Replica}{m:Message}(h:Good r)(hm:MOk r m):Good (Jc r m):=by
 unfold Jc
 split
 ·rename_i ht
  exact Pn (r:={ r with Term:=m.Term,Vote := -1 }) h.many h.id ⟨by have:=hm.term; show 0≤m.Term; omega,hm.term.2⟩ ⟨Int.le_refl _,by have:=h.many; show(-1:Int)<r.Many; omega⟩ (Yj h.fits (by show r.Term≤m.Term; omega)) h.commit
 ·exact h
theorem Ro (r:Replica)(m:Message):(Jc r m).ID=r.ID∧(Jc r m).Many=r.Many∧(Jc r m).Log=r.Log∧(Jc r m).Commit=r.Commit∧(Jc r m).Term=max r.Term m.Term:=by
 unfold Jc
 split
 ·exact⟨rfl,rfl,rfl,rfl,by show m.Term=_; omega⟩
 ·exact⟨rfl,rfl,rfl,rfl,by omega⟩
theorem Ak4 {r:Replica}{m:Message}(hm:MOk r m):MOk (Jc r m) m:=by
 obtain⟨h1,h2,h3,h4,h5⟩:=Ro r m
 exact⟨hm.kind,by rw [h1]; exact hm.to,by rw [h2]; exact hm.frm,by rw [h1]; exact hm.ne,hm.term,hm.mat,hm.lt,hm.last,hm.commit,hm.fits⟩
theorem Vt (term:Int)(log:List Record)(commit:Int)(mat:List Int):Nq term log commit mat=commit∨(Nq term log commit mat=Ev mat∧commit<Ev mat∧(log.getD (Ev mat - 1).toNat Nj).Term=term):=by
 unfold Nq
 split
 ·rename_i h; exact .inr ⟨rfl,h.1,h.2⟩
 ·exact .inl rfl
theorem Acc {term:Int}{log:List Record}{commit:Int}{mat:List Int}(h1:1≤mat.length)(ha : ∀ a ∈ mat,0≤a∧a≤log.length)(hc:0≤commit∧commit≤log.length):commit≤Nq term log commit mat∧Nq term log commit mat≤log.length:=by
 have:=ha _ (Um h1)
 rcases Vt term log commit mat with e | ⟨e,h2,_⟩
 ·rw [e]; omega
 ·rw [e]; omega
theorem Xt {r:Replica}(h2:0≤r.ID∧r.ID<r.Many) : ∀ a ∈ ((List.replicate r.Many.toNat (0:Int)).set r.ID.toNat r.Log.length),0≤a∧a≤r.Log.length:=by
 intro a ha
 rcases List.mem_or_eq_of_mem_set ha with h | h
 ·have:=List.eq_of_mem_replicate h; omega
 ·omega
theorem Aja {r:Replica}(h1:1≤r.Many∧r.Many≤5)(h2:0≤r.ID∧r.ID<r.Many)(h3:1≤r.Term∧r.Term≤1048576)(h4:r.Vote=r.ID)(h5:Fh r.Term 0 r.Log=true)(h6:0≤r.Commit∧r.Commit≤r.Log.length)
  (h7:(r.Votes.length:Int)=r.Many) (h8:r.Votes[r.ID.toNat]? = some true):Good (Ji r).1:=by
 have hc:=Acc (term:=r.Term) (by simp; omega) (Xt h2) h6
 refine⟨h1,h2,⟨by show 0≤r.Term; omega,h3.2⟩,⟨by show -1≤r.Vote; omega,by show r.Vote<r.Many; omega⟩,h5,⟨by show(0:Int)≤2; decide,by show(2:Int)≤2; decide⟩,⟨?_,hc.2⟩,h7,by simp [Ji]; omega,fun j a ha=>⟨Xt h2 a (List.mem_of_getElem? ha),fun h=>absurd h (by decide:¬ (2:Int)=0)⟩,fun _=>⟨h4,h3.1,h8⟩⟩
 show 0≤Nq _ _ _ _
 omega
theorem Al8 {r:Replica}{m:Message}(h:Good r)(hm:MOk r m):Good (Ml r m).1:=by
 unfold Ml
 cases hg:Lo r m with
 | false=>exact h
 | true=>
  simp only [if_true]
  simp only [Lo,Bool.and_eq_true,decide_eq_true_eq,Bool.or_eq_true] at hg
  refine⟨h.many,h.id,h.term,⟨by show -1≤m.From; have:=hm.frm; omega,hm.frm.2⟩,h.fits,h.role,h.commit,h.votes,h.mlen,h.mat,fun h0=>?_⟩
  obtain⟨q1,q2,q3⟩:=h.lead h0
  have:=h.id
  rcases hg.1.2 with q | q
  ·omega
  ·exact absurd (by rw [← q,q1]) hm.ne
theorem Amu {r x:Replica}{m:Message}{l:List Message}(h:Good r)(hm:MOk r m)(ht:m.Term≤r.Term)(ho:Pt r m=some (x,l)):Good x:=by
 have hmc:=hm.commit
 have hrc:=h.commit
 unfold Pt at ho
 split at ho
 ·cases ho; exact h
 rename_i h1
 have hte:m.Term=r.Term:=by omega
 split at ho
 ·cases ho; exact h
 split at ho
 ·rename_i h3
  cases ho
  have:=h3.length_le
  exact Pn (r:={ r with Commit:=max r.Commit m.Commit }) h.many h.id h.term h.vote h.fits ⟨by show 0≤max r.Commit m.Commit; omega,by show max r.Commit m.Commit≤(r.Log.length:Int); omega⟩
 split at ho
 ·rename_i h4
  cases ho
  have:=h4.length_le
  simp only [List.length_take] at this
  exact Pn (r:={ r with Log:=m.Log,Commit:=max r.Commit m.Commit }) h.many h.id h.term h.vote (hte ▸ hm.fits) ⟨by show 0≤max r.Commit m.Commit; omega,by show max r.Commit m.Commit≤(m.Log.length:Int); omega⟩
 ·cases ho
theorem Alp {r x:Replica}{m:Message}{l:List Message}(h:Good r)(hm:MOk r m)(ho:Qa r m=some (x,l)):Good x:=by
 have hv:=h.mlen
 have hmany:=h.many
 have hfrm:=hm.frm
 unfold Qa at ho
 split at ho
 ·rename_i h1
  split at ho
  ·rename_i h2
   cases ho
   have hlt:m.From.toNat<r.Match.length:=by omega
   have hg:0≤r.Match.getD m.From.toNat 0∧r.Match.getD m.From.toNat 0≤r.Log.length:=by
    have:=(h.mat m.From.toNat (r.Match.getD m.From.toNat 0) (by simp only [List.getD,List.getElem?_eq_getElem hlt,Option.getD_some])).1
    exact this
   have ha : ∀ a ∈ r.Match.set m.From.toNat (max m.Match (r.Match.getD m.From.toNat 0)),0≤a∧a≤r.Log.length:=by
    intro a ha
    rcases List.mem_or_eq_of_mem_set ha with h' | h'
    ·obtain⟨j,hj⟩:=List.getElem?_of_mem h'
     exact(h.mat j a hj).1
    ·have:=hm.mat; omega
   have hc:=Acc (term:=r.Term) (by simp; omega) ha h.commit
   have hcc:=h.commit
   exact⟨h.many,h.id,h.term,h.vote,h.fits,h.role,⟨by show 0≤Nq _ _ _ _; omega,hc.2⟩,h.votes,by simpa using h.mlen,fun j a hj=>⟨ha a (List.mem_of_getElem? hj),fun h0=>absurd (h1.1.symm.trans h0) (by decide:¬ (2:Int)=0)⟩,h.lead⟩
  ·cases ho
 ·cases ho; exact h
end Rp
end Go.Am
namespace Go.Am
open Go
set_option linter.unusedVariables false
set_option linter.unusedSimpArgs false
namespace Rp
def comm (r:Replica):List Record:=r.Log.take r.Commit.toNat
structure Kept (r x:Replica)(l:List Message):Prop where
 id:x.ID=r.ID
 many:x.Many=r.Many
 term:x.Term=r.Term
 comm:comm r <+: comm x
 sent : ∀ a ∈ l,a.From=r.ID∧a.Term=r.Term
theorem Acu {r x:Replica}(h1:x.Log=r.Log)(h2:r.Commit≤x.Commit):comm r <+: comm x:=by
 unfold comm
 rw [h1,List.prefix_take_iff]
 exact⟨List.take_prefix _ _,by simp; omega⟩
theorem Kd (r:Replica)(m:Message) : ∀ a ∈ De r m,a.From=r.ID∧a.Term=r.Term:=by
 intro a ha
 obtain⟨x,_,rfl⟩:=List.mem_map.1 ha
 exact⟨rfl,rfl⟩
theorem Amk (r:Replica)(m:Message):Kept r (Ml r m).1 (Ml r m).2∧(m.Term<r.Term→(Ml r m).1=r):=by
 have hs : ∀ a ∈ (Ml r m).2,a.From=r.ID∧a.Term=r.Term:=by
  intro a ha
  rw [List.mem_singleton.1 ha]
  exact⟨rfl,rfl⟩
 refine⟨?_,fun ht=>?_⟩
 ·refine⟨?_,?_,?_,?_,hs⟩
  ·unfold Ml; cases Lo r m <;> rfl
  ·unfold Ml; cases Lo r m <;> rfl
  ·unfold Ml; cases Lo r m <;> rfl
  ·unfold Ml; cases Lo r m <;> exact List.prefix_refl _
 ·have:Lo r m=false:=by
   unfold Lo
   rw [show decide (m.Term=r.Term)=false by simp; omega]
   rfl
  unfold Ml
  rw [this]
  rfl
theorem Aj6 {r:Replica}(h1:1≤r.Many)(h2:0≤r.ID∧r.ID<r.Many)(h6:0≤r.Commit∧r.Commit≤r.Log.length):Kept r (Ji r).1 (Ji r).2:=by
 have hc:=Acc (term:=r.Term) (by simp; omega) (Xt h2) h6
 exact⟨rfl,rfl,rfl,Acu rfl hc.1,Kd _ _⟩
theorem Aj4 {r:Replica}{m:Message}(h:Good r):Kept r (K5 r m).1 (K5 r m).2∧(m.Term<r.Term→(K5 r m).1=r):=by
 refine⟨?_,fun ht=>?_⟩
 ·unfold K5
  split
  ·simp only
   split
   ·have:=Aj6 (r:={ r with Votes:=r.Votes.set m.From.toNat true }) h.many.1 h.id h.commit
    exact⟨this.id,this.many,this.term,this.comm,this.sent⟩
   ·exact⟨rfl,rfl,rfl,List.prefix_refl _,fun a ha=>by cases ha⟩
  ·exact⟨rfl,rfl,rfl,List.prefix_refl _,fun a ha=>by cases ha⟩
 ·unfold K5
  rw [if_neg (by rintro⟨_,h2,_⟩; omega)]
theorem Amc {r x:Replica}{m:Message}{l:List Message}(h:Good r)(hm:MOk r m)(ho:Pt r m=some (x,l)):Kept r x l∧(m.Term<r.Term→x=r):=by
 have hmc:=hm.commit
 have hrc:=h.commit
 have one : ∀ g mat,∀ a ∈ [Nt r m 4 g mat],a.From=r.ID∧a.Term=r.Term:=by
  intro g mat a ha
  rw [List.mem_singleton.1 ha]
  exact⟨rfl,rfl⟩
 unfold Pt at ho
 split at ho
 ·cases ho; exact⟨⟨rfl,rfl,rfl,List.prefix_refl _,one _ _⟩,fun _=>rfl⟩
 rename_i h1
 split at ho
 ·cases ho; exact⟨⟨rfl,rfl,rfl,List.prefix_refl _,fun a ha=>by cases ha⟩,fun _=>rfl⟩
 split at ho
 ·cases ho
  exact⟨⟨rfl,rfl,rfl,Acu rfl (by show r.Commit≤max r.Commit m.Commit; omega),one _ _⟩,fun q=>absurd q h1⟩
 split at ho
 ·rename_i h4
  cases ho
  refine⟨⟨rfl,rfl,rfl,?_,one _ _⟩,fun q=>absurd q h1⟩
  unfold comm
  rw [List.prefix_take_iff]
  refine⟨h4,?_⟩
  show(r.Log.take r.Commit.toNat).length≤(max r.Commit m.Commit).toNat
  simp only [List.length_take]
  omega
 ·cases ho
theorem Amo {r x:Replica}{m:Message}{l:List Message}(h:Good r)(hm:MOk r m)(ho:Qa r m=some (x,l)):Kept r x l∧(m.Term<r.Term→x=r):=by
 have hv:=h.mlen
 have hmany:=h.many
 have hfrm:=hm.frm
 unfold Qa at ho
 split at ho
 ·rename_i h1
  split at ho
  ·rename_i h2
   cases ho
   refine⟨⟨rfl,rfl,rfl,Acu rfl ?_,fun a ha=>by cases ha⟩,fun q=>by omega⟩
   rcases Vt r.Term r.Log r.Commit (r.Match.set m.From.toNat (max m.Match (r.Match.getD m.From.toNat 0))) with e | ⟨e,e2,_⟩
   ·show r.Commit≤Nq _ _ _ _; rw [e]; exact Int.le_refl _
   ·show r.Commit≤Nq _ _ _ _; rw [e]; omega
  ·cases ho
 ·cases ho; exact⟨⟨rfl,rfl,rfl,List.prefix_refl _,fun a ha=>by cases ha⟩,fun _=>rfl⟩
theorem Aju {r x:Replica}{m:Message}{l:List Message}(h:Good r)(hm:MOk r m)(ho:Lg r m=some (x,l)):Kept r x l∧(m.Term<r.Term→x=r):=by
 unfold Lg at ho
 split at ho
 ·have:=Amk r m
  rw [Option.some.inj ho] at this; exact this
 split at ho
 ·have:=Aj4 (m:=m) h
  rw [Option.some.inj ho] at this; exact this
 split at ho
 ·exact Amc h hm ho
 ·exact Amo h hm ho
theorem Adx {r x:Replica}{m:Message}{l:List Message}(h:Good r)(ho:Kb r m=some (x,l)):MOk r m∧x.ID=r.ID∧x.Many=r.Many∧x.Term=max r.Term m.Term∧comm r <+: comm x∧(∀ a ∈ l,a.From=r.ID∧a.Term=x.Term)∧(m.Term<r.Term→x=r):=by
 unfold Kb at ho
 split at ho
 ·rename_i hk
  have hm:=(Ahd r m).1 hk
  obtain⟨q1,q2,q3,q4,q5⟩:=Ro r m
  obtain⟨k,k2⟩:=Aju (Aj9 h hm) (Ak4 hm) ho
  refine⟨hm,k.id.trans q1,k.many.trans q2,k.term.trans q5,?_,fun a ha=>⟨(k.sent a ha).1.trans q1,(k.sent a ha).2.trans k.term.symm⟩,fun ht=>?_⟩
  ·have:=k.comm
   unfold comm at this ⊢
   rwa [q3,q4] at this
  ·have hb:Jc r m=r:=by unfold Jc; rw [if_neg (by omega)]
   rw [hb] at k2
   exact k2 ht
 ·cases ho
theorem Ak7 {r x:Replica}{m:Message}{l:List Message}(ho:Lg r m=some (x,l)):x.Log=r.Log∨x.Log=m.Log:=by
 unfold Lg at ho
 split at ho
 ·have e:x=(Ml r m).1:=by rw [Option.some.inj ho]
  rw [e]
  left
  unfold Ml; cases Lo r m <;> rfl
 split at ho
 ·have e:x=(K5 r m).1:=by rw [Option.some.inj ho]
  rw [e]
  left
  unfold K5
  split
  ·simp only
   split <;> rfl
  ·rfl
 split at ho
 ·unfold Pt at ho
  split at ho
  ·cases ho; exact .inl rfl
  split at ho
  ·cases ho; exact .inl rfl
  split at ho
  ·cases ho; exact .inl rfl
  split at ho
  ·cases ho; exact .inr rfl
  ·cases ho
 ·unfold Qa at ho
  split at ho
  ·split at ho
   ·cases ho; exact .inl rfl
   ·cases ho
  ·cases ho; exact .inl rfl
theorem Al2 {r x:Replica}{m:Message}{l:List Message}(ho:Kb r m=some (x,l)):x.Log=r.Log∨x.Log=m.Log:=by
 unfold Kb at ho
 split at ho
 ·have:=Ak7 ho
  rwa [(Ro r m).2.2.1] at this
 ·cases ho
theorem Aiz {a b:List (List Int)}(h:a <+: b):Qc a b=.ok true:=by
 unfold Qc
 have hle:=h.length_le
 rw [if_neg (by omega),Afr a 0 fun j x hx=>?_]
 ·rfl
 ·obtain⟨t,rfl⟩:=h
  have hj:j<a.length:=by
   rcases Nat.lt_or_ge j a.length with hh | hh
   ·exact hh
   ·rw [List.getElem?_eq_none hh] at hx; cases hx
  have:(a++t)[j]? = some x:=by rw [List.getElem?_append_left hj]; exact hx
  simp only [Nd,Nat.zero_add,D0 this,R.ok_bind,beq_self_eq_true,if_true]
end Rp
end Go.Am
namespace Go.Am
open Go
set_option linter.unusedVariables false
def Le {α:Type}(x y:R α):Prop:=x=.bad∨x=y
theorem Le.refl {α:Type}(x:R α):Le x x:=.inr rfl
theorem Apq {α:Type}{x y:R α}{a:α}(h:Le x y)(hx:x=.ok a):y=.ok a:=by
 rcases h with h | h
 ·rw [h] at hx; cases hx
 ·rw [← h]; exact hx
theorem C0 {α β:Type}{x y:R α}{f g:α→R β}(h:Le x y)(hf : ∀ a,Le (f a) (g a)):Le (x.bind f) (y.bind g):=by
 rcases h with rfl | rfl
 ·exact .inl rfl
 ·cases x with
  | ok a=>exact hf a
  | pan v=>exact .inr rfl
  | bad=>exact .inl rfl
theorem Dp {α:Type}{c:Prop}[Decidable c]{x y x' y':R α}(h:Le x x')(h':Le y y'):Le (if c then x else y) (if c then x' else y'):=by
 split
 ·exact h
 ·exact h'
theorem Cq {α:Type}{x y:R α}{f:PV→R α}(h:Le x y):Le (x.catch' f) (y.catch' f):=by
 rcases h with rfl | rfl
 ·exact .inl rfl
 ·exact .inr rfl
theorem Ee {α:Type}{x y:R α}(h:Le x y):Le x.np y.np:=by
 rcases h with rfl | rfl
 ·exact .inl rfl
 ·exact .inr rfl
theorem C2 {α σ ε:Type}{b b':Nat→α→σ→R (σ ⊕ ε)}(h : ∀ j a s,Le (b j a s) (b' j a s)) : ∀ (k:Nat) (l:List α) (s:σ),Le (each b k l s) (each b' k l s)
 | k,[],s=>.inr rfl
 | k,a::l,s=>by
  rw [M7,M7]
  refine C0 (h k a s) fun x=>?_
  cases x with
  | inl s'=>exact C2 h (k+1) l s'
  | inr e=>exact .inr rfl
theorem Cp {α σ:Type}{b b':Nat→α→σ→R σ}(h : ∀ j a s,Le (b j a s) (b' j a s)) : ∀ (k:Nat) (l:List α) (s:σ),Le (Gb b k l s) (Gb b' k l s)
 | k,[],s=>.inr rfl
 | k,a::l,s=>by
  rw [Q2,Q2]
  exact C0 (h k a s) fun x=>Cp h (k+1) l x
theorem Aht {σ ε:Type}{b b':σ→R (σ ⊕ ε)}(h : ∀ s,Le (b s) (b' s)) : ∀ (n:Nat) (s:σ),Le (Hs b n s) (Hs b' n s)
 | 0,s=>.inl rfl
 | n+1,s=>by
  rw [Hs,Hs]
  refine C0 (h s) fun x=>?_
  cases x with
  | inl s'=>exact Aht h n s'
  | inr e=>exact .inr rfl
def Ub {σ ε:Type}(n:Nat)(body:σ→R (σ ⊕ ε))(s:σ):R ε:=Hs body n s
theorem C5 {σ ε:Type}{b b':σ→R (σ ⊕ ε)}(h : ∀ s,Le (b s) (b' s))(n:Nat)(s:σ):Le (Ub n b s) (loop b' s):=by
 unfold Ub
 rcases Aht h n s with e | e
 ·exact .inl e
 ·by_cases hb:Hs b' n s=.bad
  ·exact .inl (e.trans hb)
  ·exact .inr (e.trans (Rs hb).symm)
section
variable {α β γ δ ε ζ κ:Type}
theorem Ds {f f':α→R κ}{g g':β→R κ}(hf : ∀ a,Le (f a) (f' a))(hg : ∀ b,Le (g b) (g' b))(s:α ⊕ β):Le (Jk f g s) (Jk f' g' s):=by
 cases s with
 | inl a=>exact hf a
 | inr b=>exact hg b
theorem Dt {f g:α→β→R κ}(h : ∀ a b,Le (f a b) (g a b))(p:α×β):Le (Dn f p) (Dn g p):=h _ _
theorem Dq {f g:α→β→γ→R κ}(h : ∀ a b c,Le (f a b c) (g a b c))(p:α×β×γ):Le (J7 f p) (J7 g p):=h _ _ _
theorem Du {f g:α→β→γ→δ→R κ}(h : ∀ a b c d,Le (f a b c d) (g a b c d))(p:α×β×γ×δ):Le (T3 f p) (T3 g p):=h _ _ _ _
theorem Dr {f g:α→β→γ→δ→ε→R κ}(h : ∀ a b c d e,Le (f a b c d e) (g a b c d e))(p:α×β×γ×δ×ε):Le (un5 f p) (un5 g p):=h _ _ _ _ _
end
def Aaq (a:Int):List Int→List Int
 | []=>[a]
 | b::l=>if a≤b then a::b::l else b::Aaq a l
def Wk:List Int→List Int
 | []=>[]
 | a::l=>Aaq a (Wk l)
theorem Ys (a:Int) : ∀ l,(Aaq a l).Perm (a::l)
 | []=>.refl _
 | b::l=>by
  unfold Aaq
  split
  ·exact .refl _
  ·exact((Ys a l).cons b).trans (.swap a b l)
theorem Aae : ∀ l,(Wk l).Perm l
 | []=>.refl _
 | a::l=>(Ys a (Wk l)).trans ((Aae l).cons a)
theorem Z8 (a:Int) : ∀ l:List Int,l.Pairwise (· ≤ ·)→(Aaq a l).Pairwise (· ≤ ·)
 | [],_=>by simp [Aaq]
 | b::l,h=>by
  have h':=List.pairwise_cons.1 h
  unfold Aaq
  split
  ·rename_i hab
   refine List.pairwise_cons.2 ⟨fun x hx=>?_,h⟩
   rcases List.mem_cons.1 hx with rfl | hx
   ·exact hab
   ·have:=h'.1 x hx; omega
  ·rename_i hab
   refine List.pairwise_cons.2 ⟨fun x hx=>?_,Z8 a l h'.2⟩
   rcases List.mem_cons.1 ((Ys a l).mem_iff.1 hx) with rfl | hx
   ·omega
   ·exact h'.1 x hx
theorem T1 : ∀ l:List Int,(Wk l).Pairwise (· ≤ ·)
 | []=>.nil
 | a::l=>Z8 a _ (T1 l)
theorem X7 : ∀ {a b:List Int},a.Perm b→a.Pairwise (· ≤ ·)→b.Pairwise (· ≤ ·)→a=b
 | [],b,h,_,_=>by rw [List.Perm.nil_eq h]
 | x::a,[],h,_,_=>by have:=h.length_eq; simp at this
 | x::a,y::b,h,ha,hb=>by
  have ha':=List.pairwise_cons.1 ha
  have hb':=List.pairwise_cons.1 hb
  have h1:x=y:=by
   have hx:x ∈ y::b:=h.mem_iff.1 (List.mem_cons_self ..)
   have hy:y ∈ x::a:=h.mem_iff.2 (List.mem_cons_self ..)
   rcases List.mem_cons.1 hx with e | hx
   ·exact e
   ·rcases List.mem_cons.1 hy with e | hy
    ·exact e.symm
    ·have:=ha'.1 y hy; have:=hb'.1 x hx; omega
  subst h1
  rw [X7 (List.Perm.cons_inv h) ha'.2 hb'.2]
theorem Co (l:List Int):Hb l=Wk l:=by
 refine X7 ((List.mergeSort_perm l _).trans (Aae l).symm) ?_ (T1 l)
 have:=List.pairwise_mergeSort (le:=fun x y:Int=>decide (x≤y)) (fun a b c h1 h2=>by simp at *; omega) (fun a b=>by simp; omega) l
 exact this.imp fun h=>by simpa using h
end Go.Am

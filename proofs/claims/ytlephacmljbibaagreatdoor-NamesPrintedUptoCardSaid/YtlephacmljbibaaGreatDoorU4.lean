/- Written by shrink.py from texts of ours: comments struck, what is not reached left out, names short. -/
import Derived.Test.YtlephacmljbibaaGreatDoorU3
import Derived.Test.YtlephacmljbibaaGreatDoorU1
import Derived.Test.YtlephacmljbibaaGreatDoorU2
import Derived.RangeFuncIn
import Derived.RangeFuncLeaves
import Derived.Deep.DeepHandedRow
import Derived.Lib.LaidU8
import Derived.Lay
import Derived.MakeChecks
import Derived.LaidMore
import Derived.WideKeyElems2
import Derived.KernelRfl
import Derived.Lib.Bytealg
import Derived.Lib.ItoaNum
import Derived.Lib.Join
import Derived.Lib.AtoiAll
import Derived.Lib.ItoaMem
import Derived.Lib.AtoiAllCases
namespace Go.Am
open Go
set_option linter.unusedSimpArgs false
set_option linter.unusedVariables false
set_option linter.unusedSectionVars false
inductive AFz (h h2:Af):AO→AO→Prop
 | same (x:AO):AFz h h2 x x
 | rows (g st:Nat) (rs rs':List (List AV)) (hl:rs.length=rs'.length) (hr : ∀ r ∈ rs',En st r) (hc : ∀ i j,i<rs.length→j<st→Fz h h2 (cell rs i j) (cell rs' i j)):AFz h h2 (.rows g st rs) (.rows g st rs')
def HFz (h h2:Af):Prop := ∀ o y,h2 o=some y → ∃ x,h o=some x∧AFz h h2 x y
theorem AFz.gen {h h2:Af}{x y:AO}(k:AFz h h2 x y):x.gen=y.gen:=by cases k <;> rfl
theorem HFz.subG {h h2:Af}(k:HFz h h2):Alu h2 h:=fun o y e=>let ⟨x,h1,h2⟩:=k o y e; ⟨x,h1,h2.gen⟩
theorem Sim.fz {P:Program}[GW P]{B:Base P}{mu:Mu}{h h2:Af}{w:World}(s:Sim B mu h w)(k:HFz h h2):Sim B mu h2 w:=by
 refine⟨s.base,s.muOk,s.fin,?_,?_,?_,?_,s.glob,fun o g x e=>by
  obtain⟨y,h1,hx⟩:=k o _ e
  cases hx with
  | same _=>exact s.blks o g x h1⟩
 ·obtain⟨N,hN⟩:=s.finh
  refine⟨N,fun o ho=>?_⟩
  cases hq:h2 o with
  | none=>rfl
  | some y=>obtain⟨x,h1,_⟩:=k o y hq; rw [hN o ho] at h1; cases h1
 ·intro o g st rs e
  obtain⟨x,h1,hx⟩:=k o _ e
  cases hx with
  | same _=>
   obtain⟨l,k1,k2,k3,k4,k5,k6⟩:=s.rows o g st rs h1
   exact⟨l,k1,k2,k3,k4,k5,fun i j hi hj=>let ⟨c,c1,c2⟩:=k6 i j hi hj; ⟨c,c1,P3 s k.subG (.same _) c2⟩⟩
  | rows _ _ rs0 _ hl hr hc=>
   obtain⟨l,k1,k2,k3,k4,k5,k6⟩:=s.rows o g st rs0 h1
   exact⟨l,k1,k2,k3,by rw [← hl]; exact k4,hr,fun i j hi hj=>let ⟨c,c1,c2⟩:=k6 i j (hl ▸ hi) hj; ⟨c,c1,P3 s k.subG (hc i j (hl ▸ hi) hj) c2⟩⟩
 ·intro o g es e
  obtain⟨x,h1,hx⟩:=k o _ e
  cases hx with
  | same _=>
   obtain⟨l,k1,k2,ens,clock,k3,k4,k5⟩:=s.maps o g es h1
   exact⟨l,k1,k2,ens,clock,k3,k4,fun i hi=>⟨P3 s k.subG (.same _) (k5 i hi).1,P3 s k.subG (.same _) (k5 i hi).2⟩⟩
 ·intro o o' x x' l l' e e' h1 h2 hb
  obtain⟨y,k1,k2⟩:=k _ _ e
  obtain⟨y',k1',k2'⟩:=k _ _ e'
  exact s.inj o o' y y' l l' k1 k1' (by rw [k2.gen]; exact h1) (by rw [k2'.gen]; exact h2) hb
section
variable {P:Program} [GW P] {f:FuncId} {n:Nat} {d:FK} {fr:Nat→AV} {ds:List AD} {h h2:Af} {u:AU} {Q:QT} {k:List Item}
theorem Amv {fn:Func}{vs:List AV}{v':AV}(hf:P.funcs[f]? = some fn)(hx:Mm P h fr fn.results.toList=some vs)(hs:HFz h h2)(hz:Fz h h2 (Nb vs) v')(hu:d=false)(hq:Q (.ret v') h2 u):Uw P f n d .ret fr [] h u Q:=by
 intro B mu w a cs todo mode p hm
 obtain⟨c,h1,h2'⟩:=Ym p.sim p.fr hx
 have hd:a.defers=[]:=p.ds
 have hmode:=hm.ret_inv
 refine⟨.returned c,w,cs,_,.ret v',h2,mu,u,hq,Steps.refl P _,rfl,rfl,(by subst hu; exact⟨hmode,hd,fn,hf,h1⟩),P3 p.sim hs.subG hz h2',p.sim.fz hs,(Hm.subG hs.subG).g,?_⟩
 subst hu
 rfl
end
inductive HL (h h2:Af):List (Option AO)→List (Option AO)→Prop
 | nil:HL h h2 [] []
 | keep {x:Option AO} {xs ys:List (Option AO)} (r:HL h h2 xs ys):HL h h2 (x::xs) (x::ys)
 | drop {x:Option AO} {xs ys:List (Option AO)} (r:HL h h2 xs ys):HL h h2 (x::xs) (none::ys)
 | fz {g st:Nat} {row row':List AV} {xs ys:List (Option AO)} (hz:LF h h2 row row') (hl:row'.length=st) (hf:row'.all AV.flat=true) (r:HL h h2 xs ys):HL h h2 (some (.rows g st [row])::xs) (some (.rows g st [row'])::ys)
theorem HL.get {h h2:Af}{xs ys:List (Option AO)}(k:HL h h2 xs ys):xs.length=ys.length ∧ ∀ (j:Nat) (y:AO),ys[j]? = some (some y) → ∃ x,xs[j]? = some (some x)∧AFz h h2 x y:=by
 induction k with
 | nil=>exact⟨rfl,fun j y e=>by simp at e⟩
 | keep r ih=>
  refine⟨by simp [ih.1],fun j y e=>?_⟩
  cases j with
  | zero=>simp only [List.getElem?_cons_zero,Option.some.injEq] at e; subst e; exact⟨y,by simp,.same _⟩
  | succ j=>simpa using ih.2 j y (by simpa using e)
 | drop r ih=>
  refine⟨by simp [ih.1],fun j y e=>?_⟩
  cases j with
  | zero=>simp at e
  | succ j=>simpa using ih.2 j y (by simpa using e)
 | @fz g st row row' xs ys hz hl hf r ih=>
  refine⟨by simp [ih.1],fun j y e=>?_⟩
  cases j with
  | zero=>
   simp only [List.getElem?_cons_zero,Option.some.injEq] at e
   subst e
   refine⟨.rows g st [row],by simp only [List.getElem?_cons_zero],.rows g st [row] [row'] rfl ?_ ?_⟩
   ·intro r hr
    rw [List.mem_singleton.1 hr]
    exact⟨hl,fun v hv=>List.all_eq_true.1 hf v hv⟩
   ·intro i j hi hj
    have:i=0:=by simpa using hi
    subst this
    have:=hz.all.2 j (by rw [hz.all.1,hl]; exact hj)
    simpa [cell] using this
  | succ j=>simpa using ih.2 j y (by simpa using e)
theorem HL.hfz {h0:Af}{ids:List Nat}{N:Nat}{xs ys:List (Option AO)}(hI:Ids h0 ids N)(hl:xs.length=N)(k:HL (hp h0 ids xs) (hp h0 ids ys) xs ys):HFz (hp h0 ids xs) (hp h0 ids ys):=by
 intro o y e
 obtain⟨k1,k2⟩:=k.get
 by_cases ho:o ∈ ids
 ·obtain⟨j,hj,rfl⟩:=List.mem_iff_getElem.1 ho
  have ej:ids[j]=ix ids j:=by simp [ix,List.getD,hj]
  rw [ej] at e ⊢
  have hjl:j<ys.length:=by rw [← k1,hl,← hI.len]; exact hj
  have hy:=hI.at (xs:=ys) (j:=j) (x:=ys[j]) (by rw [← k1,hl]) (List.getElem?_eq_getElem hjl)
  rw [hy] at e
  obtain⟨x,hx,hz⟩:=k2 j y (by rw [List.getElem?_eq_getElem hjl,e])
  exact⟨x,hI.at hl hx,hz⟩
 ·rw [Ua ho] at e
  exact⟨y,by rw [Ua ho]; exact e,.same _⟩
def Wu:List Nat→List (Option AO)→List (Option AO)
 | [],xs=>xs
 | j::js,xs=>Wu js (xs.set j none)
def Vc:List Nat→List (Option AO)→List (Option AO)→List (Option AO)
 | j::js,y::ys,xs=>(Vc js ys (xs.set j none)).set j y
 | _,_,xs=>xs
def pki (ids:List Nat):List Nat→List Nat
 | []=>[]
 | j::js=>ix ids j::pki ids js
def Ui (N:Nat):List Nat→Bool
 | []=>true
 | j::js=>Nat.blt j N && !js.contains j&&Ui N js
theorem Anz : ∀ (js:List Nat) (xs:List (Option AO)),(Wu js xs).length=xs.length
 | [],_=>rfl
 | j::js,xs=>by rw [Wu,Anz js]; simp
theorem Ak2 : ∀ (js:List Nat) (ys xs:List (Option AO)),(Vc js ys xs).length=xs.length
 | [],_,_=>by simp [Vc]
 | _::_,[],_=>by simp [Vc]
 | j::js,y::ys,xs=>by rw [Vc,List.length_set,Ak2 js]; simp
theorem Ala : ∀ (js:List Nat) (xs:List (Option AO)) (i:Nat),xs[i]? = some none→(Wu js xs)[i]? = some none
 | [],_,_,h=>h
 | j::js,xs,i,h=>Ala js _ i (by
  rw [List.getElem?_set]
  split
  ·rename_i hq; subst hq
   rw [if_pos]
   rcases Nat.lt_or_ge j xs.length with hh | hh
   ·exact hh
   ·rw [List.getElem?_eq_none hh] at h; cases h
  ·exact h)
theorem Aq8 : ∀ (js:List Nat) (xs:List (Option AO)) (i:Nat),i ∈ js→i<xs.length→(Wu js xs)[i]? = some none
 | j::js,xs,i,hm,hi=>by
  rcases List.mem_cons.1 hm with rfl | hm
  ·exact Ala js _ i (by simp [hi])
  ·exact Aq8 js _ i hm (by simpa using hi)
section
variable {h0:Af} {ids:List Nat} {N:Nat}
theorem Afo (hI:Ids h0 ids N) : ∀ {js:List Nat} {ys xs:List (Option AO)},xs.length=N→js.length=ys.length→Ui N js=true→hp (hp h0 ids (Wu js xs)) (pki ids js) ys=hp h0 ids (Vc js ys xs)
 | [],[],xs,_,_,_=>rfl
 | j::js,y::ys,xs,hl,hj,hk=>by
  simp only [Ui,Bool.and_eq_true] at hk
  simp only [pki,hp,Wu,Vc]
  rw [Afo hI (js:=js) (ys:=ys) (xs:=xs.set j none) (by simpa using hl) (by simpa using hj) hk.2]
  rw [hI.set (by rw [Ak2]; simpa using hl) hk.1.1]
theorem Ids.sub' (hI:Ids h0 ids N){js:List Nat}{xs:List (Option AO)}(hl:xs.length=N)(hk:Ui N js=true):Ids (hp h0 ids (Wu js xs)) (pki ids js) js.length:=by
 have hlt : ∀ {js:List Nat},Ui N js=true → ∀ j ∈ js,j<N:=by
  intro js
  induction js with
  | nil=>intro _ j hj; cases hj
  | cons i js ih=>
   intro hk j hj
   simp only [Ui,Bool.and_eq_true] at hk
   rcases List.mem_cons.1 hj with rfl | hj
   ·simpa using hk.1.1
   ·exact ih hk.2 j hj
 have hmem : ∀ {js:List Nat} {o:Nat},o ∈ pki ids js → ∃ j ∈ js,o=ix ids j:=by
  intro js
  induction js with
  | nil=>intro o ho; cases ho
  | cons i js ih=>
   intro o ho
   rcases List.mem_cons.1 ho with rfl | ho
   ·exact⟨i,List.mem_cons_self ..,rfl⟩
   ·obtain⟨j,h1,h2⟩:=ih ho; exact⟨j,List.mem_cons_of_mem _ h1,h2⟩
 have hinj : ∀ {i j:Nat},i<N→j<N→ix ids i=ix ids j→i=j:=by
  intro i j hi hj e
  rw [← hI.len] at hi hj
  simp only [ix,List.getD,List.getElem?_eq_getElem hi,List.getElem?_eq_getElem hj,Option.getD_some] at e
  rcases Nat.lt_trichotomy i j with hh | hh | hh
  ·exact absurd e (List.pairwise_iff_getElem.1 hI.nodup i j hi hj hh)
  ·exact hh
  ·exact absurd e.symm (List.pairwise_iff_getElem.1 hI.nodup j i hj hi hh)
 refine⟨?_,?_,?_⟩
 ·have key : ∀ {js:List Nat},Ui N js=true→(pki ids js).Nodup:=by
   intro js
   induction js with
   | nil=>intro _; exact List.nodup_nil
   | cons i js ih=>
    intro hk
    have hk':=hk
    simp only [Ui,Bool.and_eq_true] at hk
    refine List.nodup_cons.2 ⟨fun hm=>?_,ih hk.2⟩
    obtain⟨j,h1,h2⟩:=hmem hm
    have:=hinj (by simpa using hk.1.1) (hlt hk.2 j h1) h2
    subst this
    have:=hk.1.2
    simp [h1] at this
  exact key hk
 ·intro o ho
  obtain⟨j,h1,rfl⟩:=hmem ho
  exact hI.at (by rw [Anz]; exact hl) (Aq8 js xs j h1 (by rw [hl]; exact hlt hk j h1))
 ·clear hk
  induction js with
  | nil=>rfl
  | cons i js ih=>simp only [pki,List.length_cons]; rw [ih]
end
def Cq {α:Type}(S:α→AV→Af→Prop)(h0:Af)(m:R α):AR→Af→Prop:=fun r h'=>match m with
 | .ok a => ∃ v,r=.ret v∧S a v h'
 | .pan v=>r=.panic v.av∧h'=h0
 | .bad=>False
def Ako {α:Type}(S:α→AV→Af→Prop)(h0:Af):Spec α:=⟨fun m=>m≠.bad,fun h=>h rfl,fun m r h' _=>Cq S h0 m r h'⟩
def tkf (ids:List Nat):Nat→Nat→List Nat
 | 0,_=>[]
 | k+1,j=>ix ids j::tkf ids k (j+1)
theorem Am0 : ∀ (ids:List Nat) (k j:Nat),j+k≤ids.length→(ids.drop j).take k=tkf ids k j
 | ids,0,j,_=>by simp [tkf]
 | ids,k+1,j,h=>by
  have hj:j<ids.length:=by omega
  rw [List.drop_eq_getElem_cons hj,List.take_succ_cons,tkf,Am0 ids k (j+1) (by omega)]
  simp [ix,List.getD,hj]
section
variable {P:Program} [GW P] {f:FuncId} {n:Nat} {α:Type} {m:R α} {S:α→AV→Af→Prop} {h0:Af}
theorem Bb {fn : Func} {c : Code} {args : List AV} {os0 : List Nat} {K : Nat} {xs : List (Option AO)} (N : Nat) (hf : P.funcs[f]? = some fn) (hb : fn.body = some c) (hn : fn.name ≠ "runtime.NumGoroutine") (hnt : fn.ntmps = n) (hl : Nat.ble args.length n = true)
  (hI0 : Ids h0 os0 K) (hx : xs.length = K)
  (hr : ∀ ids, (∀ j, Nat.blt j K = true → ix ids j = ix os0 j) → Ids h0 ids (K + N) → WR P f n false (Ako S h0) m [.code c] (A2 (Yv 0 args)) [] (hp h0 ids (xs ++ List.replicate N none)) .ret) :
  m ≠ .bad → Bg P f args (hp h0 os0 xs) (Cq S h0 m) := by
 intro hb'
 refine Sm hf hb hn hnt (by simpa using hl) ?_
 refine Xg N os0 fun os h1 h2 h3 h4 => ?_
 have hout : ∀ o ∈ os, o ∉ os0 := fun o ho => h4 o ho
 have hI : Ids h0 (os0 ++ os) (K + N) := by
  refine ⟨List.nodup_append.2 ⟨hI0.nodup, h2, fun a ha b hb hq => hout b hb (hq ▸ ha)⟩, fun o ho => ?_, by simp [hI0.len, h1]⟩
  rcases List.mem_append.1 ho with ho | ho
  ·exact hI0.fresh o ho
  ·have := h3 o ho
   rwa [Ua (hout o ho)] at this
 have e : hp h0 (os0 ++ os) (xs ++ List.replicate N none) = hp h0 os0 xs := by
  rw [Abv (by rw [hI0.len, hx]), Ps fun o ho => hI.fresh o (List.mem_append_right _ ho)]
 have := hr (os0 ++ os) (fun j hj => by
  have hj' : j < os0.length := by rw [hI0.len]; simpa using hj
  simp [ix, List.getD, List.getElem?_append_left hj']) hI hb'
 rw [e] at this
 refine Se (fun t => ?_) this
 rcases Rq args 0 t with h | ⟨_, h⟩
 ·exact .inl h
 ·exact .inr h
section
variable {ids:List Nat} {xs:List (Option AO)} {K N:Nat} {l:List (Nat×AV)} {k:List Item} {u:AU}
theorem Aoi (hI:Ids h0 ids (K+N)){ys:List (Option AO)}(hy:ys.length=K):hp h0 ids (ys++List.replicate N none)=hp h0 (tkf ids K 0) ys:=by
 have e:=Am0 ids K 0 (by rw [hI.len]; omega)
 rw [List.drop_zero] at e
 rw [← e]
 have e2:ids=ids.take K++ids.drop K:=(List.take_append_drop K ids).symm
 conv=>lhs; rw [e2]
 rw [Abv (by rw [List.length_take,hI.len,hy]; omega),Ps fun o ho=>hI.fresh o (List.mem_of_mem_drop ho)]
theorem C9 {fn:Func}{a:α}{vs:List AV}{v:AV}(ys:List (Option AO))(hf:P.funcs[f]? = some fn)(hI:Ids h0 ids (K+N))(hl:xs.length=K+N)(hr:Mm P (hp h0 ids xs) (A2 l) fn.results.toList=some vs)
  (hy:ys.length=K) (hx:HL (hp h0 ids xs) (hp h0 ids (ys++List.replicate N none)) xs (ys++List.replicate N none)) (hz:Fz (hp h0 ids xs) (hp h0 ids (ys++List.replicate N none)) (Nb vs) v) (hS:S a v (hp h0 (tkf ids K 0) ys)) :
  WR P f n false (Ako S h0) (.ok a) (.code .ret::k) (A2 l) [] (hp h0 ids xs) u:=fun _=>by
 refine Z0 (Amv hf hr (hx.hfz hI hl) hz rfl ⟨v,rfl,?_⟩)
 rw [Aoi hI hy]; exact hS
theorem Cc {fn:Func}{a:α}{vs:List AV}{v:AV}(ys:List (Option AO))(hf:P.funcs[f]? = some fn)(hI:Ids h0 ids (K+N))(hl:xs.length=K+N)(hr:Mm P (hp h0 ids xs) (A2 l) fn.results.toList=some vs)
  (hy:ys.length=K) (hx:HL (hp h0 ids xs) (hp h0 ids (ys++List.replicate N none)) xs (ys++List.replicate N none)) (hz:Fz (hp h0 ids xs) (hp h0 ids (ys++List.replicate N none)) (Nb vs) v) (hS:S a v (hp h0 (tkf ids K 0) ys)) :
  WR P f n false (Ako S h0) (.ok a) [] (A2 l) [] (hp h0 ids xs) u:=fun _=>by
 refine Aii (Amv hf hr (hx.hfz hI hl) hz rfl ⟨v,rfl,?_⟩)
 rw [Aoi hI hy]; exact hS
theorem Ap {fn:Func}{v:PV}{fr:Nat→AV}(hf:P.funcs[f]? = some fn)(hI:Ids h0 ids (K+N)):WU P f n false (Ako S h0) (.pan v) (.pan v.av false) fr [] (hp h0 ids xs) u:=fun _=>
 Ags hf (hI.sub xs) (.same _) ⟨rfl,rfl⟩
end
end
section
variable {P:Program} [GW P] {f:FuncId} {n:Nat} {d:FK} {β γ:Type} {Q:Spec β} {m:R β} {ds:List AD} {u:AU} {k:List Item} {l:List (Nat×AV)} {F:γ→R β}
variable {all r:List Oper} {ty:TypeId} {pos:String} {after:Array Edge} {h0:Af} {ids:List Nat} {xs:List (Option AO)} {N:Nat}
theorem Avk {ops:List Oper}{fr:Nat→AV}(js:List Nat){xs zs:List (Option AO)}(ys:List (Option AO))(hI:Ids h0 ids N)(hl:xs.length=N)(hk:Ui N js=true)(hz:js.length=zs.length)(e:Vc js zs xs=ys)(hr:WO P f n d Q k all m ops fr ds (hp h0 ids ys) u) :
  WO P f n d Q k all m ops fr ds (hp (hp h0 ids (Wu js xs)) (pki ids js) zs) u:=by
 subst e
 rw [Afo hI hl hz hk]; exact hr
theorem Ao {α:Type}{dst:Option Tmp}{x:Operand}{as0:List Operand}{ts:Array TypeId}{g:FuncId}{fst cap A:List AV}{gd:Option (Nat×Bool)}{mg:R α}{S:α→AV→Af→Prop}{rest:α→R γ}{zs:List (Option AO)}(js:List Nat)(hI:Ids h0 ids N)(hl:xs.length=N)(hk:Ui N js=true)
  (hc:mg≠.bad→Bg P g A (hp (hp h0 ids (Wu js xs)) (pki ids js) zs) (Cq S (hp h0 ids (Wu js xs)) mg)) (hz:js.length=zs.length) (e2:Vc js zs xs=xs)
  (ht:Ij n dst=true) (hw:Ge all (A2 l) ⟨dst,.call ⟨.value x,⟨as0⟩,ts⟩,ty,pos,after,gd⟩=some true) (hx:ev (A2 l) x=.func (.func g) fst cap) (ha:fst++Jc (A2 l) as0++cap=A)
  (hp' : ∀ v,mg=.pan v→WU P f n d Q (.pan v) (.pan v.av false) (A2 l) ds (hp h0 ids (Wu js xs)) u)
  (hk : ∀ a,mg=.ok a → ∀ v h',S a v h'→WO P f n d Q k all ((rest a).bind F) r (Iu (A2 l) dst v) ds h' u) :
  WO P f n d Q k all ((mg.bind rest).bind F) (⟨dst,.call ⟨.value x,⟨as0⟩,ts⟩,ty,pos,after,gd⟩::r) (A2 l) ds (hp h0 ids xs) u:=by
 rw [Afo hI hl hz ‹Ui N js=true›,e2] at hc
 refine Akp (R.bind_assoc _ _ _) (R2 ht hw fun hb K U hK hU=>?_)
 simp only [Lh,hx]
 rw [ha]
 have hmb:mg≠.bad:=fun q=>by rw [q] at hb; exact Q.bad hb
 refine(hc hmb).mono fun r' h' hr=>?_
 cases hm:mg with
 | bad=>exact absurd hm hmb
 | ok a=>
  rw [hm] at hr hb hK
  obtain⟨v,rfl,hS⟩:=hr
  exact hK _ _ _ _ (hk a hm v h' hS)
 | pan v=>
  rw [hm] at hr hb hU
  obtain⟨rfl,rfl⟩:=hr
  exact hU _ _ _ _ _ (hp' v hm hb)
theorem Aq {ops:List Oper}{t:Nat}{v:AV}{h:Af}(hr:WO P f n d Q k all m ops (A2 ((t,v)::l)) ds h u):WO P f n d Q k all m ops (Iu (A2 l) (some t) v) ds h u:=by rw [Iv]; exact hr
theorem Ur {α:Type}{pre:List (List Nat)}{plan:Jq}{pend:Xc}{i:Nat}{dst:Option Tmp}{x:Operand}{as0:List Operand}{ts:Array TypeId}{g:FuncId}{fst cap A:List AV}{gd:Option (Nat×Bool)}{mg:R α}{S:α→AV→Af→Prop}{rest:α→R γ}{zs:List (Option AO)}(js:List Nat)(hI:Ids h0 ids N)(hl:xs.length=N)(hk:Ui N js=true)
  (hc:mg≠.bad→Bg P g A (hp (hp h0 ids (Wu js xs)) (pki ids js) zs) (Cq S (hp h0 ids (Wu js xs)) mg)) (hz:js.length=zs.length) (e2:Vc js zs xs=xs) (ho:all[i]? = some ⟨dst,.call ⟨.value x,⟨as0⟩,ts⟩,ty,pos,after,gd⟩)
  (ht:Ij n dst=true) (hw:Ge all (A2 l) ⟨dst,.call ⟨.value x,⟨as0⟩,ts⟩,ty,pos,after,gd⟩=some true) (hx:ev (A2 l) x=.func (.func g) fst cap) (ha:fst++Jc (A2 l) as0++cap=A)
  (hp' : ∀ v,mg=.pan v → ∀ fr,(∀ t,(all.any fun o=>o.dst==some t)=false→fr t=A2 l t)→WU P f n d Q (.pan v) (.pan v.av false) fr ds (hp h0 ids (Wu js xs)) u)
  (hk : ∀ a,mg=.ok a → ∀ v h',S a v h'→Ok P all pre i h' pend∧WP P f n d Q k all pre ((rest a).bind F) plan pend (Iu (A2 l) dst v) ds h' u) :
  WP P f n d Q k all pre ((mg.bind rest).bind F) ((true,i)::plan) pend (A2 l) ds (hp h0 ids xs) u:=by
 rw [Afo hI hl hz ‹Ui N js=true›,e2] at hc
 refine Aks (R.bind_assoc _ _ _) (Afc ho ht hw fun hb K U hK hU=>?_)
 simp only [Lh,hx]
 rw [ha]
 have hmb:mg≠.bad:=fun q=>by rw [q] at hb; exact Q.bad hb
 refine(hc hmb).mono fun r' h' hr=>?_
 cases hm:mg with
 | bad=>exact absurd hm hmb
 | ok a=>
  rw [hm] at hr hb hK
  obtain⟨v,rfl,hS⟩:=hr
  obtain⟨k1,k2⟩:=hk a hm v h' hS
  exact hK _ _ _ _ k1 k2
 | pan v=>
  rw [hm] at hr hb hU
  obtain⟨rfl,rfl⟩:=hr
  exact hU _ _ _ _ _ (fun fr' hf=>hp' v hm fr' hf hb)
theorem W7 {pre:List (List Nat)}{plan:Jq}{pend:Xc}{i:Nat}{fr:Nat→AV}(js:List Nat){xs zs:List (Option AO)}(ys:List (Option AO))(hI:Ids h0 ids N)(hl:xs.length=N)(hk:Ui N js=true)(hz:js.length=zs.length)(e:Vc js zs xs=ys)
  (hr:Ok P all pre i (hp h0 ids ys) pend∧WP P f n d Q k all pre m plan pend fr ds (hp h0 ids ys) u) :
  Ok P all pre i (hp (hp h0 ids (Wu js xs)) (pki ids js) zs) pend∧WP P f n d Q k all pre m plan pend fr ds (hp (hp h0 ids (Wu js xs)) (pki ids js) zs) u:=by
 subst e
 rw [Afo hI hl hz hk]; exact hr
theorem W8 {pre:List (List Nat)}{plan:Jq}{pend:Xc}{t:Nat}{v:AV}{h:Af}(hr:WP P f n d Q k all pre m plan pend (A2 ((t,v)::l)) ds h u):WP P f n d Q k all pre m plan pend (Iu (A2 l) (some t) v) ds h u:=by rw [Iv]; exact hr
end
theorem Amy {P:Program}[GW P]{f:FuncId}{n:Nat}{α:Type}{e:α→AV}{hdl:PV→R α}{h0:Af}{ids:List Nat}{N:Nat}{xs:List (Option AO)}{l:List (Nat×AV)}{k:List Item}{u:AU}{fn:Func}{a:α}{vs:List AV}(hf:P.funcs[f]? = some fn)(hI:Ids h0 ids N)
  (hr:Mm P (hp h0 ids xs) (A2 l) fn.results.toList=some vs) (hz:Fz (hp h0 ids xs) h0 (Nb vs) (e a)) :
  WR P f n false (Rt e h0 hdl) (.ok a) (.code .ret::k) (A2 l) [] (hp h0 ids xs) u:=fun _=>
 Z0 (Un hf hr (hI.sub xs) hz rfl ⟨rfl,rfl⟩)
end Go.Am
namespace Go.Am
open Go
set_option linter.unusedSimpArgs false
set_option linter.unusedVariables false
set_option linter.unusedSectionVars false
def Ub {α:Type}(l:List α)(a b:Int):List α:=(l.drop a.toNat).take (b.toNat - a.toNat)
section
variable {P:Program} [GW P] {h:Af} {t et:TypeId} {a b st:Nat} {z:List AV} {E:TI} {s:List UInt8} {k k':IntKind} {lo hi:Int} {α:Type} {e:α→List AV} {L:List α}
theorem Apt {n:Nat}(h1:0≤lo)(h2:lo≤(n:Int))(d:Nat):J8 (some (.int k lo)) d n=some lo.toNat:=by simp only [J8]; rw [if_pos ⟨h1,h2⟩]
theorem Ap4 (hT:ti P t=some ⟨.str,a,b,z⟩)(hc:0≤lo∧lo≤hi∧hi≤(s.length:Int)):Q0 P h t (.str s) (some (.int k lo)) (some (.int k' hi)) none=some (.str (Ub s lo hi)):=by
 obtain⟨h1,h2,h3⟩:=hc
 simp only [Q0,hT]
 rw [Apt (by omega) h3]
 simp only
 rw [Apt h1 (by omega)]
 rfl
theorem Aom (hT:ti P t=some ⟨.str,a,b,z⟩)(hc:0≤lo∧lo≤(s.length:Int)):Q0 P h t (.str s) (some (.int k lo)) none none=some (.str (s.drop lo.toNat)):=by
 simp only [Q0,hT,J8]
 rw [if_pos hc]
 simp only [Option.some.injEq,AV.str.injEq]
 rw [List.take_of_length_le (by simp)]
theorem Avx (hT:ti P t=some ⟨.str,a,b,z⟩)(hc:0≤hi∧hi≤(s.length:Int)):Q0 P h t (.str s) none (some (.int k hi)) none=some (.str (s.take hi.toNat)):=by
 simp only [Q0,hT]
 rw [Apt hc.1 hc.2]
 simp only [J8,List.drop_zero,Nat.sub_zero]
theorem Ol (hT:ti P t=some ⟨.sl et,a,b,z⟩)(hE:ti P et=some E)(hs:st=E.size)(hc:0≤lo∧lo≤(L.length:Int)):Q0 P h t (.sl st (L.map e)) (some (.int k lo)) none none=some (.sl st ((L.drop lo.toNat).map e)):=by
 simp only [Q0,hT,hE,J8]
 rw [if_pos hs]
 simp only [List.length_map]
 rw [if_pos hc]
 simp only [Option.some.injEq,AV.sl.injEq,true_and]
 rw [List.take_of_length_le (by simp),List.map_drop]
theorem W9 {m o g r c:Nat}{i:Int}(j:Nat)(hT:ti P t=some ⟨.arr m et,a,b,z⟩)(hE:ti P et=some E)(hi:i=(j:Int))(hj:Nat.blt j m=true):K4 P h t (.ptr o g r c) (.int k i)=some (.ptr o g r (c+j * E.size)):=by
 subst hi
 have:j<m:=by simpa using hj
 simp only [K4,hT,hE]
 rw [if_pos ⟨by omega,by omega⟩,Int.toNat_natCast]
end
section
variable {P:Program} [GW P] {f:FuncId} {n:Nat} {d:FK} {β γ:Type} {Q:Spec β} {fr:Nat→AV} {ds:List AD} {h:Af} {u:AU} {k:List Item} {F:γ→R β} {all:List Oper}
theorem Z7 {p:Prop}[Decidable p]{A B:R γ}{ops:List Oper}(ht:p→WO P f n d Q k all (A.bind F) ops fr ds h u)(hf:¬ p→WO P f n d Q k all (B.bind F) ops fr ds h u):WO P f n d Q k all ((if p then A else B).bind F) ops fr ds h u:=by
 have e:(if p then A else B).bind F=if p then A.bind F else B.bind F:=by split <;> rfl
 rw [e]; exact Awr ht hf
theorem Avc {p:Prop}[Decidable p]{A:R γ}{todo:List Item}(hk:p→WR P f n d Q (A.bind F) todo fr ds h u):WR P f n d Q ((if p then A else .bad).bind F) todo fr ds h u:=by
 intro hb
 by_cases hp:p
 ·simp only [if_pos hp] at hb ⊢; exact hk hp hb
 ·simp only [if_neg hp] at hb; exact absurd hb Q.bad
theorem Axy {ops:List Oper}:WO P f n d Q k all ((R.bad:R γ).bind F) ops fr ds h u:=fun hb=>absurd hb Q.bad
end
def Aps (v:AV)(b:Bool):Prop:=match b with
 | false=>v=.nili
 | true => ∃ t x,v=.iface t x
theorem Arq {P:Program}[GW P]{t:TypeId}{v:AV}{b:Bool}{s by':Nat}{z:List AV}(hT:ti P t=some ⟨.ifc,s,by',z⟩)(hv:Aps v b):Qq P .neq t v .nili=some (.bool b):=by
 cases b with
 | false=>obtain rfl:v=.nili:=hv; exact Aft hT
 | true=>obtain⟨t',x,rfl⟩ : ∃ t x,v=.iface t x:=hv; exact Ad7 hT
theorem Aqv {P:Program}[GW P]{o:BinOp}{t:TypeId}{x:Operand}{c:Value}{v:AV}{b:Bool}(ho:o=.eql∨o=.neq)(hv:Aps v b):Ng P o t x (.const c) v .nili=true:=by
 cases b with
 | false=>obtain rfl:v=.nili:=hv; rcases ho with rfl | rfl <;> simp [Ng]
 | true=>obtain⟨t',x,rfl⟩ : ∃ t x,v=.iface t x:=hv; rcases ho with rfl | rfl <;> rfl
section
variable {P:Program} [GW P] [GW P]
theorem U2.mk {g : FuncId} {gf : Func} {gc : Code} (h1 : P.funcs[g]? = some gf) (h2 : gf.body = some gc) (h3 : gf.name ≠ "runtime.NumGoroutine") : U2 P g := ⟨gf, gc, h1, h2, h3⟩
def Aw3 (w:World)(v:AV)(mu:Mu)(h:Af):Ending→World→Prop:=fun e w'=>Go.RowKit.Below w.heap.size w w' ∧ ∃ c,e=.returned c∧RV h mu w' v c
theorem Alp {α:Type}{g:FuncId}{A:List AV}{m:R α}{e:α→AV}(hb:U2 P g)(hm : ∀ p,m≠.pan p)
  (hc : ∀ a,m=.ok a → ∀ (B:Base P) mu h w (cargs:Array Value),Sim B mu h w→Rf h mu w A cargs.toList→Calls P g cargs w (Aw3 w (e a) mu h)):CP P g A m e:=by
 intro h hne
 refine⟨hb,fun B mu w cargs s ha=>?_⟩
 cases hq:m with
 | bad=>exact absurd hq hne
 | pan p=>exact absurd hq (hm p)
 | ok a=>
  refine(hc a hq B mu h w cargs s ha).mono ?_
  rintro en w' ⟨k,c,rfl,hv⟩
  obtain⟨k1,k2⟩:=Below.ext s k
  exact⟨.ret (e a),h,mu,⟨rfl,rfl⟩,k1,k2,hv⟩
theorem Av9 {α:Type}{g:FuncId}{A:List AV}{m:R α}{S:α→AV→Af→Prop}{h:Af}(hb:U2 P g)(hm : ∀ p,m≠.pan p)
  (hc : ∀ a,m=.ok a → ∀ (B:Base P) mu w (cargs:Array Value),Sim B mu h w→Rf h mu w A cargs.toList→Calls P g cargs w fun en w'=>Go.RowKit.Below w.heap.size w w' ∧ ∃ v c,en=.returned c∧S a v h∧RV h mu w' v c):m≠.bad→Bg P g A h (Cq S h m):=by
 intro hne
 refine⟨hb,fun B mu w cargs s ha=>?_⟩
 cases hq:m with
 | bad=>exact absurd hq hne
 | pan p=>exact absurd hq (hm p)
 | ok a=>
  refine(hc a hq B mu w cargs s ha).mono ?_
  rintro en w' ⟨k,v,c,rfl,hS,hv⟩
  obtain⟨k1,k2⟩:=Below.ext s k
  exact⟨.ret v,h,mu,⟨v,rfl,hS⟩,k1,k2,hv⟩
theorem An7 {h:Af}{mu:Mu}{w:World}{a:AV}{cargs:Array Value}(k:Rf h mu w [a] cargs.toList) : ∃ c,cargs = #[c]∧RV h mu w a c:=by
 obtain⟨l⟩:=cargs
 match l,k.1 with
 | [c],_=>exact⟨c,rfl,by simpa using k.2 0 (by simp)⟩
theorem An1 {h:Af}{mu:Mu}{w:World}{a b:AV}{cargs:Array Value}(k:Rf h mu w [a,b] cargs.toList) : ∃ c d,cargs = #[c,d]∧RV h mu w a c∧RV h mu w b d:=by
 obtain⟨l⟩:=cargs
 match l,k.1 with
 | [c,d],_=>exact⟨c,d,rfl,by simpa using k.2 0 (by simp),by simpa using k.2 1 (by simp)⟩
theorem Ahd {h:Af}{mu:Mu}{w:World}{s:List UInt8}{c:Value}(k:RV h mu w (.str s) c):c=.string ⟨s.toArray⟩:=by cases k; rfl
theorem Ap7 {h:Af}{mu:Mu}{w:World}{t:IntKind}{n:Int}{c:Value}(k:RV h mu w (.int t n) c):c=.int t n:=by cases k; rfl
theorem Aw0 {h:Af}{mu:Mu}{w:World}{st:Nat}{c:Value}(k:RV h mu w (.sl st []) c) : ∃ a cap,c=.slice a 0 cap:=by
 cases k with
 | sl0 _ a cap=>exact⟨a,cap,rfl⟩
 | sl _ _ b off cap=>exact⟨_,cap,rfl⟩
theorem Au2 {h:Af}{mu:Mu}{w:World}{l:List An}{c:Value}(k:RV h mu w (.sl 1 (l.map rS)) c):l=[] ∨ ∃ bk o cap,c=.slice (some ⟨bk,o,none⟩) l.length cap∧bk<w.heap.size∧l.length≤D0∧l.length≤cap ∧ ∀ j x,l[j]? = some x→w.cell? ⟨bk,o+j,none⟩=some (.string ⟨x.toArray⟩):=by
 generalize hr:l.map rS=rows at k
 cases k with
 | sl0 _ a cap=>exact .inl (List.map_eq_nil_iff.1 hr)
 | sl _ _ b off cap vs hcap hlim h1 h2 h5 h3 h4=>
  subst hr
  refine .inr ⟨b,off,cap,by rw [List.length_map],h4,by simpa using hlim,by simpa using hcap,fun j x hx=>?_⟩
  have hj:j<l.length:=Av hx
  have:=h1 j 0 (by simpa using hj) (by omega)
  have h2':=h2 j 0 (by simpa using hj) (by omega)
  rw [Nat.mul_one,Nat.add_zero] at this
  rw [this]
  have e:cell (l.map rS) j 0=.str x:=by simp [cell,hx,rS]
  rw [e] at h2'
  rw [Ahd h2']
end
end Go.Am
namespace Go.Am
open Go
set_option linter.unusedSimpArgs false
set_option linter.unusedVariables false
set_option linter.unusedSectionVars false
inductive HM (h h2:Af):List (Option AO)→List (Option AO)→Prop
 | nil:HM h h2 [] []
 | keep {x:Option AO} {xs ys:List (Option AO)} (r:HM h h2 xs ys):HM h h2 (x::xs) (x::ys)
 | drop {x:Option AO} {xs ys:List (Option AO)} (r:HM h h2 xs ys):HM h h2 (x::xs) (none::ys)
 | own {α:Type} {e:α→List AV} {L:List α} {v:AV} {g st i:Nat} {y:α} {row:List AV} {xs ys:List (Option AO)} (hr : ∀ x,En st (e x)) (hz:LF h h2 row (e y)) (r:HM h h2 xs ys) :
   HM h h2 (Ai v g st ((L.map e).set i row)::xs) (Ai v g st ((L.set i y).map e)::ys)
theorem HM.get {h h2:Af}{xs ys:List (Option AO)}(k:HM h h2 xs ys):xs.length=ys.length ∧ ∀ (j:Nat) (y:AO),ys[j]? = some (some y) → ∃ x,xs[j]? = some (some x)∧AFz h h2 x y:=by
 induction k with
 | nil=>exact⟨rfl,fun j y e=>by simp at e⟩
 | keep r ih=>
  refine⟨by simp [ih.1],fun j y e=>?_⟩
  cases j with
  | zero=>simp only [List.getElem?_cons_zero,Option.some.injEq] at e; subst e; exact⟨y,by simp,.same _⟩
  | succ j=>simpa using ih.2 j y (by simpa using e)
 | drop r ih=>
  refine⟨by simp [ih.1],fun j y e=>?_⟩
  cases j with
  | zero=>simp at e
  | succ j=>simpa using ih.2 j y (by simpa using e)
 | @own α e L v g st i y row xs ys hr hz r ih=>
  refine⟨by simp [ih.1],fun j z hz'=>?_⟩
  cases j with
  | succ j=>simpa using ih.2 j z (by simpa using hz')
  | zero=>
   simp only [List.getElem?_cons_zero,Option.some.injEq] at hz' ⊢
   have key:AFz h h2 (.rows g st ((L.map e).set i row)) (.rows g st ((L.set i y).map e)):=by
    refine .rows g st _ _ (by simp) (fun q hq=>?_) fun a b ha hb=>?_
    ·obtain⟨w,_,rfl⟩:=List.mem_map.1 hq
     exact hr w
    ·rw [List.map_set]
     by_cases hia:i=a
     ·subst hia
      have hlt:i<(L.map e).length:=by simpa using ha
      simp only [cell]
      have e1:((L.map e).set i row).getD i []=row:=by rw [List.getD_eq_getElem?_getD,List.getElem?_set_self hlt]; rfl
      have e2:((L.map e).set i (e y)).getD i []=e y:=by rw [List.getD_eq_getElem?_getD,List.getElem?_set_self hlt]; rfl
      rw [e1,e2]
      exact hz.all.2 b (by rw [hz.all.1,(hr y).1]; exact hb)
     ·simp only [cell]
      have e1:((L.map e).set i row).getD a []=(L.map e).getD a []:=by simp [List.getD,List.getElem?_set_ne hia]
      have e2:((L.map e).set i (e y)).getD a []=(L.map e).getD a []:=by simp [List.getD,List.getElem?_set_ne hia]
      rw [e1,e2]
      exact .same _
   unfold Ai at hz' ⊢
   split at hz'
   ·cases hz'
   ·rename_i hv
    cases hz'
    exact⟨_,rfl,key⟩
theorem HM.hfz {h0:Af}{ids:List Nat}{N:Nat}{xs ys:List (Option AO)}(hI:Ids h0 ids N)(hl:xs.length=N)(k:HM (hp h0 ids xs) (hp h0 ids ys) xs ys):HFz (hp h0 ids xs) (hp h0 ids ys):=by
 intro o y e
 obtain⟨k1,k2⟩:=k.get
 by_cases ho:o ∈ ids
 ·obtain⟨j,hj,rfl⟩:=List.mem_iff_getElem.1 ho
  have ej:ids[j]=ix ids j:=by simp [ix,List.getD,hj]
  rw [ej] at e ⊢
  have hjl:j<ys.length:=by rw [← k1,hl,← hI.len]; exact hj
  have hy:=hI.at (xs:=ys) (j:=j) (x:=ys[j]) (by rw [← k1,hl]) (List.getElem?_eq_getElem hjl)
  rw [hy] at e
  obtain⟨x,hx,hz⟩:=k2 j y (by rw [List.getElem?_eq_getElem hjl,e])
  exact⟨x,hI.at hl hx,hz⟩
 ·rw [Ua ho] at e
  exact⟨y,by rw [Ua ho]; exact e,.same _⟩
end Go.Am
namespace Go.Am
open Go
set_option linter.unusedSimpArgs false
set_option linter.unusedVariables false
set_option linter.unusedSectionVars false
section
variable {α:Type} {n:Nat} {e:α→List AV} {E:α→AV} {v:Vector α n} {i:Nat}
theorem En.all {s:Nat}{r:List AV}(h:En s r):r.all AV.flat=true:=List.all_eq_true.2 h.2
end
section
variable {P:Program} [GW P] {h:Af} {t et:TypeId} {a b:Nat} {z:List AV} {E:TI} {k:IntKind}
theorem toNat_lt {i:Int}{m:Nat}(h:0≤i∧i<(m:Int)):i.toNat<m:=by omega
end
theorem Acv {h h2:Af} : ∀ l:List AV,LF h h2 l l
 | []=>.nil
 | a::l=>.cons (.same a) (Acv l)
def R.np {α:Type}:R α→R α
 | .pan _=>.bad
 | m=>m
@[simp] theorem R.np_ok {α:Type}(a:α):(R.ok a).np=.ok a:=rfl
end Go.Am
namespace Go.Am
open Go
set_option linter.unusedSimpArgs false
set_option linter.unusedVariables false
set_option linter.unusedSectionVars false
end Go.Am
namespace Go.Am
open Go
set_option linter.unusedSimpArgs false
set_option linter.unusedVariables false
set_option linter.unusedSectionVars false
section
variable {P:Program} [GW P] {f:FuncId} {n:Nat} {d:FK} {fr:Nat→AV} {ds:List AD} {h:Af} {u:AU} {Q:QT} {k:List Item}
theorem Sim.take {B:Base P}{mu:Mu}{w:World}{b:Nat}{x:Option (List Deferred)}(s:Sim B mu h w)(hb:w.heap[b]? = some (.deferred x))(hm:¬ Ef h mu b)(hn:B.n≤b){n0:Nat}(hn0:n0≤b) :
  Sim B mu h { w with heap:=w.heap.setIfInBounds b (.deferred none) }∧Ais n0 h mu w h mu { w with heap:=w.heap.setIfInBounds b (.deferred none) }:=by
 have hlt:b<w.heap.size:=by
  rcases Nat.lt_or_ge b w.heap.size with hh | hh
  ·exact hh
  ·rw [Array.getElem?_eq_none hh] at hb; cases hb
 have hne : ∀ k,k≠b→(w.heap.setIfInBounds b (.deferred none))[k]? = w.heap[k]? := fun k hk=>Array.getElem?_setIfInBounds_ne (Ne.symm hk)
 have hself:(w.heap.setIfInBounds b (.deferred none))[b]? = some (.deferred none):=by simp [hlt]
 have ext:Ais n0 h mu w h mu { w with heap:=w.heap.setIfInBounds b (.deferred none) }:=
  ⟨rfl,rfl,rfl,by simp,fun k hk hkm=>⟨by
   by_cases hq:k=b
   ·subst hq; exact .inr ⟨hn0,_,_,hb,hself⟩
   ·exact .inl (hne k hq),hkm⟩,fun _ _ _ h=>h⟩
 have hcell : ∀ a:Addr,({ w with heap:=w.heap.setIfInBounds b (.deferred none) }:World).cell? a=w.cell? a:=fun a=>by
  by_cases hq:a.block=b
  ·unfold World.cell?
   show(match (w.heap.setIfInBounds b (.deferred none))[a.block]? with | some (.cells cells _ _)=>_ | _=>_)=_
   rw [hq,hself,hb]
  ·exact cell?_of_heap (hne _ hq)
 have hnb : ∀ {o x l},h o=some x→mu o x.gen=some l→l.b≠b:=fun h1 h2 hq=>hm ⟨_,_,_,h1,h2,hq⟩
 refine⟨⟨by simpa using s.base,fun o g l hl=>?_,s.fin,s.finh,fun o g st rs hx=>?_,fun o g es hx=>?_,s.inj,GW.step s.glob fun k hk=>hne k (by omega),fun o g x hx=>?_⟩,ext⟩
 ·obtain⟨h1,h2,h3⟩:=s.muOk o g l hl
  refine⟨h1,by simpa using h2,fun hc=>?_⟩
  obtain⟨cells,e,f,k1,k2,k3⟩:=h3 hc
  have:l.b≠b:=fun hq=>by rw [hq,hb] at k1; cases k1
  exact⟨cells,e,f,(hne _ this).trans k1,k2,k3⟩
 ·obtain⟨l,h1,h2,h3,h4,h5,h6⟩:=s.rows o g st rs hx
  refine⟨l,h1,h2,h3,h4,h5,fun i j hi hj=>?_⟩
  obtain⟨c,hc1,hc2⟩:=h6 i j hi hj
  exact⟨c,(hcell _).trans hc1,hc2.extG ext⟩
 ·obtain⟨l,h1,h2,ens,clock,h3,h4,h5⟩:=s.maps o g es hx
  exact⟨l,h1,h2,ens,clock,⟨(hne _ (hnb hx h1)).trans h3.1,h3.2⟩,h4,fun i hi=>⟨(h5 i hi).1.extG ext,(h5 i hi).2.extG ext⟩⟩
 ·obtain⟨l,h1,h2,h3⟩:=s.blks o g x hx
  exact⟨l,h1,h2,(hne _ (hnb hx h1)).trans h3⟩
theorem Rf.extG {n:Nat}{h h':Af}{mu mu':Mu}{w w':World}(e:Ais n h mu w h' mu' w'){l:List AV}{cs:List Value}(k:Rf h mu w l cs):Rf h' mu' w' l cs:=⟨k.1,fun i hi=>(k.2 i hi).extG e⟩
theorem Uc.extG {n:Nat}{h h':Af}{mu mu':Mu}{w w':World}(e:Ais n h mu w h' mu' w'){u:AU}{m:FrameMode}(k:Uc h mu w u m):Uc h' mu' w' u m:=by
 unfold Uc at k ⊢
 split at k
 ·trivial
 ·exact⟨k.1,k.2.1,k.2.2.extG e⟩
 ·exact k.elim
structure LpOk (f n:Nat)(params:Array Tmp)(assign body:Code)(r:Loop):Prop where
 ready:r.state=.ready
 pend:r.pending=none
 fn:r.fn=f
 size:r.tmps.size=n
 params:r.params=params
 assign:r.assign=assign
 body:r.body=body
end
end Go.Am
namespace Go.Am
open Go
set_option linter.unusedSimpArgs false
set_option linter.unusedVariables false
set_option linter.unusedSectionVars false
end Go.Am
namespace Go.Am
@[reducible] def un9 {α β γ δ ε ζ η θ ι ω:Type}(f:α→β→γ→δ→ε→ζ→η→θ→ι→ω):α×β×γ×δ×ε×ζ×η×θ×ι→ω | (x0,x1,x2,x3,x4,x5,x6,x7,x8)=>f x0 x1 x2 x3 x4 x5 x6 x7 x8
@[simp] theorem A0h {α β γ δ ε ζ η θ ι ω:Type}(f:α→β→γ→δ→ε→ζ→η→θ→ι→ω)(x0:α)(x1:β)(x2:γ)(x3:δ)(x4:ε)(x5:ζ)(x6:η)(x7:θ)(x8:ι):un9 f (x0,x1,x2,x3,x4,x5,x6,x7,x8)=f x0 x1 x2 x3 x4 x5 x6 x7 x8:=rfl
end Go.Am
namespace Go.Am
open Go
set_option linter.unusedVariables false
set_option linter.unusedSectionVars false
theorem Ays {P:Program}[GW P]{f:FuncId}{n:Nat}{d:FK}{α β γ:Type}{Q:Spec β}{k:List Item}{all ops:List Oper}{fr:Nat→AV}{ds:List AD}{h:Af}{u:AU}{F:γ→R β}{m:R α}{rest:α→R γ}
  (hk:(∀ v,m≠.pan v)→WO P f n d Q k all ((m.bind rest).bind F) ops fr ds h u):WO P f n d Q k all ((m.np.bind rest).bind F) ops fr ds h u:=by
 cases m with
 | ok a=>exact hk (fun v hv=>by cases hv)
 | pan v=>exact fun hb=>absurd hb Q.bad
 | bad=>exact fun hb=>absurd hb Q.bad
end Go.Am
namespace Go.Am
open Go
set_option linter.unusedVariables false
set_option linter.unusedSectionVars false
theorem Auf {P:Program}{W:World}{name:String}{k:IntKind}{zs:List Int}{g:Nat}{t e:TypeId}{n:Nat}(hg:P.globalNamed name=some g)(hty:(P.globals[g]?).map (·.type)=some t)(ht:P.underlying t=some (.array n e))(he:P.underlying e=some (.int k))(hce:P.cellsOf e=1)(hct:P.cellsOf t=n)
  (h:Lib.VarReads P W name (Lib.tabData k zs)):Lib.TabIs P W name k zs:=by
 obtain⟨g',t',cs,fuel,p,hg',ht',hvar,hd⟩:=h
 obtain rfl:=Option.some.inj (hg.symm.trans hg')
 obtain rfl:=Option.some.inj (hty.symm.trans ht')
 unfold Lib.TabIs
 rw [hvar,← Lib.cells_of_tab ht he hce hct hd]
theorem Ajz {P:Program}{W:World}{name u:String}{d:DataW Unit}{g:Nat}{t:TypeId}{ms:Array _}(hg:P.globalNamed name=some g)(hty:(P.globals[g]?).map (·.type)=some t)(ht:P.underlying t=some (.interface ms))
  (h:Lib.VarReads P W name (.iface u d)) : ∃ tp p,W.var? P name=some #[.iface tp p]:=by
 obtain⟨g',t',cs,fuel,p,hg',ht',hvar,hd⟩:=h
 obtain rfl:=Option.some.inj (hg.symm.trans hg')
 obtain rfl:=Option.some.inj (hty.symm.trans ht')
 cases fuel with
 | zero=>simp [DataW.trod] at hd
 | succ fuel=>
  obtain⟨cs⟩:=cs
  cases cs with
  | nil=>simp [DataW.trod,ht] at hd
  | cons v rest=>
   cases rest with
   | cons a b=>simp [DataW.trod,ht] at hd
   | nil=>
    cases v with
    | iface tp q=>exact⟨tp,q,hvar⟩
    | _=>simp [DataW.trod,ht] at hd
theorem Axw {P:Program}{W:World}{name:String}{g:Nat}{d:DataW Unit}(hg:P.globalNamed name=some g)(h:Lib.VarReads P W name d):g<W.heap.size:=by
 obtain⟨g',t',cs,fuel,p,hg',ht',hvar,hd⟩:=h
 obtain rfl:=Option.some.inj (hg.symm.trans hg')
 unfold World.var? at hvar
 rw [hg] at hvar
 rcases Nat.lt_or_ge g W.heap.size with h | h
 ·exact h
 ·simp [Array.getElem?_eq_none h] at hvar
theorem Aff {H:Type}{enc:TypeId×Value→H}{C:Checked}{os:Os}{f:FuncId}{fn:Func}{s:OpenSpec}{conds:List PathCond}{apart:Bool}{laid:List (String×DataW Unit)}(modest:Bool)(w0:World)(args:Array Value)(hos:w0.os=os)
  (hsh:(w0.forCall (fun _ _=>0) ⟨#[],args,[]⟩).Shaped C.prog)
  (hok:Input.okWideB C.prog (w0.forCall (fun _ _=>0) ⟨#[],args,[]⟩) f ⟨#[],args,[]⟩=true)
  (hrow:s.preRow enc C.prog fn conds apart laid (w0.forCall (fun _ _=>0) ⟨#[],args,[]⟩).memory args) :
  ∃ (w:World) (tape:Tape) (i:Input),w.os=os∧(w.forCall tape i).Shaped C.prog∧i.vars=[]∧Input.okWide C.prog (w.forCall tape i) .any w.heap.size f i ∧
   s.preRow enc C.prog fn conds apart laid (w.forCall tape i).memory i.args∧({ modest:=modest }:Assume).holds C.prog (lone (Frame.enter C.prog f i.args .normal) [] (w.forCall tape i)):=
 ⟨w0,fun _ _=>0,⟨#[],args,[]⟩,hos,hsh,(Input.okWide_of_okWideB (base:=0) hok).1,(Input.okWide_of_okWideB hok).2,hrow,by
  simp only [Assume.holds]
  exact⟨by simp,by simp,fun _=>Modest.zero,by simp,by simp⟩⟩
end Go.Am
namespace Go.Am
open Go
set_option linter.unusedVariables false
set_option linter.unusedSectionVars false
section
variable {P:Program} [GW P] {h:Af}
theorem Ax5 {t:TypeId}{T:TI}{b c:Nat}{row:List AV}{v:AV}(hr:GW.row P b=some row)(hT:ti P t=some T)(hv:K9 row c T.size T.k.agg=some v):P9 P h t (.gptr ⟨b,c,none⟩)=some v:=by simp only [P9,hT,hr,hv]
theorem Rb {t kt et:TypeId}{a b:Nat}{z:List AV}{K:TI}{ET:TI}{es:List (An×AV)}{s c:An}{q:An×AV}(hT:ti P t=some ⟨.map kt et,a,b,z⟩)(hK:ti P kt=some K)(hk:K.k=.str)(hE:ti P et=some ET)(hs:(s==c)=true)(hf:es.find? (fun p=>c==p.1)=some q) :
  P1 P h t (.mapc es) (.str s) true=some (.tup [q.2,.bool true]):=by
 obtain rfl:=eq_of_beq hs
 obtain⟨r,h1,h2⟩:=Aan (k:=s) es 0
 rw [hf] at h2
 obtain⟨j,v,rfl⟩ : ∃ j v,r=some (j,v):=by cases r with | none=>simp at h2 | some q=>exact⟨q.1,q.2,rfl⟩
 obtain rfl:v=q.2:=by simpa using h2
 simp only [P1,hT,hK,hE,Xr,hk,Ab5,if_true,h1]
theorem Asc {t kt et:TypeId}{a b:Nat}{z:List AV}{K:TI}{ET:TI}{es:List (An×AV)}{s:An}{v:AV}(hT:ti P t=some ⟨.map kt et,a,b,z⟩)(hK:ti P kt=some K)(hk:K.k=.str)(hE:ti P et=some ET)(hz:K9 ET.z 0 ET.size ET.k.agg=some v)(hf:es.find? (fun p=>s==p.1)=none) :
  P1 P h t (.mapc es) (.str s) true=some (.tup [v,.bool false]):=by
 obtain⟨r,h1,h2⟩:=Aan (k:=s) es 0
 rw [hf] at h2
 obtain rfl:r=none:=by simpa using h2
 simp only [P1,hT,hK,hE,Xr,hk,Ab5,if_true,h1,hz]
theorem Vm {es:List (An×AV)}{s c:An}{v:AV}(h:(s==c)=false)(r:es.find? (fun p=>s==p.1)=none):((c,v)::es).find? (fun p=>s==p.1)=none:=by rw [List.find?_cons]; simp only [h]; exact r
end
section
variable {P:Program} [GW P] {f:FuncId} {n:Nat} {γ:Type} {m:R γ} {u u':AU} {h0:Af}
theorem Ark {fn : Func} {c : Code} {args : List AV} {os0 : List Nat} {K : Nat} {xs : List (Option AO)} {ysf : γ → List (Option AO)} (N : Nat) (hf : P.funcs[f]? = some fn) (hb : fn.body = some c) (hn : fn.name ≠ "runtime.NumGoroutine") (hnt : fn.ntmps = n) (hl : Nat.ble args.length n = true)
  (hI0 : Ids h0 os0 K) (hx : xs.length = K) (hy : ∀ a, (ysf a).length = K)
  (hr : ∀ ids, (∀ j, Nat.blt j K = true → ix ids j = ix os0 j) → Ids h0 ids (K + N) → WR P f n true (Apn (fun a => hp h0 ids (ysf a ++ List.replicate N none)) u') m [.code c] (A2 (Yv 0 args)) [] (hp h0 ids (xs ++ List.replicate N none)) u) :
  (∃ a, m = .ok a) → Pr P f args u (hp h0 os0 xs) (Ab9 (fun a => hp h0 os0 (ysf a)) u' m) := by
 intro hm
 refine Af8 hf hb hn hnt (by simpa using hl) ?_
 refine Xg N os0 fun os h1 h2 h3 h4 => ?_
 have hout : ∀ o ∈ os, o ∉ os0 := fun o ho => h4 o ho
 have hI : Ids h0 (os0 ++ os) (K + N) := by
  refine ⟨List.nodup_append.2 ⟨hI0.nodup, h2, fun a ha b hb hq => hout b hb (hq ▸ ha)⟩, fun o ho => ?_, by simp [hI0.len, h1]⟩
  rcases List.mem_append.1 ho with ho | ho
  ·exact hI0.fresh o ho
  ·have := h3 o ho
   rwa [Ua (hout o ho)] at this
 have e : ∀ zs : List (Option AO), zs.length = K → hp h0 (os0 ++ os) (zs ++ List.replicate N none) = hp h0 os0 zs := fun zs hz => by
  rw [Abv (by rw [hI0.len, hz]), Ps fun o ho => hI.fresh o (List.mem_append_right _ ho)]
 have := hr (os0 ++ os) (fun j hj => by
  have hj' : j < os0.length := by rw [hI0.len]; simpa using hj
  simp [ix, List.getD, List.getElem?_append_left hj']) hI hm
 rw [e xs hx] at this
 refine Se (fun t => ?_) (As5 this ?_)
 ·rcases Rq args 0 t with h | ⟨_, h⟩
  ·exact .inl h
  ·exact .inr h
 ·rintro r h' u1 ⟨a, h1, h2, h3, h4⟩
  exact ⟨a, h1, h2, h3.trans (e _ (hy a)), h4⟩
end
def Li (l:List (An×An×FuncId)):List (An×AV):=l.map fun x=>(x.1,.func (.func x.2.2) [] [])
def Adv (l:List (An×An×FuncId)):DataW (List UInt8):=.map (l.map fun x=>(.string x.1,.held x.2.1))
def Awi (P:Program)(l:List (An×An×FuncId)):Bool:=l.all fun x => !x.2.1.isEmpty&&((List.range P.funcs.size).filter fun f=>(P.funcs[f]?).any (·.name.toUTF8.data.toList==x.2.1))==[x.2.2]
structure FMapAt (w:World)(m g:Nat)(es:List (An×AV)):Prop where
 ex : ∃ (b:Nat) (ens:Array MapEntry) (clock:Nat) (es2:List (An×AV)),w.cell? ⟨g,0,none⟩=some (.map (some b))∧b<m∧w.heap[b]? = some (.map ens clock)∧es2.Perm es∧es2.length=ens.size ∧
  ∀ i,i<es2.length→(ens.getD i default).key=.string ⟨(es2.getD i ([],.und)).1.toArray⟩ ∧ ∃ k,(es2.getD i ([],.und)).2=.func (.func k) [] []∧(ens.getD i default).val=.func (.func k) #[] #[]
 nd:(es.map (·.1)).Nodup
theorem FMapAt.keep {w w':World}{m g:Nat}{es:List (An×AV)}(k:FMapAt w m g es)(hg:g<m)(e : ∀ b,b<m→w'.heap[b]? = w.heap[b]?):FMapAt w' m g es:=by
 obtain⟨⟨b,ens,clock,es2,h1,h2,h3,h4,h5,h6⟩,hnd⟩:=k
 exact⟨⟨b,ens,clock,es2,by rw [cell?_of_heap (w:=w) (a:=⟨g,0,none⟩) (e g hg)]; exact h1,h2,by rw [e b h2]; exact h3,h4,h5,h6⟩,hnd⟩
theorem FMapAt.rv {w:World}{m g:Nat}{es:List (An×AV)}(k:FMapAt w m g es)(hm:m≤w.heap.size){mu:Mu}{M:Nat→Prop}(hM : ∀ b,M b→m≤b) : ∃ x,w.cell? ⟨g,0,none⟩=some x∧Rv w mu M (.mapc es) x:=by
 obtain⟨⟨b,ens,clock,es2,h1,h2,h3,h4,h5,h6⟩,hnd⟩:=k
 refine⟨_,h1,.mapc es es2 h4 hnd b ens clock h3 h5 (fun i hi=>(h6 i hi).1) (fun i hi=>?_) (fun hb=>by have:=hM b hb; omega) (by omega)⟩
 obtain⟨_,k,e1,e2⟩:=h6 i hi
 rw [e1,e2]
 exact .func _ [] [] [] [] rfl rfl (fun i hi=>by simp at hi) (fun i hi=>by simp at hi)
open Go.ChangeShapes Go.WideShapes Go.WideElems
theorem Aqh {P:Program}{e:TypeId}{ps rs:Array TypeId}{va:Bool}{v c:Value}(he:P.underlying e=some (.func ps rs va))(hf:v.formed P e=true)(hc:v.cells.toList=[c]):v=c:=by
 cases v with
 | agg a=>simp [Value.formed,he] at hf
 | _=>simpa [Value.cells] using hc
theorem Avy {P:Program}{W:World}{name:String}{d:DataW Unit}{l:List (An×An×FuncId)}{g:Nat}{t k e:TypeId}{ps rs:Array TypeId}{va:Bool}(h:funcsAt P W name d)(hd:d.funcsOut=Adv l)(hg:P.globalNamed name=some g)(hty:(P.globals[g]?).map (·.type)=some t)
  (ht:P.underlying t=some (.map k e)) (hk:P.underlying k=some .string) (he:P.underlying e=some (.func ps rs va)) (hok:Awi P l=true) (hnd:((Li l).map (·.1)).Nodup):FMapAt W W.heap.size g (Li l):=by
 obtain⟨g',t',cs,fuel,p,hg',ht',hvar,hr⟩:=h
 obtain rfl:=Option.some.inj (hg.symm.trans hg')
 obtain rfl:=Option.some.inj (hty.symm.trans ht')
 rw [hd] at hr
 rcases open_map ht hr with⟨_,hx⟩ | ⟨b,ens,clock,n,rfl,hcs,hb,_,F,hx⟩
 ·simp [Adv] at hx
 ·refine⟨?_,hnd⟩
  have hmap:Adv l=.map ((ens.toList.map (rg P k (elemAt (funcToken P) P W 0 (fun _=>true) true n e))).foldr DataW.insert []):=congrArg Prod.fst hx
  have hperm:(ens.toList.map (rg P k (elemAt (funcToken P) P W 0 (fun _=>true) true n e))).Perm (l.map fun x=>(Lit.string x.1,DataW.held x.2.1)):=by
   have h1:=sorted_perm (ens.toList.map (rg P k (elemAt (funcToken P) P W 0 (fun _=>true) true n e)))
   unfold Adv at hmap
   rw [← DataW.map.inj hmap] at h1
   exact h1.symm
  have hent : ∀ x ∈ ens.toList,∃ y ∈ l,x.key=.string ⟨y.1.toArray⟩∧x.val=.func (.func y.2.2) #[] #[]∧rg P k (elemAt (funcToken P) P W 0 (fun _=>true) true n e) x=(Lit.string y.1,DataW.held y.2.1):=by
   intro x hx
   have hm:=hperm.mem_iff.1 (List.mem_map.2 ⟨x,hx,rfl⟩)
   obtain⟨y,hy,hyx⟩:=List.mem_map.1 hm
   obtain⟨z,hz⟩:=F.reads x hx
   rw [rg_of hz] at hyx
   subst hyx
   refine⟨y,hy,?_,?_,by rw [rg_of hz]⟩
   ·have h1:=rd_key hz
    rw [keyOf_string hk] at h1
    unfold mapKey at h1
    rw [hk] at h1
    generalize x.key=kv at h1
    cases kv <;> simp at h1
    rename_i s
    obtain⟨_,h1⟩:=h1
    obtain⟨⟨sl⟩⟩:=s
    simp at h1
    rw [← h1]
   ·obtain⟨v,hv,hv2⟩:=rd_val hz
    have hyok:=List.all_eq_true.1 hok y hy
    simp only [Bool.and_eq_true,beq_iff_eq,Bool.not_eq_true'] at hyok
    obtain⟨v1,v2⟩:=v
    simp only at hv2
    unfold elemAt at hv
    split at hv
    ·cases fuel':n with
     | zero=>rw [fuel'] at hv; simp [DataW.trod] at hv
     | succ n'=>
      have hcells : ∃ v0,x.val.cells.toList=[v0]:=by
       have:=hv
       rw [fuel',DataW.trod_step] at this
       unfold DataW.trodStep at this
       rw [he] at this
       generalize x.val.cells.toList=cl at this
       match cl,this with
       | [v0],_=>exact⟨v0,rfl⟩
       | [],h=>simp at h
       | _::_::_,h=>simp at h
      obtain⟨v0,hv0⟩:=hcells
      rw [hv0] at hv
      obtain⟨y1,y2,y3⟩:=y
      simp only at hv2 hyok hv
      cases y2 with
      | nil=>simp at hyok
      | cons b0 r0=>
       rw [← hv2] at hv
       have hf:=func_of_trod he hyok.2 hv
       subst hf
       refine Aqh he ?_ hv0
       assumption
    ·cases hv
  let θ:Lit×DataW (List UInt8)→An×AV:=fun p=>match p with
   | (.string s,.held nm)=>(s,match l.find? (fun y=>y.2.1==nm) with
    | some y=>.func (.func y.2.2) [] []
    | none=>.und)
   | _=>([],.und)
  have hθ : ∀ y ∈ l,θ (Lit.string y.1,DataW.held y.2.1)=(y.1,.func (.func y.2.2) [] []):=by
   intro y hy
   show(y.1,_)=_
   cases hq:l.find? (fun z=>z.2.1==y.2.1) with
   | none=>
    rw [List.find?_eq_none] at hq
    exact absurd (by simp) (hq y hy)
   | some z=>
    have hz1:=List.mem_of_find?_eq_some hq
    have hz2:z.2.1=y.2.1:=by simpa using List.find?_some hq
    have k1:=List.all_eq_true.1 hok y hy
    have k2:=List.all_eq_true.1 hok z hz1
    simp only [Bool.and_eq_true,beq_iff_eq] at k1 k2
    rw [hz2,k1.2] at k2
    have:y.2.2=z.2.2:=by simpa using k2.2
    simp only [this]
  refine⟨b,ens,clock,ens.toList.map fun x=>θ (rg P k (elemAt (funcToken P) P W 0 (fun _=>true) true n e) x),?_,?_,hb,?_,by simp,fun i hi=>?_⟩
  ·have:=World.var?_cell hg hvar 0
   rw [Array.eq_one_of_toList hcs] at this
   simpa using this
  ·rcases Nat.lt_or_ge b W.heap.size with h | h
   ·exact h
   ·simp [Array.getElem?_eq_none h] at hb
  ·have:=hperm.map θ
   rw [List.map_map,List.map_map] at this
   refine this.trans (List.Perm.of_eq (List.map_congr_left fun y hy=>hθ y hy))
  ·have hi':i<ens.toList.length:=by simpa using hi
   have hm:ens.toList[i] ∈ ens.toList:=List.getElem_mem hi'
   obtain⟨y,hy,e1,e2,e3⟩:=hent _ hm
   have g1:ens.getD i default=ens.toList[i]:=by
    rw [← Xl,Fh (List.getElem?_eq_getElem hi')]
   have g2:(ens.toList.map fun x=>θ (rg P k (elemAt (funcToken P) P W 0 (fun _=>true) true n e) x)).getD i ([],.und)=(y.1,.func (.func y.2.2) [] []):=by
    rw [Fh (x:=θ (rg P k (elemAt (funcToken P) P W 0 (fun _=>true) true n e) ens.toList[i])) (by rw [List.getElem?_map,List.getElem?_eq_getElem hi',Option.map_some]),e3,hθ y hy]
   rw [g1,g2]
   exact⟨e1,_,rfl,e2⟩
end Go.Am
namespace Go.Am
open Go
set_option linter.unusedVariables false
set_option linter.unusedSectionVars false
set_option linter.unusedSimpArgs false
abbrev AV.q (ids:List Nat)(j g:Nat):AV:=.ptr (ix ids j) g 0 0
abbrev AV.I (n:Int):AV:=.int .i64 n
abbrev Sc.I (n:Int):Sc:=.int .i64 n
section
variable (P:Program) [GW P]
def Aot:Op→Bool
 | .move _=>true
 | .assign _=>true
 | .pick _ _ _=>true
 | .build _ _=>true
 | .nilCheck _=>true
 | .binOp _ _ _ _ _=>true
 | .unOp _ _ _=>true
 | .makeInterface _ _=>true
 | .makeFunc _ _ _=>true
 | .fieldAddr _ _ _=>true
 | .field _ _ _=>true
 | .typeAssert _ _ _ _=>true
 | .extract _ _=>true
 | _=>false
def Ars (xs:List (Option AO))(fr:Nat→AV)(j:Nat)(op:Op):Option (AV×Option (Nat×Nat×Nat)):=
 match op with
 | .load t a=>match ev fr a with
  | .ptr o g r c=>match ti P t,xs[j]? with
   | some T,some (some (.rows g' st rs))=>match rs[r]? with
    | some row=>(K9 row c T.size T.k.agg).map fun v=>(v,some (o,g,g'))
    | none=>none
   | _,_=>none
  | .cp row c=>match ti P t with
   | some T=>(K9 row c T.size T.k.agg).map fun v=>(v,none)
   | none=>none
  | _=>none
 | op=>if Aot op then(Ex P fr hE op).map fun v=>(v,none) else none
def Rn (n:Nat)(all:List Oper)(xs:List (Option AO)):List Oper→List Nat→List (Nat×AV)→Option (List (Nat×AV)×List (Nat×Nat)×List (Nat×Nat))
 | [],_,l=>some (l,[],[])
 | o::ops,hs,l=>if Ij n o.dst then match Ge all (A2 l) o,o.dst with
   | some true,some t=>match Ars P xs (A2 l) (hs.headD 0) o.op with
    | some (v,none)=>Rn n all xs ops hs ((t,v)::l)
    | some (v,some (ob,g,g'))=>(Rn n all xs ops hs.tail ((t,v)::l)).map fun r=>(r.1,(ob,g)::r.2.1,(hs.headD 0,g')::r.2.2)
    | none=>none
   | some false,some t=>Rn n all xs ops hs ((t,.und)::l)
   | some false,none=>Rn n all xs ops hs l
   | _,_=>none
  else none
def Aox (ops:List Oper)(ks:List Nat)(l:List (Nat×AV)):Bool:=ops.all fun o=>match o.dst with
 | none=>true
 | some t=>ks.contains t || !(l.any fun p=>Nat.beq t p.1)
end
section
variable {P:Program} [GW P] {f:FuncId} {n:Nat} {d:FK} {β γ:Type} {Q:Spec β} {m:R β} {ds:List AD} {h:Af} {u:AU} {k:List Item} {l:List (Nat×AV)} {F:γ→R β}
variable {all:List Oper} {h0:Af} {ids:List Nat} {xs:List (Option AO)} {N:Nat}
theorem Aid {fr:Nat→AV}{j:Nat}{op:Op}{v:AV}{q:Option (Nat×Nat×Nat)}(hI:Ids h0 ids N)(hl:xs.length=N)(hx:Ars P xs fr j op=some (v,q))(hq : ∀ o g g',q=some (o,g,g')→o=ix ids j∧g=g'):Ex P fr (hp h0 ids xs) op=some v:=by
 unfold Ars at hx
 split at hx
 ·rename_i t a
  show P9 P _ t (ev fr a)=_
  split at hx
  ·rename_i o g r c ha
   rw [ha]
   split at hx
   ·rename_i T g' st rs hT hj
    split at hx
    ·rename_i row hr
     simp only [Option.map_eq_some_iff,Prod.mk.injEq] at hx
     obtain⟨v',h1,rfl,rfl⟩:=hx
     obtain⟨rfl,rfl⟩:=hq _ _ _ rfl
     exact A7 hI hl hj hr hT h1
    ·cases hx
   ·cases hx
  ·rename_i row c ha
   rw [ha]
   split at hx
   ·rename_i T hT
    simp only [Option.map_eq_some_iff,Prod.mk.injEq] at hx
    obtain⟨v',h1,rfl,rfl⟩:=hx
    exact Dh hT h1
   ·cases hx
  ·cases hx
 split at hx
 ·rename_i hp
  simp only [Option.map_eq_some_iff,Prod.mk.injEq] at hx
  obtain⟨v',h1,rfl,rfl⟩:=hx
  revert h1
  cases op <;> first
   | exact id
   | (simp [Aot] at hp)
 ·cases hx
theorem Aem {rest:List Oper} : ∀ {ops:List Oper} {hs:List Nat} {l l':List (Nat×AV)} {A B:List (Nat×Nat)},Rn P n all xs ops hs l=some (l',A,B)→A=B.map (fun q=>(ix ids q.1,q.2))→Ids h0 ids N→xs.length=N →
  WO P f n d Q k all m rest (A2 l') ds (hp h0 ids xs) u→WO P f n d Q k all m (ops++rest) (A2 l) ds (hp h0 ids xs) u
 | [],hs,l,l',A,B,hx,hA,hI,hl,hk=>by
  simp only [Rn,Option.some.injEq,Prod.mk.injEq] at hx
  obtain⟨rfl,rfl,rfl⟩:=hx
  exact hk
 | o::ops,hs,l,l',A,B,hx,hA,hI,hl,hk=>by
  unfold Rn at hx
  split at hx
  ·rename_i hd
   split at hx
   ·rename_i t hw ht
    rw [ht] at hd
    have step : ∀ {v:AV},Ex P (A2 l) (hp h0 ids xs) o.op=some v→WO P f n d Q k all m (ops++rest) (A2 ((t,v)::l)) ds (hp h0 ids xs) u→WO P f n d Q k all m (o::ops++rest) (A2 l) ds (hp h0 ids xs) u:=by
     intro v hv hk'
     refine R2 (by rw [ht]; exact hd) hw fun hb K U hK hU=>Ai5 (t:=ds) hv (hK _ _ _ _ ?_)
     rw [ht,Iv]; exact hk'
    split at hx
    ·rename_i v hr
     exact step (Aid hI hl hr (fun _ _ _ h=>by cases h)) (Aem hx hA hI hl hk)
    ·rename_i v ob g g' hr
     simp only [Option.map_eq_some_iff,Prod.mk.injEq] at hx
     obtain⟨⟨l1,A1,B1⟩,hx,rfl,rfl,rfl⟩:=hx
     simp only [List.map_cons,List.cons.injEq,Prod.mk.injEq] at hA
     exact step (Aid hI hl hr (fun o2 g2 g2' h=>by cases h; exact hA.1)) (Aem hx hA.2 hI hl hk)
    ·cases hx
   ·rename_i t hw ht
    rw [ht] at hd
    exact Aoc (by rw [ht]; exact hd) hw (by rw [ht,Iv]; exact Aem hx hA hI hl hk)
   ·rename_i hw ht
    exact Aoc (by rw [ht]; rfl) hw (by rw [ht]; exact Aem hx hA hI hl hk)
   ·cases hx
  ·cases hx
theorem Add {ops:List Oper}{ks:List Nat}{news:List (Nat×AV)} : ∀ {hs:List Nat} {l l':List (Nat×AV)} {A B:List (Nat×Nat)} {ops:List Oper},Rn P n all xs ops hs l=some (l',A,B) → ∀ t,(∀ o ∈ ops,o.dst≠some t)→A2 l' t=A2 l t
 | hs,l,l',A,B,[],hx,t,ho=>by
  simp only [Rn,Option.some.injEq,Prod.mk.injEq] at hx
  obtain⟨rfl,rfl,rfl⟩:=hx
  rfl
 | hs,l,l',A,B,o::ops,hx,t,ho=>by
  have ho' : ∀ o ∈ ops,o.dst≠some t:=fun q hq=>ho q (List.mem_cons_of_mem _ hq)
  have hne : ∀ {t':Nat} {v:AV},o.dst=some t'→A2 ((t',v)::l) t=A2 l t:=by
   intro t' v h
   have:t≠t':=fun e=>ho o (List.mem_cons_self ..) (e ▸ h)
   simp only [A2]
   have:Nat.beq t t'=false:=by
    cases hq:Nat.beq t t' with
    | false=>rfl
    | true=>exact absurd (Nat.eq_of_beq_eq_true hq) this
   rw [this]; rfl
  unfold Rn at hx
  split at hx
  ·split at hx
   ·rename_i t' hw ht
    split at hx
    ·rw [Add (ks:=ks) (news:=news) (ops:=ops) hx t ho',hne ht]
    ·simp only [Option.map_eq_some_iff,Prod.mk.injEq] at hx
     obtain⟨⟨l1,A1,B1⟩,hx,rfl,rfl,rfl⟩:=hx
     rw [Add (ks:=ks) (news:=news) (ops:=ops) hx t ho',hne ht]
    ·cases hx
   ·rename_i t' hw ht
    rw [Add (ks:=ks) (news:=news) (ops:=ops) hx t ho',hne ht]
   ·exact Add (ks:=ks) (news:=news) (ops:=ops) hx t ho'
   ·cases hx
  ·cases hx
theorem Az2 {ops:List Oper}(K:Nat)(hs:List Nat)(news:List (Nat×AV))(hI:Ids h0 ids N)(hl:xs.length=N)
  (hc:(Rn P n all xs (ops.take K) hs l).map (fun r=>(news.map (fun p=>A2 r.1 p.1),r.2.1,Aox (ops.take K) (news.map (·.1)) l))=some (news.map (·.2),((Rn P n all xs (ops.take K) hs l).elim [] fun r=>r.2.2.map fun q=>(ix ids q.1,q.2)),true))
  (hk:WO P f n d Q k all m (ops.drop K) (A2 (news++l)) ds (hp h0 ids xs) u):WO P f n d Q k all m ops (A2 l) ds (hp h0 ids xs) u:=by
 cases hr:Rn P n all xs (ops.take K) hs l with
 | none=>rw [hr] at hc; cases hc
 | some r=>
  obtain⟨l',A,B⟩:=r
  rw [hr] at hc
  simp only [Option.map_some,Option.elim_some,Option.some.injEq,Prod.mk.injEq] at hc
  obtain⟨h1,h2,h3⟩:=hc
  have:=Aem (rest:=ops.drop K) hr h2 hI hl (f:=f) (d:=d) (Q:=Q) (k:=k) (m:=m) (ds:=ds) (u:=u) (fun hb i hi=>Se (fun t=>?_) (hk hb i hi))
  ·rwa [List.take_append_drop] at this
  ·
   have key : ∀ (ns:List (Nat×AV)),ns.map (fun p=>A2 l' p.1)=ns.map (·.2)→(∀ s,s ∈ ns.map (·.1)→s ∈ news.map (·.1))→(∀ s,s ∈ news.map (·.1)→s=t→s ∈ ns.map (·.1))→A2 (ns++l) t=.any∨A2 (ns++l) t=A2 l' t:=by
    intro ns
    induction ns with
    | nil=>
     intro _ _ hsub
     simp only [List.nil_append]
     by_cases hin:l.any (fun p=>Nat.beq t p.1)=true
     ·right
      symm
      refine Add (ks:=[]) (news:=[]) (ops:=ops.take K) hr t fun o ho hd=>?_
      have:=List.all_eq_true.1 h3 o ho
      rw [hd] at this
      simp only [Bool.or_eq_true,Bool.not_eq_true',List.contains_iff_mem] at this
      rcases this with hc | hc
      ·exact absurd (hsub t hc rfl) (by simp)
      ·rw [hc] at hin; cases hin
     ·left
      have : ∀ l:List (Nat×AV),l.any (fun p=>Nat.beq t p.1)≠true→A2 l t=.any:=by
       intro l
       induction l with
       | nil=>intro _; rfl
       | cons p l ih=>
        intro hne
        simp only [List.any_cons] at hne
        simp only [A2]
        have h1:Nat.beq t p.1=false:=by cases hq:Nat.beq t p.1 with | false=>rfl | true=>exact absurd (by rw [hq]; rfl) hne
        rw [h1]
        exact ih (fun h=>hne (by rw [h,h1]; rfl))
      exact this l hin
    | cons p ns ih=>
     intro hv h4 h5
     simp only [List.map_cons,List.cons.injEq] at hv
     simp only [List.cons_append,A2]
     cases hq:Nat.beq t p.1 with
     | true=>
      right
      have:t=p.1:=Nat.eq_of_beq_eq_true hq
      subst this
      exact hv.1.symm
     | false=>
      refine ih hv.2 (fun s hs=>h4 s (by simp [hs])) (fun s hs e=>?_)
      rcases List.mem_cons.1 (h5 s hs e) with h | h
      ·subst e; rw [h] at hq; simp at hq
      ·exact h
   exact key news h1 (fun s hs=>hs) (fun s hs _=>hs)
theorem Ac {ops:List Oper}(K:Nat)(hs:List Nat)(news:List (Nat×AV))(hk:WO P f n d Q k all m (ops.drop K) (A2 (news++l)) ds (hp h0 ids xs) u)(hI:Ids h0 ids N:=by assumption)(hl:xs.length=N:=by rfl)
  (hc:(Rn P n all xs (ops.take K) hs l).map (fun r=>(news.map (fun p=>A2 r.1 p.1),r.2.1,Aox (ops.take K) (news.map (·.1)) l))=some (news.map (·.2),((Rn P n all xs (ops.take K) hs l).elim [] fun r=>r.2.2.map fun q=>(ix ids q.1,q.2)),true):=by kernel_rfl):WO P f n d Q k all m ops (A2 l) ds (hp h0 ids xs) u:=Az2 K hs news hI hl hc hk
theorem Bj {ops:List Oper}{t:Nat}{b b':Bool}(hb:b=b')(ht:A2 l t=.bool b)(hk:WO P f n d Q k all m ops (A2 ((t,.bool b')::l)) ds h u):WO P f n d Q k all m ops (A2 l) ds h u:=by
 subst hb
 refine fun hV i hi=>Se (fun s=>?_) (hk hV i hi)
 right
 simp only [A2]
 cases hq:Nat.beq s t with
 | true=>rw [Nat.eq_of_beq_eq_true hq,ht]; rfl
 | false=>rfl
theorem Aw {ops:List Oper}{fr:Nat→AV}(js:List Nat){zs ys:List (Option AO)}(hI:Ids h0 ids N)(hl:xs.length=N)(hk:Ui N js=true)(hz:js.length=zs.length)(hr:WO P f n d Q k all m ops fr ds (hp h0 ids ys) u)
  (e:Vc js zs xs=ys:=by first | (simp only [List.set_cons_zero,List.set_cons_succ,List.cons_append,List.nil_append,List.replicate_succ,List.replicate_zero,Vc,Aaf,Zs,AV.cells,AV.I,AV.q]; rfl) | rfl):WO P f n d Q k all m ops fr ds (hp (hp h0 ids (Wu js xs)) (pki ids js) zs) u:=Avk js ys hI hl hk hz e hr
theorem Bp {todo:List Item}{l':List (Nat×AV)}(hr:WR P f n d Q m todo (A2 l') ds h u)(hx:FrIs l l':=by repeat (first | exact .nil | refine .cons rfl ?_)):WR P f n d Q m todo (A2 l) ds h u:=Db l' hx hr
theorem Br {ops:List Oper}{l':List (Nat×AV)}(hr:WO P f n d Q k all m ops (A2 l') ds h u)(hx:FrIs l l':=by repeat (first | exact .nil | refine .cons rfl ?_)):WO P f n d Q k all m ops (A2 l) ds h u:=Dt l' hx hr
theorem Ak {todo:List Item}{fr:Nat→AV}{ys:List (Option AO)}(hr:WR P f n d Q m todo fr ds (hp h0 ids ys) u)(e:xs=ys:=by first | (simp only [List.set_cons_zero,List.set_cons_succ,List.cons_append,List.nil_append,List.replicate_succ,List.replicate_zero,Vc,Aaf,Zs,AV.cells,AV.I,AV.q]; rfl) | rfl) :
  WR P f n d Q m todo fr ds (hp h0 ids xs) u:=e ▸ hr
end
theorem J {α:Sort _}{a:α}:a=a:=rfl
theorem FI {l l':List (Nat×AV)}(h:l'.map (fun p=>A2 l p.1)=l'.map (·.2)):FrIs l l':=by
 induction l' with
 | nil=>exact .nil
 | cons p r ih=>
  rw [List.map_cons,List.map_cons] at h
  injection h with h1 h2
  exact .cons h1 (ih h2)
end Go.Am
namespace Go.Am
open Go
set_option maxRecDepth 100000
set_option maxHeartbeats 4000000
set_option linter.unusedSimpArgs false
set_option linter.unusedVariables false
structure Span where
 From:Int
 To:Int
 deriving DecidableEq
def C0 (x:Span):List AV:=[(.int .i64 x.From),(.int .i64 x.To)]
theorem Ai6 (x:Span):En 2 (C0 x):=Nc rfl rfl
structure Volume where
 Name:An
 Closed:(List Span)
 deriving DecidableEq
def Ar (x:Volume):List AV:=[(.str x.Name),(.sl 2 (List.map C0 x.Closed))]
theorem U0 (x:Volume):En 2 (Ar x):=Nc rfl rfl
structure Sector where
 Name:An
 Names:(List An)
 Volumes:(List Int)
 Radar:Int
 Procedural:Int
 deriving DecidableEq
def A9 (x:Sector):List AV:=[(.str x.Name),(.sl 1 (List.map rS x.Names)),(.sl 1 (List.map (rI .i64) x.Volumes)),(.int .i64 x.Radar),(.int .i64 x.Procedural)]
theorem U5 (x:Sector):En 5 (A9 x):=Nc rfl rfl
structure Config where
 Name:An
 Names:(List An)
 Sectors:(List Int)
 deriving DecidableEq
def Bh (x:Config):List AV:=[(.str x.Name),(.sl 1 (List.map rS x.Names)),(.sl 1 (List.map (rI .i64) x.Sectors))]
theorem Ye (x:Config):En 3 (Bh x):=Nc rfl rfl
structure Segment where
 Name:An
 In:An
 Volume:Int
 Length:Int
 Open:(List Span)
 deriving DecidableEq
def Bc (x:Segment):List AV:=[(.str x.Name),(.str x.In),(.int .i64 x.Volume),(.int .i64 x.Length),(.sl 2 (List.map C0 x.Open))]
theorem Tt (x:Segment):En 5 (Bc x):=Nc rfl rfl
structure Route where
 Name:An
 A:An
 B:An
 From:Int
 To:Int
 Names:(List An)
 Segments:(List Int)
 deriving DecidableEq
def Bs (x:Route):List AV:=[(.str x.Name),(.str x.A),(.str x.B),(.int .i64 x.From),(.int .i64 x.To),(.sl 1 (List.map rS x.Names)),(.sl 1 (List.map (rI .i64) x.Segments))]
theorem Aa8 (x:Route):En 7 (Bs x):=Nc rfl rfl
structure Mode where
 Name:An
 Places:Int
 deriving DecidableEq
def Dw (x:Mode):List AV:=[(.str x.Name),(.int .i64 x.Places)]
theorem Ait (x:Mode):En 2 (Dw x):=Nc rfl rfl
structure Airport where
 Name:An
 Modes:(List Mode)
 deriving DecidableEq
def A5 (x:Airport):List AV:=[(.str x.Name),(.sl 2 (List.map Dw x.Modes))]
theorem Zo (x:Airport):En 2 (A5 x):=Nc rfl rfl
structure Class where
 Name:An
 Slow:Int
 Fast:Int
 Places:Int
 deriving DecidableEq
def Bn (x:Class):List AV:=[(.str x.Name),(.int .i64 x.Slow),(.int .i64 x.Fast),(.int .i64 x.Places)]
theorem Aaq (x:Class):En 4 (Bn x):=Nc rfl rfl
structure Rule where
 Kind:Int
 C:An
 A:An
 Class:Int
 Airport:Int
 N:Int
 Hours:Span
 deriving DecidableEq
def Bd (x:Rule):List AV:=[(.int .i64 x.Kind),(.str x.C),(.str x.A),(.int .i64 x.Class),(.int .i64 x.Airport),(.int .i64 x.N),(.int .i64 x.Hours.From),(.int .i64 x.Hours.To)]
theorem Tr (x:Rule):En 8 (Bd x):=Nc rfl rfl
structure Airspace where
 Volumes:(List Volume)
 Sectors:(List Sector)
 Configs:(List Config)
 Segments:(List Segment)
 Routes:(List Route)
 Airports:(List Airport)
 Classes:(List Class)
 Rules:(List Rule)
 deriving DecidableEq
def Ax (x:Airspace):List AV:=[(.sl 2 (List.map Ar x.Volumes)),(.sl 5 (List.map A9 x.Sectors)),(.sl 3 (List.map Bh x.Configs)),(.sl 5 (List.map Bc x.Segments)),(.sl 7 (List.map Bs x.Routes)),(.sl 2 (List.map A5 x.Airports)),(.sl 4 (List.map Bn x.Classes)),(.sl 8 (List.map Bd x.Rules))]
structure Token where
 Kind:Int
 Text:An
 N:Int
 At:Int
 deriving DecidableEq
def Ad (x:Token):List AV:=[(.int .i64 x.Kind),(.str x.Text),(.int .i64 x.N),(.int .i64 x.At)]
theorem Rl (x:Token):En 4 (Ad x):=Nc rfl rfl
structure T70 where
 fL:(List Token)
 fBad:Bool
 deriving DecidableEq
structure T100 where
 fAt:Int
 fE:Int
 deriving DecidableEq
structure T104 where
 fL:(List Token)
 fEnd:Int
 fA:Airspace
 deriving DecidableEq
def Ayw (x:T104):List AV:=[(.sl 4 (List.map Ad x.fL)),(.int .i64 x.fEnd),(.sl 2 (List.map Ar x.fA.Volumes)),(.sl 5 (List.map A9 x.fA.Sectors)),(.sl 3 (List.map Bh x.fA.Configs)),(.sl 5 (List.map Bc x.fA.Segments)),(.sl 7 (List.map Bs x.fA.Routes)),(.sl 2 (List.map A5 x.fA.Airports)),(.sl 4 (List.map Bn x.fA.Classes)),(.sl 8 (List.map Bd x.fA.Rules))]
structure T153 where
 fSrc:An
 fAt:Int
 fL:(List Token)
 deriving DecidableEq
def Qh (x:T153):List AV:=[(.str x.fSrc),(.int .i64 x.fAt),(.sl 4 (List.map Ad x.fL))]
end Go.Am
namespace Go.Am
open Go
set_option maxRecDepth 100000
set_option maxHeartbeats 4000000
set_option linter.unusedSimpArgs false
set_option linter.unusedVariables false
noncomputable section
def Q5 (v:Volume):R An:=
 .ok v.Name
def Ju (ok:Bool)(e:Int):R Unit:=
 if ok then
(.ok ())
else
(.pan ⟨34,.int .i64 e⟩)
def Fq (j:Nat)(a:Volume)(m:(List (An×Int))):R (List (An×Int)):=
 (Q5 a).bind fun r=>
 (Ju (!(Option.isSome (Cv m r))) 91).bind fun _=>
 (Q5 a).bind fun r2=>
 .ok (G5 m r2 (j:Int))
def Iy (l:List Volume):R (List (An×Int)):=
 (B0 (fun j a=>fun m=>Fq j a m) 0 l []).bind ((fun m=>.ok m))
def Pp (s:Sector):R An:=
 .ok s.Name
def He (j:Nat)(a:Sector)(m:(List (An×Int))):R (List (An×Int)):=
 (Pp a).bind fun r=>
 (Ju (!(Option.isSome (Cv m r))) 91).bind fun _=>
 (Pp a).bind fun r2=>
 .ok (G5 m r2 (j:Int))
def Lq (l:List Sector):R (List (An×Int)):=
 (B0 (fun j a=>fun m=>He j a m) 0 l []).bind ((fun m=>.ok m))
def Pi (c:Config):R An:=
 .ok c.Name
def Hf (j:Nat)(a:Config)(m:(List (An×Int))):R (List (An×Int)):=
 (Pi a).bind fun r=>
 (Ju (!(Option.isSome (Cv m r))) 91).bind fun _=>
 (Pi a).bind fun r2=>
 .ok (G5 m r2 (j:Int))
def Lk (l:List Config):R (List (An×Int)):=
 (B0 (fun j a=>fun m=>Hf j a m) 0 l []).bind ((fun m=>.ok m))
def Pq (s:Segment):R An:=
 .ok s.Name
def Gt (j:Nat)(a:Segment)(m:(List (An×Int))):R (List (An×Int)):=
 (Pq a).bind fun r=>
 (Ju (!(Option.isSome (Cv m r))) 91).bind fun _=>
 (Pq a).bind fun r2=>
 .ok (G5 m r2 (j:Int))
def Ky (l:List Segment):R (List (An×Int)):=
 (B0 (fun j a=>fun m=>Gt j a m) 0 l []).bind ((fun m=>.ok m))
def Po (r:Route):R An:=
 .ok r.Name
def H3 (j:Nat)(a:Route)(m:(List (An×Int))):R (List (An×Int)):=
 (Po a).bind fun r=>
 (Ju (!(Option.isSome (Cv m r))) 91).bind fun _=>
 (Po a).bind fun r2=>
 .ok (G5 m r2 (j:Int))
def Mb (l:List Route):R (List (An×Int)):=
 (B0 (fun j a=>fun m=>H3 j a m) 0 l []).bind ((fun m=>.ok m))
def P2 (p:Airport):R An:=
 .ok p.Name
def E3 (j:Nat)(a:Airport)(m:(List (An×Int))):R (List (An×Int)):=
 (P2 a).bind fun r=>
 (Ju (!(Option.isSome (Cv m r))) 91).bind fun _=>
 (P2 a).bind fun r2=>
 .ok (G5 m r2 (j:Int))
def Ho (l:List Airport):R (List (An×Int)):=
 (B0 (fun j a=>fun m=>E3 j a m) 0 l []).bind ((fun m=>.ok m))
def Si (c:Class):R An:=
 .ok c.Name
def Gd (j:Nat)(a:Class)(m:(List (An×Int))):R (List (An×Int)):=
 (Si a).bind fun r=>
 (Ju (!(Option.isSome (Cv m r))) 91).bind fun _=>
 (Si a).bind fun r2=>
 .ok (G5 m r2 (j:Int))
def J4 (l:List Class):R (List (An×Int)):=
 (B0 (fun j a=>fun m=>Gd j a m) 0 l []).bind ((fun m=>.ok m))
def Pj (m:Mode):R An:=
 .ok m.Name
def Im (j:Nat)(a:Mode)(m:(List (An×Int))):R (List (An×Int)):=
 (Pj a).bind fun r=>
 (Ju (!(Option.isSome (Cv m r))) 91).bind fun _=>
 (Pj a).bind fun r2=>
 .ok (G5 m r2 (j:Int))
def M9 (l:List Mode):R (List (An×Int)):=
 (B0 (fun j a=>fun m=>Im j a m) 0 l []).bind ((fun m=>.ok m))
def M8 (s:List Sector):R (List Sector):=if s.length * 80≤D0 then .ok s else .bad
def Mw (s:List Config):R (List Config):=if s.length * 64≤D0 then .ok s else .bad
def Md (s:List Segment):R (List Segment):=if s.length * 72≤D0 then .ok s else .bad
def N1 (s:List Route):R (List Route):=if s.length * 112≤D0 then .ok s else .bad
def Oh (s:List Rule):R (List Rule):=if s.length * 80≤D0 then .ok s else .bad
def Dx (n:(List (An×Int)))(name:An):R Int:=
 (Ju (Option.isSome (Cv n name)) 90).bind fun _=>
 .ok (Option.getD (Cv n name) 0)
def L0 (n:(List (An×Int)))(a:An)(x1:List Int):R (List Int):=
 (Dx n a).bind fun r=>
 if(x1.length+[r].length) * 8≤D0 then
 .ok (x1++[r]) else .bad
def Ff (n:(List (An×Int)))(l:List An):R (List Int):=
 (B0 (fun _ a=>fun x1=>L0 n a x1) 0 l []).bind ((fun x1=>.ok x1))
def Gm (n:Int):R Int:=
 .ok n
def Le (a1:Airport):R Unit:=
 (M9 a1.Modes).bind fun r7=>
 .ok ()
def Lf (r:(List (An×Int)))(j1:Nat)(x2:List Sector):R (List Sector):=
 (Es x2 (j1:Int)).bind fun a3=>
 (Ff r a3.Names).bind fun r13=>
 .ok (x2.set (j1:Int).toNat { a3 with Volumes:=r13 })
def Jm (r1:(List (An×Int)))(j2:Nat)(x4:List Config):R (List Config):=
 (Es x4 (j2:Int)).bind fun a5=>
 (Ff r1 a5.Names).bind fun r14=>
 .ok (x4.set (j2:Int).toNat { a5 with Sectors:=r14 })
def H5 (r:(List (An×Int)))(j3:Nat)(x6:List Segment):R (List Segment):=
 (Es x6 (j3:Int)).bind fun a7=>
 (Dx r a7.In).bind fun r15=>
 .ok (x6.set (j3:Int).toNat { a7 with Volume:=r15 })
def Gp (r3:(List (An×Int)))(r5:(List (An×Int)))(j4:Nat)(l:List Route):R (List Route):=
 (Es l (j4:Int)).bind fun a9=>
 (Dx r5 a9.A).bind fun r16=>
 (Dx r5 a9.B).bind fun r17=>
 (Ff r3 a9.Names).bind fun r18=>
 .ok (((l.set (j4:Int).toNat { a9 with From:=r16 }).set (j4:Int).toNat { { a9 with From:=r16 } with To:=r17 }).set (j4:Int).toNat { { { a9 with From:=r16 } with To:=r17 } with Segments:=r18 })
def Fv (r5:(List (An×Int)))(r6:(List (An×Int)))(j5:Nat)(l1:List Rule):R (List Rule):=
 (Es l1 (j5:Int)).bind fun a11=>
 (Dx r6 a11.C).bind fun r19=>
 if(({ { a11 with Class:=r19 } with Airport:=0 }.Kind)==1) then
((Dx r5 ({ { a11 with Class:=r19 } with Airport:=0 }.A)).bind fun r20=>
 .ok (((l1.set (j5:Int).toNat { a11 with Class:=r19 }).set (j5:Int).toNat { { a11 with Class:=r19 } with Airport:=0 }).set (j5:Int).toNat { { { a11 with Class:=r19 } with Airport:=0 } with Airport:=r20 }))
else
(.ok ((l1.set (j5:Int).toNat { a11 with Class:=r19 }).set (j5:Int).toNat { { a11 with Class:=r19 } with Airport:=0 }))
def P5 (a:Airspace):R (Airspace×Int):=
 (Iy a.Volumes).bind fun r=>
 (Lq a.Sectors).bind fun r1=>
 (Lk a.Configs).bind fun r2=>
 (Ky a.Segments).bind fun r3=>
 (Mb a.Routes).bind fun r4=>
 (Ho a.Airports).bind fun r5=>
 (J4 a.Classes).bind fun r6=>
 (B0 (fun _ a1=>fun _=>Le a1) 0 a.Airports ()).bind ((fun _=>(M8 a.Sectors).bind fun r8=>
 (Mw a.Configs).bind fun r9=>
 (Md a.Segments).bind fun r10=>
 (N1 a.Routes).bind fun r11=>
 (Oh a.Rules).bind fun r12=>
 (B0 (fun j1 _=>fun x2=>Lf r j1 x2) 0 r8 r8).bind ((fun x2=>(B0 (fun j2 _=>fun x4=>Jm r1 j2 x4) 0 r9 r9).bind ((fun x4=>(B0 (fun j3 _=>fun x6=>H5 r j3 x6) 0 r10 r10).bind ((fun x6=>(B0 (fun j4 _=>fun l=>Gp r3 r5 j4 l) 0 r11 r11).bind ((fun l=>(B0 (fun j5 _=>fun l1=>Fv r5 r6 j5 l1) 0 r12 r12).bind ((fun l1=>.ok (({ Volumes:=a.Volumes,Sectors:=x2,Configs:=x4,Segments:=x6,Routes:=l,Airports:=a.Airports,Classes:=a.Classes,Rules:=l1 }:Airspace),0)))))))))))))
def Ic (a:Airspace):R (Airspace×Int):=
 (P5 a).catch' (Nt 34 .i64 (fun n=>(Gm n).bind fun p=>.ok (({ Volumes:=[],Sectors:=[],Configs:=[],Segments:=[],Routes:=[],Airports:=[],Classes:=[],Rules:=[] }:Airspace),p)) (fun _=>.bad))
def O0 (a:Volume)(s1:An):R Bool:=
 (Q5 a).bind fun r=>
 .ok (r==s1)
def Jf (s1:An)(j:Nat)(a:Volume):R (Unit ⊕ Int):=
 (O0 a s1).bind fun r=>
 if r then
(.ok (.inr ((j:Int))))
else
(.ok (.inl ()))
def K7 (s:List Volume)(s1:An):R Int:=
 (each (fun j a=>fun _=>Jf s1 j a) 0 s ()).bind (Dv (fun _=>.ok (-1)) (fun r=>.ok r))
def Pk (l:List Volume)(name:An):R (Int×Bool):=
 (K7 l name).bind fun n=>
 if n<0 then
(.ok (0,false))
else
(.ok (n,true))
def Vv (a:Airspace)(name:An):R (Int×Bool):=
 (Pk a.Volumes name).bind fun r=>
 .ok (r.1,r.2)
def Pv (a:Class)(s1:An):R Bool:=
 (Si a).bind fun r=>
 .ok (r==s1)
def Jp (s1:An)(j:Nat)(a:Class):R (Unit ⊕ Int):=
 (Pv a s1).bind fun r=>
 if r then
(.ok (.inr ((j:Int))))
else
(.ok (.inl ()))
def Lt (s:List Class)(s1:An):R Int:=
 (each (fun j a=>fun _=>Jp s1 j a) 0 s ()).bind (Dv (fun _=>.ok (-1)) (fun r=>.ok r))
def Qm (l:List Class)(name:An):R (Int×Bool):=
 (Lt l name).bind fun n=>
 if n<0 then
(.ok (0,false))
else
(.ok (n,true))
def Acp (a:Airspace)(name:An):R (Int×Bool):=
 (Qm a.Classes name).bind fun r=>
 .ok (r.1,r.2)
def N2 (a:Airport)(s1:An):R Bool:=
 (P2 a).bind fun r=>
 .ok (r==s1)
def I1 (s1:An)(j:Nat)(a:Airport):R (Unit ⊕ Int):=
 (N2 a s1).bind fun r=>
 if r then
(.ok (.inr ((j:Int))))
else
(.ok (.inl ()))
def Kk (s:List Airport)(s1:An):R Int:=
 (each (fun j a=>fun _=>I1 s1 j a) 0 s ()).bind (Dv (fun _=>.ok (-1)) (fun r=>.ok r))
def Of (l:List Airport)(name:An):R (Int×Bool):=
 (Kk l name).bind fun n=>
 if n<0 then
(.ok (0,false))
else
(.ok (n,true))
def Y2 (a:Airspace)(name:An):R (Int×Bool):=
 (Of a.Airports name).bind fun r=>
 .ok (r.1,r.2)
def Ov (b:List Int)(j:Nat)(a1:Int):R (Unit ⊕ Bool):=
 (Es b (j:Int)).bind fun a2=>
 if(a1 != a2) then
(.ok (.inr (false)))
else
(.ok (.inl ()))
def Hi (a:List Int)(b:List Int):R Bool:=
 if((a.length:Int) != (b.length:Int)) then
(.ok false)
else
((each (fun j a1=>fun _=>Ov b j a1) 0 a ()).bind (Dv (fun _=>.ok true) (fun r=>.ok r)))
def Nr (b:List Span)(j:Nat)(a1:Span):R (Unit ⊕ Bool):=
 (Es b (j:Int)).bind fun a2=>
 if((a1.From==a2.From)&&(a1.To==a2.To)) then
(.ok (.inl ()))
else
(.ok (.inr (false)))
def N4 (a:List Span)(b:List Span):R Bool:=
 if((a.length:Int) != (b.length:Int)) then
(.ok false)
else
((each (fun j a1=>fun _=>Nr b j a1) 0 a ()).bind (Dv (fun _=>.ok true) (fun r=>.ok r)))
def Nx (b:List An)(j:Nat)(a1:An):R (Unit ⊕ Bool):=
 (Es b (j:Int)).bind fun a2=>
 if(a1==a2) then
(.ok (.inl ()))
else
(.ok (.inr (false)))
def Me (a:List An)(b:List An):R Bool:=
 if((a.length:Int) != (b.length:Int)) then
(.ok false)
else
((each (fun j a1=>fun _=>Nx b j a1) 0 a ()).bind (Dv (fun _=>.ok true) (fun r=>.ok r)))
def R4 (x1:Bool):R (Unit ⊕ Bool):=
 if x1 then
(.ok (.inr (false)))
else
(.ok (.inl ()))
def R8 (b:Airspace)(j:Nat)(a1:Volume):R (Unit ⊕ Bool):=
 (Es b.Volumes (j:Int)).bind fun a2=>
 if(!(a1.Name==a2.Name)) then
(R4 true)
else
((N4 a1.Closed a2.Closed).bind fun r=>
 R4 (!r))
def Pz (b:Airspace)(j1:Nat)(a3:Sector):R (Unit ⊕ Bool):=
 (Es b.Sectors (j1:Int)).bind fun a4=>
 (if(!(a3.Name==a4.Name)) then R.ok true else(Me a3.Names a4.Names).bind fun r1=>
 R.ok (!r1)).bind (fun(b1:Bool)=>(if b1 then R.ok true else(Hi a3.Volumes a4.Volumes).bind fun r2=>
 R.ok (!r2)).bind (fun(b2:Bool)=>if((b2||(a3.Radar != a4.Radar))||(a3.Procedural != a4.Procedural)) then
(.ok (.inr (false)))
else
(.ok (.inl ()))))
def Ob (b:Airspace)(j2:Nat)(a5:Config):R (Unit ⊕ Bool):=
 (Es b.Configs (j2:Int)).bind fun a6=>
 (if(!(a5.Name==a6.Name)) then R.ok true else(Me a5.Names a6.Names).bind fun r3=>
 R.ok (!r3)).bind (fun(b3:Bool)=>(if b3 then R.ok true else(Hi a5.Sectors a6.Sectors).bind fun r4=>
 R.ok (!r4)).bind (fun(b4:Bool)=>if b4 then
(.ok (.inr (false)))
else
(.ok (.inl ()))))
def Ml (b:Airspace)(j3:Nat)(a7:Segment):R (Unit ⊕ Bool):=
 (Es b.Segments (j3:Int)).bind fun a8=>
 (if((((!(a7.Name==a8.Name))||(!(a7.In==a8.In)))||(a7.Volume != a8.Volume))||(a7.Length != a8.Length)) then R.ok true else(N4 a7.Open a8.Open).bind fun r5=>
 R.ok (!r5)).bind (fun(b5:Bool)=>if b5 then
(.ok (.inr (false)))
else
(.ok (.inl ())))
def K5 (b:Airspace)(j4:Nat)(a9:Route):R (Unit ⊕ Bool):=
 (Es b.Routes (j4:Int)).bind fun a10=>
 (if(((((!(a9.Name==a10.Name))||(!(a9.A==a10.A)))||(!(a9.B==a10.B)))||(a9.From != a10.From))||(a9.To != a10.To)) then R.ok true else(Me a9.Names a10.Names).bind fun r6=>
 R.ok (!r6)).bind (fun(b6:Bool)=>(if b6 then R.ok true else(Hi a9.Segments a10.Segments).bind fun r7=>
 R.ok (!r7)).bind (fun(b7:Bool)=>if b7 then
(.ok (.inr (false)))
else
(.ok (.inl ()))))
def R3 (a12:Airport)(j6:Nat)(a13:Mode):R (Unit ⊕ Bool):=
 (Es a12.Modes (j6:Int)).bind fun a14=>
 if((a13.Name==a14.Name)&&(a13.Places==a14.Places)) then
(.ok (.inl ()))
else
(.ok (.inr (false)))
def Jn (b:Airspace)(j5:Nat)(a11:Airport):R (Unit ⊕ Bool):=
 (Es b.Airports (j5:Int)).bind fun a12=>
 if((!(a11.Name==a12.Name))||((a11.Modes.length:Int) != (a12.Modes.length:Int))) then
(.ok (.inr (false)))
else
((each (fun j6 a13=>fun _=>R3 a12 j6 a13) 0 a11.Modes ()).bind (Dv (fun _=>.ok (.inl ())) (fun r=>.ok (.inr (r)))))
def Ie (b:Airspace)(j7:Nat)(a15:Class):R (Unit ⊕ Bool):=
 (Es b.Classes (j7:Int)).bind fun a16=>
 if((a15.Name==a16.Name)&&((a15.Slow==a16.Slow)&&((a15.Fast==a16.Fast)&&(a15.Places==a16.Places)))) then
(.ok (.inl ()))
else
(.ok (.inr (false)))
def G1 (b:Airspace)(j8:Nat)(a17:Rule):R (Unit ⊕ Bool):=
 (Es b.Rules (j8:Int)).bind fun a18=>
 if((a17.Kind==a18.Kind)&&((a17.C==a18.C)&&((a17.A==a18.A)&&((a17.Class==a18.Class)&&((a17.Airport==a18.Airport)&&((a17.N==a18.N)&&((a17.Hours.From==a18.Hours.From)&&(a17.Hours.To==a18.Hours.To)))))))) then
(.ok (.inl ()))
else
(.ok (.inr (false)))
def O3 (a:Airspace)(b:Airspace):R Bool:=
 if(((((((((a.Volumes.length:Int) != (b.Volumes.length:Int))||((a.Sectors.length:Int) != (b.Sectors.length:Int)))||((a.Configs.length:Int) != (b.Configs.length:Int)))||((a.Segments.length:Int) != (b.Segments.length:Int)))||((a.Routes.length:Int) != (b.Routes.length:Int)))||((a.Airports.length:Int) != (b.Airports.length:Int)))||((a.Classes.length:Int) != (b.Classes.length:Int)))||((a.Rules.length:Int) != (b.Rules.length:Int))) then
(.ok false)
else
((each (fun j a1=>fun _=>R8 b j a1) 0 a.Volumes ()).bind (Dv (fun _=>(each (fun j1 a3=>fun _=>Pz b j1 a3) 0 a.Sectors ()).bind (Dv (fun _=>(each (fun j2 a5=>fun _=>Ob b j2 a5) 0 a.Configs ()).bind (Dv (fun _=>(each (fun j3 a7=>fun _=>Ml b j3 a7) 0 a.Segments ()).bind (Dv (fun _=>(each (fun j4 a9=>fun _=>K5 b j4 a9) 0 a.Routes ()).bind (Dv (fun _=>(each (fun j5 a11=>fun _=>Jn b j5 a11) 0 a.Airports ()).bind (Dv (fun _=>(each (fun j7 a15=>fun _=>Ie b j7 a15) 0 a.Classes ()).bind (Dv (fun _=>(each (fun j8 a17=>fun _=>G1 b j8 a17) 0 a.Rules ()).bind (Dv (fun _=>.ok true) (fun r=>.ok r))) (fun r=>.ok r))) (fun r=>.ok r))) (fun r=>.ok r))) (fun r=>.ok r))) (fun r=>.ok r))) (fun r=>.ok r))) (fun r=>.ok r)))
def Zx:R Bool:=
 (Ic ({ Volumes:=[({ Name:=[97],Closed:=[] }:Volume),({ Name:=[98],Closed:=[] }:Volume)],Sectors:=[({ Name:=[115],Names:=[[98],[97]],Volumes:=[],Radar:=0,Procedural:=0 }:Sector)],Configs:=[],Segments:=[],Routes:=[],Airports:=[],Classes:=[({ Name:=[104,101,97,118,121],Slow:=0,Fast:=0,Places:=0 }:Class)],Rules:=[({ Kind:=2,C:=[104,101,97,118,121],A:=[110,111,119,104,101,114,101],Class:=0,Airport:=5,N:=0,Hours:=({ From:=0,To:=0 }:Span) }:Rule)] }:Airspace)).bind fun r=>
 (Ic ({ Volumes:=[],Sectors:=[],Configs:=[],Segments:=[],Routes:=[],Airports:=[],Classes:=[],Rules:=[] }:Airspace)).bind fun r1=>
 (Ic ({ Volumes:=[({ Name:=[],Closed:=[] }:Volume),({ Name:=[],Closed:=[] }:Volume)],Sectors:=[],Configs:=[],Segments:=[],Routes:=[],Airports:=[],Classes:=[],Rules:=[] }:Airspace)).bind fun r2=>
 (Ic ({ Volumes:=[],Sectors:=[],Configs:=[],Segments:=[({ Name:=[103],In:=[97],Volume:=0,Length:=0,Open:=[] }:Segment)],Routes:=[],Airports:=[],Classes:=[],Rules:=[] }:Airspace)).bind fun r3=>
 (Vv ({ Volumes:=[({ Name:=[97],Closed:=[] }:Volume),({ Name:=[98],Closed:=[] }:Volume)],Sectors:=[({ Name:=[115],Names:=[[98],[97]],Volumes:=[],Radar:=0,Procedural:=0 }:Sector)],Configs:=[],Segments:=[],Routes:=[],Airports:=[],Classes:=[({ Name:=[104,101,97,118,121],Slow:=0,Fast:=0,Places:=0 }:Class)],Rules:=[({ Kind:=2,C:=[104,101,97,118,121],A:=[110,111,119,104,101,114,101],Class:=0,Airport:=5,N:=0,Hours:=({ From:=0,To:=0 }:Span) }:Rule)] }:Airspace) [98]).bind fun r4=>
 (Vv ({ Volumes:=[],Sectors:=[],Configs:=[],Segments:=[],Routes:=[],Airports:=[],Classes:=[],Rules:=[] }:Airspace) []).bind fun r5=>
 (Acp ({ Volumes:=[({ Name:=[97],Closed:=[] }:Volume),({ Name:=[98],Closed:=[] }:Volume)],Sectors:=[({ Name:=[115],Names:=[[98],[97]],Volumes:=[],Radar:=0,Procedural:=0 }:Sector)],Configs:=[],Segments:=[],Routes:=[],Airports:=[],Classes:=[({ Name:=[104,101,97,118,121],Slow:=0,Fast:=0,Places:=0 }:Class)],Rules:=[({ Kind:=2,C:=[104,101,97,118,121],A:=[110,111,119,104,101,114,101],Class:=0,Airport:=5,N:=0,Hours:=({ From:=0,To:=0 }:Span) }:Rule)] }:Airspace) [104,101,97,118,121]).bind fun r6=>
 (Y2 ({ Volumes:=[({ Name:=[97],Closed:=[] }:Volume),({ Name:=[98],Closed:=[] }:Volume)],Sectors:=[({ Name:=[115],Names:=[[98],[97]],Volumes:=[],Radar:=0,Procedural:=0 }:Sector)],Configs:=[],Segments:=[],Routes:=[],Airports:=[],Classes:=[({ Name:=[104,101,97,118,121],Slow:=0,Fast:=0,Places:=0 }:Class)],Rules:=[({ Kind:=2,C:=[104,101,97,118,121],A:=[110,111,119,104,101,114,101],Class:=0,Airport:=5,N:=0,Hours:=({ From:=0,To:=0 }:Span) }:Rule)] }:Airspace) [97]).bind fun r7=>
 if((((((r.2 != 0)||(r1.2 != 0))||(r2.2 != 91))||(r3.2 != 90))||((r.1.Sectors.length:Int) != 1))||((r.1.Rules.length:Int) != 1)) then
(.ok false)
else
((Es r.1.Sectors 0).bind fun a=>
 (Hi a.Volumes [1,0]).bind fun r8=>
 (if r8 then(Es r.1.Rules 0).bind fun a1=>
 R.ok (a1.Airport==0) else R.ok false).bind (fun(b:Bool)=>(if b then(Es r.1.Rules 0).bind fun a2=>
 R.ok (a2.A==[110,111,119,104,101,114,101]) else R.ok false).bind (fun(b1:Bool)=>(if b1 then(O3 r1.1 ({ Volumes:=[],Sectors:=[],Configs:=[],Segments:=[],Routes:=[],Airports:=[],Classes:=[],Rules:=[] }:Airspace)).bind fun r9=>
 R.ok r9 else R.ok false).bind (fun(b2:Bool)=>.ok ((((((b2&&(r4.1==1))&&r4.2)&&(!r5.2))&&(r6.1==0))&&r6.2)&&(!r7.2))))))
def Sw (a1:Sector)(n:Int):R Int:=
 .ok (IntKind.wrap .i64 (n+(a1.Names.length:Int)))
def Rc (a2:Config)(n1:Int):R Int:=
 .ok (IntKind.wrap .i64 (n1+(a2.Names.length:Int)))
def Pf (a3:Route)(n2:Int):R Int:=
 .ok (IntKind.wrap .i64 (n2+(a3.Names.length:Int)))
def Nl (a4:Airport)(n3:Int):R Int:=
 .ok (IntKind.wrap .i64 (n3+(a4.Modes.length:Int)))
def Xy (a:Airspace):R Bool:=
 if(IntKind.wrap .i64 ((IntKind.wrap .i64 ((IntKind.wrap .i64 ((IntKind.wrap .i64 ((IntKind.wrap .i64 ((IntKind.wrap .i64 ((IntKind.wrap .i64 ((a.Volumes.length:Int)+(a.Sectors.length:Int)))+(a.Configs.length:Int)))+(a.Segments.length:Int)))+(a.Routes.length:Int)))+(a.Airports.length:Int)))+(a.Classes.length:Int)))+(a.Rules.length:Int))) > 80 then
(.ok false)
else
((B0 (fun _ a1=>fun n=>Sw a1 n) 0 a.Sectors (IntKind.wrap .i64 ((IntKind.wrap .i64 ((IntKind.wrap .i64 ((IntKind.wrap .i64 ((IntKind.wrap .i64 ((IntKind.wrap .i64 ((IntKind.wrap .i64 ((a.Volumes.length:Int)+(a.Sectors.length:Int)))+(a.Configs.length:Int)))+(a.Segments.length:Int)))+(a.Routes.length:Int)))+(a.Airports.length:Int)))+(a.Classes.length:Int)))+(a.Rules.length:Int)))).bind ((fun n=>(B0 (fun _ a2=>fun n1=>Rc a2 n1) 0 a.Configs n).bind ((fun n1=>(B0 (fun _ a3=>fun n2=>Pf a3 n2) 0 a.Routes n1).bind ((fun n2=>(B0 (fun _ a4=>fun n3=>Nl a4 n3) 0 a.Airports n2).bind ((fun n3=>.ok (decide (n3≤300)))))))))))
def Og (a:An):R (Unit ⊕ Bool):=
 if(a.length:Int) > 60 then
(.ok (.inr (false)))
else
(.ok (.inl ()))
def Nh (l:List An):R Bool:=
 (each (fun _ a=>fun _=>Og a) 0 l ()).bind (Dv (fun _=>.ok (decide ((l.length:Int)≤70))) (fun r=>.ok r))
def Tk (a1:Volume)(x:Int):R Int:=
 .ok (IntKind.wrap .i64 (x+(a1.Closed.length:Int)))
def Pm (a2:Sector)(x2:Int):R (Int ⊕ Bool):=
 (Nh a2.Names).bind fun r=>
 if r then
(.ok (.inl (IntKind.wrap .i64 (x2+(a2.Volumes.length:Int)))))
else
(.ok (.inr (false)))
def Ny (a3:Config)(x4:Int):R (Int ⊕ Bool):=
 (Nh a3.Names).bind fun r1=>
 if r1 then
(.ok (.inl (IntKind.wrap .i64 (x4+(a3.Sectors.length:Int)))))
else
(.ok (.inr (false)))
def Ns (a4:Segment)(x6:Int):R Int:=
 .ok (IntKind.wrap .i64 (x6+(a4.Open.length:Int)))
def Ku (a5:Route)(x8:Int):R (Int ⊕ Bool):=
 (Nh a5.Names).bind fun r2=>
 if r2 then
(.ok (.inl (IntKind.wrap .i64 (x8+(a5.Segments.length:Int)))))
else
(.ok (.inr (false)))
def Kv (a6:Airport)(x10:Int):R Int:=
 .ok (IntKind.wrap .i64 (x10+(a6.Modes.length:Int)))
def Xv (a:Airspace):R Bool:=
 if((((((((decide ((a.Volumes.length:Int) > 70))||(decide ((a.Sectors.length:Int) > 70)))||(decide ((a.Configs.length:Int) > 40)))||(decide ((a.Segments.length:Int) > 130)))||(decide ((a.Routes.length:Int) > 70)))||(decide ((a.Airports.length:Int) > 20)))||(decide ((a.Classes.length:Int) > 12)))||(decide ((a.Rules.length:Int) > 70))) then
(.ok false)
else
((B0 (fun _ a1=>fun x=>Tk a1 x) 0 a.Volumes 0).bind ((fun x=>(each (fun _ a2=>fun x2=>Pm a2 x2) 0 a.Sectors x).bind (Dv (fun x2=>(each (fun _ a3=>fun x4=>Ny a3 x4) 0 a.Configs x2).bind (Dv (fun x4=>(B0 (fun _ a4=>fun x6=>Ns a4 x6) 0 a.Segments x4).bind ((fun x6=>(each (fun _ a5=>fun x8=>Ku a5 x8) 0 a.Routes x6).bind (Dv (fun x8=>(B0 (fun _ a6=>fun x10=>Kv a6 x10) 0 a.Airports x8).bind ((fun x10=>.ok (decide (x10≤600))))) (fun r=>.ok r))))) (fun r=>.ok r))) (fun r=>.ok r)))))
def Fy (ok:Bool)(t:Token)(s0_bad:Bool)(l:List Token):R (List Token):=
 if(l.length+[t].length) * 40≤D0 then
 .ok (l++[t]) else .bad
def strings_IndexByte (s:An)(c:Int):R Int:=.ok (Lib.indexByte s c.toNat.toUInt8)
def Mj (c:Int):R Int:=
 if(((decide (c≥97))&&(decide (c≤122)))||((decide (c≥65))&&(decide (c≤90)))) then
(.ok 2)
else
(if((decide (c≥48))&&(decide (c≤57))) then
(.ok 3)
else
(if(c==95) then
(.ok 5)
else
(if((((c==32)||(c==9))||(c==10))||(c==13)) then
(.ok 1)
else
((strings_IndexByte [123,125,40,41,59,44,61,35,47,60,33,45,46] c).bind fun r=>
 if r≥0 then
(.ok 4)
else
(.ok 0)))))
def Sf (a1:UInt8):R (Unit ⊕ Bool):=
 (Mj (a1.toNat:Int)).bind fun c=>
 if(((c != 2)&&(c != 3))&&(c != 5)) then
(.ok (.inr (false)))
else
(.ok (.inl ()))
def W5 (s:An):R Bool:=
 (if((s==[])||(decide ((s.length:Int) > 32))) then R.ok true else(Es s 0).bind fun a=>
 (Mj (a.toNat:Int)).bind fun r=>
 R.ok (r != 2)).bind (fun(b:Bool)=>if b then
(.ok false)
else
(if s.length≤D0 then
((each (fun _ a1=>fun _=>Sf a1) 0 s ()).bind (Dv (fun _=>.ok true) (fun r=>.ok r))) else .bad))
def Cp (s:An)(s0_bad:Bool)(l:List Token):R (Bool×(List Token)):=
 (W5 s).bind fun r=>
 (Fy r ({ Kind:=1,Text:=s,N:=0,At:=0 }:Token) s0_bad l).bind fun r1=>
 .ok ((s0_bad||(!r)),r1)
def Et (a:An)(fBad:Bool)(l2:List Token):R (Bool×(List Token)):=
 (Fy true ({ Kind:=1,Text:=a,N:=0,At:=0 }:Token) fBad l2).bind fun r=>
 .ok ((fBad||(!true)),r)
def Bu (l:List An)(s0_bad:Bool)(l1:List Token):R (Bool×(List Token)):=
 (B0 (fun _ a=>C2 fun fBad l2=>Et a fBad l2) 0 l (s0_bad,l1)).bind ((C2 fun fBad l2=>.ok (fBad,l2)))
def Eu (a:An)(fBad:Bool)(l2:List Token):R (Bool×(List Token)):=
 (Fy true ({ Kind:=3,Text:=a,N:=0,At:=0 }:Token) fBad l2).bind fun r=>
 .ok ((fBad||(!true)),r)
def Cb (l:List An)(s0_bad:Bool)(l1:List Token):R (Bool×(List Token)):=
 (B0 (fun _ a=>C2 fun fBad l2=>Eu a fBad l2) 0 l (s0_bad,l1)).bind ((C2 fun fBad l2=>.ok (fBad,l2)))
def Ci (n:Int)(least:Int)(most:Int)(s0_bad:Bool)(l:List Token):R (List Token):=
 (Fy ((decide (n≥least))&&(decide (n≤most))) ({ Kind:=2,Text:=[],N:=n,At:=0 }:Token) s0_bad l).bind fun r=>
 .ok r
def Hh (s:Span)(s0_bad:Bool)(l:List Token):R (Bool×(List Token)):=
 (Ci s.From 0 1439 s0_bad l).bind fun r=>
 (Bu [[116,111]] (s0_bad||(!((decide (s.From≥0))&&(decide (s.From≤1439))))) r).bind fun r1=>
 (Ci s.To (IntKind.wrap .i64 (s.From+1)) 1440 r1.1 r1.2).bind fun r2=>
 .ok ((r1.1||(!((decide (s.To≥(IntKind.wrap .i64 (s.From+1))))&&(decide (s.To≤1440))))),r2)
def Kz (a:Span)(fBad1:Bool)(l3:List Token):R (Bool×(List Token)):=
 (Hh a fBad1 l3).bind fun r1=>
 .ok (r1.1,r1.2)
def K8 (j:Nat)(a:Span)(fBad:Bool)(l2:List Token):R (Bool×(List Token)):=
 if(j:Int) > 0 then
((Cb [[44]] fBad l2).bind fun r=>
 Kz a r.1 r.2)
else
(Kz a fBad l2)
def Kg (l:List Span)(most:Int)(s0_bad:Bool)(l1:List Token):R (Bool×(List Token)):=
 (B0 (fun j a=>C2 fun fBad l2=>K8 j a fBad l2) 0 l (((s0_bad||((l.length:Int)==0))||(decide ((l.length:Int) > most))),l1)).bind ((C2 fun fBad l2=>.ok (fBad,l2)))
def Ha (text:An)(l:List Span)(s0_bad:Bool)(l1:List Token):R (Bool×(List Token)):=
 if(l.length:Int) > 0 then
((Bu [text] s0_bad l1).bind fun r=>
 (Kg l 16 r.1 r.2).bind fun r1=>
 .ok (r1.1,r1.2))
else
(.ok (s0_bad,l1))
def Ot (a:Volume)(s1_bad:Bool)(l:List Token):R (Bool×(List Token)):=
 (Cp a.Name s1_bad l).bind fun r=>
 (Ha [99,108,111,115,101,100] a.Closed r.1 r.2).bind fun r1=>
 .ok (r1.1,r1.2)
def Ht (a:Volume)(fBad1:Bool)(l2:List Token):R (Bool×(List Token)):=
 (Ot a fBad1 l2).bind fun r1=>
 (Cb [[59]] r1.1 r1.2).bind fun r2=>
 .ok (r2.1,r2.2)
def F3 (text:An)(a:Volume)(fBad:Bool)(l1:List Token):R (Bool×(List Token)):=
 if(text==[]) then
(Ht a fBad l1)
else
((Bu [text] fBad l1).bind fun r=>
 Ht a r.1 r.2)
def G7 (text:An)(l:List Volume)(most:Int)(s0_bad:Bool):R (Bool×(List Token)):=
 (B0 (fun _ a=>C2 fun fBad l1=>F3 text a fBad l1) 0 l ((s0_bad||(decide ((l.length:Int) > most))),[])).bind ((C2 fun fBad l1=>.ok (fBad,l1)))
def Kn (a:An)(fBad1:Bool)(l3:List Token):R (Bool×(List Token)):=
 (Cp a fBad1 l3).bind fun r1=>
 .ok (r1.1,r1.2)
def Kq (j:Nat)(a:An)(fBad:Bool)(l2:List Token):R (Bool×(List Token)):=
 if(j:Int) > 0 then
((Cb [[44]] fBad l2).bind fun r=>
 Kn a r.1 r.2)
else
(Kn a fBad l2)
def Ft (l:List An)(most:Int)(s0_bad:Bool)(l1:List Token):R (Bool×(List Token)):=
 (B0 (fun j a=>C2 fun fBad l2=>Kq j a fBad l2) 0 l (((s0_bad||((l.length:Int)==0))||(decide ((l.length:Int) > most))),l1)).bind ((C2 fun fBad l2=>.ok (fBad,l2)))
def Om (a:Sector)(s1_bad:Bool)(l:List Token):R (Bool×(List Token)):=
 (Cp a.Name s1_bad l).bind fun r=>
 (Cb [[61]] r.1 r.2).bind fun r1=>
 (Ft a.Names 64 r1.1 r1.2).bind fun r2=>
 (Bu [[114,97,100,97,114]] r2.1 r2.2).bind fun r3=>
 (Ci a.Radar 0 64 r3.1 r3.2).bind fun r4=>
 (Bu [[112,114,111,99,101,100,117,114,97,108]] (r3.1||(!((decide (a.Radar≥0))&&(decide (a.Radar≤64))))) r4).bind fun r5=>
 (Ci a.Procedural 0 a.Radar r5.1 r5.2).bind fun r6=>
 .ok ((r5.1||(!((decide (a.Procedural≥0))&&(decide (a.Procedural≤a.Radar))))),r6)
def Hp (a:Sector)(fBad1:Bool)(l3:List Token):R (Bool×(List Token)):=
 (Om a fBad1 l3).bind fun r1=>
 (Cb [[59]] r1.1 r1.2).bind fun r2=>
 .ok (r2.1,r2.2)
def Hq (text:An)(a:Sector)(fBad:Bool)(l2:List Token):R (Bool×(List Token)):=
 if(text==[]) then
(Hp a fBad l2)
else
((Bu [text] fBad l2).bind fun r=>
 Hp a r.1 r.2)
def Fr (text:An)(l:List Sector)(most:Int)(s0_bad:Bool)(l1:List Token):R (Bool×(List Token)):=
 (B0 (fun _ a=>C2 fun fBad l2=>Hq text a fBad l2) 0 l ((s0_bad||(decide ((l.length:Int) > most))),l1)).bind ((C2 fun fBad l2=>.ok (fBad,l2)))
def Oo (a:Config)(s1_bad:Bool)(l:List Token):R (Bool×(List Token)):=
 (Cp a.Name s1_bad l).bind fun r=>
 (Cb [[61]] r.1 r.2).bind fun r1=>
 (Ft a.Names 64 r1.1 r1.2).bind fun r2=>
 .ok (r2.1,r2.2)
def Hn (a:Config)(fBad1:Bool)(l3:List Token):R (Bool×(List Token)):=
 (Oo a fBad1 l3).bind fun r1=>
 (Cb [[59]] r1.1 r1.2).bind fun r2=>
 .ok (r2.1,r2.2)
def Hr (text:An)(a:Config)(fBad:Bool)(l2:List Token):R (Bool×(List Token)):=
 if(text==[]) then
(Hn a fBad l2)
else
((Bu [text] fBad l2).bind fun r=>
 Hn a r.1 r.2)
def Fs (text:An)(l:List Config)(most:Int)(s0_bad:Bool)(l1:List Token):R (Bool×(List Token)):=
 (B0 (fun _ a=>C2 fun fBad l2=>Hr text a fBad l2) 0 l ((s0_bad||(decide ((l.length:Int) > most))),l1)).bind ((C2 fun fBad l2=>.ok (fBad,l2)))
def Ou (a:Segment)(s1_bad:Bool)(l:List Token):R (Bool×(List Token)):=
 (Cp a.Name s1_bad l).bind fun r=>
 (Bu [[105,110]] r.1 r.2).bind fun r1=>
 (Cp a.In r1.1 r1.2).bind fun r2=>
 (Bu [[108,101,110,103,116,104]] r2.1 r2.2).bind fun r3=>
 (Ci a.Length 1 4096 r3.1 r3.2).bind fun r4=>
 (Ha [111,112,101,110] a.Open (r3.1||(!((decide (a.Length≥1))&&(decide (a.Length≤4096))))) r4).bind fun r5=>
 .ok (r5.1,r5.2)
def G6 (a:Segment)(fBad1:Bool)(l3:List Token):R (Bool×(List Token)):=
 (Ou a fBad1 l3).bind fun r1=>
 (Cb [[59]] r1.1 r1.2).bind fun r2=>
 .ok (r2.1,r2.2)
def Hb (text:An)(a:Segment)(fBad:Bool)(l2:List Token):R (Bool×(List Token)):=
 if(text==[]) then
(G6 a fBad l2)
else
((Bu [text] fBad l2).bind fun r=>
 G6 a r.1 r.2)
def Fk (text:An)(l:List Segment)(most:Int)(s0_bad:Bool)(l1:List Token):R (Bool×(List Token)):=
 (B0 (fun _ a=>C2 fun fBad l2=>Hb text a fBad l2) 0 l ((s0_bad||(decide ((l.length:Int) > most))),l1)).bind ((C2 fun fBad l2=>.ok (fBad,l2)))
def Ox (a:Route)(s1_bad:Bool)(l:List Token):R (Bool×(List Token)):=
 (Cp a.Name s1_bad l).bind fun r=>
 (Bu [[102,114,111,109]] r.1 r.2).bind fun r1=>
 (Cp a.A r1.1 r1.2).bind fun r2=>
 (Bu [[116,111]] r2.1 r2.2).bind fun r3=>
 (Cp a.B r3.1 r3.2).bind fun r4=>
 (Bu [[118,105,97]] r4.1 r4.2).bind fun r5=>
 (Ft a.Names 8 r5.1 r5.2).bind fun r6=>
 .ok (r6.1,r6.2)
def Id (a:Route)(fBad1:Bool)(l3:List Token):R (Bool×(List Token)):=
 (Ox a fBad1 l3).bind fun r1=>
 (Cb [[59]] r1.1 r1.2).bind fun r2=>
 .ok (r2.1,r2.2)
def Ih (text:An)(a:Route)(fBad:Bool)(l2:List Token):R (Bool×(List Token)):=
 if(text==[]) then
(Id a fBad l2)
else
((Bu [text] fBad l2).bind fun r=>
 Id a r.1 r.2)
def F6 (text:An)(l:List Route)(most:Int)(s0_bad:Bool)(l1:List Token):R (Bool×(List Token)):=
 (B0 (fun _ a=>C2 fun fBad l2=>Ih text a fBad l2) 0 l ((s0_bad||(decide ((l.length:Int) > most))),l1)).bind ((C2 fun fBad l2=>.ok (fBad,l2)))
def Jt (m:Mode)(s1_bad:Bool)(l:List Token):R (Bool×(List Token)):=
 (Bu [[109,111,100,101]] s1_bad l).bind fun r=>
 (Cp m.Name r.1 r.2).bind fun r1=>
 (Ci m.Places 0 64 r1.1 r1.2).bind fun r2=>
 .ok ((r1.1||(!((decide (m.Places≥0))&&(decide (m.Places≤64))))),r2)
def Mo (a:Mode)(fBad1:Bool)(l3:List Token):R (Bool×(List Token)):=
 (Jt a fBad1 l3).bind fun r1=>
 .ok (r1.1,r1.2)
def Ms (j:Nat)(a:Mode)(fBad:Bool)(l2:List Token):R (Bool×(List Token)):=
 if(j:Int) > 0 then
((Cb [[44]] fBad l2).bind fun r=>
 Mo a r.1 r.2)
else
(Mo a fBad l2)
def Mf (l:List Mode)(most:Int)(s0_bad:Bool)(l1:List Token):R (Bool×(List Token)):=
 (B0 (fun j a=>C2 fun fBad l2=>Ms j a fBad l2) 0 l (((s0_bad||((l.length:Int)==0))||(decide ((l.length:Int) > most))),l1)).bind ((C2 fun fBad l2=>.ok (fBad,l2)))
def Oj (a:Airport)(s1_bad:Bool)(l:List Token):R (Bool×(List Token)):=
 (Cp a.Name s1_bad l).bind fun r=>
 (Mf a.Modes 16 r.1 r.2).bind fun r1=>
 .ok (r1.1,r1.2)
def G3 (a:Airport)(fBad1:Bool)(l3:List Token):R (Bool×(List Token)):=
 (Oj a fBad1 l3).bind fun r1=>
 (Cb [[59]] r1.1 r1.2).bind fun r2=>
 .ok (r2.1,r2.2)
def Hk (text:An)(a:Airport)(fBad:Bool)(l2:List Token):R (Bool×(List Token)):=
 if(text==[]) then
(G3 a fBad l2)
else
((Bu [text] fBad l2).bind fun r=>
 G3 a r.1 r.2)
def Fi (text:An)(l:List Airport)(most:Int)(s0_bad:Bool)(l1:List Token):R (Bool×(List Token)):=
 (B0 (fun _ a=>C2 fun fBad l2=>Hk text a fBad l2) 0 l ((s0_bad||(decide ((l.length:Int) > most))),l1)).bind ((C2 fun fBad l2=>.ok (fBad,l2)))
def Oq (a:Class)(s1_bad:Bool)(l:List Token):R (Bool×(List Token)):=
 (Cp a.Name s1_bad l).bind fun r=>
 (Bu [[115,108,111,119]] r.1 r.2).bind fun r1=>
 (Ci a.Slow 1 64 r1.1 r1.2).bind fun r2=>
 (Bu [[102,97,115,116]] (r1.1||(!((decide (a.Slow≥1))&&(decide (a.Slow≤64))))) r2).bind fun r3=>
 (Ci a.Fast a.Slow 64 r3.1 r3.2).bind fun r4=>
 (Bu [[112,108,97,99,101,115]] (r3.1||(!((decide (a.Fast≥a.Slow))&&(decide (a.Fast≤64))))) r4).bind fun r5=>
 (Ci a.Places 1 8 r5.1 r5.2).bind fun r6=>
 .ok ((r5.1||(!((decide (a.Places≥1))&&(decide (a.Places≤8))))),r6)
def Ia (a:Class)(fBad1:Bool)(l3:List Token):R (Bool×(List Token)):=
 (Oq a fBad1 l3).bind fun r1=>
 (Cb [[59]] r1.1 r1.2).bind fun r2=>
 .ok (r2.1,r2.2)
def H9 (text:An)(a:Class)(fBad:Bool)(l2:List Token):R (Bool×(List Token)):=
 if(text==[]) then
(Ia a fBad l2)
else
((Bu [text] fBad l2).bind fun r=>
 Ia a r.1 r.2)
def F9 (text:An)(l:List Class)(most:Int)(s0_bad:Bool)(l1:List Token):R (Bool×(List Token)):=
 (B0 (fun _ a=>C2 fun fBad l2=>H9 text a fBad l2) 0 l ((s0_bad||(decide ((l.length:Int) > most))),l1)).bind ((C2 fun fBad l2=>.ok (fBad,l2)))
def Fd (text:An)(s1_bad:Bool)(l:List Token)(s3:Rule):R (Bool×(List Token)):=
 (Bu [text] s1_bad l).bind fun r=>
 (Cp s3.C r.1 r.2).bind fun r1=>
 .ok (r1.1,r1.2)
def Dk (b:Rule)(fBad:Bool)(l1:List Token)(o:Rule):R (Bool×(List Token)):=
 if fBad then
(.ok (true,l1))
else
(.ok ((!((b.Kind==o.Kind)&&((b.C==o.C)&&((b.A==o.A)&&((0==o.Class)&&((0==o.Airport)&&((b.N==o.N)&&((b.Hours.From==o.Hours.From)&&(b.Hours.To==o.Hours.To))))))))),l1))
def J0 (b:Rule)(s0_bad:Bool)(l:List Token):R (Bool×(List Token)):=
 if(b.Kind==1) then
((Fd [99,117,114,102,101,119] s0_bad l b).bind fun r=>
 (Bu [[97,116]] r.1 r.2).bind fun r1=>
 (Cp b.A r1.1 r1.2).bind fun r2=>
 (Hh b.Hours r2.1 r2.2).bind fun r3=>
 Dk b r3.1 r3.2 ({ Kind:=b.Kind,C:=b.C,A:=b.A,Class:=0,Airport:=0,N:=0,Hours:=b.Hours }:Rule))
else
(if(b.Kind==2) then
((Fd [101,120,101,109,112,116] s0_bad l b).bind fun r4=>
 Dk b r4.1 r4.2 ({ Kind:=b.Kind,C:=b.C,A:=[],Class:=0,Airport:=0,N:=0,Hours:=({ From:=0,To:=0 }:Span) }:Rule))
else
(if(b.Kind==3) then
((Fd [119,101,105,103,104,116] s0_bad l b).bind fun r5=>
 (Ci b.N 1 8 r5.1 r5.2).bind fun r6=>
 Dk b (r5.1||(!((decide (b.N≥1))&&(decide (b.N≤8))))) r6 ({ Kind:=b.Kind,C:=b.C,A:=[],Class:=0,Airport:=0,N:=b.N,Hours:=({ From:=0,To:=0 }:Span) }:Rule))
else
(if(b.Kind==4) then
((Fd [108,111,110,103,101,115,116] s0_bad l b).bind fun r7=>
 (Ci b.N 0 60 r7.1 r7.2).bind fun r8=>
 if(r7.1||(!((decide (b.N≥0))&&(decide (b.N≤60))))) then
(Dk b true r8 ({ Kind:=b.Kind,C:=b.C,A:=[],Class:=0,Airport:=0,N:=b.N,Hours:=({ From:=0,To:=0 }:Span) }:Rule))
else
(Dk b ((Int.tmod b.N 10) != 0) r8 ({ Kind:=b.Kind,C:=b.C,A:=[],Class:=0,Airport:=0,N:=b.N,Hours:=({ From:=0,To:=0 }:Span) }:Rule)))
else
(Dk b true l ({ Kind:=b.Kind,C:=b.C,A:=[],Class:=0,Airport:=0,N:=0,Hours:=({ From:=0,To:=0 }:Span) }:Rule)))))
def Km (a:Rule)(fBad1:Bool)(l3:List Token):R (Bool×(List Token)):=
 (J0 a fBad1 l3).bind fun r1=>
 (Cb [[59]] r1.1 r1.2).bind fun r2=>
 .ok (r2.1,r2.2)
def Hs (text:An)(a:Rule)(fBad:Bool)(l2:List Token):R (Bool×(List Token)):=
 if(text==[]) then
(Km a fBad l2)
else
((Bu [text] fBad l2).bind fun r=>
 Km a r.1 r.2)
def Fx (text:An)(l:List Rule)(most:Int)(s0_bad:Bool)(l1:List Token):R (Bool×(List Token)):=
 (B0 (fun _ a=>C2 fun fBad l2=>Hs text a fBad l2) 0 l ((s0_bad||(decide ((l.length:Int) > most))),l1)).bind ((C2 fun fBad l2=>.ok (fBad,l2)))
def Uu (t:Token):R Bool:=
 if(t.Kind==1) then
((W5 t.Text).bind fun r=>
 .ok (r&&(t.N==0)))
else
(if(t.Kind==2) then
(.ok (((t.Text==[])&&(decide (t.N≥0)))&&(decide (t.N≤1099511627776))))
else
(if(t.Kind==3) then
((if((t.Text.length:Int)==1) then(Es t.Text 0).bind fun a=>
 (Mj (a.toNat:Int)).bind fun r1=>
 R.ok (r1==4) else R.ok false).bind (fun(b:Bool)=>.ok (b&&(t.N==0))))
else
(.ok false)))
def strconv_Itoa (n:Int):R An:=if -9223372036854775808≤n∧n≤9223372036854775807 then .ok (Lib.itoa n) else .bad
def strings_Join (l:List An)(sep:An):R An:=if(Lib.join l sep).length≤140737488355328 then .ok (Lib.join l sep) else .bad
def Sg (j:Nat)(a:Token)(words:List An):R ((List An) ⊕ (An×Int)):=
 (Uu a).bind fun r=>
 if r then
(if(a.Kind==2) then
((strconv_Itoa a.N).bind fun r1=>
 (Es words (j:Int)).bind fun a1=>
 .ok (.inl (words.set (j:Int).toNat r1)))
else
((Es words (j:Int)).bind fun a2=>
 .ok (.inl (words.set (j:Int).toNat a.Text))))
else
(.ok (.inr (([],70))))
def S8 (l:List Token):R (An×Int):=
 if(0:Int)≤(l.length:Int)∧((l.length:Int):Int)≤(l.length:Int)∧(Int.toNat (l.length:Int)) * 16≤D0 then
 (each (fun j a=>fun words=>Sg j a words) 0 l (List.replicate (Int.toNat (l.length:Int)) [])).bind (Dv (fun words=>(strings_Join words [32]).bind fun src=>
 .ok (src,0)) (fun r=>.ok r)) else .bad
def Nu (a:Airspace):R (An×Int):=
 (G7 [118,111,108,117,109,101] a.Volumes 64 false).bind fun r=>
 (Fr [115,101,99,116,111,114] a.Sectors 64 r.1 r.2).bind fun r1=>
 (Fs [99,111,110,102,105,103] a.Configs 32 r1.1 r1.2).bind fun r2=>
 (Fk [115,101,103,109,101,110,116] a.Segments 128 r2.1 r2.2).bind fun r3=>
 (F6 [114,111,117,116,101] a.Routes 64 r3.1 r3.2).bind fun r4=>
 (Fi [97,105,114,112,111,114,116] a.Airports 16 r4.1 r4.2).bind fun r5=>
 (F9 [99,108,97,115,115] a.Classes 8 r5.1 r5.2).bind fun r6=>
 (Fx [] a.Rules 64 r6.1 r6.2).bind fun r7=>
 if r7.1 then
(.ok ([],80))
else
((S8 r7.2).bind fun r8=>
 .ok (r8.1,r8.2))
def Qx (s:T153):R Unit:=
 .pan ⟨147,.int .i64 s.fAt⟩
def Gx (v:Int)(j:Nat)(a:Int):R (Unit ⊕ Int):=
 if(v==a) then
(.ok (.inr ((j:Int))))
else
(.ok (.inl ()))
def R1 (s:List Int)(v:Int):R Int:=
 (each (fun j a=>fun _=>Gx v j a) 0 s ()).bind (Dv (fun _=>.ok (-1)) (fun r=>.ok r))
def Mx (s:List Int)(v:Int):R Bool:=
 (R1 s v).bind fun r=>
 .ok (decide (r≥0))
def Nv (s:T153)(some:List Int)(n:Int):R (Int ⊕ Int):=
 (if(decide (n<(s.fSrc.length:Int))) then(Es s.fSrc n).bind fun a=>
 (Mj (a.toNat:Int)).bind fun r=>
 (Mx some r).bind fun r1=>
 R.ok r1 else R.ok false).bind (fun(b:Bool)=>if b then
(.ok (.inl (IntKind.wrap .i64 (n+1))))
else
(.ok (.inr (n))))
def Nn (s:T153)(n1:Int):R An:=
 if(0:Int)≤s.fAt∧s.fAt≤n1∧n1≤(s.fSrc.length:Int) then
 .ok (Ub s.fSrc s.fAt n1) else .bad
def Ko (s:T153)(some:List Int):R An:=
 (loop (fun n=>Nv s some n) s.fAt).bind (fun n1=>Nn s n1)
def Q2 (s:An):R (Int×Bool):=if s.length≤281474976710656 then(match Lib.atoiAll s with
 | .ok v=>.ok (v,false)
 | Lib.NumEnd.syntax=>.ok (0,true)
 | .range=>.ok (Lib.atoiSat s,true)) else .bad
def I3 (s:An)(vprefix:An):R Bool:=
 (if(decide ((s.length:Int)≥(vprefix.length:Int))) then if(0:Int)≤(vprefix.length:Int)∧(vprefix.length:Int)≤(s.length:Int) then
 R.ok ((s.take (Int.toNat (vprefix.length:Int)))==vprefix) else .bad else R.ok false).bind (fun(b:Bool)=>.ok b)
def Ow (s:An)(vprefix:An):R Bool:=
 (I3 s vprefix).bind fun r=>
 .ok r
def Mz (s0_src:An)(s0_at:Int)(l:List Token):R Int:=
 (Ko ({ fSrc:=s0_src,fAt:=s0_at,fL:=l }:T153) [1]).bind fun r=>
 .ok (IntKind.wrap .i64 (s0_at+(r.length:Int)))
def Gy (text:An)(t:Token)(s0_src:An)(s0_at:Int)(l:List Token):R (List Token):=
 (Uu t).bind fun r=>
 if r then
(if(l.length+[({ Kind:=t.Kind,Text:=t.Text,N:=t.N,At:=s0_at }:Token)].length) * 40≤D0 then
 .ok (l++[({ Kind:=t.Kind,Text:=t.Text,N:=t.N,At:=s0_at }:Token)]) else .bad)
else
(.pan ⟨147,.int .i64 s0_at⟩)
def Nw (s0_src:An)(s0_at:Int)(l:List Token):R (Int×(List Token)):=
 (Ko ({ fSrc:=s0_src,fAt:=s0_at,fL:=l }:T153) [2,3,5]).bind fun t=>
 (Gy t ({ Kind:=1,Text:=t,N:=0,At:=0 }:Token) s0_src s0_at l).bind fun r=>
 .ok ((IntKind.wrap .i64 (s0_at+(t.length:Int))),r)
def L3 (s0_src:An)(s0_at:Int)(l:List Token):R (Int×(List Token)):=
 (Ko ({ fSrc:=s0_src,fAt:=s0_at,fL:=l }:T153) [3]).bind fun t=>
 (Q2 t).bind fun r=>
 (if r.2 then R.ok true else(strconv_Itoa r.1).bind fun r1=>
 R.ok (!(r1==t))).bind (fun(b:Bool)=>if b then
(.pan ⟨147,.int .i64 s0_at⟩)
else
((Gy t ({ Kind:=2,Text:=[],N:=r.1,At:=0 }:Token) s0_src s0_at l).bind fun r2=>
 .ok ((IntKind.wrap .i64 (s0_at+(t.length:Int))),r2)))
def Nq (s0_src:An)(s0_at:Int)(l:List Token):R (Int×(List Token)):=
 if(0:Int)≤s0_at∧s0_at≤(s0_src.length:Int) then
 (Ow (s0_src.drop (Int.toNat s0_at)) [47,47]).bind fun r=>
 if r then
(if(0:Int)≤s0_at∧s0_at≤(s0_src.length:Int) then
 (strings_IndexByte (s0_src.drop (Int.toNat s0_at)) 10).bind fun n=>
 if n≥0 then
(.ok ((IntKind.wrap .i64 (s0_at+n)),l))
else
(.ok ((s0_src.length:Int),l)) else .bad)
else
(if(0:Int)≤s0_at∧s0_at≤(IntKind.wrap .i64 (s0_at+1))∧(IntKind.wrap .i64 (s0_at+1))≤(s0_src.length:Int) then
 (Gy (Ub s0_src s0_at (IntKind.wrap .i64 (s0_at+1))) ({ Kind:=3,Text:=(Ub s0_src s0_at (IntKind.wrap .i64 (s0_at+1))),N:=0,At:=0 }:Token) s0_src s0_at l).bind fun r1=>
 .ok ((IntKind.wrap .i64 (s0_at+((Ub s0_src s0_at (IntKind.wrap .i64 (s0_at+1))).length:Int))),r1) else .bad) else .bad
def Kl (n:Int):R Int:=
 .ok n
def O6 (src:An)(fAt:Int)(l:List Token):R ((Int×(List Token)) ⊕ (Int×(List Token))):=
 if fAt<(src.length:Int) then
((Es src fAt).bind fun a=>
 (Mj (a.toNat:Int)).bind fun r=>
 if r=0 then
((Qx ({ fSrc:=src,fAt:=fAt,fL:=l }:T153)).bind fun _=>
 .ok (.inl (fAt,l)))
else
(if r=1 then
((Mz src fAt l).bind fun r2=>
 .ok (.inl (r2,l)))
else
(if r=2 then
((Nw src fAt l).bind fun r3=>
 .ok (.inl (r3.1,r3.2)))
else
(if r=3 then
((L3 src fAt l).bind fun r4=>
 .ok (.inl (r4.1,r4.2)))
else
(if r=4 then
((Nq src fAt l).bind fun r5=>
 .ok (.inl (r5.1,r5.2)))
else
(if r=5 then
((Qx ({ fSrc:=src,fAt:=fAt,fL:=l }:T153)).bind fun _=>
 .ok (.inl (fAt,l)))
else
(.bad)))))))
else
(.ok (.inr ((fAt,l))))
def Zp (fAt3:Int)(l1:List Token):R ((List Token)×Int×Int):=
 .ok (l1,0,0)
def Abr (src:An):R ((List Token)×Int×Int):=
 if(src.length:Int) > 65536 then
(.ok ([],0,2))
else
((loop (C2 fun fAt l=>O6 src fAt l) (0,[])).bind (C2 fun fAt3 l1=>Zp fAt3 l1))
def Af2 (src:An):R ((List Token)×Int×Int):=
 (Abr src).catch' (Nt 147 .i64 (fun n=>(Kl n).bind fun p=>.ok ([],p,70)) (fun _=>.bad))
def Nz (r:T104)(e:Int):R Unit:=
 if(r.fL.length:Int) > 0 then
((Es r.fL 0).bind fun a=>
 .pan ⟨101,.two .i64 .i64 a.At e⟩)
else
(.pan ⟨101,.two .i64 .i64 r.fEnd e⟩)
def Bo (e:Int)(s_l:List Token)(s_end:Int):R Unit:=
 if(s_l.length:Int) > 0 then
((Es s_l 0).bind fun a=>
 .pan ⟨101,.two .i64 .i64 a.At e⟩)
else
(.pan ⟨101,.two .i64 .i64 s_end e⟩)
def Lm (a:Token):R Bool:=
 .ok true
def Ev (s_l:List Token):R Token:=
 (Es s_l 0).bind fun a2=>
 if(0:Int)≤1∧1≤(s_l.length:Int) then
 .ok a2 else .bad
def N9 (kind:Int)(s_l:List Token)(s_end:Int):R Token:=
 (if((s_l.length:Int)==0) then R.ok true else(Es s_l 0).bind fun a=>
 R.ok (a.Kind != kind)).bind (fun(b:Bool)=>(if b then R.ok true else(Es s_l 0).bind fun a1=>
 (Lm a1).bind fun r=>
 R.ok (!r)).bind (fun(b1:Bool)=>if b1 then
((Bo 80 s_l s_end).bind fun _=>
 Ev s_l)
else
(Ev s_l)))
def Ca (s_l:List Token)(s_end:Int):R An:=
 (N9 1 s_l s_end).bind fun r=>
 .ok r.Text
def Lj (t:Token)(b:An):R Bool:=
 .ok (t.Text==b)
def Ei (s0_l:List Token):R Token:=
 (Es s0_l 0).bind fun a2=>
 if(0:Int)≤1∧1≤(s0_l.length:Int) then
 .ok a2 else .bad
def Mp (kind:Int)(s0_l:List Token)(s0_end:Int)(s1:An):R Token:=
 (if((s0_l.length:Int)==0) then R.ok true else(Es s0_l 0).bind fun a=>
 R.ok (a.Kind != kind)).bind (fun(b:Bool)=>(if b then R.ok true else(Es s0_l 0).bind fun a1=>
 (Lj a1 s1).bind fun r=>
 R.ok (!r)).bind (fun(b1:Bool)=>if b1 then
((Bo 80 s0_l s0_end).bind fun _=>
 Ei s0_l)
else
(Ei s0_l)))
def Da (text:An)(s_l:List Token)(s_end:Int):R Unit:=
 (Mp 1 s_l s_end text).bind fun r=>
 .ok ()
def H0 (t:Token)(b:Int)(c:Int):R Bool:=
 .ok ((decide (t.N≥b))&&(decide (t.N≤c)))
def Ek (s0_l:List Token):R Token:=
 (Es s0_l 0).bind fun a2=>
 if(0:Int)≤1∧1≤(s0_l.length:Int) then
 .ok a2 else .bad
def Mq (kind:Int)(s0_l:List Token)(s0_end:Int)(s1:Int)(s2:Int):R Token:=
 (if((s0_l.length:Int)==0) then R.ok true else(Es s0_l 0).bind fun a=>
 R.ok (a.Kind != kind)).bind (fun(b:Bool)=>(if b then R.ok true else(Es s0_l 0).bind fun a1=>
 (H0 a1 s1 s2).bind fun r=>
 R.ok (!r)).bind (fun(b1:Bool)=>if b1 then
((Bo 80 s0_l s0_end).bind fun _=>
 Ek s0_l)
else
(Ek s0_l)))
def Du (least:Int)(most:Int)(s_l:List Token)(s_end:Int):R Int:=
 (Mq 2 s_l s_end least most).bind fun r=>
 .ok r.N
def F1 (s1_l:List Token)(s1_end:Int):R Mode:=
 (Da [109,111,100,101] s1_l s1_end).bind fun _=>
 (Ca (s1_l.drop 1) s1_end).bind fun r1=>
 (Du 0 64 ((s1_l.drop 1).drop 1) s1_end).bind fun r2=>
 .ok ({ Name:=r1,Places:=r2 }:Mode)
def Fm (kind:Int)(text:An)(s_l:List Token)(s_end:Int):R Bool:=
 (if(decide ((s_l.length:Int) > 0)) then(Es s_l 0).bind fun a=>
 R.ok (a.Kind==kind) else R.ok false).bind (fun(b:Bool)=>(if b then(Es s_l 0).bind fun a1=>
 R.ok (a1.Text==text) else R.ok false).bind (fun(b1:Bool)=>.ok b1))
def Ls (t:Token)(b:An):R Bool:=
 .ok (t.Text==b)
def Eh (s0_l:List Token):R Token:=
 (Es s0_l 0).bind fun a2=>
 if(0:Int)≤1∧1≤(s0_l.length:Int) then
 .ok a2 else .bad
def Mr (kind:Int)(s0_l:List Token)(s0_end:Int)(s1:An):R Token:=
 (if((s0_l.length:Int)==0) then R.ok true else(Es s0_l 0).bind fun a=>
 R.ok (a.Kind != kind)).bind (fun(b:Bool)=>(if b then R.ok true else(Es s0_l 0).bind fun a1=>
 (Ls a1 s1).bind fun r=>
 R.ok (!r)).bind (fun(b1:Bool)=>if b1 then
((Bo 80 s0_l s0_end).bind fun _=>
 Eh s0_l)
else
(Eh s0_l)))
def Ce (text:An)(s_l:List Token)(s_end:Int):R Unit:=
 (Mr 3 s_l s_end text).bind fun r=>
 .ok ()
def Fw (s:An)(s1_l:List Token)(s1_end:Int):R Class:=
 (Da [115,108,111,119] s1_l s1_end).bind fun _=>
 (Du 1 64 (s1_l.drop 1) s1_end).bind fun r1=>
 (Da [102,97,115,116] ((s1_l.drop 1).drop 1) s1_end).bind fun _=>
 (Du r1 64 (((s1_l.drop 1).drop 1).drop 1) s1_end).bind fun r3=>
 (Da [112,108,97,99,101,115] ((((s1_l.drop 1).drop 1).drop 1).drop 1) s1_end).bind fun _=>
 (Du 1 8 (((((s1_l.drop 1).drop 1).drop 1).drop 1).drop 1) s1_end).bind fun r5=>
 .ok ({ Name:=s,Slow:=r1,Fast:=r3,Places:=r5 }:Class)
def Ir (s_l:List Token)(s_end:Int):R Span:=
 (Du 0 1439 s_l s_end).bind fun r=>
 (Da [116,111] (s_l.drop 1) s_end).bind fun _=>
 (Du (IntKind.wrap .i64 (r+1)) 1440 ((s_l.drop 1).drop 1) s_end).bind fun r2=>
 .ok ({ From:=r,To:=r2 }:Span)
def L8 (s0:Rule)(s2_l:List Token)(s2_end:Int):R Rule:=
 (Da [97,116] s2_l s2_end).bind fun _=>
 (Ca (s2_l.drop 1) s2_end).bind fun r1=>
 (Ir ((s2_l.drop 1).drop 1) s2_end).bind fun r2=>
 .ok ({ Kind:=s0.Kind,C:=s0.C,A:=r1,Class:=s0.Class,Airport:=s0.Airport,N:=s0.N,Hours:=r2 }:Rule)
def F5 (class1:An)(s0:Int)(s3_l:List Token)(s3_end:Int):R Rule:=
 (L8 ({ Kind:=s0,C:=class1,A:=[],Class:=0,Airport:=0,N:=0,Hours:=({ From:=0,To:=0 }:Span) }:Rule) s3_l s3_end).bind fun r=>
 .ok r
def Pd (a:Rule):R Unit:=
 .ok ()
def Hu (class1:An)(s0:Int):R Unit:=
 (Pd ({ Kind:=s0,C:=class1,A:=[],Class:=0,Airport:=0,N:=0,Hours:=({ From:=0,To:=0 }:Span) }:Rule)).bind fun _=>
 .ok ()
def G8 (t:Token):R Bool:=
 .ok ((decide (t.N≤60))&&((Int.tmod t.N 10)==0))
def Ej (s_l:List Token):R Token:=
 (Es s_l 0).bind fun a2=>
 if(0:Int)≤1∧1≤(s_l.length:Int) then
 .ok a2 else .bad
def Hw (kind:Int)(s_l:List Token)(s_end:Int):R Token:=
 (if((s_l.length:Int)==0) then R.ok true else(Es s_l 0).bind fun a=>
 R.ok (a.Kind != kind)).bind (fun(b:Bool)=>(if b then R.ok true else(Es s_l 0).bind fun a1=>
 (G8 a1).bind fun r=>
 R.ok (!r)).bind (fun(b1:Bool)=>if b1 then
((Bo 80 s_l s_end).bind fun _=>
 Ej s_l)
else
(Ej s_l)))
def Lv (s0:Rule)(s2_l:List Token)(s2_end:Int):R Rule:=
 (Hw 2 s2_l s2_end).bind fun r=>
 .ok ({ Kind:=s0.Kind,C:=s0.C,A:=s0.A,Class:=s0.Class,Airport:=s0.Airport,N:=r.N,Hours:=s0.Hours }:Rule)
def Gc (class1:An)(s0:Int)(s3_l:List Token)(s3_end:Int):R Rule:=
 (Lv ({ Kind:=s0,C:=class1,A:=[],Class:=0,Airport:=0,N:=0,Hours:=({ From:=0,To:=0 }:Span) }:Rule) s3_l s3_end).bind fun r=>
 .ok r
def Lu (s0:Rule)(s2_l:List Token)(s2_end:Int):R Rule:=
 (Du 1 8 s2_l s2_end).bind fun r=>
 .ok ({ Kind:=s0.Kind,C:=s0.C,A:=s0.A,Class:=s0.Class,Airport:=s0.Airport,N:=r,Hours:=s0.Hours }:Rule)
def F8 (class1:An)(s0:Int)(s3_l:List Token)(s3_end:Int):R Rule:=
 (Lu ({ Kind:=s0,C:=class1,A:=[],Class:=0,Airport:=0,N:=0,Hours:=({ From:=0,To:=0 }:Span) }:Rule) s3_l s3_end).bind fun r=>
 .ok r
def If (s0_end:Int)(fL:List Token)(l1:List Mode)(r:Mode):R (((List Token)×(List Mode)) ⊕ ((List Mode)×(List Token))):=
 (Ce [44] (((fL.drop 1).drop 1).drop 1) s0_end).bind fun _=>
 .ok (.inl (((((fL.drop 1).drop 1).drop 1).drop 1),(l1++[r])))
def Ii (most:Int)(s0_end:Int)(fL:List Token)(l1:List Mode):R (((List Token)×(List Mode)) ⊕ ((List Mode)×(List Token))):=
 (F1 fL s0_end).bind fun r=>
 if(l1.length+[r].length) * 24≤D0 then
 (Fm 3 [44] (((fL.drop 1).drop 1).drop 1) s0_end).bind fun r1=>
 if r1 then
(if(((l1++[r]).length:Int)==most) then
((Bo 2 (((fL.drop 1).drop 1).drop 1) s0_end).bind fun _=>
 If s0_end fL l1 r)
else
(If s0_end fL l1 r))
else
(.ok (.inr (((l1++[r]),(((fL.drop 1).drop 1).drop 1))))) else .bad
def H2 (most:Int)(s0_l:List Token)(s0_end:Int)(l:List Volume):R ((List Mode)×(List Token)):=
 (loop (C2 fun fL l1=>Ii most s0_end fL l1) (s0_l,[])).bind (fun r=>.ok r)
def Fa (s:An)(s1_l:List Token)(s1_end:Int)(l:List Volume):R (Airport×(List Token)):=
 (H2 16 s1_l s1_end l).bind fun r=>
 .ok (({ Name:=s,Modes:=r.1 }:Airport),r.2)
def Gf (s0_end:Int)(fL:List Token)(l1:List An)(r:An):R (((List Token)×(List An)) ⊕ ((List An)×(List Token))):=
 (Ce [44] (fL.drop 1) s0_end).bind fun _=>
 .ok (.inl (((fL.drop 1).drop 1),(l1++[r])))
def Gh (most:Int)(s0_end:Int)(fL:List Token)(l1:List An):R (((List Token)×(List An)) ⊕ ((List An)×(List Token))):=
 (Ca fL s0_end).bind fun r=>
 if(l1.length+[r].length) * 16≤D0 then
 (Fm 3 [44] (fL.drop 1) s0_end).bind fun r1=>
 if r1 then
(if(((l1++[r]).length:Int)==most) then
((Bo 2 (fL.drop 1) s0_end).bind fun _=>
 Gf s0_end fL l1 r)
else
(Gf s0_end fL l1 r))
else
(.ok (.inr (((l1++[r]),(fL.drop 1))))) else .bad
def Eb (most:Int)(s0_l:List Token)(s0_end:Int)(l:List Volume):R ((List An)×(List Token)):=
 (loop (C2 fun fL l1=>Gh most s0_end fL l1) (s0_l,[])).bind (fun r=>.ok r)
def E8 (s:An)(s1_l:List Token)(s1_end:Int)(l:List Volume):R (Config×(List Token)):=
 (Ce [61] s1_l s1_end).bind fun _=>
 (Eb 64 (s1_l.drop 1) s1_end l).bind fun r1=>
 .ok (({ Name:=s,Names:=r1.1,Sectors:=[] }:Config),r1.2)
def E6 (s:An)(s1_l:List Token)(s1_end:Int)(l:List Volume):R (Route×(List Token)):=
 (Da [102,114,111,109] s1_l s1_end).bind fun _=>
 (Ca (s1_l.drop 1) s1_end).bind fun r1=>
 (Da [116,111] ((s1_l.drop 1).drop 1) s1_end).bind fun _=>
 (Ca (((s1_l.drop 1).drop 1).drop 1) s1_end).bind fun r3=>
 (Da [118,105,97] ((((s1_l.drop 1).drop 1).drop 1).drop 1) s1_end).bind fun _=>
 (Eb 8 (((((s1_l.drop 1).drop 1).drop 1).drop 1).drop 1) s1_end l).bind fun r5=>
 .ok (({ Name:=s,A:=r1,B:=r3,From:=0,To:=0,Names:=r5.1,Segments:=[] }:Route),r5.2)
def E5 (s:An)(s1_l:List Token)(s1_end:Int)(l:List Volume):R (Sector×(List Token)):=
 (Ce [61] s1_l s1_end).bind fun _=>
 (Eb 64 (s1_l.drop 1) s1_end l).bind fun r1=>
 (Da [114,97,100,97,114] r1.2 s1_end).bind fun _=>
 (Du 0 64 (r1.2.drop 1) s1_end).bind fun r3=>
 (Da [112,114,111,99,101,100,117,114,97,108] ((r1.2.drop 1).drop 1) s1_end).bind fun _=>
 (Du 0 r3 (((r1.2.drop 1).drop 1).drop 1) s1_end).bind fun r5=>
 .ok (({ Name:=s,Names:=r1.1,Volumes:=[],Radar:=r3,Procedural:=r5 }:Sector),((((r1.2.drop 1).drop 1).drop 1).drop 1))
def Gv (s0_end:Int)(fL:List Token)(l1:List Span)(r:Span):R (((List Token)×(List Span)) ⊕ ((List Span)×(List Token))):=
 (Ce [44] (((fL.drop 1).drop 1).drop 1) s0_end).bind fun _=>
 .ok (.inl (((((fL.drop 1).drop 1).drop 1).drop 1),(l1++[r])))
def Gw (most:Int)(s0_end:Int)(fL:List Token)(l1:List Span):R (((List Token)×(List Span)) ⊕ ((List Span)×(List Token))):=
 (Ir fL s0_end).bind fun r=>
 if(l1.length+[r].length) * 16≤D0 then
 (Fm 3 [44] (((fL.drop 1).drop 1).drop 1) s0_end).bind fun r1=>
 if r1 then
(if(((l1++[r]).length:Int)==most) then
((Bo 2 (((fL.drop 1).drop 1).drop 1) s0_end).bind fun _=>
 Gv s0_end fL l1 r)
else
(Gv s0_end fL l1 r))
else
(.ok (.inr (((l1++[r]),(((fL.drop 1).drop 1).drop 1))))) else .bad
def Fc (most:Int)(s0_l:List Token)(s0_end:Int)(l:List Volume):R ((List Span)×(List Token)):=
 (loop (C2 fun fL l1=>Gw most s0_end fL l1) (s0_l,[])).bind (fun r=>.ok r)
def Hj (text:An)(s0_l:List Token)(s0_end:Int)(l:List Volume):R ((List Span)×(List Token)):=
 (Fm 1 text s0_l s0_end).bind fun r=>
 if r then
((Da text s0_l s0_end).bind fun _=>
 (Fc 16 (s0_l.drop 1) s0_end l).bind fun r2=>
 .ok (r2.1,r2.2))
else
(.ok ([],s0_l))
def E9 (s:An)(s1_l:List Token)(s1_end:Int)(l:List Volume):R (Segment×(List Token)):=
 (Da [105,110] s1_l s1_end).bind fun _=>
 (Ca (s1_l.drop 1) s1_end).bind fun r1=>
 (Da [108,101,110,103,116,104] ((s1_l.drop 1).drop 1) s1_end).bind fun _=>
 (Du 1 4096 (((s1_l.drop 1).drop 1).drop 1) s1_end).bind fun r3=>
 (Hj [111,112,101,110] ((((s1_l.drop 1).drop 1).drop 1).drop 1) s1_end l).bind fun r4=>
 .ok (({ Name:=s,In:=r1,Volume:=0,Length:=r3,Open:=r4.1 }:Segment),r4.2)
def Fb (s:An)(s1_l:List Token)(s1_end:Int)(l:List Volume):R (Volume×(List Token)):=
 (Hj [99,108,111,115,101,100] s1_l s1_end l).bind fun r=>
 .ok (({ Name:=s,Closed:=r.1 }:Volume),r.2)
def Ix (s0_l:List Token)(s0_end:Int)(l:List Volume):R ((List Token)×(List Volume)):=
 if(0:Int)≤1∧1≤(s0_l.length:Int) then
 (Ca (s0_l.drop 1) s0_end).bind fun r1=>
 (Fb r1 ((s0_l.drop 1).drop 1) s0_end l).bind fun r2=>
 (Ce [59] r2.2 s0_end).bind fun _=>
 if(l.length+[r2.1].length) * 40≤D0 then
 .ok ((r2.2.drop 1),(l++[r2.1])) else .bad else .bad
def Il (most:Int)(s0_l:List Token)(s0_end:Int)(l:List Volume):R ((List Token)×(List Volume)):=
 if((l.length:Int)==most) then
((Bo 2 s0_l s0_end).bind fun _=>
 Ix s0_l s0_end l)
else
(Ix s0_l s0_end l)
def J2 (s0_l:List Token)(s0_end:Int)(l:List Volume):R ((List Token)×(List Volume)):=
 (Il 64 s0_l s0_end l).bind fun r=>
 .ok (r.1,r.2)
def I6 (s0_l:List Token)(s0_end:Int)(l:List Volume)(l1:List Sector):R ((List Token)×(List Sector)):=
 if(0:Int)≤1∧1≤(s0_l.length:Int) then
 (Ca (s0_l.drop 1) s0_end).bind fun r1=>
 (E5 r1 ((s0_l.drop 1).drop 1) s0_end l).bind fun r2=>
 (Ce [59] r2.2 s0_end).bind fun _=>
 if(l1.length+[r2.1].length) * 80≤D0 then
 .ok ((r2.2.drop 1),(l1++[r2.1])) else .bad else .bad
def Io (most:Int)(s0_l:List Token)(s0_end:Int)(l:List Volume)(l1:List Sector):R ((List Token)×(List Sector)):=
 if((l1.length:Int)==most) then
((Bo 2 s0_l s0_end).bind fun _=>
 I6 s0_l s0_end l l1)
else
(I6 s0_l s0_end l l1)
def Ka (s0_l:List Token)(s0_end:Int)(l:List Volume)(l1:List Sector):R ((List Token)×(List Sector)):=
 (Io 64 s0_l s0_end l l1).bind fun r=>
 .ok (r.1,r.2)
def I0 (s0_l:List Token)(s0_end:Int)(l:List Volume)(l1:List Config):R ((List Token)×(List Config)):=
 if(0:Int)≤1∧1≤(s0_l.length:Int) then
 (Ca (s0_l.drop 1) s0_end).bind fun r1=>
 (E8 r1 ((s0_l.drop 1).drop 1) s0_end l).bind fun r2=>
 (Ce [59] r2.2 s0_end).bind fun _=>
 if(l1.length+[r2.1].length) * 64≤D0 then
 .ok ((r2.2.drop 1),(l1++[r2.1])) else .bad else .bad
def Ik (most:Int)(s0_l:List Token)(s0_end:Int)(l:List Volume)(l1:List Config):R ((List Token)×(List Config)):=
 if((l1.length:Int)==most) then
((Bo 2 s0_l s0_end).bind fun _=>
 I0 s0_l s0_end l l1)
else
(I0 s0_l s0_end l l1)
def Kf (s0_l:List Token)(s0_end:Int)(l:List Volume)(l1:List Config):R ((List Token)×(List Config)):=
 (Ik 32 s0_l s0_end l l1).bind fun r=>
 .ok (r.1,r.2)
def Ib (s0_l:List Token)(s0_end:Int)(l:List Volume)(l1:List Segment):R ((List Token)×(List Segment)):=
 if(0:Int)≤1∧1≤(s0_l.length:Int) then
 (Ca (s0_l.drop 1) s0_end).bind fun r1=>
 (E9 r1 ((s0_l.drop 1).drop 1) s0_end l).bind fun r2=>
 (Ce [59] r2.2 s0_end).bind fun _=>
 if(l1.length+[r2.1].length) * 72≤D0 then
 .ok ((r2.2.drop 1),(l1++[r2.1])) else .bad else .bad
def Hx (most:Int)(s0_l:List Token)(s0_end:Int)(l:List Volume)(l1:List Segment):R ((List Token)×(List Segment)):=
 if((l1.length:Int)==most) then
((Bo 2 s0_l s0_end).bind fun _=>
 Ib s0_l s0_end l l1)
else
(Ib s0_l s0_end l l1)
def Kc (s0_l:List Token)(s0_end:Int)(l:List Volume)(l1:List Segment):R ((List Token)×(List Segment)):=
 (Hx 128 s0_l s0_end l l1).bind fun r=>
 .ok (r.1,r.2)
def Jh (s0_l:List Token)(s0_end:Int)(l:List Volume)(l1:List Route):R ((List Token)×(List Route)):=
 if(0:Int)≤1∧1≤(s0_l.length:Int) then
 (Ca (s0_l.drop 1) s0_end).bind fun r1=>
 (E6 r1 ((s0_l.drop 1).drop 1) s0_end l).bind fun r2=>
 (Ce [59] r2.2 s0_end).bind fun _=>
 if(l1.length+[r2.1].length) * 112≤D0 then
 .ok ((r2.2.drop 1),(l1++[r2.1])) else .bad else .bad
def I9 (most:Int)(s0_l:List Token)(s0_end:Int)(l:List Volume)(l1:List Route):R ((List Token)×(List Route)):=
 if((l1.length:Int)==most) then
((Bo 2 s0_l s0_end).bind fun _=>
 Jh s0_l s0_end l l1)
else
(Jh s0_l s0_end l l1)
def J5 (s0_l:List Token)(s0_end:Int)(l:List Volume)(l1:List Route):R ((List Token)×(List Route)):=
 (I9 64 s0_l s0_end l l1).bind fun r=>
 .ok (r.1,r.2)
def Ig (s0_l:List Token)(s0_end:Int)(l:List Volume)(l1:List Airport):R ((List Token)×(List Airport)):=
 if(0:Int)≤1∧1≤(s0_l.length:Int) then
 (Ca (s0_l.drop 1) s0_end).bind fun r1=>
 (Fa r1 ((s0_l.drop 1).drop 1) s0_end l).bind fun r2=>
 (Ce [59] r2.2 s0_end).bind fun _=>
 if(l1.length+[r2.1].length) * 40≤D0 then
 .ok ((r2.2.drop 1),(l1++[r2.1])) else .bad else .bad
def Hy (most:Int)(s0_l:List Token)(s0_end:Int)(l:List Volume)(l1:List Airport):R ((List Token)×(List Airport)):=
 if((l1.length:Int)==most) then
((Bo 2 s0_l s0_end).bind fun _=>
 Ig s0_l s0_end l l1)
else
(Ig s0_l s0_end l l1)
def Kd (s0_l:List Token)(s0_end:Int)(l:List Volume)(l1:List Airport):R ((List Token)×(List Airport)):=
 (Hy 16 s0_l s0_end l l1).bind fun r=>
 .ok (r.1,r.2)
def Jj (s0_l:List Token)(s0_end:Int)(l:List Class):R (List Class):=
 if(0:Int)≤1∧1≤(s0_l.length:Int) then
 (Ca (s0_l.drop 1) s0_end).bind fun r1=>
 (Fw r1 ((s0_l.drop 1).drop 1) s0_end).bind fun r2=>
 (Ce [59] ((((((((s0_l.drop 1).drop 1).drop 1).drop 1).drop 1).drop 1).drop 1).drop 1) s0_end).bind fun _=>
 if(l.length+[r2].length) * 40≤D0 then
 .ok (l++[r2]) else .bad else .bad
def Jd (most:Int)(s0_l:List Token)(s0_end:Int)(l:List Class):R (List Class):=
 if((l.length:Int)==most) then
((Bo 2 s0_l s0_end).bind fun _=>
 Jj s0_l s0_end l)
else
(Jj s0_l s0_end l)
def Kb (s0_l:List Token)(s0_end:Int)(l:List Class):R (List Class):=
 (Jd 8 s0_l s0_end l).bind fun r=>
 .ok r
def J7 (s0_l:List Token)(s0_end:Int)(l:List Rule)(s2:Int):R (List Rule):=
 if(0:Int)≤1∧1≤(s0_l.length:Int) then
 (Ca (s0_l.drop 1) s0_end).bind fun r1=>
 (F5 r1 s2 ((s0_l.drop 1).drop 1) s0_end).bind fun r2=>
 (Ce [59] (((((((s0_l.drop 1).drop 1).drop 1).drop 1).drop 1).drop 1).drop 1) s0_end).bind fun _=>
 if(l.length+[r2].length) * 80≤D0 then
 .ok (l++[r2]) else .bad else .bad
def Jx (most:Int)(s0_l:List Token)(s0_end:Int)(l:List Rule)(s2:Int):R (List Rule):=
 if((l.length:Int)==most) then
((Bo 2 s0_l s0_end).bind fun _=>
 J7 s0_l s0_end l s2)
else
(J7 s0_l s0_end l s2)
def L5 (kind:Int)(s0_l:List Token)(s0_end:Int)(l:List Rule):R (List Rule):=
 (Jx 64 s0_l s0_end l kind).bind fun r=>
 .ok r
def Kh (s0_l:List Token)(s0_end:Int)(l:List Rule):R (List Rule):=
 (L5 1 s0_l s0_end l).bind fun r=>
 .ok r
def Ke (s0_l:List Token)(s0_end:Int)(l:List Rule)(s2:Int):R (List Rule):=
 if(0:Int)≤1∧1≤(s0_l.length:Int) then
 (Ca (s0_l.drop 1) s0_end).bind fun r1=>
 (Hu r1 s2).bind fun _=>
 (Ce [59] ((s0_l.drop 1).drop 1) s0_end).bind fun _=>
 if(l.length+[({ Kind:=s2,C:=r1,A:=[],Class:=0,Airport:=0,N:=0,Hours:=({ From:=0,To:=0 }:Span) }:Rule)].length) * 80≤D0 then
 .ok (l++[({ Kind:=s2,C:=r1,A:=[],Class:=0,Airport:=0,N:=0,Hours:=({ From:=0,To:=0 }:Span) }:Rule)]) else .bad else .bad
def Jy (most:Int)(s0_l:List Token)(s0_end:Int)(l:List Rule)(s2:Int):R (List Rule):=
 if((l.length:Int)==most) then
((Bo 2 s0_l s0_end).bind fun _=>
 Ke s0_l s0_end l s2)
else
(Ke s0_l s0_end l s2)
def L6 (kind:Int)(s0_l:List Token)(s0_end:Int)(l:List Rule):R (List Rule):=
 (Jy 64 s0_l s0_end l kind).bind fun r=>
 .ok r
def J9 (s0_l:List Token)(s0_end:Int)(l:List Rule):R (List Rule):=
 (L6 2 s0_l s0_end l).bind fun r=>
 .ok r
def J1 (s0_l:List Token)(s0_end:Int)(l:List Rule)(s2:Int):R (List Rule):=
 if(0:Int)≤1∧1≤(s0_l.length:Int) then
 (Ca (s0_l.drop 1) s0_end).bind fun r1=>
 (Gc r1 s2 ((s0_l.drop 1).drop 1) s0_end).bind fun r2=>
 (Ce [59] (((s0_l.drop 1).drop 1).drop 1) s0_end).bind fun _=>
 if(l.length+[r2].length) * 80≤D0 then
 .ok (l++[r2]) else .bad else .bad
def Js (most:Int)(s0_l:List Token)(s0_end:Int)(l:List Rule)(s2:Int):R (List Rule):=
 if((l.length:Int)==most) then
((Bo 2 s0_l s0_end).bind fun _=>
 J1 s0_l s0_end l s2)
else
(J1 s0_l s0_end l s2)
def Ma (kind:Int)(s0_l:List Token)(s0_end:Int)(l:List Rule):R (List Rule):=
 (Js 64 s0_l s0_end l kind).bind fun r=>
 .ok r
def Jk (s0_l:List Token)(s0_end:Int)(l:List Rule):R (List Rule):=
 (Ma 4 s0_l s0_end l).bind fun r=>
 .ok r
def J6 (s0_l:List Token)(s0_end:Int)(l:List Rule)(s2:Int):R (List Rule):=
 if(0:Int)≤1∧1≤(s0_l.length:Int) then
 (Ca (s0_l.drop 1) s0_end).bind fun r1=>
 (F8 r1 s2 ((s0_l.drop 1).drop 1) s0_end).bind fun r2=>
 (Ce [59] (((s0_l.drop 1).drop 1).drop 1) s0_end).bind fun _=>
 if(l.length+[r2].length) * 80≤D0 then
 .ok (l++[r2]) else .bad else .bad
def Jz (most:Int)(s0_l:List Token)(s0_end:Int)(l:List Rule)(s2:Int):R (List Rule):=
 if((l.length:Int)==most) then
((Bo 2 s0_l s0_end).bind fun _=>
 J6 s0_l s0_end l s2)
else
(J6 s0_l s0_end l s2)
def L4 (kind:Int)(s0_l:List Token)(s0_end:Int)(l:List Rule):R (List Rule):=
 (Jz 64 s0_l s0_end l kind).bind fun r=>
 .ok r
def Ji (s0_l:List Token)(s0_end:Int)(l:List Rule):R (List Rule):=
 (L4 3 s0_l s0_end l).bind fun r=>
 .ok r
def E2 (s0_l:List Token)(s0_end:Int)(l:List Volume)(l1:List Sector)(l2:List Config)(l3:List Segment)(l4:List Route)(l5:List Airport)(l6:List Class)(l7:List Rule):R ((List Token)×(List Volume)×(List Sector)×(List Config)×(List Segment)×(List Route)×(List Airport)×(List Class)×(List Rule)):=
 (Nz ({ fL:=s0_l,fEnd:=s0_end,fA:=({ Volumes:=l,Sectors:=l1,Configs:=l2,Segments:=l3,Routes:=l4,Airports:=l5,Classes:=l6,Rules:=l7 }:Airspace) }:T104) 80).bind fun _=>
 .ok (s0_l,l,l1,l2,l3,l4,l5,l6,l7)
def F0 (s0_l:List Token)(s0_end:Int)(l:List Volume)(l1:List Sector)(l2:List Config)(l3:List Segment)(l4:List Route)(l5:List Airport)(l6:List Class)(l7:List Rule):R ((List Token)×(List Volume)×(List Sector)×(List Config)×(List Segment)×(List Route)×(List Airport)×(List Class)×(List Rule)):=
 (Es s0_l 0).bind fun a=>
 if(a.Kind==1) then
(if(a.Text==[97,105,114,112,111,114,116]) then
((Kd s0_l s0_end l l5).bind fun r=>
 .ok (r.1,l,l1,l2,l3,l4,r.2,l6,l7))
else
(if(a.Text==[99,108,97,115,115]) then
((Kb s0_l s0_end l6).bind fun r1=>
 .ok ((((((((((s0_l.drop 1).drop 1).drop 1).drop 1).drop 1).drop 1).drop 1).drop 1).drop 1),l,l1,l2,l3,l4,l5,r1,l7))
else
(if(a.Text==[99,111,110,102,105,103]) then
((Kf s0_l s0_end l l2).bind fun r2=>
 .ok (r2.1,l,l1,r2.2,l3,l4,l5,l6,l7))
else
(if(a.Text==[99,117,114,102,101,119]) then
((Kh s0_l s0_end l7).bind fun r3=>
 .ok (((((((((s0_l.drop 1).drop 1).drop 1).drop 1).drop 1).drop 1).drop 1).drop 1),l,l1,l2,l3,l4,l5,l6,r3))
else
(if(a.Text==[101,120,101,109,112,116]) then
((J9 s0_l s0_end l7).bind fun r4=>
 .ok ((((s0_l.drop 1).drop 1).drop 1),l,l1,l2,l3,l4,l5,l6,r4))
else
(if(a.Text==[108,111,110,103,101,115,116]) then
((Jk s0_l s0_end l7).bind fun r5=>
 .ok (((((s0_l.drop 1).drop 1).drop 1).drop 1),l,l1,l2,l3,l4,l5,l6,r5))
else
(if(a.Text==[114,111,117,116,101]) then
((J5 s0_l s0_end l l4).bind fun r6=>
 .ok (r6.1,l,l1,l2,l3,r6.2,l5,l6,l7))
else
(if(a.Text==[115,101,99,116,111,114]) then
((Ka s0_l s0_end l l1).bind fun r7=>
 .ok (r7.1,l,r7.2,l2,l3,l4,l5,l6,l7))
else
(if(a.Text==[115,101,103,109,101,110,116]) then
((Kc s0_l s0_end l l3).bind fun r8=>
 .ok (r8.1,l,l1,l2,r8.2,l4,l5,l6,l7))
else
(if(a.Text==[118,111,108,117,109,101]) then
((J2 s0_l s0_end l).bind fun r9=>
 .ok (r9.1,r9.2,l1,l2,l3,l4,l5,l6,l7))
else
(if(a.Text==[119,101,105,103,104,116]) then
((Ji s0_l s0_end l7).bind fun r10=>
 .ok (((((s0_l.drop 1).drop 1).drop 1).drop 1),l,l1,l2,l3,l4,l5,l6,r10))
else
(E2 s0_l s0_end l l1 l2 l3 l4 l5 l6 l7))))))))))))
else
(E2 s0_l s0_end l l1 l2 l3 l4 l5 l6 l7)
def Gj (n:Int)(n2:Int):R (Int×Int):=
 .ok (n,n2)
def Kp (src:An)(fL:List Token)(l:List Airport)(l1:List Class)(l2:List Config)(l3:List Rule)(l4:List Route)(l5:List Sector)(l6:List Segment)(l7:List Volume):R (((List Token)×(List Airport)×(List Class)×(List Config)×(List Rule)×(List Route)×(List Sector)×(List Segment)×(List Volume)) ⊕ ((List Token)×(List Airport)×(List Class)×(List Config)×(List Rule)×(List Route)×(List Sector)×(List Segment)×(List Volume))):=
 if(fL.length:Int) > 0 then
((F0 fL (src.length:Int) l7 l5 l2 l6 l4 l l1 l3).bind fun r1=>
 .ok (.inl (r1.1,r1.2.2.2.2.2.2.1,r1.2.2.2.2.2.2.2.1,r1.2.2.2.1,r1.2.2.2.2.2.2.2.2,r1.2.2.2.2.2.1,r1.2.2.1,r1.2.2.2.2.1,r1.2.1)))
else
(.ok (.inr ((fL,l,l1,l2,l3,l4,l5,l6,l7))))
def Su (fL3:List Token)(l8:List Airport)(l9:List Class)(l10:List Config)(l11:List Rule)(l12:List Route)(l13:List Sector)(l14:List Segment)(l15:List Volume):R (Airspace×Int×Int):=
 .ok (({ Volumes:=l15,Sectors:=l13,Configs:=l10,Segments:=l14,Routes:=l12,Airports:=l8,Classes:=l9,Rules:=l11 }:Airspace),0,0)
def Tx (src:An):R (Airspace×Int×Int):=
 ((Af2 src).np).bind fun r=>
 if(r.2.2 != 0) then
(.ok (({ Volumes:=[],Sectors:=[],Configs:=[],Segments:=[],Routes:=[],Airports:=[],Classes:=[],Rules:=[] }:Airspace),r.2.1,r.2.2))
else
((loop (un9 fun fL l l1 l2 l3 l4 l5 l6 l7=>Kp src fL l l1 l2 l3 l4 l5 l6 l7) (r.1,[],[],[],[],[],[],[],[])).bind (un9 fun fL3 l8 l9 l10 l11 l12 l13 l14 l15=>Su fL3 l8 l9 l10 l11 l12 l13 l14 l15))
def Q3 (src:An):R (Airspace×Int×Int):=
 (Tx src).catch' (P8 101 .i64 .i64 (fun n n2=>(Gj n n2).bind fun p=>.ok (({ Volumes:=[],Sectors:=[],Configs:=[],Segments:=[],Routes:=[],Airports:=[],Classes:=[],Rules:=[] }:Airspace),p.1,p.2)) (fun _=>.bad))
def Qk (a:Airspace):R Bool:=
 (Zx).bind fun r=>
 if r then
((Xy a).bind fun r1=>
 (if(!r1) then R.ok true else(Xv a).bind fun r2=>
 R.ok (!r2)).bind (fun(b:Bool)=>if b then
(.ok true)
else
((Nu a).bind fun r3=>
 if((r3.2 != 0)||(decide ((r3.1.length:Int) > 65536))) then
(.ok true)
else
((Q3 r3.1).bind fun r4=>
 (Ic a).bind fun r5=>
 (Ic r4.1).bind fun r6=>
 (if((r4.2.2==0)&&(r5.2==r6.2)) then(O3 r5.1 r6.1).bind fun r7=>
 R.ok r7 else R.ok false).bind (fun(b1:Bool)=>.ok b1)))))
else
(.ok false)
end
end Go.Am
namespace Go.Am
open Go
set_option linter.unusedVariables false
def Tm:Ty Span:=⟨C0,fun x=>(Ea .i64).good x.From∧(Ea .i64).good x.To∧True,fun x=>((Ea .i64).bulk x.From+((Ea .i64).bulk x.To+(0)))+1⟩
def Ts:Ty Volume:=⟨Ar,fun x=>D7.good x.Name∧(Ee 2 Tm).good x.Closed∧True,fun x=>(D7.bulk x.Name+((Ee 2 Tm).bulk x.Closed+(0)))+1⟩
def Py:Ty Sector:=⟨A9,fun x=>D7.good x.Name∧(Ee 1 D7).good x.Names∧(Ee 1 (Ea .i64)).good x.Volumes∧(Ea .i64).good x.Radar∧(Ea .i64).good x.Procedural∧True,fun x=>(D7.bulk x.Name+((Ee 1 D7).bulk x.Names+((Ee 1 (Ea .i64)).bulk x.Volumes+((Ea .i64).bulk x.Radar+((Ea .i64).bulk x.Procedural+(0))))))+1⟩
def P0:Ty Config:=⟨Bh,fun x=>D7.good x.Name∧(Ee 1 D7).good x.Names∧(Ee 1 (Ea .i64)).good x.Sectors∧True,fun x=>(D7.bulk x.Name+((Ee 1 D7).bulk x.Names+((Ee 1 (Ea .i64)).bulk x.Sectors+(0))))+1⟩
def R0:Ty Segment:=⟨Bc,fun x=>D7.good x.Name∧D7.good x.In∧(Ea .i64).good x.Volume∧(Ea .i64).good x.Length∧(Ee 2 Tm).good x.Open∧True,fun x=>(D7.bulk x.Name+(D7.bulk x.In+((Ea .i64).bulk x.Volume+((Ea .i64).bulk x.Length+((Ee 2 Tm).bulk x.Open+(0))))))+1⟩
def Sb:Ty Route:=⟨Bs,fun x=>D7.good x.Name∧D7.good x.A∧D7.good x.B∧(Ea .i64).good x.From∧(Ea .i64).good x.To∧(Ee 1 D7).good x.Names∧(Ee 1 (Ea .i64)).good x.Segments∧True,fun x=>(D7.bulk x.Name+(D7.bulk x.A+(D7.bulk x.B+((Ea .i64).bulk x.From+((Ea .i64).bulk x.To+((Ee 1 D7).bulk x.Names+((Ee 1 (Ea .i64)).bulk x.Segments+(0))))))))+1⟩
def Abw:Ty Mode:=⟨Dw,fun x=>D7.good x.Name∧(Ea .i64).good x.Places∧True,fun x=>(D7.bulk x.Name+((Ea .i64).bulk x.Places+(0)))+1⟩
def Oc:Ty Airport:=⟨A5,fun x=>D7.good x.Name∧(Ee 2 Abw).good x.Modes∧True,fun x=>(D7.bulk x.Name+((Ee 2 Abw).bulk x.Modes+(0)))+1⟩
def Aad:Ty Class:=⟨Bn,fun x=>D7.good x.Name∧(Ea .i64).good x.Slow∧(Ea .i64).good x.Fast∧(Ea .i64).good x.Places∧True,fun x=>(D7.bulk x.Name+((Ea .i64).bulk x.Slow+((Ea .i64).bulk x.Fast+((Ea .i64).bulk x.Places+(0)))))+1⟩
def Ad1:Ty Rule:=⟨Bd,fun x=>(Ea .i64).good x.Kind∧D7.good x.C∧D7.good x.A∧(Ea .i64).good x.Class∧(Ea .i64).good x.Airport∧(Ea .i64).good x.N∧Tm.good x.Hours∧True,fun x=>((Ea .i64).bulk x.Kind+(D7.bulk x.C+(D7.bulk x.A+((Ea .i64).bulk x.Class+((Ea .i64).bulk x.Airport+((Ea .i64).bulk x.N+(Tm.bulk x.Hours+(0))))))))+1⟩
def Lo:Ty Airspace:=⟨Ax,fun x=>(Ee 2 Ts).good x.Volumes∧(Ee 5 Py).good x.Sectors∧(Ee 3 P0).good x.Configs∧(Ee 5 R0).good x.Segments∧(Ee 7 Sb).good x.Routes∧(Ee 2 Oc).good x.Airports∧(Ee 4 Aad).good x.Classes∧(Ee 8 Ad1).good x.Rules∧True,fun x=>((Ee 2 Ts).bulk x.Volumes+((Ee 5 Py).bulk x.Sectors+((Ee 3 P0).bulk x.Configs+((Ee 5 R0).bulk x.Segments+((Ee 7 Sb).bulk x.Routes+((Ee 2 Oc).bulk x.Airports+((Ee 4 Aad).bulk x.Classes+((Ee 8 Ad1).bulk x.Rules+(0)))))))))+1⟩
def Pt:Prop := ∀ (a0:Airspace) (_:Lo.good a0),Lo.bulk a0≤1048576→Qk a0=.ok true
end Go.Am
namespace Go.Am
open Go
set_option linter.unusedVariables false
set_option linter.unusedSimpArgs false
set_option maxRecDepth 100000
abbrev p91:PV:=⟨34,.int .i64 91⟩
abbrev p90:PV:=⟨34,.int .i64 90⟩
theorem Aoq (b:Bool)(e:Int):Ju b e=if b then .ok () else .pan ⟨34,.int .i64 e⟩:=rfl
def Sq (M:List (An×Int))(ns:List An):Prop := ∀ x,Cv M x=(pos ns x).map fun i=>(i:Int)
def I5 (ns:List An)(x:An):Bool:=(pos ns x).isSome
def Qv (ns:List An)(m:R (List (An×Int))):Prop:=(ns.Nodup ∧ ∃ M,m=.ok M∧Sq M ns)∨(¬ ns.Nodup∧m=.pan p91)
theorem Sz {m:List (An×Int)}{x:An}{j:Nat}:((Ju (!(Option.isSome (Cv m x))) 91).bind fun _=>(.ok (G5 m x (j:Int)):R (List (An×Int))))=if(Cv m x).isSome then .pan p91 else .ok (G5 m x (j:Int)):=by
 rw [Aoq]
 cases (Cv m x).isSome <;> simp
theorem Ams (l:List Volume):Qv (l.map (·.Name)) (Iy l):=by
 have:=Mk (b:=fun j a=>fun m=>Fq j a m) (g:=(·.Name)) (v:=p91) (fun j a m=>by simp only [Fq,Q5,R.ok_bind,Sz]) l
 simpa [Qv,Sq,Iy] using this
theorem Amj (l:List Sector):Qv (l.map (·.Name)) (Lq l):=by
 have:=Mk (b:=fun j a=>fun m=>He j a m) (g:=(·.Name)) (v:=p91) (fun j a m=>by simp only [He,Pp,R.ok_bind,Sz]) l
 simpa [Qv,Sq,Lq] using this
theorem Ami (l:List Config):Qv (l.map (·.Name)) (Lk l):=by
 have:=Mk (b:=fun j a=>fun m=>Hf j a m) (g:=(·.Name)) (v:=p91) (fun j a m=>by simp only [Hf,Pi,R.ok_bind,Sz]) l
 simpa [Qv,Sq,Lk] using this
theorem Akh (l:List Segment):Qv (l.map (·.Name)) (Ky l):=by
 have:=Mk (b:=fun j a=>fun m=>Gt j a m) (g:=(·.Name)) (v:=p91) (fun j a m=>by simp only [Gt,Pq,R.ok_bind,Sz]) l
 simpa [Qv,Sq,Ky] using this
theorem Anq (l:List Route):Qv (l.map (·.Name)) (Mb l):=by
 have:=Mk (b:=fun j a=>fun m=>H3 j a m) (g:=(·.Name)) (v:=p91) (fun j a m=>by simp only [H3,Po,R.ok_bind,Sz]) l
 simpa [Qv,Sq,Mb] using this
theorem Akl (l:List Airport):Qv (l.map (·.Name)) (Ho l):=by
 have:=Mk (b:=fun j a=>fun m=>E3 j a m) (g:=(·.Name)) (v:=p91) (fun j a m=>by simp only [E3,P2,R.ok_bind,Sz]) l
 simpa [Qv,Sq,Ho] using this
theorem Am7 (l:List Class):Qv (l.map (·.Name)) (J4 l):=by
 have:=Mk (b:=fun j a=>fun m=>Gd j a m) (g:=(·.Name)) (v:=p91) (fun j a m=>by simp only [Gd,Si,R.ok_bind,Sz]) l
 simpa [Qv,Sq,J4] using this
theorem Ao5 (l:List Mode):Qv (l.map (·.Name)) (M9 l):=by
 have:=Mk (b:=fun j a=>fun m=>Im j a m) (g:=(·.Name)) (v:=p91) (fun j a m=>by simp only [Im,Pj,R.ok_bind,Sz]) l
 simpa [Qv,Sq,M9] using this
theorem of_eq {M:List (An×Int)}{ns:List An}(h:Sq M ns)(x:An):Dx M x=if I5 ns x then .ok (Vg ns x) else .pan p90:=by
 unfold Dx I5 Vg
 rw [h x,Aoq]
 cases pos ns x <;> simp
theorem Ak5 {M:List (An×Int)}{ns:List An}(h:Sq M ns)(l:List An)(hl:l.length * 8≤D0):Ff M l=if l.all (I5 ns) then .ok (l.map (Vg ns)) else .pan p90:=by
 unfold Ff
 rw [Ahl (F:=Dx M) (c:=8) (fun j a s=>by simp [L0]) l 0 [] (by simpa using hl),W2 (G:=Vg ns) (p:=I5 ns) (v:=p90) l (fun a _=>of_eq h a)]
 cases l.all (I5 ns) <;> simp
def Ab4 (vs:List An)(s:Sector):Sector:={ s with Volumes:=s.Names.map (Vg vs) }
def Abp (ss:List An)(s:Config):Config:={ s with Sectors:=s.Names.map (Vg ss) }
def Zr (vs:List An)(s:Segment):Segment:={ s with Volume:=Vg vs s.In }
def Adt (gs Jv:List An)(r:Route):Route:={ r with From:=Vg Jv r.A,To:=Vg Jv r.B,Segments:=r.Names.map (Vg gs) }
def Afz (Jv cs:List An)(r:Rule):Rule:={ r with Class:=Vg cs r.C,Airport:=if r.Kind==1 then Vg Jv r.A else 0 }
def Aaa (vs:List An)(s:Sector):Bool:=s.Names.all (I5 vs)
def Aai (ss:List An)(s:Config):Bool:=s.Names.all (I5 ss)
def Xt (vs:List An)(s:Segment):Bool:=I5 vs s.In
def Adg (gs Jv:List An)(r:Route):Bool:=I5 Jv r.A&&I5 Jv r.B&&r.Names.all (I5 gs)
def Aex (Jv cs:List An)(r:Rule):Bool:=I5 cs r.C&&(!(r.Kind==1)||I5 Jv r.A)
structure Small (N:Nat)(a:Airspace):Prop where
 v:a.Volumes.length≤N
 s:a.Sectors.length≤N
 c:a.Configs.length≤N
 g:a.Segments.length≤N
 r:a.Routes.length≤N
 p:a.Airports.length≤N
 k:a.Classes.length≤N
 u:a.Rules.length≤N
 sn : ∀ x ∈ a.Sectors,x.Names.length≤N
 cn : ∀ x ∈ a.Configs,x.Names.length≤N
 rn : ∀ x ∈ a.Routes,x.Names.length≤N
 pm : ∀ x ∈ a.Airports,x.Modes.length≤N
theorem Ann {a:Airspace}{N:Nat}(h:Lo.bulk a≤N):Small N a:=by
 have e:Lo.bulk a=((Ee 2 Ts).bulk a.Volumes+((Ee 5 Py).bulk a.Sectors+((Ee 3 P0).bulk a.Configs+((Ee 5 R0).bulk a.Segments+((Ee 7 Sb).bulk a.Routes+((Ee 2 Oc).bulk a.Airports+((Ee 4 Aad).bulk a.Classes+((Ee 8 Ad1).bulk a.Rules+0))))))))+1:=rfl
 rw [e] at h
 have h1:=Kr (st:=2) (T:=Ts) (fun a=>Nat.le_add_left _ _) a.Volumes
 have h2:=Kr (st:=5) (T:=Py) (fun a=>Nat.le_add_left _ _) a.Sectors
 have h3:=Kr (st:=3) (T:=P0) (fun a=>Nat.le_add_left _ _) a.Configs
 have h4:=Kr (st:=5) (T:=R0) (fun a=>Nat.le_add_left _ _) a.Segments
 have h5:=Kr (st:=7) (T:=Sb) (fun a=>Nat.le_add_left _ _) a.Routes
 have h6:=Kr (st:=2) (T:=Oc) (fun a=>Nat.le_add_left _ _) a.Airports
 have h7:=Kr (st:=4) (T:=Aad) (fun a=>Nat.le_add_left _ _) a.Classes
 have h8:=Kr (st:=8) (T:=Ad1) (fun a=>Nat.le_add_left _ _) a.Rules
 refine⟨by omega,by omega,by omega,by omega,by omega,by omega,by omega,by omega,fun x hx=>?_,fun x hx=>?_,fun x hx=>?_,fun x hx=>?_⟩
 ·have k1:=So (st:=5) (T:=Py) hx
  have k2:=Kr (st:=1) (T:=D7) Agk x.Names
  have k3:(Ee 1 D7).bulk x.Names≤Py.bulk x:=by simp only [Py]; omega
  omega
 ·have k1:=So (st:=3) (T:=P0) hx
  have k2:=Kr (st:=1) (T:=D7) Agk x.Names
  have k3:(Ee 1 D7).bulk x.Names≤P0.bulk x:=by simp only [P0]; omega
  omega
 ·have k1:=So (st:=7) (T:=Sb) hx
  have k2:=Kr (st:=1) (T:=D7) Agk x.Names
  have k3:(Ee 1 D7).bulk x.Names≤Sb.bulk x:=by simp only [Sb]; omega
  omega
 ·have k1:=So (st:=2) (T:=Oc) hx
  have k2:=Kr (st:=2) (T:=Abw) (fun a=>Nat.le_add_left _ _) x.Modes
  have k3:(Ee 2 Abw).bulk x.Modes≤Oc.bulk x:=by simp only [Oc]; omega
  omega
def vs (a:Airspace):List An:=a.Volumes.map (·.Name)
def ss (a:Airspace):List An:=a.Sectors.map (·.Name)
def cs (a:Airspace):List An:=a.Configs.map (·.Name)
def gs (a:Airspace):List An:=a.Segments.map (·.Name)
def rs (a:Airspace):List An:=a.Routes.map (·.Name)
def Jv (a:Airspace):List An:=a.Airports.map (·.Name)
def ks (a:Airspace):List An:=a.Classes.map (·.Name)
def Aq9:Airspace:={ Volumes:=[],Sectors:=[],Configs:=[],Segments:=[],Routes:=[],Airports:=[],Classes:=[],Rules:=[] }
def Sr (a:Airspace):Prop:=(vs a).Nodup∧(ss a).Nodup∧(cs a).Nodup∧(gs a).Nodup∧(rs a).Nodup∧(Jv a).Nodup∧(ks a).Nodup ∧ ∀ p ∈ a.Airports,(p.Modes.map (·.Name)).Nodup
instance (a:Airspace):Decidable (Sr a):=by unfold Sr; infer_instance
def Um (a:Airspace):Bool:=a.Sectors.all (Aaa (vs a))&&a.Configs.all (Aai (ss a))&&a.Segments.all (Xt (vs a))&&a.Routes.all (Adg (gs a) (Jv a))&&a.Rules.all (Aex (Jv a) (ks a))
def W1 (a:Airspace):Airspace:={ a with Sectors:=a.Sectors.map (Ab4 (vs a)),Configs:=a.Configs.map (Abp (ss a)),Segments:=a.Segments.map (Zr (vs a)),Routes:=a.Routes.map (Adt (gs a) (Jv a)),Rules:=a.Rules.map (Afz (Jv a) (ks a)) }
def resolve (a:Airspace):Airspace×Int:=if Sr a then(if Um a then(W1 a,0) else(Aq9,90)) else(Aq9,91)
end Go.Am
namespace Go.Am
open Go
set_option linter.unusedVariables false
set_option linter.unusedSimpArgs false
set_option maxRecDepth 100000
theorem Anj {M:List (An×Int)}{ns:List An}(h:Sq M ns)(l:List Sector)(hl : ∀ x ∈ l,x.Names.length * 8≤D0) :
  B0 (fun j1 _=>fun x2=>Lf M j1 x2) 0 l l=if l.all (Aaa ns) then .ok (l.map (Ab4 ns)) else .pan p90:=by
 rw [T8 (F:=fun s=>(Ff M s.Names).bind fun v=>.ok { s with Volumes:=v }) (fun j a s x hx=>by simp [Lf,T1 hx,R.bind_assoc]) l l rfl]
 exact W2 l fun s hs=>by
  rw [Ak5 h _ (hl s hs)]
  show _=if s.Names.all (I5 ns) then _ else _
  cases s.Names.all (I5 ns) <;> rfl
theorem Am6 {M:List (An×Int)}{ns:List An}(h:Sq M ns)(l:List Config)(hl : ∀ x ∈ l,x.Names.length * 8≤D0) :
  B0 (fun j1 _=>fun x2=>Jm M j1 x2) 0 l l=if l.all (Aai ns) then .ok (l.map (Abp ns)) else .pan p90:=by
 rw [T8 (F:=fun s=>(Ff M s.Names).bind fun v=>.ok { s with Sectors:=v }) (fun j a s x hx=>by simp [Jm,T1 hx,R.bind_assoc]) l l rfl]
 exact W2 l fun s hs=>by
  rw [Ak5 h _ (hl s hs)]
  show _=if s.Names.all (I5 ns) then _ else _
  cases s.Names.all (I5 ns) <;> rfl
theorem Akv {M:List (An×Int)}{ns:List An}(h:Sq M ns)(l:List Segment) :
  B0 (fun j1 _=>fun x2=>H5 M j1 x2) 0 l l=if l.all (Xt ns) then .ok (l.map (Zr ns)) else .pan p90:=by
 rw [T8 (F:=fun s=>(Dx M s.In).bind fun v=>.ok { s with Volume:=v }) (fun j a s x hx=>by simp [H5,T1 hx,R.bind_assoc]) l l rfl]
 exact W2 l fun s hs=>by
  rw [of_eq h]
  show _=if I5 ns s.In then _ else _
  cases I5 ns s.In <;> rfl
theorem Apv {M M':List (An×Int)}{ns qs:List An}(h:Sq M ns)(h':Sq M' qs)(l:List Route)(hl : ∀ x ∈ l,x.Names.length * 8≤D0) :
  B0 (fun j4 _=>fun l=>Gp M M' j4 l) 0 l l=if l.all (Adg ns qs) then .ok (l.map (Adt ns qs)) else .pan p90:=by
 rw [T8 (F:=fun s=>(Dx M' s.A).bind fun x=>(Dx M' s.B).bind fun y=>(Ff M s.Names).bind fun v=>.ok { s with From:=x,To:=y,Segments:=v })
  (fun j a s x hx=>by simp [Gp,T1 hx,R.bind_assoc,List.set_set]) l l rfl]
 exact W2 l fun s hs=>by
  rw [Ak5 h _ (hl s hs),of_eq h',of_eq h']
  show _=if I5 qs s.A&&I5 qs s.B&&s.Names.all (I5 ns) then _ else _
  cases I5 qs s.A <;> cases I5 qs s.B <;> cases s.Names.all (I5 ns) <;> rfl
theorem Ard {M M':List (An×Int)}{ns qs:List An}(h:Sq M ns)(h':Sq M' qs)(l:List Rule) :
  B0 (fun j5 _=>fun l1=>Fv M M' j5 l1) 0 l l=if l.all (Aex ns qs) then .ok (l.map (Afz ns qs)) else .pan p90:=by
 rw [T8 (F:=fun s=>(Dx M' s.C).bind fun x=>if s.Kind==1 then(Dx M s.A).bind fun y=>.ok { s with Class:=x,Airport:=y } else .ok { s with Class:=x,Airport:=0 })
  (fun j a s x hx=>by
   simp only [Fv,T1 hx,R.bind_assoc,List.set_set,R.ok_bind,Int.toNat_natCast]
   congr 1
   funext y
   split <;> simp [R.bind_assoc]) l l rfl]
 exact W2 l fun s hs=>by
  rw [of_eq h',of_eq h]
  show _=if I5 qs s.C&&(!(s.Kind==1)||I5 ns s.A) then R.ok { s with Class:=Vg qs s.C,Airport:=if s.Kind==1 then Vg ns s.A else 0 } else _
  cases I5 qs s.C <;> cases I5 ns s.A <;> cases hk:(s.Kind==1) <;> simp
theorem Ao8 (l:List Airport):B0 (fun _ a1=>fun _=>Le a1) 0 l ()=if ∀ p ∈ l,(p.Modes.map (·.Name)).Nodup then .ok () else .pan p91:=by
 have : ∀ (l:List Airport) (k:Nat),B0 (fun _ a1=>fun _=>Le a1) k l ()=if ∀ p ∈ l,(p.Modes.map (·.Name)).Nodup then .ok () else .pan p91:=by
  intro l
  induction l with
  | nil=>intro k; simp [P4]
  | cons a l ih=>
   intro k
   rw [Lz,Le]
   rcases Ao5 a.Modes with⟨h1,M,h2,_⟩ | ⟨h1,h2⟩
   ·rw [h2]; simp only [R.ok_bind]; rw [ih]; simp [h1]
   ·rw [h2]; simp [h1]
 exact this l 0
theorem Aa4 (a:Airspace)(hs:Small 1048576 a):Ic a=.ok (resolve a):=by
 have hm:P5 a=if Sr a then(if Um a then .ok (W1 a,0) else .pan p90) else .pan p91:=by
  unfold P5
  rcases Ams a.Volumes with⟨h1,M1,e1,n1⟩ | ⟨h1,e1⟩
  case inr=>rw [e1,if_neg (fun h:Sr a=>h1 h.1)]; rfl
  rcases Amj a.Sectors with⟨h2,M2,e2,n2⟩ | ⟨h2,e2⟩
  case inr=>rw [e1,e2,if_neg (fun h:Sr a=>h2 h.2.1)]; rfl
  rcases Ami a.Configs with⟨h3,M3,e3,n3⟩ | ⟨h3,e3⟩
  case inr=>rw [e1,e2,e3,if_neg (fun h:Sr a=>h3 h.2.2.1)]; rfl
  rcases Akh a.Segments with⟨h4,M4,e4,n4⟩ | ⟨h4,e4⟩
  case inr=>rw [e1,e2,e3,e4,if_neg (fun h:Sr a=>h4 h.2.2.2.1)]; rfl
  rcases Anq a.Routes with⟨h5,M5,e5,n5⟩ | ⟨h5,e5⟩
  case inr=>rw [e1,e2,e3,e4,e5,if_neg (fun h:Sr a=>h5 h.2.2.2.2.1)]; rfl
  rcases Akl a.Airports with⟨h6,M6,e6,n6⟩ | ⟨h6,e6⟩
  case inr=>rw [e1,e2,e3,e4,e5,e6,if_neg (fun h:Sr a=>h6 h.2.2.2.2.2.1)]; rfl
  rcases Am7 a.Classes with⟨h7,M7,e7,n7⟩ | ⟨h7,e7⟩
  case inr=>rw [e1,e2,e3,e4,e5,e6,e7,if_neg (fun h:Sr a=>h7 h.2.2.2.2.2.2.1)]; rfl
  rw [e1,e2,e3,e4,e5,e6,e7]
  simp only [R.ok_bind,Ao8]
  by_cases h8 : ∀ p ∈ a.Airports,(p.Modes.map (·.Name)).Nodup
  case neg=>rw [if_neg h8,if_neg (fun h:Sr a=>h8 h.2.2.2.2.2.2.2)]; rfl
  have ho:Sr a:=⟨h1,h2,h3,h4,h5,h6,h7,h8⟩
  rw [if_pos h8,if_pos ho]
  have hL : ∀ n c:Nat,n≤1048576→c≤128→n * c≤D0:=fun n c hn hc=>Nat.le_trans (Nat.mul_le_mul hn hc) (by decide)
  simp only [R.ok_bind,M8,Mw,Md,N1,Oh,hL _ _ hs.s (show 80≤128 by decide),hL _ _ hs.c (show 64≤128 by decide),hL _ _ hs.g (show 72≤128 by decide),hL _ _ hs.r (show 112≤128 by decide),hL _ _ hs.u (show 80≤128 by decide),if_true,
   Anj n1 _ (fun x hx=>hL _ _ (hs.sn x hx) (by decide)),Am6 n2 _ (fun x hx=>hL _ _ (hs.cn x hx) (by decide)),Akv n1,Apv n4 n6 _ (fun x hx=>hL _ _ (hs.rn x hx) (by decide)),Ard n6 n7]
  unfold Um W1 vs ss gs Jv ks
  cases a.Sectors.all (Aaa (a.Volumes.map (·.Name))) <;> cases a.Configs.all (Aai (a.Sectors.map (·.Name))) <;> cases a.Segments.all (Xt (a.Volumes.map (·.Name))) <;> cases a.Routes.all (Adg (a.Segments.map (·.Name)) (a.Airports.map (·.Name))) <;> cases a.Rules.all (Aex (a.Airports.map (·.Name)) (a.Classes.map (·.Name))) <;> rfl
 unfold Ic resolve
 rw [hm]
 by_cases h1:Sr a
 ·rw [if_pos h1,if_pos h1]
  cases Um a <;> rfl
 ·rw [if_neg h1,if_neg h1]; rfl
end Go.Am
namespace Go.Am
open Go
set_option linter.unusedVariables false
set_option linter.unusedSimpArgs false
set_option maxRecDepth 100000
theorem Arv (a:Airspace) : ∃ b,Xy a=.ok b:=by
 unfold Xy
 split
 ·exact⟨_,rfl⟩
 ·obtain⟨n1,h1⟩:=Qg (b:=fun _ a1=>fun n=>Sw a1 n) (fun _ a n=>⟨_,rfl⟩) a.Sectors 0 _
  rw [h1,R.ok_bind]
  obtain⟨n2,h2⟩:=Qg (b:=fun _ a1=>fun n=>Rc a1 n) (fun _ a n=>⟨_,rfl⟩) a.Configs 0 n1
  rw [h2,R.ok_bind]
  obtain⟨n3,h3⟩:=Qg (b:=fun _ a1=>fun n=>Pf a1 n) (fun _ a n=>⟨_,rfl⟩) a.Routes 0 n2
  rw [h3,R.ok_bind]
  obtain⟨n4,h4⟩:=Qg (b:=fun _ a1=>fun n=>Nl a1 n) (fun _ a n=>⟨_,rfl⟩) a.Airports 0 n3
  rw [h4]
  exact⟨_,rfl⟩
theorem Aqr:Zx=.ok true:=by decide +kernel
end Go.Am
namespace Go.Am
open Go
set_option linter.unusedVariables false
set_option linter.unusedSimpArgs false
set_option maxRecDepth 100000
def W4 (s:Sector):Sector:={ s with Volumes:=[] }
def Ww (s:Config):Config:={ s with Sectors:=[] }
def Ab6 (s:Segment):Segment:={ s with Volume:=0 }
def Z8 (s:Route):Route:={ s with From:=0,To:=0,Segments:=[] }
def Ag6 (s:Rule):Rule:={ s with Class:=0,Airport:=0 }
def unn (a:Airspace):Airspace:={ a with Sectors:=a.Sectors.map W4,Configs:=a.Configs.map Ww,Segments:=a.Segments.map Ab6,Routes:=a.Routes.map Z8,Rules:=a.Rules.map Ag6 }
structure Alike (a b:Airspace):Prop where
 v:b.Volumes=a.Volumes
 s:b.Sectors.map W4=a.Sectors.map W4
 c:b.Configs.map Ww=a.Configs.map Ww
 g:b.Segments.map Ab6=a.Segments.map Ab6
 r:b.Routes.map Z8=a.Routes.map Z8
 p:b.Airports=a.Airports
 k:b.Classes=a.Classes
 u:b.Rules.map Ag6=a.Rules.map Ag6
theorem Vo {α β γ:Type}{f:α→β}{g:β→γ}{h:α→γ}{l m:List α}(hl:l.map f=m.map f)(e : ∀ x,h x=g (f x)):l.map h=m.map h:=by
 have e':h=g∘f:=funext e
 rw [e',← List.map_map,hl,List.map_map]
theorem Ae0 {α β:Type}{f:α→β}{p:β→Bool}{q:α→Bool}{l m:List α}(hl:l.map f=m.map f)(e : ∀ x,q x=p (f x)):l.all q=m.all q:=by
 have e':q=p∘f:=funext e
 rw [e',← List.all_map,hl,List.all_map]
theorem Akj {a b:Airspace}(h:Alike a b):resolve b=resolve a:=by
 have e1:vs b=vs a:=by unfold vs; rw [h.v]
 have e2:ss b=ss a:=Vo (h:=Sector.Name) (g:=Sector.Name) h.s (fun x=>rfl)
 have e3:cs b=cs a:=Vo (h:=Config.Name) (g:=Config.Name) h.c (fun x=>rfl)
 have e4:gs b=gs a:=Vo (h:=Segment.Name) (g:=Segment.Name) h.g (fun x=>rfl)
 have e5:rs b=rs a:=Vo (h:=Route.Name) (g:=Route.Name) h.r (fun x=>rfl)
 have e6:Jv b=Jv a:=by unfold Jv; rw [h.p]
 have e7:ks b=ks a:=by unfold ks; rw [h.k]
 have ho:Sr b=Sr a:=by unfold Sr; rw [e1,e2,e3,e4,e5,e6,e7,h.p]
 have hk:Um b=Um a:=by
  unfold Um
  rw [e1,e2,e4,e6,e7,Ae0 (q:=Aaa (vs a)) (p:=Aaa (vs a)) h.s (fun x=>rfl),Ae0 (q:=Aai (ss a)) (p:=Aai (ss a)) h.c (fun x=>rfl),Ae0 (q:=Xt (vs a)) (p:=Xt (vs a)) h.g (fun x=>rfl),Ae0 (q:=Adg (gs a) (Jv a)) (p:=Adg (gs a) (Jv a)) h.r (fun x=>rfl),Ae0 (q:=Aex (Jv a) (ks a)) (p:=Aex (Jv a) (ks a)) h.u (fun x=>rfl)]
 have hr:W1 b=W1 a:=by
  unfold W1
  rw [e1,e2,e4,e6,e7,h.v,h.p,h.k,Vo (h:=Ab4 (vs a)) (g:=Ab4 (vs a)) h.s (fun x=>rfl),Vo (h:=Abp (ss a)) (g:=Abp (ss a)) h.c (fun x=>rfl),Vo (h:=Zr (vs a)) (g:=Zr (vs a)) h.g (fun x=>rfl),Vo (h:=Adt (gs a) (Jv a)) (g:=Adt (gs a) (Jv a)) h.r (fun x=>rfl),Vo (h:=Afz (Jv a) (ks a)) (g:=Afz (Jv a) (ks a)) h.u (fun x=>rfl)]
 unfold resolve
 by_cases hx:Sr a
 ·rw [if_pos hx,if_pos (ho ▸ hx),hk,hr]
 ·rw [if_neg hx,if_neg (ho ▸ hx)]
theorem Aqk (a:Airspace):Alike a (unn a):=⟨rfl,by simp [unn,Function.comp_def,W4],by simp [unn,Function.comp_def,Ww],by simp [unn,Function.comp_def,Ab6],by simp [unn,Function.comp_def,Z8],rfl,rfl,by simp [unn,Function.comp_def,Ag6]⟩
theorem Small.alike {N:Nat}{a b:Airspace}(hs:Small N a)(h:Alike a b):Small N b:=by
 have l : ∀ {α β:Type} {f:α→β} {l m:List α},l.map f=m.map f→l.length=m.length:=fun h=>by simpa using congrArg List.length h
 have m : ∀ {α β:Type} {f:α→β} {l m:List α},l.map f=m.map f → ∀ x ∈ l,∃ y ∈ m,f y=f x:=by
  intro α β f l m h x hx
  have:=List.mem_map_of_mem (f:=f) hx
  rw [h] at this
  obtain⟨y,hy,e⟩:=List.mem_map.1 this
  exact⟨y,hy,e⟩
 refine⟨by rw [h.v]; exact hs.v,by rw [l h.s]; exact hs.s,by rw [l h.c]; exact hs.c,by rw [l h.g]; exact hs.g,by rw [l h.r]; exact hs.r,by rw [h.p]; exact hs.p,by rw [h.k]; exact hs.k,by rw [l h.u]; exact hs.u,fun x hx=>?_,fun x hx=>?_,fun x hx=>?_,by rw [h.p]; exact hs.pm⟩
 ·obtain⟨y,hy,e⟩:=m h.s x hx
  have e':(W4 y).Names=(W4 x).Names:=congrArg Sector.Names e
  replace e':y.Names=x.Names:=e'
  exact e' ▸ hs.sn y hy
 ·obtain⟨y,hy,e⟩:=m h.c x hx
  have e':(Ww y).Names=(Ww x).Names:=congrArg Config.Names e
  replace e':y.Names=x.Names:=e'
  exact e' ▸ hs.cn y hy
 ·obtain⟨y,hy,e⟩:=m h.r x hx
  have e':(Z8 y).Names=(Z8 x).Names:=congrArg Route.Names e
  replace e':y.Names=x.Names:=e'
  exact e' ▸ hs.rn y hy
end Go.Am
namespace Go.Am
open Go
set_option linter.unusedVariables false
set_option linter.unusedSimpArgs false
def Mc (c:UInt8):Bool:=c==32||c==9||c==10||c==13
def P6 (c:UInt8):Bool:=(decide (97≤c)&&decide (c≤122))||(decide (65≤c)&&decide (c≤90))
def Ey (c:UInt8):Bool:=decide (48≤c)&&decide (c≤57)
def Iz (c:UInt8):Bool:=P6 c||Ey c||c==95
def T6 (c:UInt8):Bool:=[(123:UInt8),125,40,41,59,44,61,35,47,60,33,45,46].contains c
def Jb (c:UInt8):Int:=if P6 c then 2 else if Ey c then 3 else if c==95 then 5 else if Mc c then 1 else if T6 c then 4 else 0
theorem S9 {p:UInt8→Prop}(h : ∀ n:Fin 256,p (UInt8.ofNat n.val))(c:UInt8):p c:=by
 have h1:=h ⟨c.toNat,c.toNat_lt⟩
 have e:UInt8.ofNat c.toNat=c:=by simp
 simpa [e] using h1
theorem Afj (c:UInt8):Mj (c.toNat:Int)=.ok (Jb c):=S9 (p:=fun c=>Mj (c.toNat:Int)=.ok (Jb c)) (by decide +kernel) c
theorem Ar4 (c:UInt8):(Jb c==1)=Mc c:=S9 (p:=fun c=>(Jb c==1)=Mc c) (by decide +kernel) c
theorem Apx (c:UInt8):(Jb c==2)=P6 c:=S9 (p:=fun c=>(Jb c==2)=P6 c) (by decide +kernel) c
theorem Asg (c:UInt8):(Jb c==3)=Ey c:=S9 (p:=fun c=>(Jb c==3)=Ey c) (by decide +kernel) c
theorem As9 (c:UInt8):(Jb c==4)=T6 c:=S9 (p:=fun c=>(Jb c==4)=T6 c) (by decide +kernel) c
theorem Ax1 (c:UInt8):(Jb c==2||Jb c==3||Jb c==5)=Iz c:=S9 (p:=fun c=>(Jb c==2||Jb c==3||Jb c==5)=Iz c) (by decide +kernel) c
theorem Azm (c:UInt8):Jb c=0∨Jb c=1∨Jb c=2∨Jb c=3∨Jb c=4∨Jb c=5:=S9 (p:=fun c=>Jb c=0∨Jb c=1∨Jb c=2∨Jb c=3∨Jb c=4∨Jb c=5) (by decide +kernel) c
theorem Al6 {c:UInt8}(h:P6 c=true):Iz c=true:=by simp [Iz,h]
theorem Awm {c:UInt8}(h:P6 c=true):Mc c=false:=by
 revert h; exact S9 (p:=fun c=>P6 c=true→Mc c=false) (by decide +kernel) c
theorem Ax3 {c:UInt8}(h:Ey c=true):Mc c=false∧P6 c=false:=by
 revert h; exact S9 (p:=fun c=>Ey c=true→Mc c=false∧P6 c=false) (by decide +kernel) c
theorem Auy {c:UInt8}(h:T6 c=true):Mc c=false∧P6 c=false∧Ey c=false:=by
 revert h; exact S9 (p:=fun c=>T6 c=true→Mc c=false∧P6 c=false∧Ey c=false) (by decide +kernel) c
theorem Amx {c:UInt8}(h:Mc c=true):Iz c=false∧Ey c=false∧c≠47:=by
 revert h; exact S9 (p:=fun c=>Mc c=true→Iz c=false∧Ey c=false∧c≠47) (by decide +kernel) c
theorem Aol {src:An}{q:UInt8→Bool}{body:Int→R (Int ⊕ Int)}(hb : ∀ n:Nat,n≤src.length→body (n:Int)=match src[n]? with | some c=>if q c then .ok (.inl ((n+1:Nat):Int)) else .ok (.inr (n:Int)) | none=>.ok (.inr (n:Int))) :
  ∀ (k p:Nat),p≤src.length→src.length - p=k→loop body (p:Int)=.ok (((p+((src.drop p).takeWhile q).length:Nat)):Int)
 | k,p,hp,hk=>by
  rw [Xh,hb p hp]
  by_cases hl:p<src.length
  ·have e:src.drop p=src[p]::src.drop (p+1):=List.drop_eq_getElem_cons hl
   rw [List.getElem?_eq_getElem hl,e,List.takeWhile_cons]
   simp only
   cases hq:q src[p]
   ·simp
   ·simp only [if_true,R.ok_bind]
    cases k with
    | zero=>omega
    | succ k=>
     rw [Aol hb k (p+1) hl (by omega)]
     simp only [List.length_cons]
     congr 2
     omega
  ·have e:src[p]? = none:=List.getElem?_eq_none (by omega)
   have e2:src.drop p=[]:=List.drop_eq_nil_of_le (by omega)
   rw [e,e2]; simp
theorem An5 {α:Type}(q:α→Bool) : ∀ l:List α,l.take (l.takeWhile q).length=l.takeWhile q
 | []=>rfl
 | a::l=>by
  rw [List.takeWhile_cons]
  cases q a
  ·rfl
  ·simp [An5 q l]
theorem V8 {α:Type}(q:α→Bool) : ∀ l:List α,(l.takeWhile q).length≤l.length
 | []=>Nat.le_refl _
 | a::l=>by
  rw [List.takeWhile_cons]
  cases q a
  ·simp
  ·simpa using V8 q l
theorem Ax2 {src:An}{p:Nat}(q:UInt8→Bool):Ub src (p:Int) ((p+((src.drop p).takeWhile q).length:Nat):Int)=(src.drop p).takeWhile q:=by
 unfold Ub
 simp only [Int.toNat_natCast]
 rw [show p+((src.drop p).takeWhile q).length - p=((src.drop p).takeWhile q).length by omega,An5]
theorem An0 {src:An}{n:Nat}{c:UInt8}(h:src[n]? = some c):Es src (n:Int)=.ok c:=T1 h
theorem Ajx (v:Int) : ∀ (l:List Int) (k:Nat),∃ j:Nat,each (fun j a=>fun _=>Gx v j a) k l ()=.ok (if l.contains v then .inr (j:Int) else .inl ())
 | [],k=>⟨0,rfl⟩
 | a::l,k=>by
  rw [Uy]
  by_cases h:v=a
  ·subst h; exact⟨k,by simp [Gx]⟩
  ·have h1:(v==a)=false:=by simpa using h
   obtain⟨j,hj⟩:=Ajx v l (k+1)
   refine⟨j,?_⟩
   rw [show Gx v k a=.ok (.inl ()) by unfold Gx; rw [h1]; rfl,R.ok_bind,List.contains_cons,h1]
   exact hj
theorem Aky (l:List Int)(v:Int):Mx l v=.ok (l.contains v):=by
 unfold Mx R1
 obtain⟨j,hj⟩:=Ajx v l 0
 rw [hj]
 cases h:l.contains v
 ·simp only [Bool.false_eq_true,if_false,R.ok_bind]; rfl
 ·simp only [if_true,R.ok_bind]
  simp
theorem Axk (src:An)(p:Nat)(l:List Token)(some:List Int)(hp:p≤src.length)(hs:src.length≤65536) :
  Ko ({ fSrc:=src,fAt:=p,fL:=l }:T153) some=.ok ((src.drop p).takeWhile fun c=>some.contains (Jb c)):=by
 unfold Ko
 rw [Aol (src:=src) (q:=fun c=>some.contains (Jb c)) (k:=src.length - p) (p:=p) (fun n hn=>?_) hp rfl]
 ·simp only [R.ok_bind]
  unfold Nn
  have hle:=V8 (fun c=>some.contains (Jb c)) (src.drop p)
  rw [List.length_drop] at hle
  dsimp only
  rw [if_pos ⟨by omega,by omega,by omega⟩]
  simp only [Ax2]
 ·unfold Nv
  by_cases hl:n<src.length
  ·have hi:(n:Int)<src.length:=by omega
   rw [List.getElem?_eq_getElem hl]
   simp only [hi,decide_true,if_true]
   rw [An0 (List.getElem?_eq_getElem hl)]
   simp only [R.ok_bind,Afj,Aky]
   cases some.contains (Jb src[n])
   ·rfl
   ·simp only [if_true]
    rw [Ac9 (by omega) (by omega)]
    rfl
  ·have hi:¬ ((n:Int)<src.length):=by omega
   rw [List.getElem?_eq_none (by omega)]
   simp only [hi,decide_false,Bool.false_eq_true,if_false,R.ok_bind]
def Eo (s:An):Bool:=match s with | []=>false | c::w=>P6 c&&w.all Iz&&decide (w.length+1≤32)
theorem Aju {α:Type}{b:Nat→α→Unit→R (Unit ⊕ Bool)}{p:α→Bool}(hb : ∀ j a,b j a ()=if p a then .ok (.inl ()) else .ok (.inr false)) : ∀ (l:List α) (k:Nat),each b k l ()=.ok (if l.all p then .inl () else .inr false)
 | [],k=>rfl
 | a::l,k=>by
  rw [Uy,hb]
  cases h:p a
  ·simp [h]
  ·simp [h,Aju hb l (k+1)]
theorem Asf (c:UInt8):(((Jb c != 2)&&(Jb c != 3))&&(Jb c != 5)) = !Iz c:=by
 rw [← Ax1]; simp [bne,Bool.not_or]
theorem Aoo (s:An):W5 s=.ok (Eo s):=by
 unfold W5 Eo
 cases s with
 | nil=>rfl
 | cons c w=>
  simp only [show((c::w:An)==[])=false from rfl,Bool.false_or]
  by_cases h:w.length+1≤32
  ·have h1:¬ (((c::w).length:Int) > 32):=by simp only [List.length_cons]; omega
   have h2:(c::w).length≤D0:=by simp only [List.length_cons,D0]; omega
   simp only [h1,decide_false,Bool.false_eq_true,if_false,Att,R.ok_bind,Afj,h2,if_true,h,decide_true,Bool.and_true]
   cases hc:P6 c
   ·rw [show(Jb c != 2)=true by rw [bne,Apx,hc]; rfl]; simp
   ·rw [show(Jb c != 2)=false by rw [bne,Apx,hc]; rfl]
    simp only [Bool.false_eq_true,if_false,Bool.true_and]
    rw [Aju (p:=Iz) (fun j a=>by unfold Sf; simp only [Afj,R.ok_bind,Asf]; cases Iz a <;> rfl)]
    simp only [R.ok_bind,List.all_cons,Al6 hc,Bool.true_and]
    cases w.all Iz <;> rfl
  ·have h1:((c::w).length:Int) > 32:=by simp only [List.length_cons]; omega
   simp only [h1,decide_true,if_true,R.ok_bind,h,decide_false,Bool.and_false]
end Go.Am
namespace Go.Am
open Go
set_option linter.unusedVariables false
set_option linter.unusedSimpArgs false
def V4 (a:Nat)(s:An):Nat:=s.foldl (fun a c=>a * 10+(c.toNat - 48)) a
theorem Ad9 (a:Nat):V4 a []=a:=rfl
theorem Pa (a:Nat)(c:UInt8)(s:An):V4 a (c::s)=V4 (a * 10+(c.toNat - 48)) s:=by unfold V4; rw [List.foldl_cons]
theorem Agz : ∀ (s t:An) (a:Nat),V4 a (s++t)=V4 (V4 a s) t
 | [],t,a=>rfl
 | c::s,t,a=>by rw [List.cons_append,Pa,Pa,Agz s t]
theorem Aja : ∀ (s:An) (a:Nat),a≤V4 a s
 | [],a=>Nat.le_refl _
 | c::s,a=>by
  have:=Aja s (a * 10+(c.toNat - 48))
  rw [Pa]; omega
def val (s:An):Nat:=V4 0 s
def Zn (s:An):Bool:=decide (s.length=1)||decide (s.head? ≠ some 48)
def Xn (s:An):Bool:=Zn s&&decide (val s≤1099511627776)
theorem Xd {c:UInt8}:Ey c=true↔48≤c.toNat∧c.toNat≤57:=by
 unfold Ey
 simp only [Bool.and_eq_true,decide_eq_true_eq,UInt8.le_iff_toNat_le]
 rfl
theorem Aqe (n:Nat)(h:n<10):Ey (UInt8.ofNat (48+n))=true∧(UInt8.ofNat (48+n)).toNat=48+n:=by
 have e:(UInt8.ofNat (48+n)).toNat=48+n:=by rw [UInt8.toNat_ofNat']; omega
 exact⟨Xd.2 (by omega),e⟩
theorem Akx {c:UInt8}(h:Ey c=true):UInt8.ofNat (48+(c.toNat - 48))=c:=by
 have:=Xd.1 h
 rw [show 48+(c.toNat - 48)=c.toNat by omega]; simp
theorem Aow (u:Nat):(Lib.decDigits u).all Ey=true∧val (Lib.decDigits u)=u∧Lib.decDigits u≠[]∧Zn (Lib.decDigits u)=true∧(1≤u→(Lib.decDigits u).head? ≠ some 48):=by
 induction u using Nat.strongRecOn with
 | _ u ih=>
  by_cases h:u<10
  ·rw [Lib.decDigits_one h]
   obtain⟨h1,h2⟩:=Aqe u h
   refine⟨by rw [List.all_cons,h1]; rfl,by unfold val; rw [Pa,Ad9,h2]; omega,by simp,by simp [Zn],fun hu e=>?_⟩
   simp only [List.head?_cons,Option.some.injEq] at e
   rw [e] at h2
   have:(48:UInt8).toNat=48:=rfl
   omega
  ·rw [Lib.decDigits,dif_neg h]
   obtain⟨a1,a2,a3,a4,a5⟩:=ih (u / 10) (by omega)
   obtain⟨h1,h2⟩:=Aqe (u % 10) (by omega)
   have hd:(Lib.decDigits (u / 10)++[UInt8.ofNat (48+u % 10)]).head? = (Lib.decDigits (u / 10)).head? := by
    cases hq:Lib.decDigits (u / 10) with
    | nil=>exact absurd hq a3
    | cons c w=>rfl
   refine⟨by rw [List.all_append,a1,List.all_cons,h1]; rfl,?_,by simp,?_,fun hu=>by rw [hd]; exact a5 (by omega)⟩
   ·unfold val at a2 ⊢
    rw [Agz,a2,Pa,Ad9,h2]; omega
   ·have:=a5 (by omega)
    unfold Zn
    rw [hd]
    simp [this]
theorem Axb : ∀ (s:An),s≠[]→s.all Ey=true→Zn s=true→Lib.decDigits (val s)=s:=by
 suffices H : ∀ (n:Nat) (s:An),s.length=n→s≠[]→s.all Ey=true→Zn s=true→Lib.decDigits (val s)=s from fun s=>H _ s rfl
 intro n
 induction n with
 | zero=>intro s h1 h2; exact absurd (List.length_eq_zero_iff.1 h1) h2
 | succ n ih=>
  intro s h1 h2 h3 h4
  obtain⟨w,c,rfl⟩ : ∃ w c,s=w++[c]:=⟨s.dropLast,s.getLast h2,(List.dropLast_concat_getLast h2).symm⟩
  rw [List.all_append,Bool.and_eq_true] at h3
  obtain⟨h3,h5⟩:=h3
  have h5:Ey c=true:=by simpa using h5
  have hc:=Xd.1 h5
  have hv:val (w++[c])=val w * 10+(c.toNat - 48):=by unfold val; rw [Agz,Pa,Ad9]
  by_cases hw:w=[]
  ·subst hw
   have h0:val []=0:=rfl
   rw [hv,h0,Lib.decDigits_one (by omega)]
   simp only [Nat.zero_mul,Nat.zero_add,List.nil_append]
   rw [Akx h5]
  ·obtain⟨d,w',rfl⟩ : ∃ d w',w=d::w':=by cases w with | nil=>exact absurd rfl hw | cons d w'=>exact⟨d,w',rfl⟩
   have hp:d≠48:=by
    intro e; subst e
    simp [Zn] at h4
   have hd:Ey d=true:=by simp at h3; exact h3.1
   have hd':=Xd.1 hd
   have h1v:1≤val (d::w'):=by
    have:=Aja w' (0 * 10+(d.toNat - 48))
    have h6:d.toNat≠48:=fun e=>hp (UInt8.toNat_inj.1 (by rw [e]; rfl))
    unfold val
    rw [Pa]
    omega
   have e0:V4 0 (d::w')=val (d::w'):=rfl
   rw [hv,Lib.decDigits,dif_neg (by omega)]
   have e1:(val (d::w') * 10+(c.toNat - 48)) / 10=val (d::w'):=by omega
   have e2:(val (d::w') * 10+(c.toNat - 48)) % 10=c.toNat - 48:=by omega
   rw [e1,e2,Akx h5,ih (d::w') (by simpa using h1) hw h3 (by simp [Zn,hp])]
theorem Alk : ∀ (s:An) (a:Nat),s.all Ey=true→V4 a s<18446744073709551616→Lib.parseUint10 a s=.ok (V4 a s)
 | [],a,_,_=>rfl
 | c::s,a,h,hv=>by
  have h:Ey c=true∧s.all Ey=true:=by simpa using h
  have hc:=Xd.1 h.1
  have hv':V4 (a * 10+(c.toNat - 48)) s<18446744073709551616:=by rw [← Pa]; exact hv
  have:=Aja s (a * 10+(c.toNat - 48))
  rw [Lib.parseUint10,if_pos hc,if_neg (by omega),if_neg (by omega),Alk s _ h.2 hv',Pa]
theorem Ajh : ∀ (s:An) (a:Nat),a<18446744073709551616→s.all Ey=true→18446744073709551616≤V4 a s→Lib.parseUint10 a s=.range
 | [],a,ha,_,hv=>by exfalso; rw [Ad9] at hv; omega
 | c::s,a,ha,h,hv=>by
  have h:Ey c=true∧s.all Ey=true:=by simpa using h
  have hc:=Xd.1 h.1
  rw [Lib.parseUint10,if_pos hc]
  split
  ·rfl
  ·split
   ·rfl
   ·exact Ajh s _ (by omega) h.2 (by rw [← Pa]; exact hv)
theorem As2 {s:An}(hs:s≠[])(h:s.all Ey=true):Lib.atoiAll s=if 9223372036854775808≤val s then .range else .ok (val s:Int):=by
 cases s with
 | nil=>exact absurd rfl hs
 | cons c s=>
  have hc:Ey c=true:=by simp at h; exact h.1
  have hc:=Xd.1 hc
  rw [Lib.atoiAll_plain c s (by omega) (by omega),Lib.parseMag,if_neg (by simp)]
  by_cases hv:val (c::s)<18446744073709551616
  ·rw [Alk _ _ h hv]; rfl
  ·rw [Ajh _ _ (by omega) h (Nat.le_of_not_lt hv),if_pos (by omega)]; rfl
end Go.Am
namespace Go.Am
open Go
set_option linter.unusedVariables false
set_option linter.unusedSimpArgs false
def tk (c:UInt8)(s:An):Option (Option Token×Nat):=
 if Mc c then some (none,0)
 else if P6 c then
  if(s.takeWhile Iz).length+1≤32 then some (some ⟨1,c::s.takeWhile Iz,0,0⟩,(s.takeWhile Iz).length) else none
 else if Ey c then
  if Xn (c::s.takeWhile Ey) then some (some ⟨2,[],val (c::s.takeWhile Ey),0⟩,(s.takeWhile Ey).length) else none
 else if T6 c then
  if c=47∧s.head? = some 47 then some (none,(s.takeWhile (· != 10)).length)
  else some (some ⟨3,[c],0,0⟩,0)
 else none
def at' (p:Nat)(t:Token):Token:={ t with At:=p }
inductive Lx where
 | ok (l:List Token)
 | wrong (e:Nat)
 deriving DecidableEq
def Lx.add (o:Option Token)(p:Nat):Lx→Lx
 | .ok l=>.ok ((o.map (at' p)).toList++l)
 | .wrong e=>.wrong e
def Agu:Nat→An→Nat→Lx
 | _,[],_=>.ok []
 | 0,_::_,_=>.ok []
 | n+1,c::s,p=>match tk c s with
  | none=>.wrong p
  | some (o,k)=>(Agu n (s.drop k) (p+1+k)).add o p
def Pe (s:An)(p:Nat):Lx:=Agu s.length s p
theorem Ali : ∀ (n m:Nat) (s:An) (p:Nat),s.length≤n→s.length≤m→Agu n s p=Agu m s p
 | 0,0,s,p,_,_=>rfl
 | 0,m+1,s,p,h,_=>by
  have:s=[]:=List.length_eq_zero_iff.1 (by omega)
  subst this; rfl
 | n+1,0,s,p,_,h=>by
  have:s=[]:=List.length_eq_zero_iff.1 (by omega)
  subst this; rfl
 | n+1,m+1,[],p,_,_=>rfl
 | n+1,m+1,c::s,p,h1,h2=>by
  simp only [List.length_cons] at h1 h2
  rw [Agu,Agu]
  cases tk c s with
  | none=>rfl
  | some x=>
   obtain⟨o,k⟩:=x
   simp only
   rw [Ali n m (s.drop k) _ (by rw [List.length_drop]; omega) (by rw [List.length_drop]; omega)]
theorem Alw (p:Nat):Pe [] p=.ok []:=rfl
theorem Abo (c:UInt8)(s:An)(p:Nat):Pe (c::s) p=match tk c s with
  | none=>.wrong p
  | some (o,k)=>(Pe (s.drop k) (p+1+k)).add o p:=by
 unfold Pe
 rw [List.length_cons,Agu]
 cases tk c s with
 | none=>rfl
 | some x=>
  obtain⟨o,k⟩:=x
  simp only
  rw [Ali s.length (s.drop k).length (s.drop k) _ (by rw [List.length_drop]; omega) (Nat.le_refl _)]
@[simp] theorem Lx.add_none (p:Nat)(x:Lx):x.add none p=x:=by cases x <;> rfl
theorem Ayp {c:UInt8}(s:An)(h:Mc c=true):tk c s=some (none,0):=by unfold tk; rw [if_pos h]
theorem Ay1 {c:UInt8}{s:An}{o:Option Token}{k:Nat}(ht:tk c s=some (o,k)):k≤s.length:=by
 have h1:=V8 Iz s
 have h2:=V8 Ey s
 have h3:=V8 (· != 10) s
 unfold tk at ht
 repeat' split at ht
 all_goals first | (cases ht; done) | (cases ht; assumption) | (cases ht; exact Nat.zero_le _)
theorem Agm : ∀ (w s:An) (p:Nat),w.all Mc=true→Pe (w++s) p=Pe s (p+w.length)
 | [],s,p,_=>rfl
 | c::w,s,p,h=>by
  have h:Mc c=true∧w.all Mc=true:=by simpa using h
  rw [List.cons_append,Abo,Ayp _ h.1]
  simp only [List.drop_zero,Lx.add_none]
  rw [Agm w s _ h.2,List.length_cons]
  congr 1; omega
def out:Lx→List Token×Int×Int
 | .ok l=>(l,0,0)
 | .wrong e=>([],(e:Int),70)
def Ki (s:An):List Token×Int×Int:=if s.length≤65536 then out (Pe s 0) else([],0,2)
theorem Ah4 {α:Type}(q:α→Bool) : ∀ l:List α,(l.takeWhile q).all q=true
 | []=>rfl
 | a::l=>by
  rw [List.takeWhile_cons]
  cases h:q a
  ·rfl
  ·rw [if_pos rfl,List.all_cons,h,Ah4 q l]; rfl
theorem Aoe {α:Type}(q:α→Bool)(l:List α):l.drop (l.takeWhile q).length=l.dropWhile q:=by
 induction l with
 | nil=>rfl
 | cons a l ih=>
  rw [List.takeWhile_cons,List.dropWhile_cons]
  cases q a
  ·rfl
  ·simpa using ih
theorem At4 {src:An}{p:Nat}{c:UInt8}{s:An}(h:src.drop p=c::s):Ub src (p:Int) ((p+1:Nat):Int)=[c]:=by
 unfold Ub
 simp only [Int.toNat_natCast]
 rw [h,show p+1 - p=1 by omega]; rfl
theorem Aj0 {src:An}{p:Nat}{c:UInt8}{s:An}(h:src.drop p=c::s)(k:Nat):s.drop k=src.drop (p+1+k):=by
 have:src.drop (p+1)=s:=by rw [← List.drop_drop,h]; rfl
 rw [← this,List.drop_drop]
theorem Atz {src:An}{p:Nat}{c:UInt8}{s:An}(h:src.drop p=c::s):src[p]? = some c:=by
 have:=List.getElem?_drop (xs:=src) (i:=p) (j:=0)
 rw [h] at this
 simpa using this.symm
theorem Amo {src:An}{p:Nat}{c:UInt8}{s:An}(h:src.drop p=c::s):p+1+s.length=src.length:=by
 have:=congrArg List.length h
 rw [List.length_drop,List.length_cons] at this
 omega
theorem As4 {c:UInt8}{w:An}(hc:P6 c=true)(hw:w.all Iz=true):Eo (c::w)=decide (w.length+1≤32):=by
 simp [Eo,hc,hw]
end Go.Am
namespace Go.Am
open Go
set_option linter.unusedVariables false
set_option linter.unusedSimpArgs false
theorem Alv (c:UInt8) : ∀ (l:An),Lib.indexByte l c=if(l.takeWhile (· != c)).length=l.length then -1 else((l.takeWhile (· != c)).length:Int)
 | []=>rfl
 | a::l=>by
  have ih:=Alv c l
  have hle:=V8 (· != c) l
  rw [Lib.indexByte,List.takeWhile_cons]
  by_cases h:a=c
  ·subst h; simp
  ·have h1:(a != c)=true:=bne_iff_ne.2 h
   have h2:(a==c)=false:=by simpa using h
   rw [ih,h1]
   simp only [h2,Bool.false_eq_true,if_false,if_true,List.length_cons,Nat.add_right_cancel_iff]
   by_cases hq:(l.takeWhile (· != c)).length=l.length
   ·simp [hq]
   ·simp only [hq,if_false]
    have:¬ (((l.takeWhile (· != c)).length:Int)<0):=by omega
    simp [this]
    try omega
theorem Aje {α:Type}[BEq α][LawfulBEq α][DecidableEq α](a b:α):(a==b)=decide (a=b):=by
 by_cases h:a=b <;> simp [h]
def Z3:An→Bool
 | [c]=>T6 c
 | _=>false
def D2 (t:Token):Bool:=if t.Kind==1 then Eo t.Text&&(t.N==0) else if t.Kind==2 then(t.Text==[])&&decide (t.N≥0)&&decide (t.N≤1099511627776) else if t.Kind==3 then Z3 t.Text&&(t.N==0) else false
theorem Az7 (s:An):((s.length:Int)==1)=(s.length==1):=by
 rw [Aje,Aje,decide_eq_decide]; omega
theorem Ayy (s:An){f:Int→R Bool}(hf : ∀ c:UInt8,f (c.toNat:Int)=.ok (T6 c)):(if((s.length:Int)==1) then(Es s 0).bind fun a=>f (a.toNat:Int) else R.ok false)=.ok (Z3 s):=by
 rw [Az7]
 match s with
 | []=>rfl
 | [c]=>simp only [List.length_singleton,beq_self_eq_true,if_true,Att,R.ok_bind,hf]; rfl
 | c::d::w=>simp [Z3]
theorem Amt (t:Token):Uu t=.ok (D2 t):=by
 unfold Uu D2
 rw [show(fun a:UInt8=>(Mj (a.toNat:Int)).bind fun r1=>R.ok (r1==4))=fun a:UInt8=>(fun n:Int=>(Mj n).bind fun r1=>R.ok (r1==4)) (a.toNat:Int) from rfl,
  Ayy (f:=fun n:Int=>(Mj n).bind fun r1=>R.ok (r1==4)) t.Text (fun c=>by simp only [Afj,R.ok_bind,As9])]
 simp only [Aoo,R.ok_bind]
 split
 ·rfl
 ·split
  ·rfl
  ·split <;> rfl
theorem Ak1 (text:An)(t:Token)(src:An)(p:Nat)(l:List Token)(hl:(l.length+1) * 40≤D0) :
  Gy text t src p l=if D2 t then .ok (l++[at' p t]) else .pan ⟨147,.int .i64 p⟩:=by
 unfold Gy
 rw [Amt,R.ok_bind]
 simp only [List.length_singleton]
 rw [if_pos hl]
 rfl
theorem Am3 (n:Nat):Lib.itoa (n:Int)=Lib.decDigits n:=Lib.itoa_nonneg n
theorem Atd {α:Type}{p q:α→Bool}(h : ∀ a,p a=q a)(l:List α):l.takeWhile p=l.takeWhile q:=by rw [show p=q from funext h]
theorem Aio {some:List Int}{q:UInt8→Bool}(h : ∀ c,some.contains (Jb c)=q c){src:An}{p:Nat}{l:List Token}(hp:p≤src.length)(hs:src.length≤65536) :
  Ko ({ fSrc:=src,fAt:=p,fL:=l }:T153) some=.ok ((src.drop p).takeWhile q):=by rw [Axk src p l some hp hs,Atd h]
def Ajf (p:Nat)(pre:List Token)(c:UInt8)(s:An):R ((Int×(List Token)) ⊕ (Int×(List Token))):=
 if Mc c then .ok (.inl (((p+1+(s.takeWhile Mc).length:Nat):Int),pre))
 else match tk c s with
  | none=>.pan ⟨147,.int .i64 p⟩
  | some (o,k)=>.ok (.inl (((p+1+k:Nat):Int),pre++(o.map (at' p)).toList))
theorem Ag8 {c:UInt8}{v:Int}(h:(Jb c==v)=true):Jb c=v:=eq_of_beq h
theorem Ap5 (s:An):Ow s [47,47]=.ok (decide (s.take 2=[47,47])):=by
 unfold Ow I3
 by_cases h:2≤s.length
 ·have h1:(s.length:Int)≥(([47,47]:An).length:Int):=by simp; omega
  simp only [h1,decide_true,if_true]
  rw [if_pos ⟨by simp,trivial⟩]
  simp only [R.ok_bind]
  rw [Aje]
  rfl
 ·have h1:¬ ((s.length:Int)≥(([47,47]:An).length:Int)):=by simp; omega
  simp only [h1,decide_false,Bool.false_eq_true,if_false,R.ok_bind]
  rw [decide_eq_false]
  intro e
  have:=congrArg List.length e
  simp at this
  omega
theorem Ap3 (src:An)(hs:src.length≤65536)(p:Nat)(pre:List Token)(c:UInt8)(s:An)(h:src.drop p=c::s)(hl:pre.length≤p) :
  O6 src (p:Int) pre=Ajf p pre c s:=by
 have hlen:=Amo h
 have hat:=Atz h
 have hlim:(pre.length+1) * 40≤D0:=by simp only [D0]; omega
 unfold O6 Ajf
 rw [if_pos (by omega),An0 hat]
 simp only [R.ok_bind,Afj]
 have wr : ∀ k:Nat,k≤s.length→IntKind.wrap .i64 ((p:Int)+((k+1:Nat):Int))=((p+1+k:Nat):Int):=by
  intro k hk; rw [Ac9 (by omega) (by omega)]; omega
 cases hsp:Mc c
 ·simp only [Bool.false_eq_true,if_false]
  unfold tk
  simp only [hsp,Bool.false_eq_true,if_false]
  cases hle:P6 c
  ·simp only [Bool.false_eq_true,if_false]
   cases hfi:Ey c
   ·simp only [Bool.false_eq_true,if_false]
    cases hsi:T6 c
    ·have h1:Jb c≠1:=fun e=>by rw [← Ar4,e] at hsp; cases hsp
     have h2:Jb c≠2:=fun e=>by rw [← Apx,e] at hle; cases hle
     have h3:Jb c≠3:=fun e=>by rw [← Asg,e] at hfi; cases hfi
     have h4:Jb c≠4:=fun e=>by rw [← As9,e] at hsi; cases hsi
     rcases Azm c with e | e | e | e | e | e
     ·rw [e]; rfl
     ·exact absurd e h1
     ·exact absurd e h2
     ·exact absurd e h3
     ·exact absurd e h4
     ·rw [e]; rfl
    ·have hc:Jb c=4:=Ag8 (by rw [As9,hsi])
     rw [hc]
     simp only [show ¬ ((4:Int)=0) by decide,show ¬ ((4:Int)=1) by decide,show ¬ ((4:Int)=2) by decide,show ¬ ((4:Int)=3) by decide,if_false,if_true]
     unfold Nq
     rw [if_pos ⟨by omega,by omega⟩]
     simp only [Int.toNat_natCast]
     rw [Ap5,R.ok_bind,h]
     have e2:(decide ((c::s).take 2=[47,47]))=decide (c=47∧s.head? = some 47):=by
      cases s with
      | nil=>simp
      | cons d w=>simp
     rw [e2]
     by_cases hcom:c=47∧s.head? = some 47
     ·simp only [hcom,and_self,decide_true,if_true]
      obtain⟨rfl,hhd⟩:=hcom
      rw [if_pos ⟨by omega,by omega⟩]
      unfold strings_IndexByte
      rw [show((10:Int).toNat.toUInt8)=10 from rfl,Alv,List.takeWhile_cons,show((47:UInt8) != 10)=true by decide,if_pos rfl]
      have hle:=V8 (· != 10) s
      simp only [List.length_cons,Nat.add_right_cancel_iff,R.ok_bind]
      by_cases hall:(s.takeWhile (· != 10)).length=s.length
      ·rw [if_pos hall,if_neg (by omega)]
       simp only [R.ok_bind,hall]
       rw [hlen]; simp
      ·rw [if_neg hall,if_pos (by omega),wr _ hle]
       simp
     ·simp only [hcom,decide_false,Bool.false_eq_true,if_false]
      have hw1:IntKind.wrap .i64 ((p:Int)+1)=((p+1:Nat):Int):=by rw [Ac9 (by omega) (by omega)]; rfl
      rw [hw1,At4 h,if_pos ⟨by omega,by omega,by omega⟩,Ak1 _ _ _ _ _ hlim]
      have hv:D2 ({ Kind:=3,Text:=[c],N:=0,At:=0 }:Token)=true:=by
       show Z3 [c]&&true=true
       simp [Z3,hsi]
      rw [hv]
      simp only [if_true,R.ok_bind]
      have:=wr 0 (Nat.zero_le _)
      simp only [List.length_singleton]
      rw [show((1:Nat):Int)=((0+1:Nat):Int) from rfl,this]
      rfl
   ·have hc:Jb c=3:=Ag8 (by rw [Asg,hfi])
    rw [hc]
    simp only [show ¬ ((3:Int)=0) by decide,show ¬ ((3:Int)=1) by decide,show ¬ ((3:Int)=2) by decide,if_false,if_true]
    unfold L3
    rw [Aio (q:=Ey) (fun c=>by rw [← Asg]; simp only [List.contains_cons,List.contains_nil,Bool.or_false]) (by omega) hs,h,List.takeWhile_cons,hfi,if_pos rfl]
    have hall:(c::s.takeWhile Ey).all Ey=true:=by rw [List.all_cons,hfi,Ah4]; rfl
    have hle:=V8 Ey s
    simp only [R.ok_bind]
    unfold Q2
    rw [if_pos (by simp only [List.length_cons]; omega),As2 (by simp) hall]
    generalize hg:c::s.takeWhile Ey=g
    have hg1:g≠[]:=by rw [← hg]; simp
    rw [hg] at hall
    have hgl:g.length=(s.takeWhile Ey).length+1:=by rw [← hg]; rfl
    by_cases hbig:9223372036854775808≤val g
    ·rw [if_pos hbig]
     have:Xn g=false:=by unfold Xn; rw [decide_eq_false (by omega:¬ val g≤1099511627776),Bool.and_false]
     rw [this]
     rfl
    ·rw [if_neg hbig]
     simp only [R.ok_bind,Bool.false_eq_true,if_false]
     unfold strconv_Itoa
     rw [if_pos ⟨by omega,by omega⟩,Am3]
     simp only [R.ok_bind]
     have hdd:=Aow (val g)
     by_cases hpl:Zn g=true
     ·rw [Axb g hg1 hall hpl]
      simp only [beq_self_eq_true,Bool.not_true,Bool.false_eq_true,if_false]
      rw [Ak1 _ _ _ _ _ hlim]
      have hv:D2 ({ Kind:=2,Text:=[],N:=(val g:Int),At:=0 }:Token)=Xn g:=by
       unfold Xn; rw [hpl]
       simp only [D2]
       rw [if_neg (by decide),if_pos (by decide),decide_eq_true (by omega:(val g:Int)≥0),Bool.true_and]
       show(true&&decide ((val g:Int)≤1099511627776))=_
       rw [Bool.true_and,decide_eq_decide]
       omega
      rw [hv]
      cases Xn g
      ·rfl
      ·simp only [if_true,R.ok_bind]
       rw [hgl,wr _ hle]
       rfl
     ·have hne:(Lib.decDigits (val g)==g)=false:=by
       rw [beq_eq_false_iff_ne]; intro e; rw [e] at hdd; exact hpl hdd.2.2.2.1
      rw [hne]
      have:Xn g=false:=by unfold Xn; rw [Bool.eq_false_iff.2 hpl,Bool.false_and]
      rw [this]
      rfl
  ·have hc:Jb c=2:=Ag8 (by rw [Apx,hle])
   rw [hc]
   simp only [show ¬ ((2:Int)=0) by decide,show ¬ ((2:Int)=1) by decide,if_false,if_true]
   unfold Nw
   rw [Aio (q:=Iz) (fun c=>by rw [← Ax1]; simp only [List.contains_cons,List.contains_nil,Bool.or_false,Bool.or_assoc]) (by omega) hs,h,List.takeWhile_cons,Al6 hle,if_pos rfl]
   simp only [R.ok_bind]
   rw [Ak1 _ _ _ _ _ hlim]
   have hv:D2 ({ Kind:=1,Text:=c::s.takeWhile Iz,N:=0,At:=0 }:Token)=decide ((s.takeWhile Iz).length+1≤32):=by
    show(Eo (c::s.takeWhile Iz)&&true)=_
    rw [Bool.and_true]
    exact As4 hle (Ah4 _ _)
   rw [hv]
   have hle':=V8 Iz s
   by_cases hn:(s.takeWhile Iz).length+1≤32
   ·simp only [hn,decide_true,if_true,R.ok_bind,List.length_cons]
    rw [wr _ hle']
    rfl
   ·simp only [hn,decide_false,Bool.false_eq_true,if_false,R.pan_bind]
 ·have hc:Jb c=1:=Ag8 (by rw [Ar4,hsp])
  rw [hc]
  simp only [show ¬ ((1:Int)=0) by decide,if_false,if_true]
  unfold Mz
  rw [Aio (q:=Mc) (fun c=>by rw [← Ar4]; simp only [List.contains_cons,List.contains_nil,Bool.or_false]) (by omega) hs,h,List.takeWhile_cons,hsp,if_pos rfl]
  simp only [R.ok_bind,List.length_cons]
  rw [wr _ (V8 Mc s)]
def Aht (n:Nat)(pre:List Token):Lx→R (Int×List Token)
 | .ok l=>.ok ((n:Int),pre++l)
 | .wrong e=>.pan ⟨147,.int .i64 (e:Int)⟩
theorem Atg (src:An)(hs:src.length≤65536) : ∀ (n p:Nat) (pre:List Token),src.length - p≤n→p≤src.length→pre.length≤p →
  loop (C2 fun fAt l=>O6 src fAt l) ((p:Int),pre)=Aht src.length pre (Pe (src.drop p) p):=by
 have hend : ∀ (p:Nat) (pre:List Token),src.drop p=[]→p≤src.length→loop (C2 fun fAt l=>O6 src fAt l) ((p:Int),pre)=Aht src.length pre (Pe (src.drop p) p):=by
  intro p pre e hp
  have:src.length≤p:=by have:=congrArg List.length e; rw [List.length_drop] at this; simp at this; omega
  rw [Xh,e,Alw]
  simp only [C2]
  unfold O6
  rw [if_neg (by omega)]
  simp only [R.ok_bind,Aht,List.append_nil]
  rw [show p=src.length by omega]
 intro n
 induction n with
 | zero=>intro p pre hn hp hl; exact hend p pre (List.drop_eq_nil_of_le (by omega)) hp
 | succ n ih=>
  intro p pre hn hp hl
  cases hd:src.drop p with
  | nil=>rw [← hd]; exact hend p pre hd hp
  | cons c s=>
   rw [Xh]
   simp only [C2]
   rw [Ap3 src hs p pre c s hd hl]
   have hlen:=Amo hd
   unfold Ajf
   cases hsp:Mc c
   ·simp only [Bool.false_eq_true,if_false]
    rw [Abo]
    cases ht:tk c s with
    | none=>rfl
    | some x=>
     obtain⟨o,k⟩:=x
     have hk:k≤s.length:=Ay1 ht
     have hol:(o.map (at' p)).toList.length≤1:=by cases o <;> simp
     have:=ih (p+1+k) (pre++(o.map (at' p)).toList) (by omega) (by omega) (by rw [List.length_append]; omega)
     simp only [R.ok_bind]
     rw [← Aj0 hd k] at this
     refine this.trans ?_
     cases Pe (s.drop k) (p+1+k) <;> simp [Aht,Lx.add]
   ·simp only [if_true,R.ok_bind]
    have hle:=V8 Mc s
    have:=ih (p+1+(s.takeWhile Mc).length) pre (by omega) (by omega) (by omega)
    rw [← Aj0 hd] at this
    refine this.trans ?_
    congr 1
    have e:=Agm (c::s.takeWhile Mc) (s.drop (s.takeWhile Mc).length) p (by rw [List.all_cons,hsp,Ah4]; rfl)
    rw [Aoe,List.cons_append,List.takeWhile_append_dropWhile,List.length_cons] at e
    rw [e,Aoe]
    congr 1
    omega
theorem Awq (s:An):Af2 s=.ok (Ki s):=by
 unfold Af2 Abr Ki
 by_cases h:s.length≤65536
 ·rw [if_neg (by omega),if_pos h,show((0:Int),([]:List Token))=(((0:Nat):Int),[]) from rfl,Atg s h s.length 0 [] (by omega) (by omega) (by simp)]
  simp only [List.drop_zero]
  cases Pe s 0 <;> rfl
 ·rw [if_pos (by omega),if_neg h]
  rfl
end Go.Am
namespace Go.Am
open Go
set_option linter.unusedVariables false
set_option linter.unusedSimpArgs false
abbrev PR (α:Type):=Except (List Token×Int) (α×List Token)
abbrev Rd (α:Type):=List Token→PR α
namespace Rd
variable {α β:Type}
def bind (p:Rd α)(f:α→Rd β):Rd β:=fun l=>match p l with
 | .error x=>.error x
 | .ok (a,r)=>f a r
def pure (a:α):Rd α:=fun l=>.ok (a,l)
def fail (e:Int):Rd α:=fun l=>.error (l,e)
end Rd
def Q4 (q:Token→Bool):Rd Token
 | []=>.error ([],80)
 | t::r=>if q t then .ok (t,r) else .error (t::r,80)
def Uq (k:Int)(w:An)(t:Token):Bool:=t.Kind==k&&t.Text==w
def rIs (k:Int)(w:An):Rd Bool
 | []=>.ok (false,[])
 | t::r=>.ok (Uq k w t,t::r)
def Air (lo hi st:Int)(t:Token):Bool:=t.Kind==2&&(decide (lo≤t.N)&&(decide (t.N≤hi)&&(Int.tmod t.N st==0)))
def Oy:Rd An:=(Q4 fun t=>t.Kind==1).bind fun t=>.pure t.Text
def O8 (k:Int)(w:An):Rd Unit:=(Q4 (Uq k w)).bind fun _=>.pure ()
def Ph (lo hi st:Int):Rd Int:=(Q4 (Air lo hi st)).bind fun t=>.pure t.N
def Sd:Rd Span:=(Ph 0 1439 1).bind fun a=>(O8 1 [116,111]).bind fun _=>(Ph (a+1) 1440 1).bind fun b=>.pure ⟨a,b⟩
def Fo {α:Type}(p:Rd α):Nat→List α→Rd (List α)
 | n,acc=>p.bind fun a=>(rIs 3 [44]).bind fun b=>if b then(match n with
  | 0=>.fail 2
  | n+1=>(O8 3 [44]).bind fun _=>Fo p n (acc++[a])) else .pure (acc++[a])
def Ai7 (E:Int):List Token→Int
 | []=>E
 | t::_=>t.At
def run {α:Type}(E:Int):PR α→R (α×List Token)
 | .ok x=>.ok x
 | .error (l,e)=>.pan ⟨101,.two .i64 .i64 (Ai7 E l) e⟩
theorem Alm {α:Type}(E:Int)(x:α×List Token):run E (.ok x:PR α)=.ok x:=rfl
def Nm {α:Type}(E:Int)(k:Nat)(l:List Token)(x:R α)(p:Rd α):Prop:=(x=(run E (p l)).bind fun y=>.ok y.1) ∧ ∀ a r,p l=.ok (a,r)→r=l.drop k
section
variable {α β:Type} {E:Int} {k:Nat} {l:List Token} {p:Rd α}
theorem Ks {x:R α}{H:α→R (β×List Token)}{f:α→Rd β}(hx:Nm E k l x p)(h : ∀ a,p l=.ok (a,l.drop k)→H a=run E (f a (l.drop k))):x.bind H=run E (p.bind f l):=by
 obtain⟨rfl,h2⟩:=hx
 unfold Rd.bind
 cases hp:p l with
 | error x=>rfl
 | ok y=>
  obtain⟨a,r⟩:=y
  have:=h2 a r hp
  subst this
  exact h a hp
theorem Ut {x:R (α×List Token)}{H:α×List Token→R (β×List Token)}{f:α→Rd β}(hx:x=run E (p l))(h : ∀ a r,p l=.ok (a,r)→H (a,r)=run E (f a r)):x.bind H=run E (p.bind f l):=by
 subst hx
 unfold Rd.bind
 cases hp:p l with
 | error x=>rfl
 | ok y=>exact h _ _ hp
theorem N3 {m n:Nat}{x:R α}{H:α→R β}{f:α→Rd β}{l':List Token}(hn:n=k+m)(hl:l'=l.drop k)(hx:Nm E k l x p)(h : ∀ a,p l=.ok (a,l')→Nm E m l' (H a) (f a)):Nm E n l (x.bind H) (p.bind f):=by
 subst hl hn
 obtain⟨rfl,h2⟩:=hx
 unfold Nm Rd.bind
 cases hp:p l with
 | error x=>exact⟨rfl,fun _ _ h=>nomatch h⟩
 | ok y=>
  obtain⟨a,r⟩:=y
  have:=h2 a r hp
  subst this
  obtain⟨h3,h4⟩:=h a hp
  refine⟨h3,fun b r hr=>?_⟩
  rw [h4 b r hr,List.drop_drop]
theorem Tp (a:α):Nm E 0 l (.ok a) (Rd.pure a):=⟨rfl,fun _ _ h=>by cases h; rfl⟩
end
theorem La (e:Int)(l:List Token)(E:Int):Bo e l E=.pan ⟨101,.two .i64 .i64 (Ai7 E l) e⟩:=by
 unfold Bo
 cases l with
 | nil=>rfl
 | cons t l=>rw [if_pos (by simp only [List.length_cons]; omega)]; rfl
theorem An2 (r:T104)(e:Int):Nz r e=.pan ⟨101,.two .i64 .i64 (Ai7 r.fEnd r.fL) e⟩:=by
 unfold Nz
 cases h:r.fL with
 | nil=>rfl
 | cons t l=>rw [if_pos (by simp only [List.length_cons]; omega)]; rfl
theorem Ac8 (kind:Int)(q:Token→Bool)(l:List Token)(E:Int)(j:R Token)(hj:j=((Es l 0).bind fun a2=>if(0:Int)≤1∧1≤(l.length:Int) then .ok a2 else .bad))  (c:Token→R Bool)(hc : ∀ t,c t=.ok (q t)) :
  ((if((l.length:Int)==0) then R.ok true else(Es l 0).bind fun a=>R.ok (a.Kind != kind)).bind (fun(b:Bool)=>(if b then R.ok true else(Es l 0).bind fun a1=>(c a1).bind fun r=>R.ok (!r)).bind (fun(b1:Bool)=>if b1 then((Bo 80 l E).bind fun _=>j) else j)))
   = (run E (Q4 (fun t=>t.Kind==kind&&q t) l)).bind fun y=>.ok y.1:=by
 subst hj
 cases l with
 | nil=>rfl
 | cons t l=>
  have e:Es (t::l) 0=.ok t:=rfl
  have e0:(((t::l).length:Int)==0)=false:=by simp only [List.length_cons,beq_eq_false_iff_ne]; omega
  have e1:(0:Int)≤1∧1≤((t::l).length:Int):=by simp only [List.length_cons]; omega
  simp only [e,e0,R.ok_bind,hc,La,Q4,if_pos e1,Bool.false_eq_true,if_false]
  by_cases hk:t.Kind=kind
  ·have h1:(t.Kind==kind)=true:=by simp [hk]
   have h2:(t.Kind != kind)=false:=by simp [hk]
   simp only [h1,h2,Bool.false_eq_true,if_false,R.ok_bind,Bool.true_and]
   cases q t <;> rfl
  ·have h1:(t.Kind==kind)=false:=by simp [hk]
   have h2:(t.Kind != kind)=true:=by simp [hk]
   simp only [h1,h2,if_true,R.ok_bind,Bool.false_and]
   rfl
theorem Ap8 {q:Token→Bool}{l:List Token}{a:Token}{r:List Token}(h:Q4 q l=.ok (a,r)):r=l.drop 1:=by
 cases l with
 | nil=>cases h
 | cons t l=>
  simp only [Q4] at h
  split at h
  ·cases h; rfl
  ·cases h
theorem Ael {α:Type}{E:Int}{l:List Token}{q:Token→Bool}{x:R Token}(f:Token→α)(hx:x=(run E (Q4 q l)).bind fun y=>.ok y.1):Nm E 1 l (x.bind fun r=>.ok (f r)) ((Q4 q).bind fun t=>.pure (f t)):=by
 subst hx
 unfold Nm Rd.bind
 cases h:Q4 q l with
 | error x=>exact⟨rfl,fun _ _ h=>nomatch h⟩
 | ok y=>exact⟨rfl,fun a r h'=>by cases h'; exact Ap8 h⟩
theorem U3 (E:Int)(l:List Token):Nm E 1 l (Ca l E) Oy:=by
 have:=Ael (E:=E) (l:=l) (fun t=>t.Text) (Ac8 1 (fun _=>true) l E _ rfl Lm (fun _=>rfl))
 simp only [Bool.and_true] at this
 exact this
theorem Oa (E:Int)(w:An)(l:List Token):Nm E 1 l (Da w l E) (O8 1 w):=
 Ael (E:=E) (l:=l) (fun _=>()) (Ac8 1 (fun t=>t.Text==w) l E _ rfl (fun t=>Lj t w) (fun _=>rfl))
theorem Acq (E:Int)(w:An)(l:List Token):Nm E 1 l (Ce w l E) (O8 3 w):=
 Ael (E:=E) (l:=l) (fun _=>()) (Ac8 3 (fun t=>t.Text==w) l E _ rfl (fun t=>Ls t w) (fun _=>rfl))
theorem Aye (n:Int):(Int.tmod n 1==0)=true:=by simp
theorem O7 (E lo hi:Int)(l:List Token):Nm E 1 l (Du lo hi l E) (Ph lo hi 1):=by
 have:=Ael (E:=E) (l:=l) (fun t=>t.N) (Ac8 2 (fun t=>decide (lo≤t.N)&&(decide (t.N≤hi)&&(Int.tmod t.N 1==0))) l E _ rfl (fun t=>H0 t lo hi) (fun t=>by simp only [H0,Aye,Bool.and_true]))
 exact this
theorem Apj (k:Int)(w:An)(l:List Token)(E:Int):Fm k w l E=.ok (match l with | []=>false | t::_=>Uq k w t):=by
 unfold Fm
 cases l with
 | nil=>rfl
 | cons t l=>
  have e:Es (t::l) 0=.ok t:=rfl
  have e0:decide (((t::l).length:Int) > 0)=true:=by simp only [List.length_cons,decide_eq_true_eq]; omega
  simp only [e,e0,R.ok_bind,if_true,Uq]
  cases t.Kind==k <;> rfl
theorem Aou {q:Token→Bool}{l:List Token}{a:Token}{r:List Token}(h:Q4 q l=.ok (a,r)):l=a::r∧q a=true:=by
 cases l with
 | nil=>cases h
 | cons t l=>
  simp only [Q4] at h
  split at h
  ·rename_i hq; cases h; exact⟨rfl,hq⟩
  ·cases h
theorem Ape {α β:Type}{p:Rd α}{f:α→Rd β}{l:List Token}{b:β}{r:List Token}(h:p.bind f l=.ok (b,r)) : ∃ a m,p l=.ok (a,m)∧f a m=.ok (b,r):=by
 unfold Rd.bind at h
 cases hp:p l with
 | error x=>rw [hp] at h; cases h
 | ok y=>rw [hp] at h; exact⟨y.1,y.2,rfl,h⟩
theorem Aus {lo hi st:Int}{l:List Token}{a:Int}{r:List Token}(h:Ph lo hi st l=.ok (a,r)) : ∃ t,l=t::r∧t.Kind=2∧t.N=a∧lo≤a∧a≤hi∧Int.tmod a st=0:=by
 obtain⟨t,m,h1,h2⟩:=Ape h
 cases h2
 obtain⟨rfl,hq⟩:=Aou h1
 simp only [Air,Bool.and_eq_true,decide_eq_true_eq,beq_iff_eq] at hq
 exact⟨t,rfl,hq.1,rfl,hq.2.1,hq.2.2.1,hq.2.2.2⟩
theorem Aml (E:Int)(l:List Token):Nm E 3 l (Ir l E) Sd:=by
 refine N3 (m:=2) rfl rfl (O7 E 0 1439 l) fun a ha=>?_
 refine N3 (m:=1) rfl rfl (Oa E _ _) fun _ _=>?_
 have e:IntKind.wrap .i64 (a+1)=a+1:=by
  obtain⟨t,_,_,_,h1,h2,_⟩:=Aus ha
  exact Ac9 (by omega) (by omega)
 rw [e]
 exact N3 (m:=0) rfl rfl (O7 E (a+1) 1440 _) fun b _=>Tp _
end Go.Am
namespace Go.Am
open Go
set_option linter.unusedVariables false
set_option linter.unusedSimpArgs false
def V5 (w:An):Rd (List Span):=(rIs 1 w).bind fun b=>if b then(O8 1 w).bind fun _=>Fo Sd 15 [] else .pure []
def Xu:Rd Mode:=(O8 1 [109,111,100,101]).bind fun _=>Oy.bind fun n=>(Ph 0 64 1).bind fun k=>.pure { Name:=n,Places:=k }
def Aew (s:An):Rd Volume:=(V5 [99,108,111,115,101,100]).bind fun c=>.pure { Name:=s,Closed:=c }
def Ae7 (s:An):Rd Sector:=(O8 3 [61]).bind fun _=>(Fo Oy 63 []).bind fun ns=>(O8 1 [114,97,100,97,114]).bind fun _=>(Ph 0 64 1).bind fun a=>
 (O8 1 [112,114,111,99,101,100,117,114,97,108]).bind fun _=>(Ph 0 a 1).bind fun b=>.pure { Name:=s,Names:=ns,Volumes:=[],Radar:=a,Procedural:=b }
def Afp (s:An):Rd Config:=(O8 3 [61]).bind fun _=>(Fo Oy 63 []).bind fun ns=>.pure { Name:=s,Names:=ns,Sectors:=[] }
def Afn (s:An):Rd Segment:=(O8 1 [105,110]).bind fun _=>Oy.bind fun v=>(O8 1 [108,101,110,103,116,104]).bind fun _=>(Ph 1 4096 1).bind fun k=>
 (V5 [111,112,101,110]).bind fun o=>.pure { Name:=s,In:=v,Volume:=0,Length:=k,Open:=o }
def Ae3 (s:An):Rd Route:=(O8 1 [102,114,111,109]).bind fun _=>Oy.bind fun a=>(O8 1 [116,111]).bind fun _=>Oy.bind fun b=>(O8 1 [118,105,97]).bind fun _=>
 (Fo Oy 7 []).bind fun ns=>.pure { Name:=s,A:=a,B:=b,From:=0,To:=0,Names:=ns,Segments:=[] }
def Afq (s:An):Rd Airport:=(Fo Xu 15 []).bind fun ms=>.pure { Name:=s,Modes:=ms }
def Aer (s:An):Rd Class:=(O8 1 [115,108,111,119]).bind fun _=>(Ph 1 64 1).bind fun a=>(O8 1 [102,97,115,116]).bind fun _=>(Ph a 64 1).bind fun b=>
 (O8 1 [112,108,97,99,101,115]).bind fun _=>(Ph 1 8 1).bind fun c=>.pure { Name:=s,Slow:=a,Fast:=b,Places:=c }
def Ez (k:Int)(c a:An)(n:Int)(h:Span):Rule:={ Kind:=k,C:=c,A:=a,Class:=0,Airport:=0,N:=n,Hours:=h }
def Agq (s:An):Rd Rule:=(O8 1 [97,116]).bind fun _=>Oy.bind fun a=>Sd.bind fun h=>.pure (Ez 1 s a 0 h)
def Ag5 (s:An):Rd Rule:=.pure (Ez 2 s [] 0 ⟨0,0⟩)
def Agp (s:An):Rd Rule:=(Ph 1 8 1).bind fun n=>.pure (Ez 3 s [] n ⟨0,0⟩)
def Ae6 (s:An):Rd Rule:=(Ph 0 60 10).bind fun n=>.pure (Ez 4 s [] n ⟨0,0⟩)
def E7 {α:Type}(p:An→Rd α):Rd α:=Oy.bind fun n=>(p n).bind fun x=>(O8 3 [59]).bind fun _=>.pure x
section
variable {α:Type} {E:Int}
theorem Aes {k sz most:Nat}{G:List Token→R α}{p:Rd α}(hG : ∀ l,Nm E k l (G l) p){b:List Token×List α→R ((List Token×List α) ⊕ (List α×List Token))}
  (hb : ∀ fL l1,b (fL,l1)=(G fL).bind fun r=>if(l1.length+1) * sz≤D0 then(Fm 3 [44] (fL.drop k) E).bind fun r1=>if r1 then(if(((l1++[r]).length:Int)==most) then .pan ⟨101,.two .i64 .i64 (Ai7 E (fL.drop k)) 2⟩ else(Ce [44] (fL.drop k) E).bind fun _=>.ok (.inl ((fL.drop k).drop 1,l1++[r]))) else .ok (.inr (l1++[r],fL.drop k)) else .bad)
  (hs:most * sz≤D0) : ∀ (n:Nat) (l:List Token) (acc:List α),acc.length+n+1=most→loop b (l,acc)=run E (Fo p n acc l):=by
 intro n
 induction n with
 | zero=>
  intro l acc hn
  rw [Xh,hb,Fo]
  obtain⟨h1,h2⟩:=hG l
  rw [h1]
  unfold Rd.bind
  cases hp:p l with
  | error x=>rfl
  | ok y=>
   obtain⟨a,r⟩:=y
   have:=h2 a r hp; subst this
   have e1:(acc.length+1) * sz≤D0:=Nat.le_trans (Nat.mul_le_mul_right _ (by omega)) hs
   have e2:(((acc++[a]).length:Int)==most)=true:=by simp; omega
   simp only [Alm,R.ok_bind,if_pos e1,Apj,e2,if_true]
   cases l.drop k with
   | nil=>rfl
   | cons t r=>
    cases h:Uq 3 [44] t <;> simp only [rIs,h,Bool.false_eq_true,if_false,if_true,R.ok_bind,R.pan_bind] <;> rfl
 | succ n ih=>
  intro l acc hn
  rw [Xh,hb,Fo]
  obtain⟨h1,h2⟩:=hG l
  rw [h1]
  unfold Rd.bind
  cases hp:p l with
  | error x=>rfl
  | ok y=>
   obtain⟨a,r⟩:=y
   have:=h2 a r hp; subst this
   have e1:(acc.length+1) * sz≤D0:=Nat.le_trans (Nat.mul_le_mul_right _ (by omega)) hs
   have e2:(((acc++[a]).length:Int)==most)=false:=by simp; omega
   simp only [Alm,R.ok_bind,if_pos e1,Apj,e2,Bool.false_eq_true,if_false]
   have e3:=(Acq E [44] (l.drop k)).1
   cases hd:l.drop k with
   | nil=>rfl
   | cons t r=>
    cases h:Uq 3 [44] t
    ·simp only [rIs,h,Bool.false_eq_true,if_false,R.ok_bind]; rfl
    ·rw [hd] at e3
     have e4:O8 3 [44] (t::r)=.ok ((),r):=by simp only [O8,Rd.bind,Q4,h,if_true]; rfl
     simp only [rIs,h,if_true,e3,e4,Alm,R.ok_bind,List.drop_one,List.tail_cons]
     exact ih r (acc++[a]) (by simp; omega)
end
theorem Am2 (E:Int)(l:List Token)(v:List Volume):Fc 16 l E v=run E (Fo Sd 15 [] l):=by
 unfold Fc
 rw [Aes (k:=3) (sz:=16) (most:=16) (G:=fun l=>Ir l E) (p:=Sd) (Aml E) (fun fL l1=>?_) (by decide) 15 l [] rfl,R.bind_ok]
 simp only [C2,Gw,Gv,La,R.pan_bind,List.length_singleton,List.drop_drop]
 all_goals rfl
theorem Av5 (E:Int)(l:List Token):Nm E 3 l (F1 l E) Xu:=
 N3 (m:=2) rfl rfl (Oa E _ l) fun _ _=>N3 (m:=1) rfl rfl (U3 E _) fun _ _=>N3 (m:=0) rfl rfl (O7 E 0 64 _) fun _ _=>Tp _
theorem Anc (E:Int)(l:List Token)(v:List Volume):H2 16 l E v=run E (Fo Xu 15 [] l):=by
 unfold H2
 rw [Aes (k:=3) (sz:=24) (most:=16) (G:=fun l=>F1 l E) (p:=Xu) (Av5 E) (fun fL l1=>?_) (by decide) 15 l [] rfl,R.bind_ok]
 simp only [C2,Ii,If,La,R.pan_bind,List.length_singleton,List.drop_drop]
 all_goals rfl
theorem Acb (E:Int)(m:Nat)(hm:(m+1) * 16≤D0)(l:List Token)(v:List Volume):Eb ((m+1:Nat):Int) l E v=run E (Fo Oy m [] l):=by
 unfold Eb
 rw [Aes (k:=1) (sz:=16) (most:=m+1) (G:=fun l=>Ca l E) (p:=Oy) (U3 E) (fun fL l1=>?_) hm m l [] (by simp),R.bind_ok]
 simp only [C2,Gh,Gf,La,R.pan_bind,List.length_singleton,List.drop_drop]
 all_goals rfl
end Go.Am
namespace Go.Am
open Go
set_option linter.unusedVariables false
set_option linter.unusedSimpArgs false
def Xo (w:An)(A:Airspace):Option (Bool×Rd Airspace):=
 if w==[97,105,114,112,111,114,116] then some (decide (16≤A.Airports.length),(E7 Afq).bind fun x=>.pure { A with Airports:=A.Airports++[x] }) else
 if w==[99,108,97,115,115] then some (decide (8≤A.Classes.length),(E7 Aer).bind fun x=>.pure { A with Classes:=A.Classes++[x] }) else
 if w==[99,111,110,102,105,103] then some (decide (32≤A.Configs.length),(E7 Afp).bind fun x=>.pure { A with Configs:=A.Configs++[x] }) else
 if w==[99,117,114,102,101,119] then some (decide (64≤A.Rules.length),(E7 Agq).bind fun x=>.pure { A with Rules:=A.Rules++[x] }) else
 if w==[101,120,101,109,112,116] then some (decide (64≤A.Rules.length),(E7 Ag5).bind fun x=>.pure { A with Rules:=A.Rules++[x] }) else
 if w==[108,111,110,103,101,115,116] then some (decide (64≤A.Rules.length),(E7 Ae6).bind fun x=>.pure { A with Rules:=A.Rules++[x] }) else
 if w==[114,111,117,116,101] then some (decide (64≤A.Routes.length),(E7 Ae3).bind fun x=>.pure { A with Routes:=A.Routes++[x] }) else
 if w==[115,101,99,116,111,114] then some (decide (64≤A.Sectors.length),(E7 Ae7).bind fun x=>.pure { A with Sectors:=A.Sectors++[x] }) else
 if w==[115,101,103,109,101,110,116] then some (decide (128≤A.Segments.length),(E7 Afn).bind fun x=>.pure { A with Segments:=A.Segments++[x] }) else
 if w==[118,111,108,117,109,101] then some (decide (64≤A.Volumes.length),(E7 Aew).bind fun x=>.pure { A with Volumes:=A.Volumes++[x] }) else
 if w==[119,101,105,103,104,116] then some (decide (64≤A.Rules.length),(E7 Agp).bind fun x=>.pure { A with Rules:=A.Rules++[x] }) else
 none
def Qu (A:Airspace):Rd Airspace
 | []=>.error ([],80)
 | t::r=>if t.Kind==1 then(match Xo t.Text A with
  | none=>.error (t::r,80)
  | some (f,p)=>if f then .error (t::r,2) else p r) else .error (t::r,80)
theorem Aku (w:An)(E:Int)(l:List Token)(v:List Volume):Hj w l E v=run E (V5 w l):=by
 unfold Hj V5
 rw [Apj]
 cases l with
 | nil=>rfl
 | cons t r=>
  show(if Uq 1 w t=true then _ else _)=run E ((if Uq 1 w t=true then(O8 1 w).bind fun _=>Fo Sd 15 [] else .pure []) (t::r))
  split
  ·refine Ks (Oa E w _) fun _ _=>?_
   rw [show(Fc 16 (List.drop 1 (t::r)) E v)=run E (Fo Sd 15 [] (List.drop 1 (t::r))) from Am2 E _ v]
   cases Fo Sd 15 [] (List.drop 1 (t::r)) <;> rfl
  ·rfl
theorem Axz (s:An)(E:Int)(l:List Token)(v:List Volume):Fb s l E v=run E (Aew s l):=by
 unfold Fb Aew
 exact Ut (Aku _ E l v) fun a r _=>rfl
theorem Awk (s:An)(E:Int)(l:List Token)(v:List Volume):E5 s l E v=run E (Ae7 s l):=by
 unfold E5 Ae7
 refine Ks (Acq E _ l) fun _ _=>Ut (Acb E 63 (by decide) _ v) fun ns r _=>?_
 exact Ks (Oa E _ r) fun _ _=>Ks (O7 E 0 64 _) fun a _=>Ks (Oa E _ _) fun _ _=>Ks (O7 E 0 a _) fun b _=>rfl
theorem Aw2 (s:An)(E:Int)(l:List Token)(v:List Volume):E8 s l E v=run E (Afp s l):=by
 unfold E8 Afp
 exact Ks (Acq E _ l) fun _ _=>Ut (Acb E 63 (by decide) _ v) fun ns r _=>rfl
theorem Axx (s:An)(E:Int)(l:List Token)(v:List Volume):E9 s l E v=run E (Afn s l):=by
 unfold E9 Afn
 refine Ks (Oa E _ l) fun _ _=>Ks (U3 E _) fun a _=>Ks (Oa E _ _) fun _ _=>Ks (O7 E 1 4096 _) fun b _=>?_
 exact Ut (Aku _ E _ v) fun o r _=>rfl
theorem Axd (s:An)(E:Int)(l:List Token)(v:List Volume):E6 s l E v=run E (Ae3 s l):=by
 unfold E6 Ae3
 refine Ks (Oa E _ l) fun _ _=>Ks (U3 E _) fun a _=>Ks (Oa E _ _) fun _ _=>Ks (U3 E _) fun b _=>Ks (Oa E _ _) fun _ _=>?_
 exact Ut (Acb E 7 (by decide) _ v) fun o r _=>rfl
theorem Aw4 (s:An)(E:Int)(l:List Token)(v:List Volume):Fa s l E v=run E (Afq s l):=by
 unfold Fa Afq
 exact Ut (Anc E l v) fun ms r _=>rfl
theorem Aqp (s:An)(E:Int)(l:List Token):Nm E 6 l (Fw s l E) (Aer s):=
 N3 (m:=5) rfl rfl (Oa E _ l) fun _ _=>N3 (m:=4) rfl rfl (O7 E 1 64 _) fun a _=>N3 (m:=3) rfl rfl (Oa E _ _) fun _ _=>N3 (m:=2) rfl rfl (O7 E a 64 _) fun b _=>
  N3 (m:=1) rfl rfl (Oa E _ _) fun _ _=>N3 (m:=0) rfl rfl (O7 E 1 8 _) fun b _=>Tp _
theorem Aiy {α:Type}{E:Int}{k:Nat}{l:List Token}{x:R α}{p:Rd α}(h:Nm E k l x p):Nm E k l (x.bind fun r=>.ok r) p:=by rw [R.bind_ok]; exact h
theorem Are (s:An)(E:Int)(l:List Token):Nm E 5 l (F5 s 1 l E) (Agq s):=
 Aiy<|N3 (m:=4) rfl rfl (Oa E _ l) fun _ _=>N3 (m:=3) rfl rfl (U3 E _) fun a _=>N3 (m:=0) rfl rfl (Aml E _) fun h _=>Tp _
theorem Ari (s:An)(E:Int)(l:List Token):Nm E 1 l (F8 s 3 l E) (Agp s):=
 Aiy<|N3 (m:=0) rfl rfl (O7 E 1 8 l) fun _ _=>Tp _
theorem Aqw (s:An)(E:Int)(l:List Token)(hl : ∀ t ∈ l,0≤t.N):Nm E 1 l (Gc s 4 l E) (Ae6 s):=by
 have hn:Nm E 1 l ((Hw 2 l E).bind fun r=>.ok r.N) (Ph 0 60 10):=by
  have h:=Ael (E:=E) (l:=l) (fun t=>t.N) (Ac8 2 (fun t=>decide (t.N≤60)&&(Int.tmod t.N 10==0)) l E _ rfl G8 (fun _=>rfl))
  have e:((Q4 fun t=>t.Kind==2&&(decide (t.N≤60)&&(Int.tmod t.N 10==0))).bind fun t=>Rd.pure t.N) l=Ph 0 60 10 l:=by
   unfold Ph Rd.bind
   cases l with
   | nil=>rfl
   | cons t l=>
    have h0:decide (0≤t.N)=true:=decide_eq_true (hl t (List.mem_cons_self ..))
    simp only [Q4,Air,h0,Bool.true_and]
  unfold Nm at h ⊢
  rw [e] at h
  exact h
 have:Nm E (1+0) l (((Hw 2 l E).bind fun r=>.ok r.N).bind fun n=>.ok (Ez 4 s [] n ⟨0,0⟩)) (Ae6 s):=N3 rfl rfl hn fun _ _=>Tp _
 rw [R.bind_assoc] at this
 exact Aiy this
section
variable {α β:Type} {E:Int}
theorem Z6 {item:An→List Token→R (α×List Token)}{p:An→Rd α}(hi : ∀ s l,item s l=run E (p s l))(acc:List α)(sz:Nat)(h:(acc.length+1) * sz≤D0)(l:List Token) :
  ((Ca l E).bind fun r1=>(item r1 (l.drop 1)).bind fun r2=>(Ce [59] r2.2 E).bind fun _=>if(acc.length+[r2.1].length) * sz≤D0 then R.ok ((r2.2.drop 1),acc++[r2.1]) else .bad)=(run E (E7 p l)).bind fun x=>.ok (x.2,acc++[x.1]):=by
 have e:((Ca l E).bind fun r1=>(item r1 (l.drop 1)).bind fun r2=>(Ce [59] r2.2 E).bind fun _=>R.ok (r2.1,r2.2.drop 1))=run E (E7 p l):=
  Ks (U3 E l) fun a _=>Ut (hi a _) fun x r _=>Ks (Acq E _ r) fun _ _=>rfl
 rw [← e]
 simp only [R.bind_assoc,R.ok_bind,List.length_singleton,if_pos h]
theorem Ue {k:Nat}{item:An→R α}{p:An→Rd α}(acc:List α)(sz:Nat)(h:(acc.length+1) * sz≤D0)(l:List Token)(hi : ∀ s,Nm E k (l.drop 1) (item s) (p s)) :
  ((Ca l E).bind fun r1=>(item r1).bind fun r2=>(Ce [59] ((l.drop 1).drop k) E).bind fun _=>if(acc.length+[r2].length) * sz≤D0 then R.ok (acc++[r2]) else .bad)=((run E (E7 p l)).bind fun x=>.ok (acc++[x.1])) ∧ ∀ x r,E7 p l=.ok (x,r)→r=l.drop (k+2):=by
 have e:Nm E (k+2) l ((Ca l E).bind fun r1=>(item r1).bind fun r2=>(Ce [59] ((l.drop 1).drop k) E).bind fun _=>R.ok r2) (E7 p):=
  N3 (m:=k+1) (by omega) rfl (U3 E l) fun a _=>N3 (m:=1) rfl rfl (hi a) fun x _=>N3 (m:=0) rfl rfl (Acq E _ _) fun _ _=>Tp _
 refine⟨?_,e.2⟩
 have e1:=congrArg (fun z=>R.bind z fun x=>R.ok (acc++[x])) e.1
 simp only [R.bind_assoc,R.ok_bind] at e1
 rw [← e1]
 simp only [List.length_singleton,if_pos h]
end
end Go.Am
namespace Go.Am
open Go
set_option linter.unusedVariables false
set_option linter.unusedSimpArgs false
theorem Avq (E:Int)(t:Token)(r:List Token)(v:List Volume)(acc:List Airport)(h:acc.length≤16):Kd (t::r) E v acc=if 16≤acc.length then .pan ⟨101,.two .i64 .i64 t.At 2⟩ else(run E (E7 Afq r)).bind fun x=>.ok (x.2,acc++[x.1]):=by
 show(Hy 16 (t::r) E v acc).bind (fun r=>.ok r)=_
 rw [R.bind_ok]
 unfold Hy Ig
 by_cases hf:16≤acc.length
 ·have e:((acc.length:Int)==16)=true:=by rw [beq_iff_eq]; omega
  rw [if_pos hf]
  simp only [e,if_true,La,R.pan_bind]
  rfl
 ·have e:((acc.length:Int)==16)=false:=by rw [beq_eq_false_iff_ne]; omega
  have e1:(0:Int)≤1∧1≤((t::r).length:Int):=by simp only [List.length_cons]; omega
  rw [if_neg hf]
  simp only [e,Bool.false_eq_true,if_false,if_pos e1]
  exact Z6 (E:=E) (item:=fun s l=>Fa s l E v) (fun s l=>Aw4 s E l v) acc 40 (by unfold D0; omega) r
theorem Aul (E:Int)(t:Token)(r:List Token)(acc:List Class)(h:acc.length≤8):Kb (t::r) E acc=if 8≤acc.length then .pan ⟨101,.two .i64 .i64 t.At 2⟩ else(run E (E7 Aer r)).bind fun x=>.ok (acc++[x.1]):=by
 show(Jd 8 (t::r) E acc).bind (fun r=>.ok r)=_
 rw [R.bind_ok]
 unfold Jd Jj
 by_cases hf:8≤acc.length
 ·have e:((acc.length:Int)==8)=true:=by rw [beq_iff_eq]; omega
  rw [if_pos hf]
  simp only [e,if_true,La,R.pan_bind]
  rfl
 ·have e:((acc.length:Int)==8)=false:=by rw [beq_eq_false_iff_ne]; omega
  have e1:(0:Int)≤1∧1≤((t::r).length:Int):=by simp only [List.length_cons]; omega
  rw [if_neg hf]
  simp only [e,Bool.false_eq_true,if_false,if_pos e1]
  have q:=(Ue (E:=E) (k:=6) (item:=fun s=>Fw s (r.drop 1) E) acc 40 (by unfold D0; omega) r (fun s=>Aqp s E _)).1
  have ee:Int.toNat 1=1:=rfl
  simp only [ee,List.drop_drop,Nat.reduceAdd] at q ⊢
  exact q
theorem Au4 (E:Int)(t:Token)(r:List Token)(v:List Volume)(acc:List Config)(h:acc.length≤32):Kf (t::r) E v acc=if 32≤acc.length then .pan ⟨101,.two .i64 .i64 t.At 2⟩ else(run E (E7 Afp r)).bind fun x=>.ok (x.2,acc++[x.1]):=by
 show(Ik 32 (t::r) E v acc).bind (fun r=>.ok r)=_
 rw [R.bind_ok]
 unfold Ik I0
 by_cases hf:32≤acc.length
 ·have e:((acc.length:Int)==32)=true:=by rw [beq_iff_eq]; omega
  rw [if_pos hf]
  simp only [e,if_true,La,R.pan_bind]
  rfl
 ·have e:((acc.length:Int)==32)=false:=by rw [beq_eq_false_iff_ne]; omega
  have e1:(0:Int)≤1∧1≤((t::r).length:Int):=by simp only [List.length_cons]; omega
  rw [if_neg hf]
  simp only [e,Bool.false_eq_true,if_false,if_pos e1]
  exact Z6 (E:=E) (item:=fun s l=>E8 s l E v) (fun s l=>Aw2 s E l v) acc 64 (by unfold D0; omega) r
theorem Av4 (E:Int)(t:Token)(r:List Token)(acc:List Rule)(h:acc.length≤64):Kh (t::r) E acc=if 64≤acc.length then .pan ⟨101,.two .i64 .i64 t.At 2⟩ else(run E (E7 Agq r)).bind fun x=>.ok (acc++[x.1]):=by
 show((Jx 64 (t::r) E acc 1).bind (fun r=>.ok r)).bind (fun r=>.ok r)=_
 rw [R.bind_ok,R.bind_ok]
 unfold Jx J7
 by_cases hf:64≤acc.length
 ·have e:((acc.length:Int)==64)=true:=by rw [beq_iff_eq]; omega
  rw [if_pos hf]
  simp only [e,if_true,La,R.pan_bind]
  rfl
 ·have e:((acc.length:Int)==64)=false:=by rw [beq_eq_false_iff_ne]; omega
  have e1:(0:Int)≤1∧1≤((t::r).length:Int):=by simp only [List.length_cons]; omega
  rw [if_neg hf]
  simp only [e,Bool.false_eq_true,if_false,if_pos e1]
  have q:=(Ue (E:=E) (k:=5) (item:=fun s=>F5 s 1 (r.drop 1) E) acc 80 (by unfold D0; omega) r (fun s=>Are s E _)).1
  have ee:Int.toNat 1=1:=rfl
  simp only [ee,List.drop_drop,Nat.reduceAdd] at q ⊢
  exact q
theorem Avb (E:Int)(t:Token)(r:List Token)(acc:List Rule)(h:acc.length≤64):J9 (t::r) E acc=if 64≤acc.length then .pan ⟨101,.two .i64 .i64 t.At 2⟩ else(run E (E7 Ag5 r)).bind fun x=>.ok (acc++[x.1]):=by
 show((Jy 64 (t::r) E acc 2).bind (fun r=>.ok r)).bind (fun r=>.ok r)=_
 rw [R.bind_ok,R.bind_ok]
 unfold Jy Ke
 by_cases hf:64≤acc.length
 ·have e:((acc.length:Int)==64)=true:=by rw [beq_iff_eq]; omega
  rw [if_pos hf]
  simp only [e,if_true,La,R.pan_bind]
  rfl
 ·have e:((acc.length:Int)==64)=false:=by rw [beq_eq_false_iff_ne]; omega
  have e1:(0:Int)≤1∧1≤((t::r).length:Int):=by simp only [List.length_cons]; omega
  rw [if_neg hf]
  simp only [e,Bool.false_eq_true,if_false,if_pos e1]
  exact(Ue (E:=E) (k:=0) (item:=fun s=>(Hu s 2).bind fun _=>.ok (Ez 2 s [] 0 ⟨0,0⟩)) acc 80 (by unfold D0; omega) r (fun s=>Tp _)).1
theorem Avd (E:Int)(t:Token)(r:List Token)(hl : ∀ x ∈ r,0≤x.N)(acc:List Rule)(h:acc.length≤64):Jk (t::r) E acc=if 64≤acc.length then .pan ⟨101,.two .i64 .i64 t.At 2⟩ else(run E (E7 Ae6 r)).bind fun x=>.ok (acc++[x.1]):=by
 show((Js 64 (t::r) E acc 4).bind (fun r=>.ok r)).bind (fun r=>.ok r)=_
 rw [R.bind_ok,R.bind_ok]
 unfold Js J1
 by_cases hf:64≤acc.length
 ·have e:((acc.length:Int)==64)=true:=by rw [beq_iff_eq]; omega
  rw [if_pos hf]
  simp only [e,if_true,La,R.pan_bind]
  rfl
 ·have e:((acc.length:Int)==64)=false:=by rw [beq_eq_false_iff_ne]; omega
  have e1:(0:Int)≤1∧1≤((t::r).length:Int):=by simp only [List.length_cons]; omega
  rw [if_neg hf]
  simp only [e,Bool.false_eq_true,if_false,if_pos e1]
  have q:=(Ue (E:=E) (k:=1) (item:=fun s=>Gc s 4 (r.drop 1) E) acc 80 (by unfold D0; omega) r (fun s=>Aqw s E _ (fun x hx=>hl x (List.mem_of_mem_drop hx)))).1
  have ee:Int.toNat 1=1:=rfl
  simp only [ee,List.drop_drop,Nat.reduceAdd] at q ⊢
  exact q
theorem At3 (E:Int)(t:Token)(r:List Token)(v:List Volume)(acc:List Route)(h:acc.length≤64):J5 (t::r) E v acc=if 64≤acc.length then .pan ⟨101,.two .i64 .i64 t.At 2⟩ else(run E (E7 Ae3 r)).bind fun x=>.ok (x.2,acc++[x.1]):=by
 show(I9 64 (t::r) E v acc).bind (fun r=>.ok r)=_
 rw [R.bind_ok]
 unfold I9 Jh
 by_cases hf:64≤acc.length
 ·have e:((acc.length:Int)==64)=true:=by rw [beq_iff_eq]; omega
  rw [if_pos hf]
  simp only [e,if_true,La,R.pan_bind]
  rfl
 ·have e:((acc.length:Int)==64)=false:=by rw [beq_eq_false_iff_ne]; omega
  have e1:(0:Int)≤1∧1≤((t::r).length:Int):=by simp only [List.length_cons]; omega
  rw [if_neg hf]
  simp only [e,Bool.false_eq_true,if_false,if_pos e1]
  exact Z6 (E:=E) (item:=fun s l=>E6 s l E v) (fun s l=>Axd s E l v) acc 112 (by unfold D0; omega) r
theorem Auq (E:Int)(t:Token)(r:List Token)(v:List Volume)(acc:List Sector)(h:acc.length≤64):Ka (t::r) E v acc=if 64≤acc.length then .pan ⟨101,.two .i64 .i64 t.At 2⟩ else(run E (E7 Ae7 r)).bind fun x=>.ok (x.2,acc++[x.1]):=by
 show(Io 64 (t::r) E v acc).bind (fun r=>.ok r)=_
 rw [R.bind_ok]
 unfold Io I6
 by_cases hf:64≤acc.length
 ·have e:((acc.length:Int)==64)=true:=by rw [beq_iff_eq]; omega
  rw [if_pos hf]
  simp only [e,if_true,La,R.pan_bind]
  rfl
 ·have e:((acc.length:Int)==64)=false:=by rw [beq_eq_false_iff_ne]; omega
  have e1:(0:Int)≤1∧1≤((t::r).length:Int):=by simp only [List.length_cons]; omega
  rw [if_neg hf]
  simp only [e,Bool.false_eq_true,if_false,if_pos e1]
  exact Z6 (E:=E) (item:=fun s l=>E5 s l E v) (fun s l=>Awk s E l v) acc 80 (by unfold D0; omega) r
theorem Au8 (E:Int)(t:Token)(r:List Token)(v:List Volume)(acc:List Segment)(h:acc.length≤128):Kc (t::r) E v acc=if 128≤acc.length then .pan ⟨101,.two .i64 .i64 t.At 2⟩ else(run E (E7 Afn r)).bind fun x=>.ok (x.2,acc++[x.1]):=by
 show(Hx 128 (t::r) E v acc).bind (fun r=>.ok r)=_
 rw [R.bind_ok]
 unfold Hx Ib
 by_cases hf:128≤acc.length
 ·have e:((acc.length:Int)==128)=true:=by rw [beq_iff_eq]; omega
  rw [if_pos hf]
  simp only [e,if_true,La,R.pan_bind]
  rfl
 ·have e:((acc.length:Int)==128)=false:=by rw [beq_eq_false_iff_ne]; omega
  have e1:(0:Int)≤1∧1≤((t::r).length:Int):=by simp only [List.length_cons]; omega
  rw [if_neg hf]
  simp only [e,Bool.false_eq_true,if_false,if_pos e1]
  exact Z6 (E:=E) (item:=fun s l=>E9 s l E v) (fun s l=>Axx s E l v) acc 72 (by unfold D0; omega) r
theorem Auo (E:Int)(t:Token)(r:List Token)(acc:List Volume)(h:acc.length≤64):J2 (t::r) E acc=if 64≤acc.length then .pan ⟨101,.two .i64 .i64 t.At 2⟩ else(run E (E7 Aew r)).bind fun x=>.ok (x.2,acc++[x.1]):=by
 show(Il 64 (t::r) E acc).bind (fun r=>.ok r)=_
 rw [R.bind_ok]
 unfold Il Ix
 by_cases hf:64≤acc.length
 ·have e:((acc.length:Int)==64)=true:=by rw [beq_iff_eq]; omega
  rw [if_pos hf]
  simp only [e,if_true,La,R.pan_bind]
  rfl
 ·have e:((acc.length:Int)==64)=false:=by rw [beq_eq_false_iff_ne]; omega
  have e1:(0:Int)≤1∧1≤((t::r).length:Int):=by simp only [List.length_cons]; omega
  rw [if_neg hf]
  simp only [e,Bool.false_eq_true,if_false,if_pos e1]
  exact Z6 (E:=E) (item:=fun s l=>Fb s l E acc) (fun s l=>Axz s E l acc) acc 40 (by unfold D0; omega) r
theorem Avw (E:Int)(t:Token)(r:List Token)(acc:List Rule)(h:acc.length≤64):Ji (t::r) E acc=if 64≤acc.length then .pan ⟨101,.two .i64 .i64 t.At 2⟩ else(run E (E7 Agp r)).bind fun x=>.ok (acc++[x.1]):=by
 show((Jz 64 (t::r) E acc 3).bind (fun r=>.ok r)).bind (fun r=>.ok r)=_
 rw [R.bind_ok,R.bind_ok]
 unfold Jz J6
 by_cases hf:64≤acc.length
 ·have e:((acc.length:Int)==64)=true:=by rw [beq_iff_eq]; omega
  rw [if_pos hf]
  simp only [e,if_true,La,R.pan_bind]
  rfl
 ·have e:((acc.length:Int)==64)=false:=by rw [beq_eq_false_iff_ne]; omega
  have e1:(0:Int)≤1∧1≤((t::r).length:Int):=by simp only [List.length_cons]; omega
  rw [if_neg hf]
  simp only [e,Bool.false_eq_true,if_false,if_pos e1]
  have q:=(Ue (E:=E) (k:=1) (item:=fun s=>F8 s 3 (r.drop 1) E) acc 80 (by unfold D0; omega) r (fun s=>Ari s E _)).1
  have ee:Int.toNat 1=1:=rfl
  simp only [ee,List.drop_drop,Nat.reduceAdd] at q ⊢
  exact q
end Go.Am
namespace Go.Am
open Go
set_option linter.unusedVariables false
set_option linter.unusedSimpArgs false
def tup (x:Airspace×List Token):List Token×List Volume×List Sector×List Config×List Segment×List Route×List Airport×List Class×List Rule:=
 (x.2,x.1.Volumes,x.1.Sectors,x.1.Configs,x.1.Segments,x.1.Routes,x.1.Airports,x.1.Classes,x.1.Rules)
def Agj (A:Airspace):Prop:=A.Volumes.length≤64∧A.Sectors.length≤64∧A.Configs.length≤32∧A.Segments.length≤128∧A.Routes.length≤64∧A.Airports.length≤16∧A.Classes.length≤8∧A.Rules.length≤64
section
variable {α β:Type} {E:Int} {t:Token} {r:List Token} {acc:List α} {c:Prop} [Decidable c] {p:An→Rd α} {upd:α→Airspace}
theorem Wz {x:R (List Token×List α)}{F:List Token×List α→R (List Token×List Volume×List Sector×List Config×List Segment×List Route×List Airport×List Class×List Rule)}
  (hx:x=if c then .pan ⟨101,.two .i64 .i64 t.At 2⟩ else(run E (E7 p r)).bind fun y=>.ok (y.2,acc++[y.1])) (hF : ∀ y l,F (l,acc++[y])=.ok (tup (upd y,l))) :
  x.bind F=(run E (if decide c=true then .error (t::r,2) else((E7 p).bind fun y=>.pure (upd y)) r)).bind fun z=>.ok (tup z):=by
 subst hx
 by_cases hc:c
 ·rw [if_pos hc,if_pos (decide_eq_true hc)]; rfl
 ·rw [if_neg hc,if_neg (by simpa using hc)]
  unfold Rd.bind
  cases E7 p r with
  | error e=>rfl
  | ok y=>exact hF _ _
theorem Ac2 {m:Nat}{x:R (List α)}{F:List α→R (List Token×List Volume×List Sector×List Config×List Segment×List Route×List Airport×List Class×List Rule)}
  (hx:x=if c then .pan ⟨101,.two .i64 .i64 t.At 2⟩ else(run E (E7 p r)).bind fun y=>.ok (acc++[y.1])) (hr : ∀ y q,E7 p r=.ok (y,q)→q=r.drop m) (hF : ∀ y,F (acc++[y])=.ok (tup (upd y,r.drop m))) :
  x.bind F=(run E (if decide c=true then .error (t::r,2) else((E7 p).bind fun y=>.pure (upd y)) r)).bind fun z=>.ok (tup z):=by
 subst hx
 by_cases hc:c
 ·rw [if_pos hc,if_pos (decide_eq_true hc)]; rfl
 ·rw [if_neg hc,if_neg (by simpa using hc)]
  unfold Rd.bind
  cases h:E7 p r with
  | error e=>rfl
  | ok y=>
   obtain⟨y,q⟩:=y
   have:=hr y q h
   subst this
   exact hF _
end
theorem Ata (r:List Token) : ∀ x q,E7 Aer r=.ok (x,q)→q=r.drop 8:=
 (Ue (E:=0) (k:=6) (item:=fun s=>Fw s (r.drop 1) 0) ([]:List Class) 80 (by decide) r (fun s=>Aqp s 0 _)).2
theorem Aro (r:List Token) : ∀ x q,E7 Agq r=.ok (x,q)→q=r.drop 7:=
 (Ue (E:=0) (k:=5) (item:=fun s=>F5 s 1 (r.drop 1) 0) ([]:List Rule) 80 (by decide) r (fun s=>Are s 0 _)).2
theorem Asy (r:List Token) : ∀ x q,E7 Ag5 r=.ok (x,q)→q=r.drop 2:=
 (Ue (E:=0) (k:=0) (item:=fun s=>(Hu s 2).bind fun _=>.ok (Ez 2 s [] 0 ⟨0,0⟩)) ([]:List Rule) 80 (by decide) r (fun s=>Tp _)).2
theorem Atl (r:List Token)(hl : ∀ x ∈ r,0≤x.N) : ∀ x q,E7 Ae6 r=.ok (x,q)→q=r.drop 3:=
 (Ue (E:=0) (k:=1) (item:=fun s=>Gc s 4 (r.drop 1) 0) ([]:List Rule) 80 (by decide) r (fun s=>Aqw s 0 _ (fun x hx=>hl x (List.mem_of_mem_drop hx)))).2
theorem Asi (r:List Token) : ∀ x q,E7 Agp r=.ok (x,q)→q=r.drop 3:=
 (Ue (E:=0) (k:=1) (item:=fun s=>F8 s 3 (r.drop 1) 0) ([]:List Rule) 80 (by decide) r (fun s=>Ari s 0 _)).2
theorem Avp (E:Int)(A:Airspace)(hA:Agj A)(t:Token)(r:List Token)(hl : ∀ x ∈ r,0≤x.N):F0 (t::r) E A.Volumes A.Sectors A.Configs A.Segments A.Routes A.Airports A.Classes A.Rules=(run E (Qu A (t::r))).bind fun x=>.ok (tup x):=by
 obtain⟨hVolumes,hSectors,hConfigs,hSegments,hRoutes,hAirports,hClasses,hRules⟩:=hA
 have e:Es (t::r) 0=.ok t:=rfl
 have e1:Qu A (t::r)=(if(t.Kind==1)=true then(match Xo t.Text A with | none=>.error (t::r,80) | some (f,p)=>if f=true then .error (t::r,2) else p r) else .error (t::r,80)):=rfl
 rw [e1]
 unfold F0 Xo
 rw [e,R.ok_bind]
 by_cases hk:(t.Kind==1)=true
 ·rw [if_pos hk,if_pos hk]
  by_cases hair:(t.Text==[97,105,114,112,111,114,116])=true
  ·rw [if_pos hair,if_pos hair]
   exact Wz (upd:=fun x=>{ A with Airports:=A.Airports++[x] }) (Avq E t r A.Volumes A.Airports hAirports) (fun _ _=>rfl)
  rw [if_neg hair,if_neg hair]
  by_cases hcla:(t.Text==[99,108,97,115,115])=true
  ·rw [if_pos hcla,if_pos hcla]
   exact Ac2 (upd:=fun x=>{ A with Classes:=A.Classes++[x] }) (Aul E t r A.Classes hClasses) (Ata r) (fun _=>by simp only [show Int.toNat 1=1 from rfl,List.drop_drop,Nat.reduceAdd]; rfl)
  rw [if_neg hcla,if_neg hcla]
  by_cases hcon:(t.Text==[99,111,110,102,105,103])=true
  ·rw [if_pos hcon,if_pos hcon]
   exact Wz (upd:=fun x=>{ A with Configs:=A.Configs++[x] }) (Au4 E t r A.Volumes A.Configs hConfigs) (fun _ _=>rfl)
  rw [if_neg hcon,if_neg hcon]
  by_cases hcur:(t.Text==[99,117,114,102,101,119])=true
  ·rw [if_pos hcur,if_pos hcur]
   exact Ac2 (upd:=fun x=>{ A with Rules:=A.Rules++[x] }) (Av4 E t r A.Rules hRules) (Aro r) (fun _=>by simp only [show Int.toNat 1=1 from rfl,List.drop_drop,Nat.reduceAdd]; rfl)
  rw [if_neg hcur,if_neg hcur]
  by_cases hexe:(t.Text==[101,120,101,109,112,116])=true
  ·rw [if_pos hexe,if_pos hexe]
   exact Ac2 (upd:=fun x=>{ A with Rules:=A.Rules++[x] }) (Avb E t r A.Rules hRules) (Asy r) (fun _=>by simp only [show Int.toNat 1=1 from rfl,List.drop_drop,Nat.reduceAdd]; rfl)
  rw [if_neg hexe,if_neg hexe]
  by_cases hlon:(t.Text==[108,111,110,103,101,115,116])=true
  ·rw [if_pos hlon,if_pos hlon]
   exact Ac2 (upd:=fun x=>{ A with Rules:=A.Rules++[x] }) (Avd E t r hl A.Rules hRules) (Atl r hl) (fun _=>by simp only [show Int.toNat 1=1 from rfl,List.drop_drop,Nat.reduceAdd]; rfl)
  rw [if_neg hlon,if_neg hlon]
  by_cases hrou:(t.Text==[114,111,117,116,101])=true
  ·rw [if_pos hrou,if_pos hrou]
   exact Wz (upd:=fun x=>{ A with Routes:=A.Routes++[x] }) (At3 E t r A.Volumes A.Routes hRoutes) (fun _ _=>rfl)
  rw [if_neg hrou,if_neg hrou]
  by_cases hsec:(t.Text==[115,101,99,116,111,114])=true
  ·rw [if_pos hsec,if_pos hsec]
   exact Wz (upd:=fun x=>{ A with Sectors:=A.Sectors++[x] }) (Auq E t r A.Volumes A.Sectors hSectors) (fun _ _=>rfl)
  rw [if_neg hsec,if_neg hsec]
  by_cases hseg:(t.Text==[115,101,103,109,101,110,116])=true
  ·rw [if_pos hseg,if_pos hseg]
   exact Wz (upd:=fun x=>{ A with Segments:=A.Segments++[x] }) (Au8 E t r A.Volumes A.Segments hSegments) (fun _ _=>rfl)
  rw [if_neg hseg,if_neg hseg]
  by_cases hvol:(t.Text==[118,111,108,117,109,101])=true
  ·rw [if_pos hvol,if_pos hvol]
   exact Wz (upd:=fun x=>{ A with Volumes:=A.Volumes++[x] }) (Auo E t r A.Volumes hVolumes) (fun _ _=>rfl)
  rw [if_neg hvol,if_neg hvol]
  by_cases hwei:(t.Text==[119,101,105,103,104,116])=true
  ·rw [if_pos hwei,if_pos hwei]
   exact Ac2 (upd:=fun x=>{ A with Rules:=A.Rules++[x] }) (Avw E t r A.Rules hRules) (Asi r) (fun _=>by simp only [show Int.toNat 1=1 from rfl,List.drop_drop,Nat.reduceAdd]; rfl)
  rw [if_neg hwei,if_neg hwei]
  unfold E2
  rw [An2]; rfl
 ·rw [if_neg hk,if_neg hk]
  unfold E2
  rw [An2]; rfl
end Go.Am
namespace Go.Am
open Go
set_option linter.unusedVariables false
set_option linter.unusedSimpArgs false
def Mg {α:Type}(p:Rd α):Prop := ∀ l a q,p l=.ok (a,q)→q <:+ l
section
variable {α β:Type}
theorem Cm {p:Rd α}{f:α→Rd β}(hp:Mg p)(hf : ∀ a,Mg (f a)):Mg (p.bind f):=fun l b q h=>by
 obtain⟨a,m,h1,h2⟩:=Ape h
 exact(hf a m b q h2).trans (hp l a m h1)
theorem Gn (a:α):Mg (Rd.pure a):=fun l b q h=>by cases h; exact List.suffix_refl _
theorem Ar8 (e:Int):Mg (Rd.fail e:Rd α):=fun l b q h=>nomatch h
theorem Aie (q:Token→Bool):Mg (Q4 q):=fun l a r h=>by
 obtain⟨rfl,_⟩:=Aou h
 exact List.suffix_cons _ _
theorem Al7 (k:Int)(w:An):Mg (rIs k w):=fun l a r h=>by
 cases l with
 | nil=>cases h; exact List.suffix_refl _
 | cons t l=>cases h; exact List.suffix_refl _
theorem Ru:Mg Oy:=Cm (Aie _) fun _=>Gn _
theorem Mv (k:Int)(w:An):Mg (O8 k w):=Cm (Aie _) fun _=>Gn _
theorem Re (a b c:Int):Mg (Ph a b c):=Cm (Aie _) fun _=>Gn _
theorem Akb:Mg Sd:=Cm (Re _ _ _) fun _=>Cm (Mv _ _) fun _=>Cm (Re _ _ _) fun _=>Gn _
theorem Tq {p:Rd α}(hp:Mg p) : ∀ (n:Nat) (acc:List α),Mg (Fo p n acc)
 | 0,acc=>by
  rw [Fo]
  refine Cm hp fun a=>Cm (Al7 _ _) fun b=>?_
  cases b
  ·exact Gn _
  ·exact Ar8 _
 | n+1,acc=>by
  rw [Fo]
  refine Cm hp fun a=>Cm (Al7 _ _) fun b=>?_
  cases b
  ·exact Gn _
  ·exact Cm (Mv _ _) fun _=>Tq hp n _
theorem Ajr (w:An):Mg (V5 w):=Cm (Al7 _ _) fun b=>by
 cases b
 ·exact Gn _
 ·exact Cm (Mv _ _) fun _=>Tq Akb _ _
theorem As8:Mg Xu:=Cm (Mv _ _) fun _=>Cm Ru fun _=>Cm (Re _ _ _) fun _=>Gn _
theorem Av6 (s:An):Mg (Aew s):=Cm (Ajr _) fun _=>Gn _
theorem Avs (s:An):Mg (Ae7 s):=Cm (Mv _ _) fun _=>Cm (Tq Ru _ _) fun _=>Cm (Mv _ _) fun _=>Cm (Re _ _ _) fun _=>Cm (Mv _ _) fun _=>Cm (Re _ _ _) fun _=>Gn _
theorem Au6 (s:An):Mg (Afp s):=Cm (Mv _ _) fun _=>Cm (Tq Ru _ _) fun _=>Gn _
theorem Au0 (s:An):Mg (Afn s):=Cm (Mv _ _) fun _=>Cm Ru fun _=>Cm (Mv _ _) fun _=>Cm (Re _ _ _) fun _=>Cm (Ajr _) fun _=>Gn _
theorem Auw (s:An):Mg (Ae3 s):=Cm (Mv _ _) fun _=>Cm Ru fun _=>Cm (Mv _ _) fun _=>Cm Ru fun _=>Cm (Mv _ _) fun _=>Cm (Tq Ru _ _) fun _=>Gn _
theorem Auk (s:An):Mg (Afq s):=Cm (Tq As8 _ _) fun _=>Gn _
theorem Au7 (s:An):Mg (Aer s):=Cm (Mv _ _) fun _=>Cm (Re _ _ _) fun _=>Cm (Mv _ _) fun _=>Cm (Re _ _ _) fun _=>Cm (Mv _ _) fun _=>Cm (Re _ _ _) fun _=>Gn _
theorem Av7 (s:An):Mg (Agq s):=Cm (Mv _ _) fun _=>Cm Ru fun _=>Cm Akb fun _=>Gn _
theorem At9 (s:An):Mg (Ag5 s):=Gn _
theorem Au1 (s:An):Mg (Agp s):=Cm (Re _ _ _) fun _=>Gn _
theorem Avt (s:An):Mg (Ae6 s):=Cm (Re _ _ _) fun _=>Gn _
theorem Avv {p:An→Rd α}(hp : ∀ s,Mg (p s)):Mg (E7 p):=Cm Ru fun s=>Cm (hp s) fun _=>Cm (Mv _ _) fun _=>Gn _
end
theorem Gb {c:Prop}[Decidable c]{α:Type}{a b:Option α}{y:α}(h:(if c then a else b)=some y):a=some y∨b=some y:=by
 by_cases hc:c
 ·rw [if_pos hc] at h; exact .inl h
 ·rw [if_neg hc] at h; exact .inr h
theorem At6 {w:An}{A:Airspace}{f:Bool}{p:Rd Airspace}(h:Xo w A=some (f,p)):Mg p∧(Agj A→f=false → ∀ l B q,p l=.ok (B,q)→Agj B):=by
 unfold Xo at h
 refine(Gb h).elim (fun h=>?_) (fun h=>(Gb h).elim (fun h=>?_) (fun h=>(Gb h).elim (fun h=>?_) (fun h=>(Gb h).elim (fun h=>?_) (fun h=>(Gb h).elim (fun h=>?_) (fun h=>(Gb h).elim (fun h=>?_) (fun h=>(Gb h).elim (fun h=>?_) (fun h=>(Gb h).elim (fun h=>?_) (fun h=>(Gb h).elim (fun h=>?_) (fun h=>(Gb h).elim (fun h=>?_) (fun h=>(Gb h).elim (fun h=>?_) (fun h=>nomatch h)))))))))))
 all_goals
  cases h
  refine⟨Cm (Avv (by first | exact Auk | exact Au7 | exact Au6 | exact Av7 | exact At9 | exact Avt | exact Auw | exact Avs | exact Au0 | exact Av6 | exact Au1)) fun _=>Gn _,fun hF hf l B q hB=>?_⟩
  obtain⟨x,m,_,h2⟩:=Ape hB
  cases h2
  obtain⟨h1,h2,h3,h4,h5,h6,h7,h8⟩:=hF
  have hf:=of_decide_eq_false hf
  refine⟨?_,?_,?_,?_,?_,?_,?_,?_⟩ <;> first | assumption | (simp only [List.length_append,List.length_singleton]; omega)
theorem Ath {A:Airspace}{t:Token}{r:List Token}{B:Airspace}{q:List Token}(hA:Agj A)(h:Qu A (t::r)=.ok (B,q)):Agj B∧q <:+ r:=by
 simp only [Qu] at h
 split at h
 ·cases hi:Xo t.Text A with
  | none=>rw [hi] at h; cases h
  | some x=>
   obtain⟨f,p⟩:=x
   rw [hi] at h
   simp only at h
   cases f
   ·obtain⟨h1,h2⟩:=At6 hi
    exact⟨h2 hA rfl r B q h,h1 r B q h⟩
   ·cases h
 ·cases h
def Xj:Nat→Airspace→List Token→Except (List Token×Int) Airspace
 | _,A,[]=>.ok A
 | 0,A,t::r=>.error (t::r,0)
 | n+1,A,t::r=>match Qu A (t::r) with
  | .error e=>.error e
  | .ok (B,q)=>Xj n B q
def V2:Airspace:={ Volumes:=[],Sectors:=[],Configs:=[],Segments:=[],Routes:=[],Airports:=[],Classes:=[],Rules:=[] }
def Tc (l:List Token):Except (List Token×Int) Airspace:=Xj l.length V2 l
def ps (A:Airspace)(l:List Token):=(l,A.Airports,A.Classes,A.Configs,A.Rules,A.Routes,A.Sectors,A.Segments,A.Volumes)
theorem Ap1 (src:An) : ∀ (n:Nat) (A:Airspace) (l:List Token),l.length≤n→Agj A→(∀ x ∈ l,0≤x.N) →
  loop (un9 fun fL l l1 l2 l3 l4 l5 l6 l7=>Kp src fL l l1 l2 l3 l4 l5 l6 l7) (ps A l)=match Xj n A l with
   | .ok B=>.ok (ps B [])
   | .error (q,e)=>.pan ⟨101,.two .i64 .i64 (Ai7 (src.length:Int) q) e⟩:=by
 intro n
 induction n with
 | zero=>
  intro A l hl hA hN
  have:l=[]:=List.length_eq_zero_iff.1 (by omega)
  subst this
  rw [Xh]; rfl
 | succ n ih=>
  intro A l hl hA hN
  rw [Xh]
  cases l with
  | nil=>rfl
  | cons t r=>
   have e1:((t::r).length:Int) > 0:=by simp only [List.length_cons]; omega
   have hb:(un9 fun fL l l1 l2 l3 l4 l5 l6 l7=>Kp src fL l l1 l2 l3 l4 l5 l6 l7) (ps A (t::r))=(run (src.length:Int) (Qu A (t::r))).bind fun x=>.ok (.inl (ps x.1 x.2)):=by
    show Kp src (t::r) A.Airports A.Classes A.Configs A.Rules A.Routes A.Sectors A.Segments A.Volumes=_
    unfold Kp
    rw [if_pos e1,Avp _ A hA t r fun x hx=>hN x (List.mem_cons_of_mem _ hx),R.bind_assoc]
    rfl
   rw [hb,Xj]
   cases hd:Qu A (t::r) with
   | error e=>rfl
   | ok y=>
    obtain⟨B,q⟩:=y
    obtain⟨hB,hq⟩:=Ath hA hd
    exact ih B q (by have:=hq.length_le; simp only [List.length_cons] at hl; omega) hB fun x hx=>hN x (List.mem_cons_of_mem _ (hq.subset hx))
def Aws (E:Int):Except (List Token×Int) Airspace→Airspace×Int×Int
 | .ok A=>(A,0,0)
 | .error (q,e)=>(V2,Ai7 E q,e)
def Xe (s:An):Airspace×Int×Int:=if(Ki s).2.2=0 then Aws (s.length:Int) (Tc (Ki s).1) else(V2,(Ki s).2.1,(Ki s).2.2)
theorem Ass {s:An}(hN : ∀ x ∈ (Ki s).1,0≤x.N):Q3 s=.ok (Xe s):=by
 unfold Q3 Tx Xe
 rw [Awq,show(R.ok (Ki s)).np=R.ok (Ki s) from rfl,R.ok_bind]
 by_cases h:(Ki s).2.2=0
 ·rw [if_pos h,show((Ki s).2.2 != 0)=false by rw [h]; rfl]
  have:=Ap1 s _ V2 (Ki s).1 (Nat.le_refl _) ⟨by decide,by decide,by decide,by decide,by decide,by decide,by decide,by decide⟩ hN
  simp only [Bool.false_eq_true,if_false]
  rw [show((Ki s).1,([]:List Airport),([]:List Class),([]:List Config),([]:List Rule),([]:List Route),([]:List Sector),([]:List Segment),([]:List Volume))=ps V2 (Ki s).1 from rfl,this]
  unfold Tc
  cases Xj (Ki s).1.length V2 (Ki s).1 with
  | ok B=>rfl
  | error x=>rfl
 ·rw [if_neg h,if_pos (by simpa using h)]; rfl
end Go.Am
namespace Go.Am
open Go
set_option linter.unusedVariables false
set_option linter.unusedSimpArgs false
section
variable {E:Int} {L:List Token} (hL:L.length≤65536)
theorem Aa7 {α:Type}(q:Token→Bool)(f:Token→α)(t:Token)(r:List Token):((Q4 q).bind fun t=>.pure (f t)) (t::r)=if q t=true then .ok (f t,r) else .error (t::r,80):=by
 by_cases h:q t=true
 ·rw [if_pos h]; simp only [Rd.bind,Q4,h,if_true]; rfl
 ·rw [if_neg h]; simp only [Rd.bind,Q4,h]; rfl
theorem Amn (k:Int)(w:An)(t:Token)(r:List Token):O8 k w (t::r)=if Uq k w t=true then .ok ((),r) else .error (t::r,80):=Aa7 _ _ t r
theorem Apa (t:Token)(r:List Token):Oy (t::r)=if(t.Kind==1)=true then .ok (t.Text,r) else .error (t::r,80):=Aa7 _ _ t r
theorem Aj1 (lo hi st:Int)(t:Token)(r:List Token):Ph lo hi st (t::r)=if Air lo hi st t=true then .ok (t.N,r) else .error (t::r,80):=Aa7 _ _ t r
include hL
omit hL
include hL
end
end Go.Am
namespace Go.Am
open Go
set_option linter.unusedVariables false
set_option linter.unusedSimpArgs false
end Go.Am
namespace Go.Am
open Go
set_option linter.unusedVariables false
set_option linter.unusedSimpArgs false
set_option linter.unusedSectionVars false
end Go.Am
namespace Go.Am
open Go
set_option linter.unusedVariables false
set_option linter.unusedSimpArgs false
end Go.Am
namespace Go.Am
open Go
set_option linter.unusedVariables false
set_option linter.unusedSimpArgs false
theorem Azq {c:UInt8}{s:An}{t:Token}{k:Nat}(h:tk c s=some (some t,k)):0≤t.N:=by
 unfold tk at h
 repeat' split at h
 all_goals first
  | (simp only [Option.some.injEq,Prod.mk.injEq,reduceCtorEq,false_and] at h; done)
  | (simp only [Option.some.injEq,Prod.mk.injEq] at h; obtain⟨rfl,_⟩:=h; simp; done)
  | (exfalso; exact nomatch h)
theorem Ake : ∀ (n:Nat) (s:An) (p:Nat) (l:List Token),s.length≤n→Pe s p=.ok l→l.length≤s.length ∧ ∀ t ∈ l,0≤t.N
 | n,[],p,l,_,h=>by rw [Alw] at h; cases h; exact⟨Nat.le_refl _,fun _ h=>nomatch h⟩
 | 0,_::_,_,_,hn,_=>by simp at hn
 | n+1,c::s,p,l,hn,h=>by
  rw [Abo] at h
  cases ht:tk c s with
  | none=>rw [ht] at h; cases h
  | some x=>
   obtain⟨o,k⟩:=x
   rw [ht] at h
   simp only at h
   cases hr:Pe (s.drop k) (p+1+k) with
   | wrong e=>rw [hr] at h; cases h
   | ok l'=>
    rw [hr] at h
    simp only [List.length_cons] at hn
    obtain⟨h1,h2⟩:=Ake n (s.drop k) (p+1+k) l' (by rw [List.length_drop]; omega) hr
    cases h
    rw [List.length_drop] at h1
    cases o with
    | none=>exact⟨by simp; omega,h2⟩
    | some t=>
     refine⟨by simp; omega,fun u hu=>?_⟩
     rcases List.mem_cons.1 hu with rfl | hu
     ·show 0≤t.N
      exact Azq ht
     ·exact h2 u hu
theorem Anf (s:An):(Ki s).1.length≤65536∧(Ki s).1.length≤s.length ∧ ∀ t ∈ (Ki s).1,0≤t.N:=by
 unfold Ki
 split
 ·cases h:Pe s 0 with
  | wrong e=>exact⟨Nat.zero_le _,Nat.zero_le _,fun _ h=>nomatch h⟩
  | ok l=>
   obtain⟨h1,h2⟩:=Ake _ s 0 l (Nat.le_refl _) h
   exact⟨Nat.le_trans h1 ‹_›,h1,h2⟩
 ·exact⟨Nat.zero_le _,Nat.zero_le _,fun _ h=>nomatch h⟩
theorem Arp (s:An):Q3 s=.ok (Xe s):=Ass (Anf s).2.2
theorem Lp {α β:Type}(body:Nat→α→Unit→R (Unit ⊕ β))(L:List α)(h : ∀ j a,L[j]? = some a→body j a ()=.ok (.inl ())) : ∀ (l:List α) (k:Nat),L.drop k=l→each body k l ()=.ok (.inl ())
 | [],k,_=>rfl
 | a::l,k,e=>by
  rw [each,h k a (by have:=congrArg (·[0]?) e; simpa using this),R.ok_bind]
  exact Lp body L h l (k+1) (by have:=congrArg List.tail e; simpa using this)
theorem Sa {α:Type}{L:List α}{j:Nat}{a:α}(h:L[j]? = some a):Es L (j:Int)=.ok a:=by
 unfold Es
 rw [if_pos (by omega)]
 simp only [Int.toNat_natCast,h]
theorem Ahf (l:List Span):N4 l l=.ok true:=by
 unfold N4
 rw [if_neg (by simp),Lp _ l (fun j a h=>by simp only [Nr,Sa h,R.ok_bind,beq_self_eq_true,Bool.and_self,if_true]) l 0 rfl]; rfl
theorem Adw (l:List An):Me l l=.ok true:=by
 unfold Me
 rw [if_neg (by simp),Lp _ l (fun j a h=>by simp only [Nx,Sa h,R.ok_bind,beq_self_eq_true,if_true]) l 0 rfl]; rfl
theorem Afb (l:List Int):Hi l l=.ok true:=by
 unfold Hi
 rw [if_neg (by simp),Lp _ l (fun j a h=>by simp only [Ov,Sa h,R.ok_bind,bne_self_eq_false,Bool.false_eq_true,if_false]) l 0 rfl]; rfl
theorem Anr (a:Airspace):O3 a a=.ok true:=by
 unfold O3
 rw [if_neg (by simp)]
 rw [Lp _ a.Volumes (fun j x h=>by simp only [R8,Sa h,R.ok_bind,beq_self_eq_true,Bool.not_true,Bool.false_eq_true,if_false,Ahf,R4]) a.Volumes 0 rfl]
 simp only [R.ok_bind,Dv]
 rw [Lp _ a.Sectors (fun j x h=>by simp only [Pz,Sa h,R.ok_bind,beq_self_eq_true,bne_self_eq_false,Bool.or_self,Bool.not_true,Bool.false_eq_true,if_false,Adw,Afb]) a.Sectors 0 rfl]
 simp only [R.ok_bind,Dv]
 rw [Lp _ a.Configs (fun j x h=>by simp only [Ob,Sa h,R.ok_bind,beq_self_eq_true,bne_self_eq_false,Bool.or_self,Bool.not_true,Bool.false_eq_true,if_false,Adw,Afb]) a.Configs 0 rfl]
 simp only [R.ok_bind,Dv]
 rw [Lp _ a.Segments (fun j x h=>by simp only [Ml,Sa h,R.ok_bind,beq_self_eq_true,bne_self_eq_false,Bool.or_self,Bool.not_true,Bool.false_eq_true,if_false,Ahf]) a.Segments 0 rfl]
 simp only [R.ok_bind,Dv]
 rw [Lp _ a.Routes (fun j x h=>by simp only [K5,Sa h,R.ok_bind,beq_self_eq_true,bne_self_eq_false,Bool.or_self,Bool.not_true,Bool.false_eq_true,if_false,Adw,Afb]) a.Routes 0 rfl]
 simp only [R.ok_bind,Dv]
 rw [Lp _ a.Airports (fun j x h=>by
  simp only [Jn,Sa h,R.ok_bind,beq_self_eq_true,bne_self_eq_false,Bool.or_self,Bool.not_true,Bool.false_eq_true,if_false]
  rw [Lp _ x.Modes (fun j y h=>by simp only [R3,Sa h,R.ok_bind,beq_self_eq_true,Bool.and_self,if_true]) x.Modes 0 rfl]; rfl) a.Airports 0 rfl]
 simp only [R.ok_bind,Dv]
 rw [Lp _ a.Classes (fun j x h=>by simp only [Ie,Sa h,R.ok_bind,beq_self_eq_true,Bool.and_self,if_true]) a.Classes 0 rfl]
 simp only [R.ok_bind,Dv]
 rw [Lp _ a.Rules (fun j x h=>by simp only [G1,Sa h,R.ok_bind,beq_self_eq_true,Bool.and_self,if_true]) a.Rules 0 rfl]
 simp only [R.ok_bind,Dv]
end Go.Am
namespace Go.Am
open Go
set_option linter.unusedVariables false
set_option linter.unusedSimpArgs false
def Uo (t:Token):Token:={ t with At:=0 }
def Ay0 {α:Type}:PR α→PR α
 | .ok (a,r)=>.ok (a,r.map Uo)
 | .error (r,e)=>.error (r.map Uo,e)
def Lw {α:Type}(p:Rd α):Prop := ∀ l,p (l.map Uo)=Ay0 (p l)
section
variable {α β:Type}
theorem Cr {p:Rd α}{f:α→Rd β}(hp:Lw p)(hf : ∀ a,Lw (f a)):Lw (p.bind f):=fun l=>by
 unfold Rd.bind
 rw [hp l]
 cases h:p l with
 | error x=>rfl
 | ok y=>exact hf y.1 y.2
theorem It (a:α):Lw (Rd.pure a):=fun l=>rfl
theorem Atm (e:Int):Lw (Rd.fail e:Rd α):=fun l=>rfl
theorem Ai8 {q:Token→Bool}{f:Token→α}(hq : ∀ t,q (Uo t)=q t)(hf : ∀ t,f (Uo t)=f t):Lw ((Q4 q).bind fun t=>.pure (f t)):=fun l=>by
 cases l with
 | nil=>rfl
 | cons t l=>
  rw [List.map_cons,Aa7,Aa7,hq,hf]
  split <;> rfl
theorem Al8 (k:Int)(w:An):Lw (rIs k w):=fun l=>by cases l <;> rfl
theorem Rm:Lw Oy:=Ai8 (fun _=>rfl) fun _=>rfl
theorem My (k:Int)(w:An):Lw (O8 k w):=Ai8 (fun _=>rfl) fun _=>rfl
theorem Q1 (a b c:Int):Lw (Ph a b c):=Ai8 (fun _=>rfl) fun _=>rfl
theorem Ajm:Lw Sd:=Cr (Q1 _ _ _) fun _=>Cr (My _ _) fun _=>Cr (Q1 _ _ _) fun _=>It _
theorem T2 {p:Rd α}(hp:Lw p) : ∀ (n:Nat) (acc:List α),Lw (Fo p n acc)
 | 0,acc=>by
  rw [Fo]
  refine Cr hp fun a=>Cr (Al8 _ _) fun b=>?_
  cases b
  ·exact It _
  ·exact Atm _
 | n+1,acc=>by
  rw [Fo]
  refine Cr hp fun a=>Cr (Al8 _ _) fun b=>?_
  cases b
  ·exact It _
  ·exact Cr (My _ _) fun _=>T2 hp n _
theorem Ajk (w:An):Lw (V5 w):=Cr (Al8 _ _) fun b=>by
 cases b
 ·exact It _
 ·exact Cr (My _ _) fun _=>T2 Ajm _ _
theorem Ase:Lw Xu:=Cr (My _ _) fun _=>Cr Rm fun _=>Cr (Q1 _ _ _) fun _=>It _
theorem Auc (s:An):Lw (Aew s):=Cr (Ajk _) fun _=>It _
theorem At0 (s:An):Lw (Ae7 s):=Cr (My _ _) fun _=>Cr (T2 Rm _ _) fun _=>Cr (My _ _) fun _=>Cr (Q1 _ _ _) fun _=>Cr (My _ _) fun _=>Cr (Q1 _ _ _) fun _=>It _
theorem Av8 (s:An):Lw (Afp s):=Cr (My _ _) fun _=>Cr (T2 Rm _ _) fun _=>It _
theorem Av2 (s:An):Lw (Afn s):=Cr (My _ _) fun _=>Cr Rm fun _=>Cr (My _ _) fun _=>Cr (Q1 _ _ _) fun _=>Cr (Ajk _) fun _=>It _
theorem Aur (s:An):Lw (Ae3 s):=Cr (My _ _) fun _=>Cr Rm fun _=>Cr (My _ _) fun _=>Cr Rm fun _=>Cr (My _ _) fun _=>Cr (T2 Rm _ _) fun _=>It _
theorem Aux (s:An):Lw (Afq s):=Cr (T2 Ase _ _) fun _=>It _
theorem Au5 (s:An):Lw (Aer s):=Cr (My _ _) fun _=>Cr (Q1 _ _ _) fun _=>Cr (My _ _) fun _=>Cr (Q1 _ _ _) fun _=>Cr (My _ _) fun _=>Cr (Q1 _ _ _) fun _=>It _
theorem Ave (s:An):Lw (Agq s):=Cr (My _ _) fun _=>Cr Rm fun _=>Cr Ajm fun _=>It _
theorem Avl (s:An):Lw (Ag5 s):=It _
theorem Av0 (s:An):Lw (Agp s):=Cr (Q1 _ _ _) fun _=>It _
theorem Av3 (s:An):Lw (Ae6 s):=Cr (Q1 _ _ _) fun _=>It _
theorem Aum {p:An→Rd α}(hp : ∀ s,Lw (p s)):Lw (E7 p):=Cr Rm fun s=>Cr (hp s) fun _=>Cr (My _ _) fun _=>It _
end
theorem Atp {w:An}{A:Airspace}{f:Bool}{p:Rd Airspace}(h:Xo w A=some (f,p)):Lw p:=by
 unfold Xo at h
 refine(Gb h).elim (fun h=>?_) (fun h=>(Gb h).elim (fun h=>?_) (fun h=>(Gb h).elim (fun h=>?_) (fun h=>(Gb h).elim (fun h=>?_) (fun h=>(Gb h).elim (fun h=>?_) (fun h=>(Gb h).elim (fun h=>?_) (fun h=>(Gb h).elim (fun h=>?_) (fun h=>(Gb h).elim (fun h=>?_) (fun h=>(Gb h).elim (fun h=>?_) (fun h=>(Gb h).elim (fun h=>?_) (fun h=>(Gb h).elim (fun h=>?_) (fun h=>nomatch h)))))))))))
 all_goals
  cases h
  exact Cr (Aum (by first | exact Aux | exact Au5 | exact Av8 | exact Ave | exact Avl | exact Av3 | exact Aur | exact At0 | exact Av2 | exact Auc | exact Av0)) fun _=>It _
theorem Ar7 (A:Airspace):Lw (Qu A):=fun l=>by
 cases l with
 | nil=>rfl
 | cons t l=>
  show Qu A (Uo t::l.map Uo)=_
  simp only [Qu,show(Uo t).Kind=t.Kind from rfl,show(Uo t).Text=t.Text from rfl]
  split
  ·cases h:Xo t.Text A with
   | none=>rfl
   | some x=>
    obtain⟨f,p⟩:=x
    cases f
    ·exact Atp h l
    ·rfl
  ·rfl
def Ao9:Except (List Token×Int) Airspace→Except (List Token×Int) Airspace
 | .ok a=>.ok a
 | .error (r,e)=>.error (r.map Uo,e)
theorem Aoz : ∀ (n:Nat) (A:Airspace) (l:List Token),Xj n A (l.map Uo)=Ao9 (Xj n A l)
 | 0,A,[]=>rfl
 | _+1,A,[]=>rfl
 | 0,A,t::r=>rfl
 | n+1,A,t::r=>by
  have h:=Ar7 A (t::r)
  rw [List.map_cons] at h ⊢
  rw [Xj,Xj,h]
  cases hd:Qu A (t::r) with
  | error e=>rfl
  | ok y=>exact Aoz n y.1 y.2
theorem Ajg (l:List Token):Tc (l.map Uo)=Ao9 (Tc l):=by
 unfold Tc
 rw [List.length_map]
 exact Aoz _ _ _
end Go.Am
namespace Go.Am
open Go
set_option linter.unusedVariables false
set_option linter.unusedSimpArgs false
def Ale {α β:Type}(q:α→β→Bool):List α→List β→Bool
 | [],[]=>true
 | a::l,b::m=>q a b&&Ale q l m
 | _,_=>false
def key (a b:Token):Bool:=(a.Kind==b.Kind)&&(a.Text==b.Text)&&(a.N==b.N)
def same (a b:List Token):Bool:=Ale key a b
def equal (a b:List Token):Bool:=same a b&&Ale (fun x y:Token=>x.At==y.At) a b
def Gz (t:Token):An:=if t.Kind==2 then Lib.decDigits t.N.toNat else t.Text
def Aiw (l:List Token):An×Int:=if l.all D2 then(Lib.join (l.map Gz) [32],0) else([],70)
theorem Ae5 {t:Token}(h:D2 t=true)(hk:(t.Kind==2)=true):t.Text=[]∧0≤t.N∧t.N≤1099511627776:=by
 unfold D2 at h
 have:t.Kind=2:=eq_of_beq hk
 rw [this] at h
 rw [if_neg (by decide),if_pos (by decide)] at h
 simp at h
 exact⟨h.1.1,h.1.2,h.2⟩
theorem Arz {n:Int}(h:0≤n):Lib.itoa n=Lib.decDigits n.toNat:=by
 have:=Am3 n.toNat
 rwa [show((n.toNat:Nat):Int)=n by omega] at this
theorem Aji : ∀ (l:List Token) (pre:List An) (k:Nat),pre.length=k→(∀ t ∈ l,t.N≤9223372036854775807) →
  each (fun j a=>fun words=>Sg j a words) k l (pre++List.replicate l.length [])=.ok (if l.all D2 then .inl (pre++l.map Gz) else .inr ([],70))
 | [],pre,k,_,_=>by simp
 | t::l,pre,k,hk,hn=>by
  rw [Uy]
  unfold Sg
  rw [Amt,R.ok_bind,List.all_cons]
  cases hv:D2 t
  ·rfl
  ·simp only [if_true,Bool.true_and]
   have e:(pre++List.replicate (t::l).length ([]:An))[k]? = some []:=by
    rw [List.getElem?_append_right (by omega),hk]; simp
   have e2 : ∀ w:An,(pre++List.replicate (t::l).length ([]:An)).set (k:Int).toNat w=(pre++[w])++List.replicate l.length []:=by
    intro w
    rw [Int.toNat_natCast,List.set_append_right _ _ (by omega),hk,List.length_cons,List.replicate_succ]
    simp
   have ih:=fun w=>Aji l (pre++[w]) (k+1) (by simp [hk]) (fun t ht=>hn t (List.mem_cons_of_mem _ ht))
   cases hkd:(t.Kind==2)
   ·simp only [Bool.false_eq_true,if_false,T1 e,R.ok_bind]
    rw [e2]
    refine(ih _).trans ?_
    simp [Gz,hkd]
   ·obtain⟨_,h1,h2⟩:=Ae5 hv hkd
    simp only [if_true]
    unfold strconv_Itoa
    rw [if_pos ⟨by omega,by omega⟩,Arz h1]
    simp only [T1 e,R.ok_bind]
    rw [e2]
    refine(ih _).trans ?_
    simp [Gz,hkd]
def Atr (l:List Token):Prop:=l.length≤1048576∧(Lib.join (l.map Gz) [32]).length≤140737488355328 ∧ ∀ t ∈ l,t.N≤9223372036854775807
theorem At5 (l:List Token)(h:Atr l):S8 l=.ok (Aiw l):=by
 unfold S8 Aiw
 obtain⟨h1,h2,h3⟩:=h
 rw [if_pos ⟨by omega,by omega,by simp only [Int.toNat_natCast,D0]; omega⟩,Int.toNat_natCast]
 have:=Aji l [] 0 rfl h3
 rw [List.nil_append,List.nil_append] at this
 rw [this]
 cases l.all D2
 ·rfl
 ·simp only [if_true,R.ok_bind]
  unfold strings_Join
  simp only [Dv]
  rw [if_pos h2]
  rfl
end Go.Am
namespace Go.Am
open Go
set_option linter.unusedVariables false
set_option linter.unusedSimpArgs false
def Ady (l:List Token):Nat:=(l.map fun t=>t.Text.length).sum
theorem Atq : ∀ (k u:Nat),u<10 ^ (k+1)→Lib.nDigits u≤k+1
 | 0,u,h=>by rw [Lib.nDigits_small (by simpa using h)]; exact Nat.le_refl _
 | k+1,u,h=>by
  by_cases h1:u<10
  ·rw [Lib.nDigits_small h1]; omega
  ·rw [Lib.nDigits_big h1]
   have:=Atq k (u / 10) (by rw [Nat.pow_succ] at h; omega)
   omega
theorem Atf {t:Token}(h:t.N≤9223372036854775807):(Gz t).length≤t.Text.length+20:=by
 unfold Gz
 split
 ·rw [Lib.decDigits_length]
  have:=Atq 19 t.N.toNat (by rw [show(10:Nat) ^ (19+1)=100000000000000000000 from rfl]; omega)
  omega
 ·omega
theorem Amz (sep:An) : ∀ l:List An,(Lib.joinTail sep l).length=sep.length * l.length+(l.map List.length).sum
 | []=>by simp [Lib.joinTail]
 | a::l=>by
  have ih:=Amz sep l
  have e:Lib.joinTail sep (a::l)=sep++a++Lib.joinTail sep l:=by simp [Lib.joinTail]
  rw [e,List.length_append,List.length_append,ih,List.map_cons,List.sum_cons,List.length_cons,Nat.mul_add]
  omega
theorem Avj (l:List An):(Lib.join l [32]).length≤l.length+(l.map List.length).sum:=by
 cases l with
 | nil=>simp [Lib.join_nil]
 | cons a l=>
  have e1:([32]:An).length=1:=rfl
  have e2:(a::l).length=l.length+1:=rfl
  rw [Lib.join_cons,List.length_append,Amz,List.map_cons,List.sum_cons,e1]
  omega
theorem Aka : ∀ (l:List Token),(∀ t ∈ l,t.N≤9223372036854775807)→((l.map Gz).map List.length).sum≤Ady l+20 * l.length
 | [],_=>by simp [Ady]
 | t::l,h=>by
  have ih:=Aka l fun t ht=>h t (List.mem_cons_of_mem _ ht)
  have:=Atf (h t (List.mem_cons_self ..))
  unfold Ady at ih ⊢
  simp only [List.map_cons,List.sum_cons,List.length_cons]
  omega
theorem Akn (l:List Token)(h : ∀ t ∈ l,t.N≤9223372036854775807):(Lib.join (l.map Gz) [32]).length≤Ady l+21 * l.length:=by
 have h1:=Avj (l.map Gz)
 have h2:=Aka l h
 rw [List.length_map] at h1
 omega
end Go.Am
namespace Go.Am
open Go
set_option linter.unusedVariables false
set_option linter.unusedSimpArgs false
theorem Aik {α:Type}{q:α→Bool}{d:α}(hd:q d=false)(m:List α) : ∀ s:List α,(s++d::m).takeWhile q=s.takeWhile q
 | []=>by rw [List.nil_append,List.takeWhile_cons,hd]; rfl
 | a::s=>by
  rw [List.cons_append,List.takeWhile_cons,List.takeWhile_cons,Aik hd m s]
theorem Aso {α:Type}{s m:List α}{k:Nat}(h:k≤s.length):(s++m).drop k=s.drop k++m:=by
 rw [List.drop_append_of_le_length h]
def Lx.pre (l:List Token):Lx→Lx
 | .ok r=>.ok (l++r)
 | .wrong e=>.wrong e
def Lx.seq (x:Lx)(y:Lx):Lx:=match x with
 | .ok l=>y.pre l
 | .wrong e=>.wrong e
theorem Axr (l:List Token):out (.ok l)=(l,0,0):=rfl
theorem Alc {s:An}(h:s.length≤65536):Ki s=out (Pe s 0):=by unfold Ki; rw [if_pos h]
theorem Ahv {q:UInt8→Bool} : ∀ (w:An),w.all q=true→w.takeWhile q=w
 | [],_=>rfl
 | a::w,h=>by
  have h:q a=true∧w.all q=true:=by simpa using h
  rw [List.takeWhile_cons,h.1,if_pos rfl,Ahv w h.2]
end Go.Am
namespace Go.Am
open Go
set_option linter.unusedVariables false
set_option linter.unusedSimpArgs false
theorem Ash {t:Token}(hv:D2 t=true) : ∃ c w,Gz t=c::w ∧ ∀ m:An,(m=[] ∨ ∃ d m',m=d::m'∧Mc d=true) → ∃ u,tk c (w++m)=some (some u,w.length)∧key t u=true:=by
 unfold D2 at hv
 by_cases h1:(t.Kind==1)=true
 ·rw [if_pos h1] at hv
  have hk:t.Kind=1:=eq_of_beq h1
  have hsp:Gz t=t.Text:=by unfold Gz; rw [hk]; rfl
  rw [hsp]
  rw [Bool.and_eq_true] at hv
  obtain⟨hn,h0⟩:=hv
  have h0:t.N=0:=eq_of_beq h0
  cases hT:t.Text with
  | nil=>rw [hT] at hn; cases hn
  | cons c w=>
   rw [hT] at hn
   have hn':P6 c=true∧w.all Iz=true∧w.length+1≤32:=by
    simp [Eo] at hn
    simpa [and_assoc] using hn
   refine⟨c,w,rfl,fun m hm=>?_⟩
   have e:(w++m).takeWhile Iz=w:=by
    rcases hm with rfl | ⟨d,m',rfl,hd⟩
    ·rw [List.append_nil]; exact Ahv w hn'.2.1
    ·rw [Aik (Amx hd).1,Ahv w hn'.2.1]
   refine⟨⟨1,c::w,0,0⟩,?_,by simp [key,hk,hT,h0]⟩
   unfold tk
   rw [Awm hn'.1,hn'.1,e]
   simp only [Bool.false_eq_true,if_false,if_true,hn'.2.2]
 ·rw [if_neg h1] at hv
  by_cases h2:(t.Kind==2)=true
  ·rw [if_pos h2] at hv
   have hk:t.Kind=2:=eq_of_beq h2
   have hvv:D2 t=true:=by unfold D2; rw [if_neg h1,if_pos h2]; exact hv
   obtain⟨hT,h3,h4⟩:=Ae5 hvv h2
   have hsp:Gz t=Lib.decDigits t.N.toNat:=by unfold Gz; rw [if_pos h2]
   obtain⟨d1,d2,d3,d4,_⟩:=Aow t.N.toNat
   rw [hsp]
   cases hD:Lib.decDigits t.N.toNat with
   | nil=>exact absurd hD d3
   | cons c w=>
    rw [hD] at d1 d2 d4
    have d1':Ey c=true∧w.all Ey=true:=by simpa using d1
    refine⟨c,w,rfl,fun m hm=>?_⟩
    have e:(w++m).takeWhile Ey=w:=by
     rcases hm with rfl | ⟨d,m',rfl,hd⟩
     ·rw [List.append_nil]; exact Ahv w d1'.2
     ·rw [Aik (Amx hd).2.1,Ahv w d1'.2]
    refine⟨⟨2,[],val (c::w),0⟩,?_,?_⟩
    ·unfold tk
     have:=Ax3 d1'.1
     rw [this.1,this.2,d1'.1,e]
     have hok:Xn (c::w)=true:=by unfold Xn; rw [d4,d2,decide_eq_true (by omega)]; rfl
     simp only [Bool.false_eq_true,if_false,if_true,hok]
    ·rw [d2]
     simp [key,hk,hT]
     omega
  ·rw [if_neg h2] at hv
   by_cases h3:(t.Kind==3)=true
   ·rw [if_pos h3,Bool.and_eq_true] at hv
    have hk:t.Kind=3:=eq_of_beq h3
    have hsp:Gz t=t.Text:=by unfold Gz; rw [if_neg h2]
    have h0:t.N=0:=eq_of_beq hv.2
    rw [hsp]
    match hT:t.Text,hv.1 with
    | [c],hc=>
     rw [hT] at hv
     have hc:T6 c=true:=hv.1
     refine⟨c,[],rfl,fun m hm=>?_⟩
     refine⟨⟨3,[c],0,0⟩,?_,by simp [key,hk,hT,h0]⟩
     have hh:¬ (c=47∧m.head? = some 47):=by
      rcases hm with rfl | ⟨d,m',rfl,hd⟩
      ·simp
      ·have:=(Amx hd).2.2
       simp [this]
     obtain⟨q1,q2,q3⟩:=Auy hc
     unfold tk
     rw [q1,q2,q3,hc,List.nil_append]
     simp only [Bool.false_eq_true,if_false,if_true,hh]
     rfl
   ·rw [if_neg h3] at hv; cases hv
def Gap (g:An):Prop := ∀ (m:An) (p:Nat),Pe (g++m) p=Pe m (p+g.length)
theorem Auj {g:An}(h:g.all Mc=true):Gap g:=fun m p=>Agm g m p h
theorem Am1 {t:Token}(hv:D2 t=true){m:An}(hm:m=[] ∨ ∃ d m',m=d::m'∧Mc d=true)(p:Nat) : ∃ u,Pe (Gz t++m) p=(Pe m (p+(Gz t).length)).add (some u) p∧key t u=true:=by
 obtain⟨c,w,hs,h⟩:=Ash hv
 obtain⟨u,h1,h2⟩:=h m hm
 refine⟨u,?_,h2⟩
 rw [hs,List.cons_append,Abo,h1]
 simp only
 rw [Aso (Nat.le_refl _),List.drop_length,List.nil_append,List.length_cons]
 congr 2
 omega
theorem Ajq : ∀ (l:List Token) (p:Nat),l.all D2=true → ∃ r,Pe (Lib.joinTail [32] (l.map Gz)) p=.ok r∧same l r=true
 | [],p,_=>⟨[],rfl,rfl⟩
 | t::l,p,h=>by
  have h:D2 t=true∧l.all D2=true:=by simpa using h
  have e:Lib.joinTail [32] ((t::l).map Gz)=[32]++(Gz t++Lib.joinTail [32] (l.map Gz)):=by simp [Lib.joinTail]
  obtain⟨u,h1,h2⟩:=Am1 (m:=Lib.joinTail [32] (l.map Gz)) h.1 (by cases l with
   | nil=>exact .inl rfl
   | cons a l=>exact .inr ⟨32,Gz a++Lib.joinTail [32] (l.map Gz),by simp [Lib.joinTail],rfl⟩) (p+1)
  obtain⟨r,h3,h4⟩:=Ajq l (p+1+(Gz t).length) h.2
  rw [e,Auj (g:=[32]) (by rfl)]
  refine⟨at' (p+1) u::r,?_,?_⟩
  ·show Pe _ (p+1)=_
   rw [h1,h3]; rfl
  ·show(key t u&&Ale key l r)=true
   rw [h2]; exact h4
theorem Aq5 {l:List Token}(h:l.all D2=true)(p:Nat) : ∃ r,Pe (Lib.join (l.map Gz) [32]) p=.ok r∧same l r=true:=by
 cases l with
 | nil=>exact⟨[],rfl,rfl⟩
 | cons t l=>
  have h:D2 t=true∧l.all D2=true:=by simpa using h
  obtain⟨u,h1,h2⟩:=Am1 (m:=Lib.joinTail [32] (l.map Gz)) h.1 (by cases l with
   | nil=>exact .inl rfl
   | cons a l=>exact .inr ⟨32,Gz a++Lib.joinTail [32] (l.map Gz),by simp [Lib.joinTail],rfl⟩) p
  obtain⟨r,h3,h4⟩:=Ajq l (p+(Gz t).length) h.2
  refine⟨at' p u::r,?_,?_⟩
  ·rw [List.map_cons,Lib.join_cons,h1,h3]; rfl
  ·show(key t u&&Ale key l r)=true
   rw [h2]; exact h4
theorem Avu {l:List Token}(h:l.all D2=true) : ∀ t ∈ l,t.N≤9223372036854775807:=by
 intro t ht
 have hv:D2 t=true:=List.all_eq_true.1 h t ht
 by_cases h2:(t.Kind==2)=true
 ·have:=Ae5 hv h2; omega
 ·unfold D2 at hv
  rw [if_neg h2] at hv
  split at hv
  ·rw [Bool.and_eq_true] at hv; have:t.N=0:=eq_of_beq hv.2; omega
  ·split at hv
   ·rw [Bool.and_eq_true] at hv; have:t.N=0:=eq_of_beq hv.2; omega
   ·cases hv
end Go.Am
namespace Go.Am
open Go
set_option linter.unusedVariables false
set_option linter.unusedSimpArgs false
end Go.Am
namespace Go.Am
open Go
set_option linter.unusedVariables false
set_option linter.unusedSimpArgs false
theorem Aj2 : ∀ (l r:List Token),same l r=true→l.map Uo=r.map Uo
 | [],[],_=>rfl
 | [],_::_,h=>by cases h
 | _::_,[],h=>by cases h
 | a::l,b::r,h=>by
  have h:(key a b&&same l r)=true:=h
  rw [Bool.and_eq_true] at h
  obtain⟨h1,h2⟩:=h
  unfold key at h1
  simp only [Bool.and_eq_true,beq_iff_eq] at h1
  obtain⟨⟨h3,h4⟩,h5⟩:=h1
  rw [List.map_cons,List.map_cons,Aj2 l r h2]
  unfold Uo
  rw [h3,h4,h5]
theorem Am4 {s:An}{l:List Token}(hs:s.length≤65536)(h:Pe s 0=.ok l):Xe s=Aws (s.length:Int) (Tc l):=by
 unfold Xe
 rw [Alc hs,h,Axr]
 rfl
end Go.Am
namespace Go.Am
open Go
set_option linter.unusedVariables false
set_option linter.unusedSimpArgs false
def Do (s:An):Token:=⟨1,s,0,0⟩
def Kx (s:An):Token:=⟨3,s,0,0⟩
def Od (n:Int):Token:=⟨2,[],n,0⟩
def O9 (n lo hi:Int):Bool:=decide (n≥lo)&&decide (n≤hi)
def Wr (f:Bool→List Token→R (Bool×List Token))(B:Bool)(T:List Token):Prop := ∀ b l,l.length+T.length≤1000000000000→f b l=.ok (b||B,l++T)
theorem Akt (ok:Bool)(t:Token)(b:Bool)(l:List Token)(h:l.length+1≤1000000000000):Fy ok t b l=.ok (l++[t]):=by
 unfold Fy
 rw [if_pos (by rw [List.length_singleton]; unfold D0; omega)]
theorem P7 (s:An):Wr (Cp s) (!Eo s) [Do s]:=fun b l h=>by
 unfold Cp
 rw [Aoo,R.ok_bind,Akt _ _ _ _ h]; rfl
theorem An9 (ws:List An):Wr (Bu ws) false (ws.map Do):=by
 have : ∀ (ws:List An) (k:Nat) (b:Bool) (l:List Token),l.length+ws.length≤1000000000000→B0 (fun _ a=>C2 fun fBad l2=>Et a fBad l2) k ws (b,l)=.ok (b,l++ws.map Do):=by
  intro ws
  induction ws with
  | nil=>intro k b l _; rw [P4]; simp
  | cons w ws ih=>
   intro k b l h
   simp only [List.length_cons] at h
   rw [Lz]
   show(Et w b l).bind _=_
   have hb:Et w b l=.ok (b,l++[Do w]):=by
    unfold Et
    rw [Akt _ _ _ _ (by omega),R.ok_bind]
    simp [Do]
   rw [hb,R.ok_bind,ih _ _ _ (by simp; omega)]
   simp
 intro b l h
 unfold Bu
 rw [this ws 0 b l (by simpa using h),Bool.or_false]; rfl
theorem Auz (ws:List An):Wr (Cb ws) false (ws.map Kx):=by
 have : ∀ (ws:List An) (k:Nat) (b:Bool) (l:List Token),l.length+ws.length≤1000000000000→B0 (fun _ a=>C2 fun fBad l2=>Eu a fBad l2) k ws (b,l)=.ok (b,l++ws.map Kx):=by
  intro ws
  induction ws with
  | nil=>intro k b l _; rw [P4]; simp
  | cons w ws ih=>
   intro k b l h
   simp only [List.length_cons] at h
   rw [Lz]
   show(Eu w b l).bind _=_
   have hb:Eu w b l=.ok (b,l++[Kx w]):=by
    unfold Eu
    rw [Akt _ _ _ _ (by omega),R.ok_bind]
    simp [Kx]
   rw [hb,R.ok_bind,ih _ _ _ (by simp; omega)]
   simp
 intro b l h
 unfold Cb
 rw [this ws 0 b l (by simpa using h),Bool.or_false]; rfl
theorem Al5 (n lo hi:Int)(b:Bool)(l:List Token)(h:l.length+1≤1000000000000):Ci n lo hi b l=.ok (l++[Od n]):=by
 unfold Ci
 rw [Akt _ _ _ _ h]; rfl
theorem Dj {f g:Bool→List Token→R (Bool×List Token)}{B:Bool}{T:List Token}(hf:Wr f B T){B':Bool}{T':List Token}(hg:Wr g B' T') :
  Wr (fun b l=>(f b l).bind fun r=>g r.1 r.2) (B||B') (T++T'):=fun b l h=>by
 rw [List.length_append] at h
 show(f b l).bind _=_
 rw [hf b l (by omega),R.ok_bind,hg (b||B) (l++T) (by rw [List.length_append]; omega),List.append_assoc,Bool.or_assoc]
theorem Aah {n lo hi:Int}{g:Bool→List Token→R (Bool×List Token)}{B':Bool}{T':List Token}(hg:Wr g B' T') :
  Wr (fun b l=>(Ci n lo hi b l).bind fun r=>g (b||(!((decide (n≥lo))&&(decide (n≤hi))))) r) (!O9 n lo hi||B') ([Od n]++T'):=fun b l h=>by
 rw [List.length_append] at h
 show(Ci n lo hi b l).bind _=_
 rw [Al5 n lo hi b l (by simp at h; omega),R.ok_bind,hg _ _ (by rw [List.length_append]; omega),List.append_assoc,Bool.or_assoc]; rfl
theorem Ab7 {n lo hi:Int}:Wr (fun b l=>(Ci n lo hi b l).bind fun r=>.ok (b||(!((decide (n≥lo))&&(decide (n≤hi)))),r)) (!O9 n lo hi) [Od n]:=fun b l h=>by
 show(Ci n lo hi b l).bind _=_
 rw [Al5 n lo hi b l h,R.ok_bind]; rfl
theorem Zl {f:Bool→List Token→R (Bool×List Token)}{B:Bool}{T:List Token}(hf:Wr f B T):Wr (fun b l=>(f b l).bind fun r=>.ok (r.1,r.2)) B T:=fun b l h=>by
 show(f b l).bind _=_
 rw [hf b l h]; rfl
def W6 (s:Span):List Token:=[Od s.From,Do [116,111],Od s.To]
def Yx (s:Span):Bool := !O9 s.From 0 1439 || !O9 s.To (IntKind.wrap .i64 (s.From+1)) 1440
theorem Aov (s:Span):Wr (Hh s) (Yx s) (W6 s):=by
 have:=Aah (n:=s.From) (lo:=0) (hi:=1439) (Dj (An9 [[116,111]]) (Ab7 (n:=s.To) (lo:=IntKind.wrap .i64 (s.From+1)) (hi:=1440)))
 simp only [Bool.false_or] at this
 exact this
end Go.Am
namespace Go.Am
open Go
set_option linter.unusedVariables false
set_option linter.unusedSimpArgs false
def Vl {α:Type}(g:α→List Token)(l:List α):List Token:=l.flatMap fun b=>Kx [44]::g b
def H8 {α:Type}(g:α→List Token):List α→List Token
 | []=>[]
 | a::l=>g a++Vl g l
def Oi {α:Type}(B:α→Bool)(most:Nat)(l:List α):Bool:=l.isEmpty||decide (most<l.length)||l.any B
section
variable {α:Type} {item:α→Bool→List Token→R (Bool×List Token)} {B:α→Bool} {g:α→List Token} {body:Nat→α→Bool→List Token→R (Bool×List Token)}
theorem Afa (s:An):Wr (Cb [s]) false [Kx s]:=Auz [s]
theorem Pn (s:An):Wr (Bu [s]) false [Do s]:=An9 [s]
theorem Arh (hb : ∀ j a b l,body j a b l=if(j:Int) > 0 then(Cb [[44]] b l).bind fun r=>(item a r.1 r.2).bind fun r1=>.ok (r1.1,r1.2) else(item a b l).bind fun r1=>.ok (r1.1,r1.2))(hi : ∀ a,Wr (item a) (B a) (g a)) :
  ∀ (l:List α) (k:Nat) (b:Bool) (o:List Token),0<k→o.length+(Vl g l).length≤1000000000000→B0 (fun j a=>C2 fun fBad l2=>body j a fBad l2) k l (b,o)=.ok (b||l.any B,o++Vl g l)
 | [],k,b,o,_,_=>by rw [P4]; simp [Vl]
 | a::l,k,b,o,hk,h=>by
  have e:Vl g (a::l)=(Kx [44]::g a)++Vl g l:=rfl
  rw [e,List.length_append,List.length_cons] at h
  rw [Lz]
  show(body k a b o).bind _=_
  rw [hb,if_pos (by omega),Afa [44] b o (by simp; omega)]
  simp only [R.ok_bind]
  rw [hi a (b||false) (o++[Kx [44]]) (by simp; omega)]
  simp only [R.ok_bind]
  rw [Arh hb hi l (k+1) _ _ (by omega) (by simp; omega),e]
  simp [Bool.or_assoc]
theorem Aph (hb : ∀ j a b l,body j a b l=if(j:Int) > 0 then(Cb [[44]] b l).bind fun r=>(item a r.1 r.2).bind fun r1=>.ok (r1.1,r1.2) else(item a b l).bind fun r1=>.ok (r1.1,r1.2))(hi : ∀ a,Wr (item a) (B a) (g a))(l:List α)(most:Nat)(mostI:Int)(hm:mostI=most) :
  Wr (fun b l1=>(B0 (fun j a=>C2 fun fBad l2=>body j a fBad l2) 0 l (((b||((l.length:Int)==0))||(decide ((l.length:Int) > mostI))),l1)).bind ((C2 fun fBad l2=>.ok (fBad,l2)))) (Oi B most l) (H8 g l):=by
 intro b o h
 subst hm
 cases l with
 | nil=>simp [P4,Oi,H8]
 | cons a l=>
  have e:H8 g (a::l)=g a++Vl g l:=rfl
  rw [e,List.length_append] at h
  show(B0 _ 0 (a::l) _).bind _=_
  rw [Lz]
  show((body 0 a _ o).bind _).bind _=_
  rw [hb,if_neg (by omega),hi a _ o (by omega)]
  simp only [R.ok_bind]
  rw [Arh hb hi l 1 _ _ (by omega) (by simp; omega),e]
  have e1:(((a::l).length:Int)==0)=false:=by simp only [List.length_cons,beq_eq_false_iff_ne]; omega
  have e2:decide (((a::l).length:Int) > (most:Int))=decide (most<(a::l).length):=by rw [decide_eq_decide]; omega
  rw [e1,e2]
  simp [Oi,Bool.or_assoc]
def Ep (w:An)(T:List Token):List Token:=Do w::(T++[Kx [59]])
theorem Uv {d:α→List Token}{body:α→Bool→List Token→R (Bool×List Token)}(hi : ∀ a,Wr (body a) (B a) (d a))(l:List α)(most:Nat)(mostI:Int)(hm:mostI=most) :
  Wr (fun b l1=>(B0 (fun _ a=>C2 fun fBad l2=>body a fBad l2) 0 l ((b||(decide ((l.length:Int) > mostI))),l1)).bind ((C2 fun fBad l2=>.ok (fBad,l2)))) (decide (most<l.length)||l.any B) (l.flatMap d):=by
 have : ∀ (l:List α) (k:Nat) (b:Bool) (o:List Token),o.length+(l.flatMap d).length≤1000000000000→B0 (fun _ a=>C2 fun fBad l2=>body a fBad l2) k l (b,o)=.ok (b||l.any B,o++l.flatMap d):=by
  intro l
  induction l with
  | nil=>intro k b o _; rw [P4]; simp
  | cons a l ih=>
   intro k b o h
   rw [List.flatMap_cons,List.length_append] at h
   rw [Lz]
   show(body a b o).bind _=_
   rw [hi a b o (by omega)]
   simp only [R.ok_bind]
   rw [ih _ _ _ (by simp at h ⊢; omega)]
   simp [Bool.or_assoc]
 intro b o h
 subst hm
 have e2:decide ((l.length:Int) > (most:Int))=decide (most<l.length):=by rw [decide_eq_decide]; omega
 show(B0 _ 0 l _).bind _=_
 rw [this l 0 _ o h,e2]
 simp [Bool.or_assoc]
theorem Aak {it:Bool→List Token→R (Bool×List Token)}{Bi:Bool}{T:List Token}(w:An)(hw:w≠[])(hi:Wr it Bi T){j1:Bool→List Token→R (Bool×List Token)}
  (hj : ∀ b l,j1 b l=(it b l).bind fun r1=>(Cb [[59]] r1.1 r1.2).bind fun r2=>.ok (r2.1,r2.2)) :
  Wr (fun b l=>if(w==[]) then j1 b l else(Bu [w] b l).bind fun r=>j1 r.1 r.2) Bi (Ep w T):=by
 have h1:Wr j1 Bi (T++[Kx [59]]):=by
  have:=Dj hi (Zl (Afa [59]))
  rw [Bool.or_false] at this
  intro b l h
  rw [hj]
  exact this b l h
 have h2:=Dj (Pn w) h1
 rw [Bool.false_or] at h2
 intro b l h
 have e:(w==[])=false:=by simpa using hw
 simp only [e,Bool.false_eq_true,if_false]
 exact h2 b l h
end
def Rk (w:An)(l:List Span):List Token:=if l.isEmpty then [] else Do w::H8 W6 l
def Qr (l:List Span):Bool := !l.isEmpty&&Oi Yx 16 l
theorem Avr (l:List Span):Wr (Kg l 16) (Oi Yx 16 l) (H8 W6 l):=
 Aph (item:=Hh) (fun _ _ _ _=>rfl) Aov l 16 16 rfl
theorem Aiv (l:List An)(most:Nat)(mostI:Int)(hm:mostI=most):Wr (Ft l mostI) (Oi (fun s => !Eo s) most l) (H8 (fun s=>[Do s]) l):=
 Aph (item:=Cp) (fun _ _ _ _=>rfl) P7 l most mostI hm
theorem Aoh (w:An)(l:List Span):Wr (Ha w l) (Qr l) (Rk w l):=by
 intro b o h
 unfold Ha
 cases l with
 | nil=>simp [Qr,Rk]
 | cons a l=>
  rw [if_pos (by simp only [List.length_cons]; omega)]
  have:=Dj (Pn w) (Zl (Avr (a::l)))
  exact this b o h
def Ai9 (m:Mode):List Token:=[Do [109,111,100,101]]++([Do m.Name]++[Od m.Places])
def Agh (m:Mode):Bool := !Eo m.Name || !O9 m.Places 0 64
theorem Aw9 (m:Mode):Wr (Jt m) (Agh m) (Ai9 m):=by
 have:=Dj (Pn [109,111,100,101]) (Dj (P7 m.Name) (Ab7 (n:=m.Places) (lo:=0) (hi:=64)))
 simp only [Bool.false_or] at this
 exact this
theorem Auu (l:List Mode):Wr (Mf l 16) (Oi Agh 16 l) (H8 Ai9 l):=
 Aph (item:=Jt) (fun _ _ _ _=>rfl) Aw9 l 16 16 rfl
def Vh (a:Volume):List Token:=[Do a.Name]++Rk [99,108,111,115,101,100] a.Closed
def Vz (a:Volume):Bool := !Eo a.Name||Qr a.Closed
theorem Ax6 (a:Volume):Wr (Ot a) (Vz a) (Vh a):=Dj (P7 _) (Zl (Aoh _ _))
abbrev Aay (l:List An):List Token:=H8 (fun s=>[Do s]) l
abbrev Ae2 (most:Nat)(l:List An):Bool:=Oi (fun s => !Eo s) most l
def Wc (a:Sector):List Token:=[Do a.Name]++([Kx [61]]++(Aay a.Names++([Do [114,97,100,97,114]]++([Od a.Radar]++([Do [112,114,111,99,101,100,117,114,97,108]]++[Od a.Procedural])))))
def Vb (a:Sector):Bool := !Eo a.Name||(Ae2 64 a.Names||(!O9 a.Radar 0 64 || !O9 a.Procedural 0 a.Radar))
theorem Ayr (a:Sector):Wr (Om a) (Vb a) (Wc a):=by
 have:=Dj (P7 a.Name) (Dj (Afa [61]) (Dj (Aiv a.Names 64 64 rfl) (Dj (Pn [114,97,100,97,114]) (Aah (n:=a.Radar) (lo:=0) (hi:=64) (Dj (Pn [112,114,111,99,101,100,117,114,97,108]) (Ab7 (n:=a.Procedural) (lo:=0) (hi:=a.Radar)))))))
 simp only [Bool.false_or] at this
 exact this
def Vk (a:Config):List Token:=[Do a.Name]++([Kx [61]]++Aay a.Names)
def Wb (a:Config):Bool := !Eo a.Name||Ae2 64 a.Names
theorem Ayk (a:Config):Wr (Oo a) (Wb a) (Vk a):=by
 have:=Dj (P7 a.Name) (Dj (Afa [61]) (Zl (Aiv a.Names 64 64 rfl)))
 simp only [Bool.false_or] at this
 exact this
def Vi (a:Segment):List Token:=[Do a.Name]++([Do [105,110]]++([Do a.In]++([Do [108,101,110,103,116,104]]++([Od a.Length]++Rk [111,112,101,110] a.Open))))
def Vj (a:Segment):Bool := !Eo a.Name||(!Eo a.In||(!O9 a.Length 1 4096||Qr a.Open))
theorem Aya (a:Segment):Wr (Ou a) (Vj a) (Vi a):=by
 have:=Dj (P7 a.Name) (Dj (Pn [105,110]) (Dj (P7 a.In) (Dj (Pn [108,101,110,103,116,104]) (Aah (n:=a.Length) (lo:=1) (hi:=4096) (Zl (Aoh [111,112,101,110] a.Open))))))
 simp only [Bool.false_or] at this
 exact this
def Ve (a:Route):List Token:=[Do a.Name]++([Do [102,114,111,109]]++([Do a.A]++([Do [116,111]]++([Do a.B]++([Do [118,105,97]]++Aay a.Names)))))
def V3 (a:Route):Bool := !Eo a.Name||(!Eo a.A||(!Eo a.B||Ae2 8 a.Names))
theorem Ayq (a:Route):Wr (Ox a) (V3 a) (Ve a):=by
 have:=Dj (P7 a.Name) (Dj (Pn [102,114,111,109]) (Dj (P7 a.A) (Dj (Pn [116,111]) (Dj (P7 a.B) (Dj (Pn [118,105,97]) (Zl (Aiv a.Names 8 8 rfl)))))))
 simp only [Bool.false_or] at this
 exact this
def Wa (a:Airport):List Token:=[Do a.Name]++H8 Ai9 a.Modes
def Vr (a:Airport):Bool := !Eo a.Name||Oi Agh 16 a.Modes
theorem Ax7 (a:Airport):Wr (Oj a) (Vr a) (Wa a):=Dj (P7 _) (Zl (Auu _))
def V6 (a:Class):List Token:=[Do a.Name]++([Do [115,108,111,119]]++([Od a.Slow]++([Do [102,97,115,116]]++([Od a.Fast]++([Do [112,108,97,99,101,115]]++[Od a.Places])))))
def Xx (a:Class):Bool := !Eo a.Name||(!O9 a.Slow 1 64||(!O9 a.Fast a.Slow 64 || !O9 a.Places 1 8))
theorem Ayc (a:Class):Wr (Oq a) (Xx a) (V6 a):=by
 have:=Dj (P7 a.Name) (Dj (Pn [115,108,111,119]) (Aah (n:=a.Slow) (lo:=1) (hi:=64) (Dj (Pn [102,97,115,116]) (Aah (n:=a.Fast) (lo:=a.Slow) (hi:=64) (Dj (Pn [112,108,97,99,101,115]) (Ab7 (n:=a.Places) (lo:=1) (hi:=8)))))))
 simp only [Bool.false_or] at this
 exact this
end Go.Am
namespace Go.Am
open Go
set_option linter.unusedVariables false
set_option linter.unusedSimpArgs false
def Tz (b o:Rule):Bool:=(b.Kind==o.Kind)&&((b.C==o.C)&&((b.A==o.A)&&((0==o.Class)&&((0==o.Airport)&&((b.N==o.N)&&((b.Hours.From==o.Hours.From)&&(b.Hours.To==o.Hours.To)))))))
theorem Aez (b o:Rule):Wr (fun f l=>Dk b f l o) (!Tz b o) []:=fun f l h=>by
 show Dk b f l o=_
 unfold Dk
 rw [List.append_nil]
 cases f <;> rfl
theorem Ag7 (w:An)(b:Rule):Wr (fun f l=>Fd w f l b) (!Eo b.C) ([Do w]++[Do b.C]):=by
 have:=Dj (Pn w) (Zl (P7 b.C))
 simp only [Bool.false_or] at this
 exact this
def Ap0:An:=[99,117,114,102,101,119]
def Api:An:=[101,120,101,109,112,116]
def Apr:An:=[119,101,105,103,104,116]
def Ao6:An:=[108,111,110,103,101,115,116]
def N5 (b:Rule):List Token:=
 if b.Kind=1 then [Do [97,116]]++([Do b.A]++W6 b.Hours) else if b.Kind=2 then [] else [Od b.N]
def Pb (b:Rule):An:=if b.Kind=1 then Ap0 else if b.Kind=2 then Api else if b.Kind=3 then Apr else Ao6
def Ll (b:Rule):List Token:=if b.Kind=1∨b.Kind=2∨b.Kind=3∨b.Kind=4 then [Do (Pb b)]++([Do b.C]++N5 b) else []
def Mt (b:Rule):Bool:=
 if b.Kind=1 then !Eo b.C||(!Eo b.A||(Yx b.Hours || !Tz b (Ez b.Kind b.C b.A 0 b.Hours)))
 else if b.Kind=2 then !Eo b.C || !Tz b (Ez b.Kind b.C [] 0 ⟨0,0⟩)
 else if b.Kind=3 then !Eo b.C||(!O9 b.N 1 8 || !Tz b (Ez b.Kind b.C [] b.N ⟨0,0⟩))
 else if b.Kind=4 then !Eo b.C||(!O9 b.N 0 60||(((Int.tmod b.N 10) != 0) || !Tz b (Ez b.Kind b.C [] b.N ⟨0,0⟩)))
 else true
theorem Awj (b:Rule):Wr (J0 b) (Mt b) (Ll b):=by
 intro f l h
 unfold J0
 by_cases h1:b.Kind=1
 ·have e:Ll b=[Do Ap0]++([Do b.C]++([Do [97,116]]++([Do b.A]++W6 b.Hours))):=by simp [Ll,Pb,N5,h1]
  have e2:Mt b=(!Eo b.C||(!Eo b.A||(Yx b.Hours || !Tz b (Ez b.Kind b.C b.A 0 b.Hours)))):=by simp [Mt,h1]
  rw [if_pos (by simp [h1]),e2]
  rw [e] at h ⊢
  have:=Dj (Ag7 Ap0 b) (Dj (Pn [97,116]) (Dj (P7 b.A) (Dj (Aov b.Hours) (Aez b (Ez b.Kind b.C b.A 0 b.Hours)))))
  simp only [Bool.false_or,List.append_nil,List.append_assoc] at this
  exact this f l h
 rw [if_neg (by simp [h1])]
 by_cases h2:b.Kind=2
 ·have e:Ll b=[Do Api]++[Do b.C]:=by simp [Ll,Pb,N5,h2]
  have e2:Mt b=(!Eo b.C || !Tz b (Ez b.Kind b.C [] 0 ⟨0,0⟩)):=by simp [Mt,h2]
  rw [if_pos (by simp [h2]),e2]
  rw [e] at h ⊢
  have:=Dj (Ag7 Api b) (Aez b (Ez b.Kind b.C [] 0 ⟨0,0⟩))
  simp only [Bool.false_or,List.append_nil,List.append_assoc] at this
  exact this f l h
 rw [if_neg (by simp [h2])]
 by_cases h3:b.Kind=3
 ·have e:Ll b=[Do Apr]++([Do b.C]++[Od b.N]):=by simp [Ll,Pb,N5,h3]
  have e2:Mt b=(!Eo b.C||(!O9 b.N 1 8 || !Tz b (Ez b.Kind b.C [] b.N ⟨0,0⟩))):=by simp [Mt,h3]
  rw [if_pos (by simp [h3]),e2]
  rw [e] at h ⊢
  have:=Dj (Ag7 Apr b) (Aah (n:=b.N) (lo:=1) (hi:=8) (Aez b (Ez b.Kind b.C [] b.N ⟨0,0⟩)))
  simp only [Bool.false_or,List.append_nil,List.append_assoc] at this
  exact this f l h
 rw [if_neg (by simp [h3])]
 by_cases h4:b.Kind=4
 ·have e:Ll b=[Do Ao6]++([Do b.C]++[Od b.N]):=by simp [Ll,Pb,N5,h4]
  have e2:Mt b=(!Eo b.C||(!O9 b.N 0 60||(((Int.tmod b.N 10) != 0) || !Tz b (Ez b.Kind b.C [] b.N ⟨0,0⟩)))):=by simp [Mt,h4]
  rw [if_pos (by simp [h4]),e2]
  rw [e] at h ⊢
  have hj:Wr (fun f l=>if f then Dk b true l (Ez b.Kind b.C [] b.N ⟨0,0⟩) else Dk b ((Int.tmod b.N 10) != 0) l (Ez b.Kind b.C [] b.N ⟨0,0⟩)) (((Int.tmod b.N 10) != 0) || !Tz b (Ez b.Kind b.C [] b.N ⟨0,0⟩)) []:=by
   intro f l h
   cases f
   ·simp only [Bool.false_eq_true,if_false]
    exact Aez b _ _ l h
   ·simp only [if_true]
    exact Aez b _ true l h
  have:=Dj (Ag7 Ao6 b) (Aah (n:=b.N) (lo:=0) (hi:=60) hj)
  simp only [Bool.false_or,List.append_nil,List.append_assoc] at this
  exact this f l h
 ·rw [if_neg (by simp [h4])]
  have e:Ll b=[]:=by simp [Ll,h1,h2,h3,h4]
  have e2:Mt b=true:=by simp [Mt,h1,h2,h3,h4]
  rw [e,e2,List.append_nil,Bool.or_true]
  rfl
def Acj:An:=[118,111,108,117,109,101]
def Acl:An:=[115,101,99,116,111,114]
def Acf:An:=[99,111,110,102,105,103]
def Acd:An:=[115,101,103,109,101,110,116]
def Acg:An:=[114,111,117,116,101]
def Aco:An:=[97,105,114,112,111,114,116]
def Ace:An:=[99,108,97,115,115]
def S0 (b:Rule):List Token:=Ll b++[Kx [59]]
def Ti (a:Airspace):List Token:=
 a.Volumes.flatMap (fun x=>Ep Acj (Vh x))++(a.Sectors.flatMap (fun x=>Ep Acl (Wc x))++(a.Configs.flatMap (fun x=>Ep Acf (Vk x))++(a.Segments.flatMap (fun x=>Ep Acd (Vi x)) ++
 (a.Routes.flatMap (fun x=>Ep Acg (Ve x))++(a.Airports.flatMap (fun x=>Ep Aco (Wa x))++(a.Classes.flatMap (fun x=>Ep Ace (V6 x))++a.Rules.flatMap S0))))))
def Ai0 (a:Airspace):Bool:=
 (decide (64<a.Volumes.length)||a.Volumes.any Vz)||((decide (64<a.Sectors.length)||a.Sectors.any Vb)||((decide (32<a.Configs.length)||a.Configs.any Wb)||((decide (128<a.Segments.length)||a.Segments.any Vj) ||
 ((decide (64<a.Routes.length)||a.Routes.any V3)||((decide (16<a.Airports.length)||a.Airports.any Vr)||((decide (8<a.Classes.length)||a.Classes.any Xx)||(decide (64<a.Rules.length)||a.Rules.any Mt)))))))
theorem Axv (l:List Volume):Wr (fun b l1=>(B0 (fun _ a=>C2 fun fBad l2=>F3 Acj a fBad l2) 0 l ((b||(decide ((l.length:Int) > 64))),l1)).bind ((C2 fun fBad l2=>.ok (fBad,l2)))) (decide (64<l.length)||l.any Vz) (l.flatMap fun x=>Ep Acj (Vh x)):=
 Uv (d:=fun x=>Ep Acj (Vh x)) (body:=F3 Acj) (fun a=>Aak Acj (by decide) (Ax6 a) (j1:=Ht a) fun _ _=>rfl) l 64 64 rfl
theorem Awh (l:List Sector):Wr (Fr Acl l 64) (decide (64<l.length)||l.any Vb) (l.flatMap fun x=>Ep Acl (Wc x)):=
 Uv (d:=fun x=>Ep Acl (Wc x)) (body:=Hq Acl) (fun a=>Aak Acl (by decide) (Ayr a) (j1:=Hp a) fun _ _=>rfl) l 64 64 rfl
theorem Axe (l:List Config):Wr (Fs Acf l 32) (decide (32<l.length)||l.any Wb) (l.flatMap fun x=>Ep Acf (Vk x)):=
 Uv (d:=fun x=>Ep Acf (Vk x)) (body:=Hr Acf) (fun a=>Aak Acf (by decide) (Ayk a) (j1:=Hn a) fun _ _=>rfl) l 32 32 rfl
theorem Awe (l:List Segment):Wr (Fk Acd l 128) (decide (128<l.length)||l.any Vj) (l.flatMap fun x=>Ep Acd (Vi x)):=
 Uv (d:=fun x=>Ep Acd (Vi x)) (body:=Hb Acd) (fun a=>Aak Acd (by decide) (Aya a) (j1:=G6 a) fun _ _=>rfl) l 128 128 rfl
theorem Axh (l:List Route):Wr (F6 Acg l 64) (decide (64<l.length)||l.any V3) (l.flatMap fun x=>Ep Acg (Ve x)):=
 Uv (d:=fun x=>Ep Acg (Ve x)) (body:=Ih Acg) (fun a=>Aak Acg (by decide) (Ayq a) (j1:=Id a) fun _ _=>rfl) l 64 64 rfl
theorem Axq (l:List Airport):Wr (Fi Aco l 16) (decide (16<l.length)||l.any Vr) (l.flatMap fun x=>Ep Aco (Wa x)):=
 Uv (d:=fun x=>Ep Aco (Wa x)) (body:=Hk Aco) (fun a=>Aak Aco (by decide) (Ax7 a) (j1:=G3 a) fun _ _=>rfl) l 16 16 rfl
theorem Aww (l:List Class):Wr (F9 Ace l 8) (decide (8<l.length)||l.any Xx) (l.flatMap fun x=>Ep Ace (V6 x)):=
 Uv (d:=fun x=>Ep Ace (V6 x)) (body:=H9 Ace) (fun a=>Aak Ace (by decide) (Ayc a) (j1:=Ia a) fun _ _=>rfl) l 8 8 rfl
theorem Awz (l:List Rule):Wr (Fx [] l 64) (decide (64<l.length)||l.any Mt) (l.flatMap S0):=
 Uv (d:=S0) (body:=Hs []) (fun a b l h=>by
  have:=Dj (Awj a) (Zl (Afa [59]))
  rw [Bool.or_false] at this
  exact this b l h) l 64 64 rfl
theorem An3 (a:Airspace)(h:(Ti a).length≤1000000000000):Nu a=if Ai0 a then .ok ([],80) else S8 (Ti a):=by
 have:=Dj (Axv a.Volumes) (Dj (Awh a.Sectors) (Dj (Axe a.Configs) (Dj (Awe a.Segments) (Dj (Axh a.Routes) (Dj (Axq a.Airports) (Dj (Aww a.Classes) (Awz a.Rules)))))))
 have:=this false [] (by simpa [Ti] using h)
 have e:Nu a=((G7 Acj a.Volumes 64 false).bind fun r=>(Fr Acl a.Sectors 64 r.1 r.2).bind fun r1=>(Fs Acf a.Configs 32 r1.1 r1.2).bind fun r2=>
   (Fk Acd a.Segments 128 r2.1 r2.2).bind fun r3=>(F6 Acg a.Routes 64 r3.1 r3.2).bind fun r4=>(Fi Aco a.Airports 16 r4.1 r4.2).bind fun r5=>(F9 Ace a.Classes 8 r5.1 r5.2).bind fun r6=>
   Fx [] a.Rules 64 r6.1 r6.2).bind fun r7=>if r7.1 then .ok ([],80) else(S8 r7.2).bind fun r8=>.ok (r8.1,r8.2):=by
  simp only [R.bind_assoc]; rfl
 rw [e]
 have this:((G7 Acj a.Volumes 64 false).bind fun r=>(Fr Acl a.Sectors 64 r.1 r.2).bind fun r1=>(Fs Acf a.Configs 32 r1.1 r1.2).bind fun r2=>
   (Fk Acd a.Segments 128 r2.1 r2.2).bind fun r3=>(F6 Acg a.Routes 64 r3.1 r3.2).bind fun r4=>(Fi Aco a.Airports 16 r4.1 r4.2).bind fun r5=>(F9 Ace a.Classes 8 r5.1 r5.2).bind fun r6=>
   Fx [] a.Rules 64 r6.1 r6.2)=.ok (Ai0 a,Ti a):=this
 rw [this]
 simp only [R.ok_bind]
 cases Ai0 a
 ·simp only [Bool.false_eq_true,if_false]
  cases S8 (Ti a) <;> rfl
 ·rfl
end Go.Am
namespace Go.Am
open Go
set_option linter.unusedVariables false
set_option linter.unusedSimpArgs false
section
variable {α:Type} {g:α→List Token} {c:Nat}
theorem Qn {d:α→List Token} : ∀ (l:List α),(∀ a ∈ l,(d a).length≤c)→(l.flatMap d).length≤l.length * c
 | [],_=>by simp
 | a::l,h=>by
  have:=Qn l fun x hx=>h x (List.mem_cons_of_mem _ hx)
  have h1:=h a (List.mem_cons_self ..)
  rw [List.flatMap_cons,List.length_append,List.length_cons,Nat.succ_mul]
  omega
theorem Ad4 (h : ∀ a,(g a).length≤c) : ∀ (l:List α),(H8 g l).length≤l.length * (c+1)
 | []=>by simp [H8]
 | a::l=>by
  have:(Vl g l).length≤l.length * (c+1):=Qn l fun x _=>by simp; exact h x
  have h1:=h a
  show(g a++Vl g l).length≤_
  rw [List.length_append,List.length_cons,Nat.succ_mul]
  omega
end
structure Mid (K:Nat)(a:Airspace):Prop where
 vol : ∀ x ∈ a.Volumes,x.Closed.length≤K
 sec : ∀ x ∈ a.Sectors,x.Names.length≤K
 con : ∀ x ∈ a.Configs,x.Names.length≤K
 seg : ∀ x ∈ a.Segments,x.Open.length≤K
 rou : ∀ x ∈ a.Routes,x.Names.length≤K
 air : ∀ x ∈ a.Airports,x.Modes.length≤K
theorem As7 (s:Span):(W6 s).length≤3:=Nat.le_refl _
theorem Arn (s:Mode):(Ai9 s).length≤3:=Nat.le_refl _
theorem Aj3 (w:An)(l:List Span){K:Nat}(h:l.length≤K):(Rk w l).length≤1+K * 4:=by
 unfold Rk
 have:=Ad4 As7 l
 split
 ·simp
 ·simp only [List.length_cons]; omega
theorem Ai2 (l:List An){K:Nat}(h:l.length≤K):(Aay l).length≤K * 2:=by
 have:=Ad4 (g:=fun s:An=>[Do s]) (c:=1) (fun _=>Nat.le_refl _) l
 unfold Aay; omega
theorem Alz {K:Nat}{a:Airspace}(h:Mid K a):(Ti a).length≤(a.Volumes.length+a.Sectors.length+a.Configs.length+a.Segments.length+a.Routes.length+a.Airports.length+a.Classes.length+a.Rules.length) * (K * 4+10):=by
 have h1:=Qn (d:=fun x=>Ep Acj (Vh x)) (c:=K * 4+10) a.Volumes fun x hx=>by
  have:=Aj3 [99,108,111,115,101,100] x.Closed (h.vol x hx)
  simp only [Ep,Vh,List.length_cons,List.length_append,List.length_singleton]; simp; omega
 have h2:=Qn (d:=fun x=>Ep Acl (Wc x)) (c:=K * 4+10) a.Sectors fun x hx=>by
  have:=Ai2 x.Names (h.sec x hx)
  simp only [Ep,Wc,List.length_cons,List.length_append,List.length_singleton]; simp; omega
 have h3:=Qn (d:=fun x=>Ep Acf (Vk x)) (c:=K * 4+10) a.Configs fun x hx=>by
  have:=Ai2 x.Names (h.con x hx)
  simp only [Ep,Vk,List.length_cons,List.length_append,List.length_singleton]; simp; omega
 have h4:=Qn (d:=fun x=>Ep Acd (Vi x)) (c:=K * 4+10) a.Segments fun x hx=>by
  have:=Aj3 [111,112,101,110] x.Open (h.seg x hx)
  simp only [Ep,Vi,List.length_cons,List.length_append,List.length_singleton]; simp; omega
 have h5:=Qn (d:=fun x=>Ep Acg (Ve x)) (c:=K * 4+10) a.Routes fun x hx=>by
  have:=Ai2 x.Names (h.rou x hx)
  simp only [Ep,Ve,List.length_cons,List.length_append,List.length_singleton]; simp; omega
 have h6:=Qn (d:=fun x=>Ep Aco (Wa x)) (c:=K * 4+10) a.Airports fun x hx=>by
  have:=Ad4 Arn x.Modes
  have:=h.air x hx
  simp only [Ep,Wa,List.length_cons,List.length_append,List.length_singleton]; simp; omega
 have h7:=Qn (d:=fun x=>Ep Ace (V6 x)) (c:=K * 4+10) a.Classes fun x hx=>by
  simp only [Ep,V6,List.length_cons,List.length_append,List.length_singleton]; simp
 have h8:=Qn (d:=S0) (c:=K * 4+10) a.Rules fun x hx=>by
  simp only [S0,Ll,List.length_append,List.length_singleton]
  split
  ·unfold N5; split
   ·simp [W6]
   ·split <;> simp
  ·simp
 simp only [Ti,List.length_append,Nat.add_mul]
 omega
abbrev Vt (T:List Token):Prop:=T.all D2=true
theorem De {T U:List Token}(h:Vt T)(k:Vt U):Vt (T++U):=by unfold Vt; rw [List.all_append,h,k]; rfl
theorem Ta {s:An}(h:(!Eo s)=false):Vt [Do s]:=by
 have h:Eo s=true:=by simpa using h
 simp [Vt,D2,Do,h]
theorem Aal {n lo hi:Int}(h:(!O9 n lo hi)=false)(h1:0≤lo)(h2:hi≤1099511627776):Vt [Od n]:=by
 have h:O9 n lo hi=true:=by simpa using h
 simp only [O9,Bool.and_eq_true,decide_eq_true_eq] at h
 simp [Vt,D2,Od]; omega
theorem Sh {α:Type}{d:α→List Token} : ∀ (l:List α),(∀ a ∈ l,Vt (d a))→Vt (l.flatMap d)
 | [],_=>rfl
 | a::l,h=>by
  rw [List.flatMap_cons]
  exact De (h a (List.mem_cons_self ..)) (Sh l fun x hx=>h x (List.mem_cons_of_mem _ hx))
theorem Awn {α:Type}{B:α→Bool}{l:List α}(h:l.any B=false) : ∀ a ∈ l,B a=false:=by simpa using h
theorem S4 {α:Type}{B:α→Bool}{most:Nat}{l:List α}(h:Oi B most l=false):l≠[]∧l.length≤most ∧ ∀ a ∈ l,B a=false:=by
 simp only [Oi,Bool.or_eq_false_iff,decide_eq_false_iff_not] at h
 exact⟨by simpa using h.1.1,by omega,Awn h.2⟩
theorem Afi {α:Type}{g:α→List Token}{B:α→Bool}{most:Nat}{l:List α}(hg : ∀ a,B a=false→Vt (g a))(h:Oi B most l=false):Vt (H8 g l):=by
 obtain⟨h1,_,h3⟩:=S4 h
 cases l with
 | nil=>exact absurd rfl h1
 | cons a l=>
  refine De (hg a (h3 a (List.mem_cons_self ..))) (Sh l fun x hx=>?_)
  exact De (T:=[Kx [44]]) (by decide) (hg x (h3 x (List.mem_cons_of_mem _ hx)))
theorem Awl {s:Span}(h:Yx s=false):Vt (W6 s):=by
 simp only [Yx,Bool.or_eq_false_iff] at h
 have h1:O9 s.From 0 1439=true:=by simpa using h.1
 simp only [O9,Bool.and_eq_true,decide_eq_true_eq] at h1
 have e:=h.2
 rw [Ac9 (by omega) (by omega)] at e
 exact De (Aal h.1 (by omega) (by omega)) (De (T:=[Do [116,111]]) (by decide) (Aal e (by omega) (by omega)))
theorem Amu {w:An}(hw:Vt [Do w]){l:List Span}(h:Qr l=false):Vt (Rk w l):=by
 unfold Qr at h
 unfold Rk
 cases l with
 | nil=>rfl
 | cons a l=>
  have h:Oi Yx 16 (a::l)=false:=by simpa using h
  exact De hw (Afi (fun _=>Awl) h)
theorem Ak4 {most:Nat}{l:List An}(h:Ae2 most l=false):Vt (Aay l):=Afi (fun _=>Ta) h
theorem Azx {m:Mode}(h:Agh m=false):Vt (Ai9 m):=by
 simp only [Agh,Bool.or_eq_false_iff] at h
 exact De (by decide) (De (Ta h.1) (Aal h.2 (by omega) (by omega)))
theorem Agg {w:An}(hw:Vt [Do w]){T:List Token}(h:Vt T):Vt (Ep w T):=De (T:=[Do w]) hw (De h (by decide))
theorem Awf {a:Volume}(h:Vz a=false):Vt (Vh a):=by
 simp only [Vz,Bool.or_eq_false_iff] at h
 exact De (Ta h.1) (Amu (by decide) h.2)
theorem Awb {a:Sector}(h:Vb a=false):Vt (Wc a):=by
 simp only [Vb,Bool.or_eq_false_iff] at h
 have h1:O9 a.Radar 0 64=true:=by simpa using h.2.2.1
 simp only [O9,Bool.and_eq_true,decide_eq_true_eq] at h1
 exact De (Ta h.1) (De (by decide) (De (Ak4 h.2.1) (De (by decide) (De (Aal h.2.2.1 (by omega) (by omega)) (De (by decide) (Aal h.2.2.2 (by omega) (by omega)))))))
theorem Aw8 {a:Config}(h:Wb a=false):Vt (Vk a):=by
 simp only [Wb,Bool.or_eq_false_iff] at h
 exact De (Ta h.1) (De (by decide) (Ak4 h.2))
theorem Axj {a:Segment}(h:Vj a=false):Vt (Vi a):=by
 simp only [Vj,Bool.or_eq_false_iff] at h
 exact De (Ta h.1) (De (by decide) (De (Ta h.2.1) (De (by decide) (De (Aal h.2.2.1 (by omega) (by omega)) (Amu (by decide) h.2.2.2)))))
theorem Awc {a:Route}(h:V3 a=false):Vt (Ve a):=by
 simp only [V3,Bool.or_eq_false_iff] at h
 exact De (Ta h.1) (De (by decide) (De (Ta h.2.1) (De (by decide) (De (Ta h.2.2.1) (De (by decide) (Ak4 h.2.2.2))))))
theorem Axp {a:Airport}(h:Vr a=false):Vt (Wa a):=by
 simp only [Vr,Bool.or_eq_false_iff] at h
 exact De (Ta h.1) (Afi (fun _=>Azx) h.2)
theorem Axm {a:Class}(h:Xx a=false):Vt (V6 a):=by
 simp only [Xx,Bool.or_eq_false_iff] at h
 have h1:O9 a.Slow 1 64=true:=by simpa using h.2.1
 simp only [O9,Bool.and_eq_true,decide_eq_true_eq] at h1
 exact De (Ta h.1) (De (by decide) (De (Aal h.2.1 (by omega) (by omega)) (De (by decide) (De (Aal h.2.2.1 (by omega) (by omega)) (De (by decide) (Aal h.2.2.2 (by omega) (by omega)))))))
theorem Axn {b:Rule}(h:Mt b=false):Vt (Ll b):=by
 unfold Mt at h
 unfold Ll
 by_cases h1:b.Kind=1
 ·rw [if_pos h1] at h
  simp only [Bool.or_eq_false_iff] at h
  rw [if_pos (.inl h1)]
  simp only [Pb,N5,h1,if_true]
  exact De (by decide) (De (Ta h.1) (De (by decide) (De (Ta h.2.1) (Awl h.2.2.1))))
 rw [if_neg h1] at h
 by_cases h2:b.Kind=2
 ·rw [if_pos h2] at h
  simp only [Bool.or_eq_false_iff] at h
  rw [if_pos (.inr (.inl h2))]
  simp only [Pb,N5,h1,h2,if_true,if_false]
  rw [if_neg (by decide),if_neg (by decide)]
  exact De (by decide) (De (Ta h.1) rfl)
 rw [if_neg h2] at h
 by_cases h3:b.Kind=3
 ·rw [if_pos h3] at h
  simp only [Bool.or_eq_false_iff] at h
  rw [if_pos (.inr (.inr (.inl h3)))]
  simp only [Pb,N5,h1,h2,h3,if_true,if_false]
  exact De (by decide) (De (Ta h.1) (Aal h.2.1 (by omega) (by omega)))
 rw [if_neg h3] at h
 by_cases h4:b.Kind=4
 ·rw [if_pos h4] at h
  simp only [Bool.or_eq_false_iff] at h
  rw [if_pos (.inr (.inr (.inr h4)))]
  simp only [Pb,N5,h1,h2,h3,h4,if_true,if_false]
  exact De (by decide) (De (Ta h.1) (Aal h.2.1 (by omega) (by omega)))
 rw [if_neg h4] at h; cases h
structure GoodA (a:Airspace):Prop where
 fits:Agj a
 vol : ∀ x ∈ a.Volumes,Vz x=false
 sec : ∀ x ∈ a.Sectors,Vb x=false
 con : ∀ x ∈ a.Configs,Wb x=false
 seg : ∀ x ∈ a.Segments,Vj x=false
 rou : ∀ x ∈ a.Routes,V3 x=false
 air : ∀ x ∈ a.Airports,Vr x=false
 cla : ∀ x ∈ a.Classes,Xx x=false
 rul : ∀ x ∈ a.Rules,Mt x=false
theorem Ak7 (a:Airspace):Ai0 a=false↔GoodA a:=by
 unfold Ai0
 simp only [Bool.or_eq_false_iff,decide_eq_false_iff_not,Nat.not_lt,List.any_eq_false,Bool.not_eq_true]
 constructor
 ·rintro⟨⟨f1,g1⟩,⟨f2,g2⟩,⟨f3,g3⟩,⟨f4,g4⟩,⟨f5,g5⟩,⟨f6,g6⟩,⟨f7,g7⟩,⟨f8,g8⟩⟩
  exact⟨⟨f1,f2,f3,f4,f5,f6,f7,f8⟩,g1,g2,g3,g4,g5,g6,g7,g8⟩
 ·rintro⟨⟨f1,f2,f3,f4,f5,f6,f7,f8⟩,g1,g2,g3,g4,g5,g6,g7,g8⟩
  exact⟨⟨f1,g1⟩,⟨f2,g2⟩,⟨f3,g3⟩,⟨f4,g4⟩,⟨f5,g5⟩,⟨f6,g6⟩,⟨f7,g7⟩,⟨f8,g8⟩⟩
theorem Aj4 {l:List Span}(h:Qr l=false):l.length≤64:=by
 cases l with
 | nil=>simp
 | cons a l=>
  have h:Oi Yx 16 (a::l)=false:=by simpa [Qr] using h
  have:=(S4 h).2.1; omega
theorem Ar5 {a:Airspace}(h:GoodA a):Mid 64 a where
 vol:=fun x hx=>Aj4 (by have:=h.vol x hx; simp only [Vz,Bool.or_eq_false_iff] at this; exact this.2)
 sec:=fun x hx=>by have:=h.sec x hx; simp only [Vb,Bool.or_eq_false_iff] at this; exact(S4 this.2.1).2.1
 con:=fun x hx=>by have:=h.con x hx; simp only [Wb,Bool.or_eq_false_iff] at this; exact(S4 this.2).2.1
 seg:=fun x hx=>Aj4 (by have:=h.seg x hx; simp only [Vj,Bool.or_eq_false_iff] at this; exact this.2.2.2)
 rou:=fun x hx=>by have:=h.rou x hx; simp only [V3,Bool.or_eq_false_iff] at this; have:=(S4 this.2.2.2).2.1; omega
 air:=fun x hx=>by have:=h.air x hx; simp only [Vr,Bool.or_eq_false_iff] at this; have:=(S4 this.2).2.1; omega
theorem Alf {a:Airspace}(h:GoodA a):(Ti a).length≤131072:=by
 have h1:=Alz (Ar5 h)
 obtain⟨f1,f2,f3,f4,f5,f6,f7,f8⟩:=h.fits
 omega
theorem Aix {a:Airspace}(h:GoodA a):Vt (Ti a):=by
 unfold Ti
 exact De (Sh _ fun x hx=>Agg (by decide) (Awf (h.vol x hx))) (De (Sh _ fun x hx=>Agg (by decide) (Awb (h.sec x hx))) (De (Sh _ fun x hx=>Agg (by decide) (Aw8 (h.con x hx)))
  (De (Sh _ fun x hx=>Agg (by decide) (Axj (h.seg x hx))) (De (Sh _ fun x hx=>Agg (by decide) (Awc (h.rou x hx))) (De (Sh _ fun x hx=>Agg (by decide) (Axp (h.air x hx)))
  (De (Sh _ fun x hx=>Agg (by decide) (Axm (h.cla x hx))) (Sh _ fun x hx=>De (Axn (h.rul x hx)) (by decide))))))))
theorem Apb {s:An}(h:Eo s=true):s.length≤32:=by
 unfold Eo at h
 cases s with
 | nil=>simp
 | cons c w=>simp at h; simp; omega
theorem Aqf {t:Token}(h:D2 t=true):t.Text.length≤32:=by
 unfold D2 at h
 split at h
 ·simp only [Bool.and_eq_true] at h; exact Apb h.1
 ·split at h
  ·simp only [Bool.and_eq_true,beq_iff_eq] at h; rw [h.1.1]; simp
  ·split at h
   ·simp only [Bool.and_eq_true] at h
    cases ht:t.Text with
    | nil=>simp
    | cons c w=>cases w with
     | nil=>simp
     | cons d w=>rw [ht] at h; simp [Z3] at h
   ·cases h
theorem Alg : ∀ (l:List Token),Vt l→Ady l≤32 * l.length
 | [],_=>by simp [Ady]
 | t::l,h=>by
  have h:D2 t=true∧l.all D2=true:=by simpa [Vt] using h
  have ih:=Alg l h.2
  have:=Aqf h.1
  unfold Ady at ih ⊢
  simp only [List.map_cons,List.sum_cons,List.length_cons]
  omega
theorem Apl {a:Airspace}(h:GoodA a):Atr (Ti a):=by
 have h1:=Alf h
 have h2:=Aix h
 have h3:=Avu h2
 have h4:=Akn (Ti a) h3
 have h5:=Alg _ h2
 exact⟨by omega,by omega,h3⟩
def Afw (a:Airspace):An:=Lib.join ((Ti a).map Gz) [32]
theorem Apu {a:Airspace}(h:GoodA a):Nu a=.ok (Afw a,0):=by
 have h1:=Alf h
 rw [An3 a (by omega),if_neg (by rw [(Ak7 a).2 h]; simp),At5 _ (Apl h)]
 unfold Aiw
 rw [if_pos (Aix h)]; rfl
theorem Aq6 {a:Airspace}(h:¬ GoodA a)(hl:(Ti a).length≤1000000000000):Nu a=.ok ([],80):=by
 rw [An3 a hl,if_pos]
 cases hb:Ai0 a
 ·exact absurd ((Ak7 a).1 hb) h
 ·rfl
end Go.Am

/- Written by shrink.py from texts of ours: comments struck, what is not reached left out, names short. -/
import Derived.Test.YtjidhdlbojmlfaaGreatDoorU3
import Derived.Test.YtjidhdlbojmlfaaGreatDoorU1
import Derived.Test.YtjidhdlbojmlfaaGreatDoorU2
import Derived.RangeFuncIn
import Derived.RangeFuncLeaves
import Derived.Deep.DeepHandedRow
import Derived.Lib.LaidU8
import Derived.Lay
import Derived.MakeChecks
import Derived.LaidMore
import Derived.WideKeyElems2
import Derived.KernelRfl
import Derived.Lib.Bytealg
import Derived.Lib.ItoaNum
import Derived.Lib.Join
import Derived.Lib.AtoiAll
import Derived.Lib.ItoaMem
import Derived.Lib.AtoiAllCases
namespace Go.Am
open Go
set_option linter.unusedSimpArgs false
set_option linter.unusedVariables false
set_option linter.unusedSectionVars false
inductive AFz (h h2:Ae):AO→AO→Prop
 | same (x:AO):AFz h h2 x x
 | rows (g st:Nat) (rs rs':List (List AV)) (hl:rs.length=rs'.length) (hr : ∀ r ∈ rs',E4 st r) (hc : ∀ i j,i<rs.length→j<st→Fz h h2 (cell rs i j) (cell rs' i j)):AFz h h2 (.rows g st rs) (.rows g st rs')
def HFz (h h2:Ae):Prop := ∀ o y,h2 o=some y → ∃ x,h o=some x∧AFz h h2 x y
theorem AFz.gen {h h2:Ae}{x y:AO}(k:AFz h h2 x y):x.gen=y.gen:=by cases k <;> rfl
theorem HFz.subG {h h2:Ae}(k:HFz h h2):Aii h2 h:=fun o y e=>let ⟨x,h1,h2⟩:=k o y e; ⟨x,h1,h2.gen⟩
theorem Sim.fz {P:Program}[GW P]{B:Base P}{mu:Mu}{h h2:Ae}{w:World}(s:Sim B mu h w)(k:HFz h h2):Sim B mu h2 w:=by
 refine⟨s.base,s.muOk,s.fin,?_,?_,?_,?_,s.glob,fun o g x e=>by
  obtain⟨y,h1,hx⟩:=k o _ e
  cases hx with
  | same _=>exact s.blks o g x h1⟩
 ·obtain⟨N,hN⟩:=s.finh
  refine⟨N,fun o ho=>?_⟩
  cases hq:h2 o with
  | none=>rfl
  | some y=>obtain⟨x,h1,_⟩:=k o y hq; rw [hN o ho] at h1; cases h1
 ·intro o g st rs e
  obtain⟨x,h1,hx⟩:=k o _ e
  cases hx with
  | same _=>
   obtain⟨l,k1,k2,k3,k4,k5,k6⟩:=s.rows o g st rs h1
   exact⟨l,k1,k2,k3,k4,k5,fun i j hi hj=>let ⟨c,c1,c2⟩:=k6 i j hi hj; ⟨c,c1,Ov s k.subG (.same _) c2⟩⟩
  | rows _ _ rs0 _ hl hr hc=>
   obtain⟨l,k1,k2,k3,k4,k5,k6⟩:=s.rows o g st rs0 h1
   exact⟨l,k1,k2,k3,by rw [← hl]; exact k4,hr,fun i j hi hj=>let ⟨c,c1,c2⟩:=k6 i j (hl ▸ hi) hj; ⟨c,c1,Ov s k.subG (hc i j (hl ▸ hi) hj) c2⟩⟩
 ·intro o g es e
  obtain⟨x,h1,hx⟩:=k o _ e
  cases hx with
  | same _=>
   obtain⟨l,k1,k2,ens,clock,k3,k4,k5⟩:=s.maps o g es h1
   exact⟨l,k1,k2,ens,clock,k3,k4,fun i hi=>⟨Ov s k.subG (.same _) (k5 i hi).1,Ov s k.subG (.same _) (k5 i hi).2⟩⟩
 ·intro o o' x x' l l' e e' h1 h2 hb
  obtain⟨y,k1,k2⟩:=k _ _ e
  obtain⟨y',k1',k2'⟩:=k _ _ e'
  exact s.inj o o' y y' l l' k1 k1' (by rw [k2.gen]; exact h1) (by rw [k2'.gen]; exact h2) hb
section
variable {P:Program} [GW P] {f:FuncId} {n:Nat} {d:FK} {fr:Nat→AV} {ds:List AD} {h h2:Ae} {u:AU} {Q:QT} {k:List Item}
theorem Ahh {fn:Func}{vs:List AV}{v':AV}(hf:P.funcs[f]? = some fn)(hx:Nr P h fr fn.results.toList=some vs)(hs:HFz h h2)(hz:Fz h h2 (Md vs) v')(hu:d=false)(hq:Q (.ret v') h2 u):Te P f n d .ret fr [] h u Q:=by
 intro B mu w a cs todo mode p hm
 obtain⟨c,h1,h2'⟩:=Wj p.sim p.fr hx
 have hd:a.defers=[]:=p.ds
 have hmode:=hm.ret_inv
 refine⟨.returned c,w,cs,_,.ret v',h2,mu,u,hq,Steps.refl P _,rfl,rfl,(by subst hu; exact⟨hmode,hd,fn,hf,h1⟩),Ov p.sim hs.subG hz h2',p.sim.fz hs,(Hp.subG hs.subG).g,?_⟩
 subst hu
 rfl
end
inductive HL (h h2:Ae):List (Option AO)→List (Option AO)→Prop
 | nil:HL h h2 [] []
 | keep {x:Option AO} {xs ys:List (Option AO)} (r:HL h h2 xs ys):HL h h2 (x::xs) (x::ys)
 | drop {x:Option AO} {xs ys:List (Option AO)} (r:HL h h2 xs ys):HL h h2 (x::xs) (none::ys)
 | fz {g st:Nat} {row row':List AV} {xs ys:List (Option AO)} (hz:LF h h2 row row') (hl:row'.length=st) (hf:row'.all AV.flat=true) (r:HL h h2 xs ys):HL h h2 (some (.rows g st [row])::xs) (some (.rows g st [row'])::ys)
theorem HL.get {h h2:Ae}{xs ys:List (Option AO)}(k:HL h h2 xs ys):xs.length=ys.length ∧ ∀ (j:Nat) (y:AO),ys[j]? = some (some y) → ∃ x,xs[j]? = some (some x)∧AFz h h2 x y:=by
 induction k with
 | nil=>exact⟨rfl,fun j y e=>by simp at e⟩
 | keep r ih=>
  refine⟨by simp [ih.1],fun j y e=>?_⟩
  cases j with
  | zero=>simp only [List.getElem?_cons_zero,Option.some.injEq] at e; subst e; exact⟨y,by simp,.same _⟩
  | succ j=>simpa using ih.2 j y (by simpa using e)
 | drop r ih=>
  refine⟨by simp [ih.1],fun j y e=>?_⟩
  cases j with
  | zero=>simp at e
  | succ j=>simpa using ih.2 j y (by simpa using e)
 | @fz g st row row' xs ys hz hl hf r ih=>
  refine⟨by simp [ih.1],fun j y e=>?_⟩
  cases j with
  | zero=>
   simp only [List.getElem?_cons_zero,Option.some.injEq] at e
   subst e
   refine⟨.rows g st [row],by simp only [List.getElem?_cons_zero],.rows g st [row] [row'] rfl ?_ ?_⟩
   ·intro r hr
    rw [List.mem_singleton.1 hr]
    exact⟨hl,fun v hv=>List.all_eq_true.1 hf v hv⟩
   ·intro i j hi hj
    have:i=0:=by simpa using hi
    subst this
    have:=hz.all.2 j (by rw [hz.all.1,hl]; exact hj)
    simpa [cell] using this
  | succ j=>simpa using ih.2 j y (by simpa using e)
theorem HL.hfz {h0:Ae}{ids:List Nat}{N:Nat}{xs ys:List (Option AO)}(hI:Ids h0 ids N)(hl:xs.length=N)(k:HL (hp h0 ids xs) (hp h0 ids ys) xs ys):HFz (hp h0 ids xs) (hp h0 ids ys):=by
 intro o y e
 obtain⟨k1,k2⟩:=k.get
 by_cases ho:o ∈ ids
 ·obtain⟨j,hj,rfl⟩:=List.mem_iff_getElem.1 ho
  have ej:ids[j]=ix ids j:=by simp [ix,List.getD,hj]
  rw [ej] at e ⊢
  have hjl:j<ys.length:=by rw [← k1,hl,← hI.len]; exact hj
  have hy:=hI.at (xs:=ys) (j:=j) (x:=ys[j]) (by rw [← k1,hl]) (List.getElem?_eq_getElem hjl)
  rw [hy] at e
  obtain⟨x,hx,hz⟩:=k2 j y (by rw [List.getElem?_eq_getElem hjl,e])
  exact⟨x,hI.at hl hx,hz⟩
 ·rw [Tu ho] at e
  exact⟨y,by rw [Tu ho]; exact e,.same _⟩
def Ur:List Nat→List (Option AO)→List (Option AO)
 | [],xs=>xs
 | j::js,xs=>Ur js (xs.set j none)
def Uc:List Nat→List (Option AO)→List (Option AO)→List (Option AO)
 | j::js,y::ys,xs=>(Uc js ys (xs.set j none)).set j y
 | _,_,xs=>xs
def Zn (ids:List Nat):List Nat→List Nat
 | []=>[]
 | j::js=>ix ids j::Zn ids js
def Sy (N:Nat):List Nat→Bool
 | []=>true
 | j::js=>Nat.blt j N && !js.contains j&&Sy N js
theorem Ak6 : ∀ (js:List Nat) (xs:List (Option AO)),(Ur js xs).length=xs.length
 | [],_=>rfl
 | j::js,xs=>by rw [Ur,Ak6 js]; simp
theorem Ai7 : ∀ (js:List Nat) (ys xs:List (Option AO)),(Uc js ys xs).length=xs.length
 | [],_,_=>by simp [Uc]
 | _::_,[],_=>by simp [Uc]
 | j::js,y::ys,xs=>by rw [Uc,List.length_set,Ai7 js]; simp
theorem Aik : ∀ (js:List Nat) (xs:List (Option AO)) (i:Nat),xs[i]? = some none→(Ur js xs)[i]? = some none
 | [],_,_,h=>h
 | j::js,xs,i,h=>Aik js _ i (by
  rw [List.getElem?_set]
  split
  ·rename_i hq; subst hq
   rw [if_pos]
   rcases Nat.lt_or_ge j xs.length with hh | hh
   ·exact hh
   ·rw [List.getElem?_eq_none hh] at h; cases h
  ·exact h)
theorem Ame : ∀ (js:List Nat) (xs:List (Option AO)) (i:Nat),i ∈ js→i<xs.length→(Ur js xs)[i]? = some none
 | j::js,xs,i,hm,hi=>by
  rcases List.mem_cons.1 hm with rfl | hm
  ·exact Aik js _ i (by simp [hi])
  ·exact Ame js _ i hm (by simpa using hi)
section
variable {h0:Ae} {ids:List Nat} {N:Nat}
theorem Abv (hI:Ids h0 ids N) : ∀ {js:List Nat} {ys xs:List (Option AO)},xs.length=N→js.length=ys.length→Sy N js=true→hp (hp h0 ids (Ur js xs)) (Zn ids js) ys=hp h0 ids (Uc js ys xs)
 | [],[],xs,_,_,_=>rfl
 | j::js,y::ys,xs,hl,hj,hk=>by
  simp only [Sy,Bool.and_eq_true] at hk
  simp only [Zn,hp,Ur,Uc]
  rw [Abv hI (js:=js) (ys:=ys) (xs:=xs.set j none) (by simpa using hl) (by simpa using hj) hk.2]
  rw [hI.set (by rw [Ai7]; simpa using hl) hk.1.1]
theorem Ids.sub' (hI:Ids h0 ids N){js:List Nat}{xs:List (Option AO)}(hl:xs.length=N)(hk:Sy N js=true):Ids (hp h0 ids (Ur js xs)) (Zn ids js) js.length:=by
 have hlt : ∀ {js:List Nat},Sy N js=true → ∀ j ∈ js,j<N:=by
  intro js
  induction js with
  | nil=>intro _ j hj; cases hj
  | cons i js ih=>
   intro hk j hj
   simp only [Sy,Bool.and_eq_true] at hk
   rcases List.mem_cons.1 hj with rfl | hj
   ·simpa using hk.1.1
   ·exact ih hk.2 j hj
 have hmem : ∀ {js:List Nat} {o:Nat},o ∈ Zn ids js → ∃ j ∈ js,o=ix ids j:=by
  intro js
  induction js with
  | nil=>intro o ho; cases ho
  | cons i js ih=>
   intro o ho
   rcases List.mem_cons.1 ho with rfl | ho
   ·exact⟨i,List.mem_cons_self ..,rfl⟩
   ·obtain⟨j,h1,h2⟩:=ih ho; exact⟨j,List.mem_cons_of_mem _ h1,h2⟩
 have hinj : ∀ {i j:Nat},i<N→j<N→ix ids i=ix ids j→i=j:=by
  intro i j hi hj e
  rw [← hI.len] at hi hj
  simp only [ix,List.getD,List.getElem?_eq_getElem hi,List.getElem?_eq_getElem hj,Option.getD_some] at e
  rcases Nat.lt_trichotomy i j with hh | hh | hh
  ·exact absurd e (List.pairwise_iff_getElem.1 hI.nodup i j hi hj hh)
  ·exact hh
  ·exact absurd e.symm (List.pairwise_iff_getElem.1 hI.nodup j i hj hi hh)
 refine⟨?_,?_,?_⟩
 ·have key : ∀ {js:List Nat},Sy N js=true→(Zn ids js).Nodup:=by
   intro js
   induction js with
   | nil=>intro _; exact List.nodup_nil
   | cons i js ih=>
    intro hk
    have hk':=hk
    simp only [Sy,Bool.and_eq_true] at hk
    refine List.nodup_cons.2 ⟨fun hm=>?_,ih hk.2⟩
    obtain⟨j,h1,h2⟩:=hmem hm
    have:=hinj (by simpa using hk.1.1) (hlt hk.2 j h1) h2
    subst this
    have:=hk.1.2
    simp [h1] at this
  exact key hk
 ·intro o ho
  obtain⟨j,h1,rfl⟩:=hmem ho
  exact hI.at (by rw [Ak6]; exact hl) (Ame js xs j h1 (by rw [hl]; exact hlt hk j h1))
 ·clear hk
  induction js with
  | nil=>rfl
  | cons i js ih=>simp only [Zn,List.length_cons]; rw [ih]
end
def Cu {α:Type}(S:α→AV→Ae→Prop)(h0:Ae)(m:R α):AR→Ae→Prop:=fun r h'=>match m with
 | .ok a => ∃ v,r=.ret v∧S a v h'
 | .pan v=>r=.panic v.av∧h'=h0
 | .bad=>False
def Ahb {α:Type}(S:α→AV→Ae→Prop)(h0:Ae):Spec α:=⟨fun m=>m≠.bad,fun h=>h rfl,fun m r h' _=>Cu S h0 m r h'⟩
def tkf (ids:List Nat):Nat→Nat→List Nat
 | 0,_=>[]
 | k+1,j=>ix ids j::tkf ids k (j+1)
theorem Ah7 : ∀ (ids:List Nat) (k j:Nat),j+k≤ids.length→(ids.drop j).take k=tkf ids k j
 | ids,0,j,_=>by simp [tkf]
 | ids,k+1,j,h=>by
  have hj:j<ids.length:=by omega
  rw [List.drop_eq_getElem_cons hj,List.take_succ_cons,tkf,Ah7 ids k (j+1) (by omega)]
  simp [ix,List.getD,hj]
section
variable {P:Program} [GW P] {f:FuncId} {n:Nat} {α:Type} {m:R α} {S:α→AV→Ae→Prop} {h0:Ae}
theorem Be {fn : Func} {c : Code} {args : List AV} {os0 : List Nat} {K : Nat} {xs : List (Option AO)} (N : Nat) (hf : P.funcs[f]? = some fn) (hb : fn.body = some c) (hn : fn.name ≠ "runtime.NumGoroutine") (hnt : fn.ntmps = n) (hl : Nat.ble args.length n = true)
  (hI0 : Ids h0 os0 K) (hx : xs.length = K)
  (hr : ∀ ids, (∀ j, Nat.blt j K = true → ix ids j = ix os0 j) → Ids h0 ids (K + N) → WR P f n false (Ahb S h0) m [.code c] (A6 (Aaw 0 args)) [] (hp h0 ids (xs ++ List.replicate N none)) .ret) :
  m ≠ .bad → Bl P f args (hp h0 os0 xs) (Cu S h0 m) := by
 intro hb'
 refine Zl hf hb hn hnt (by simpa using hl) ?_
 refine Acw N os0 fun os h1 h2 h3 h4 => ?_
 have hout : ∀ o ∈ os, o ∉ os0 := fun o ho => h4 o ho
 have hI : Ids h0 (os0 ++ os) (K + N) := by
  refine ⟨List.nodup_append.2 ⟨hI0.nodup, h2, fun a ha b hb hq => hout b hb (hq ▸ ha)⟩, fun o ho => ?_, by simp [hI0.len, h1]⟩
  rcases List.mem_append.1 ho with ho | ho
  ·exact hI0.fresh o ho
  ·have := h3 o ho
   rwa [Tu (hout o ho)] at this
 have e : hp h0 (os0 ++ os) (xs ++ List.replicate N none) = hp h0 os0 xs := by
  rw [Yz (by rw [hI0.len, hx]), Ut fun o ho => hI.fresh o (List.mem_append_right _ ho)]
 have := hr (os0 ++ os) (fun j hj => by
  have hj' : j < os0.length := by rw [hI0.len]; simpa using hj
  simp [ix, List.getD, List.getElem?_append_left hj']) hI hb'
 rw [e] at this
 refine Ti (fun t => ?_) this
 rcases Uw args 0 t with h | ⟨_, h⟩
 ·exact .inl h
 ·exact .inr h
section
variable {ids:List Nat} {xs:List (Option AO)} {K N:Nat} {l:List (Nat×AV)} {k:List Item} {u:AU}
theorem Ak2 (hI:Ids h0 ids (K+N)){ys:List (Option AO)}(hy:ys.length=K):hp h0 ids (ys++List.replicate N none)=hp h0 (tkf ids K 0) ys:=by
 have e:=Ah7 ids K 0 (by rw [hI.len]; omega)
 rw [List.drop_zero] at e
 rw [← e]
 have e2:ids=ids.take K++ids.drop K:=(List.take_append_drop K ids).symm
 conv=>lhs; rw [e2]
 rw [Yz (by rw [List.length_take,hI.len,hy]; omega),Ut fun o ho=>hI.fresh o (List.mem_of_mem_drop ho)]
theorem D5 {fn:Func}{a:α}{vs:List AV}{v:AV}(ys:List (Option AO))(hf:P.funcs[f]? = some fn)(hI:Ids h0 ids (K+N))(hl:xs.length=K+N)(hr:Nr P (hp h0 ids xs) (A6 l) fn.results.toList=some vs)
  (hy:ys.length=K) (hx:HL (hp h0 ids xs) (hp h0 ids (ys++List.replicate N none)) xs (ys++List.replicate N none)) (hz:Fz (hp h0 ids xs) (hp h0 ids (ys++List.replicate N none)) (Md vs) v) (hS:S a v (hp h0 (tkf ids K 0) ys)) :
  WR P f n false (Ahb S h0) (.ok a) (.code .ret::k) (A6 l) [] (hp h0 ids xs) u:=fun _=>by
 refine Acx (Ahh hf hr (hx.hfz hI hl) hz rfl ⟨v,rfl,?_⟩)
 rw [Ak2 hI hy]; exact hS
theorem Ce {fn:Func}{a:α}{vs:List AV}{v:AV}(ys:List (Option AO))(hf:P.funcs[f]? = some fn)(hI:Ids h0 ids (K+N))(hl:xs.length=K+N)(hr:Nr P (hp h0 ids xs) (A6 l) fn.results.toList=some vs)
  (hy:ys.length=K) (hx:HL (hp h0 ids xs) (hp h0 ids (ys++List.replicate N none)) xs (ys++List.replicate N none)) (hz:Fz (hp h0 ids xs) (hp h0 ids (ys++List.replicate N none)) (Md vs) v) (hS:S a v (hp h0 (tkf ids K 0) ys)) :
  WR P f n false (Ahb S h0) (.ok a) [] (A6 l) [] (hp h0 ids xs) u:=fun _=>by
 refine Afw (Ahh hf hr (hx.hfz hI hl) hz rfl ⟨v,rfl,?_⟩)
 rw [Ak2 hI hy]; exact hS
theorem Ao {fn:Func}{v:PV}{fr:Nat→AV}(hf:P.funcs[f]? = some fn)(hI:Ids h0 ids (K+N)):WU P f n false (Ahb S h0) (.pan v) (.pan v.av false) fr [] (hp h0 ids xs) u:=fun _=>
 Ai3 hf (hI.sub xs) (.same _) ⟨rfl,rfl⟩
end
end
section
variable {P:Program} [GW P] {f:FuncId} {n:Nat} {d:FK} {β γ:Type} {Q:Spec β} {m:R β} {ds:List AD} {u:AU} {k:List Item} {l:List (Nat×AV)} {F:γ→R β}
variable {all r:List Oper} {ty:TypeId} {pos:String} {after:Array Edge} {h0:Ae} {ids:List Nat} {xs:List (Option AO)} {N:Nat}
theorem Ar0 {ops:List Oper}{fr:Nat→AV}(js:List Nat){xs zs:List (Option AO)}(ys:List (Option AO))(hI:Ids h0 ids N)(hl:xs.length=N)(hk:Sy N js=true)(hz:js.length=zs.length)(e:Uc js zs xs=ys)(hr:WO P f n d Q k all m ops fr ds (hp h0 ids ys) u) :
  WO P f n d Q k all m ops fr ds (hp (hp h0 ids (Ur js xs)) (Zn ids js) zs) u:=by
 subst e
 rw [Abv hI hl hz hk]; exact hr
theorem An {α:Type}{dst:Option Tmp}{x:Operand}{as0:List Operand}{ts:Array TypeId}{g:FuncId}{fst cap A:List AV}{gd:Option (Nat×Bool)}{mg:R α}{S:α→AV→Ae→Prop}{rest:α→R γ}{zs:List (Option AO)}(js:List Nat)(hI:Ids h0 ids N)(hl:xs.length=N)(hk:Sy N js=true)
  (hc:mg≠.bad→Bl P g A (hp (hp h0 ids (Ur js xs)) (Zn ids js) zs) (Cu S (hp h0 ids (Ur js xs)) mg)) (hz:js.length=zs.length) (e2:Uc js zs xs=xs)
  (ht:I4 n dst=true) (hw:Gt all (A6 l) ⟨dst,.call ⟨.value x,⟨as0⟩,ts⟩,ty,pos,after,gd⟩=some true) (hx:ev (A6 l) x=.func (.func g) fst cap) (ha:fst++Jf (A6 l) as0++cap=A)
  (hp' : ∀ v,mg=.pan v→WU P f n d Q (.pan v) (.pan v.av false) (A6 l) ds (hp h0 ids (Ur js xs)) u)
  (hk : ∀ a,mg=.ok a → ∀ v h',S a v h'→WO P f n d Q k all ((rest a).bind F) r (Im (A6 l) dst v) ds h' u) :
  WO P f n d Q k all ((mg.bind rest).bind F) (⟨dst,.call ⟨.value x,⟨as0⟩,ts⟩,ty,pos,after,gd⟩::r) (A6 l) ds (hp h0 ids xs) u:=by
 rw [Abv hI hl hz ‹Sy N js=true›,e2] at hc
 refine Alh (R.bind_assoc _ _ _) (Q5 ht hw fun hb K U hK hU=>?_)
 simp only [Lb,hx]
 rw [ha]
 have hmb:mg≠.bad:=fun q=>by rw [q] at hb; exact Q.bad hb
 refine(hc hmb).mono fun r' h' hr=>?_
 cases hm:mg with
 | bad=>exact absurd hm hmb
 | ok a=>
  rw [hm] at hr hb hK
  obtain⟨v,rfl,hS⟩:=hr
  exact hK _ _ _ _ (hk a hm v h' hS)
 | pan v=>
  rw [hm] at hr hb hU
  obtain⟨rfl,rfl⟩:=hr
  exact hU _ _ _ _ _ (hp' v hm hb)
theorem Ap {ops:List Oper}{t:Nat}{v:AV}{h:Ae}(hr:WO P f n d Q k all m ops (A6 ((t,v)::l)) ds h u):WO P f n d Q k all m ops (Im (A6 l) (some t) v) ds h u:=by rw [J8]; exact hr
theorem Sx {α:Type}{pre:List (List Nat)}{plan:Jn}{pend:Tv}{i:Nat}{dst:Option Tmp}{x:Operand}{as0:List Operand}{ts:Array TypeId}{g:FuncId}{fst cap A:List AV}{gd:Option (Nat×Bool)}{mg:R α}{S:α→AV→Ae→Prop}{rest:α→R γ}{zs:List (Option AO)}(js:List Nat)(hI:Ids h0 ids N)(hl:xs.length=N)(hk:Sy N js=true)
  (hc:mg≠.bad→Bl P g A (hp (hp h0 ids (Ur js xs)) (Zn ids js) zs) (Cu S (hp h0 ids (Ur js xs)) mg)) (hz:js.length=zs.length) (e2:Uc js zs xs=xs) (ho:all[i]? = some ⟨dst,.call ⟨.value x,⟨as0⟩,ts⟩,ty,pos,after,gd⟩)
  (ht:I4 n dst=true) (hw:Gt all (A6 l) ⟨dst,.call ⟨.value x,⟨as0⟩,ts⟩,ty,pos,after,gd⟩=some true) (hx:ev (A6 l) x=.func (.func g) fst cap) (ha:fst++Jf (A6 l) as0++cap=A)
  (hp' : ∀ v,mg=.pan v → ∀ fr,(∀ t,(all.any fun o=>o.dst==some t)=false→fr t=A6 l t)→WU P f n d Q (.pan v) (.pan v.av false) fr ds (hp h0 ids (Ur js xs)) u)
  (hk : ∀ a,mg=.ok a → ∀ v h',S a v h'→M9 P all pre i h' pend∧WP P f n d Q k all pre ((rest a).bind F) plan pend (Im (A6 l) dst v) ds h' u) :
  WP P f n d Q k all pre ((mg.bind rest).bind F) ((true,i)::plan) pend (A6 l) ds (hp h0 ids xs) u:=by
 rw [Abv hI hl hz ‹Sy N js=true›,e2] at hc
 refine Alk (R.bind_assoc _ _ _) (Aer ho ht hw fun hb K U hK hU=>?_)
 simp only [Lb,hx]
 rw [ha]
 have hmb:mg≠.bad:=fun q=>by rw [q] at hb; exact Q.bad hb
 refine(hc hmb).mono fun r' h' hr=>?_
 cases hm:mg with
 | bad=>exact absurd hm hmb
 | ok a=>
  rw [hm] at hr hb hK
  obtain⟨v,rfl,hS⟩:=hr
  obtain⟨k1,k2⟩:=hk a hm v h' hS
  exact hK _ _ _ _ k1 k2
 | pan v=>
  rw [hm] at hr hb hU
  obtain⟨rfl,rfl⟩:=hr
  exact hU _ _ _ _ _ (fun fr' hf=>hp' v hm fr' hf hb)
theorem Va {pre:List (List Nat)}{plan:Jn}{pend:Tv}{i:Nat}{fr:Nat→AV}(js:List Nat){xs zs:List (Option AO)}(ys:List (Option AO))(hI:Ids h0 ids N)(hl:xs.length=N)(hk:Sy N js=true)(hz:js.length=zs.length)(e:Uc js zs xs=ys)
  (hr:M9 P all pre i (hp h0 ids ys) pend∧WP P f n d Q k all pre m plan pend fr ds (hp h0 ids ys) u) :
  M9 P all pre i (hp (hp h0 ids (Ur js xs)) (Zn ids js) zs) pend∧WP P f n d Q k all pre m plan pend fr ds (hp (hp h0 ids (Ur js xs)) (Zn ids js) zs) u:=by
 subst e
 rw [Abv hI hl hz hk]; exact hr
theorem Vi {pre:List (List Nat)}{plan:Jn}{pend:Tv}{t:Nat}{v:AV}{h:Ae}(hr:WP P f n d Q k all pre m plan pend (A6 ((t,v)::l)) ds h u):WP P f n d Q k all pre m plan pend (Im (A6 l) (some t) v) ds h u:=by rw [J8]; exact hr
end
theorem Aih {P:Program}[GW P]{f:FuncId}{n:Nat}{α:Type}{e:α→AV}{hdl:PV→R α}{h0:Ae}{ids:List Nat}{N:Nat}{xs:List (Option AO)}{l:List (Nat×AV)}{k:List Item}{u:AU}{fn:Func}{a:α}{vs:List AV}(hf:P.funcs[f]? = some fn)(hI:Ids h0 ids N)
  (hr:Nr P (hp h0 ids xs) (A6 l) fn.results.toList=some vs) (hz:Fz (hp h0 ids xs) h0 (Md vs) (e a)) :
  WR P f n false (Q3 e h0 hdl) (.ok a) (.code .ret::k) (A6 l) [] (hp h0 ids xs) u:=fun _=>
 Acx (X0 hf hr (hI.sub xs) hz rfl ⟨rfl,rfl⟩)
end Go.Am
namespace Go.Am
open Go
set_option linter.unusedSimpArgs false
set_option linter.unusedVariables false
set_option linter.unusedSectionVars false
def Sb {α:Type}(l:List α)(a b:Int):List α:=(l.drop a.toNat).take (b.toNat - a.toNat)
section
variable {P:Program} [GW P] {h:Ae} {t et:TypeId} {a b st:Nat} {z:List AV} {E:TI} {s:List UInt8} {k k':IntKind} {lo hi:Int} {α:Type} {e:α→List AV} {L:List α}
theorem Alt {n:Nat}(h1:0≤lo)(h2:lo≤(n:Int))(d:Nat):J7 (some (.int k lo)) d n=some lo.toNat:=by simp only [J7]; rw [if_pos ⟨h1,h2⟩]
theorem Am7 (hT:ti P t=some ⟨.str,a,b,z⟩)(hc:0≤lo∧lo≤hi∧hi≤(s.length:Int)):P0 P h t (.str s) (some (.int k lo)) (some (.int k' hi)) none=some (.str (Sb s lo hi)):=by
 obtain⟨h1,h2,h3⟩:=hc
 simp only [P0,hT]
 rw [Alt (by omega) h3]
 simp only
 rw [Alt h1 (by omega)]
 rfl
theorem Akw (hT:ti P t=some ⟨.str,a,b,z⟩)(hc:0≤lo∧lo≤(s.length:Int)):P0 P h t (.str s) (some (.int k lo)) none none=some (.str (s.drop lo.toNat)):=by
 simp only [P0,hT,J7]
 rw [if_pos hc]
 simp only [Option.some.injEq,AV.str.injEq]
 rw [List.take_of_length_le (by simp)]
theorem Ary (hT:ti P t=some ⟨.str,a,b,z⟩)(hc:0≤hi∧hi≤(s.length:Int)):P0 P h t (.str s) none (some (.int k hi)) none=some (.str (s.take hi.toNat)):=by
 simp only [P0,hT]
 rw [Alt hc.1 hc.2]
 simp only [J7,List.drop_zero,Nat.sub_zero]
theorem Ns (hT:ti P t=some ⟨.sl et,a,b,z⟩)(hE:ti P et=some E)(hs:st=E.size)(hc:0≤lo∧lo≤(L.length:Int)):P0 P h t (.sl st (L.map e)) (some (.int k lo)) none none=some (.sl st ((L.drop lo.toNat).map e)):=by
 simp only [P0,hT,hE,J7]
 rw [if_pos hs]
 simp only [List.length_map]
 rw [if_pos hc]
 simp only [Option.some.injEq,AV.sl.injEq,true_and]
 rw [List.take_of_length_le (by simp),List.map_drop]
theorem Vf {m o g r c:Nat}{i:Int}(j:Nat)(hT:ti P t=some ⟨.arr m et,a,b,z⟩)(hE:ti P et=some E)(hi:i=(j:Int))(hj:Nat.blt j m=true):Ku P h t (.ptr o g r c) (.int k i)=some (.ptr o g r (c+j * E.size)):=by
 subst hi
 have:j<m:=by simpa using hj
 simp only [Ku,hT,hE]
 rw [if_pos ⟨by omega,by omega⟩,Int.toNat_natCast]
end
section
variable {P:Program} [GW P] {f:FuncId} {n:Nat} {d:FK} {β γ:Type} {Q:Spec β} {fr:Nat→AV} {ds:List AD} {h:Ae} {u:AU} {k:List Item} {F:γ→R β} {all:List Oper}
theorem Xs {p:Prop}[Decidable p]{A B:R γ}{ops:List Oper}(ht:p→WO P f n d Q k all (A.bind F) ops fr ds h u)(hf:¬ p→WO P f n d Q k all (B.bind F) ops fr ds h u):WO P f n d Q k all ((if p then A else B).bind F) ops fr ds h u:=by
 have e:(if p then A else B).bind F=if p then A.bind F else B.bind F:=by split <;> rfl
 rw [e]; exact Asr ht hf
theorem Arn {p:Prop}[Decidable p]{A:R γ}{todo:List Item}(hk:p→WR P f n d Q (A.bind F) todo fr ds h u):WR P f n d Q ((if p then A else .bad).bind F) todo fr ds h u:=by
 intro hb
 by_cases hp:p
 ·simp only [if_pos hp] at hb ⊢; exact hk hp hb
 ·simp only [if_neg hp] at hb; exact absurd hb Q.bad
theorem Aua {ops:List Oper}:WO P f n d Q k all ((R.bad:R γ).bind F) ops fr ds h u:=fun hb=>absurd hb Q.bad
end
def Ali (v:AV)(b:Bool):Prop:=match b with
 | false=>v=.nili
 | true => ∃ t x,v=.iface t x
theorem Apr {P:Program}[GW P]{t:TypeId}{v:AV}{b:Bool}{s by':Nat}{z:List AV}(hT:ti P t=some ⟨.ifc,s,by',z⟩)(hv:Ali v b):Pd P .neq t v .nili=some (.bool b):=by
 cases b with
 | false=>obtain rfl:v=.nili:=hv; exact Afd hT
 | true=>obtain⟨t',x,rfl⟩ : ∃ t x,v=.iface t x:=hv; exact Adu hT
theorem Ang {P:Program}[GW P]{o:BinOp}{t:TypeId}{x:Operand}{c:Value}{v:AV}{b:Bool}(ho:o=.eql∨o=.neq)(hv:Ali v b):Mj P o t x (.const c) v .nili=true:=by
 cases b with
 | false=>obtain rfl:v=.nili:=hv; rcases ho with rfl | rfl <;> simp [Mj]
 | true=>obtain⟨t',x,rfl⟩ : ∃ t x,v=.iface t x:=hv; rcases ho with rfl | rfl <;> rfl
section
variable {P:Program} [GW P] [GW P]
theorem Td.mk {g : FuncId} {gf : Func} {gc : Code} (h1 : P.funcs[g]? = some gf) (h2 : gf.body = some gc) (h3 : gf.name ≠ "runtime.NumGoroutine") : Td P g := ⟨gf, gc, h1, h2, h3⟩
def Asp (w:World)(v:AV)(mu:Mu)(h:Ae):Ending→World→Prop:=fun e w'=>Go.RowKit.Below w.heap.size w w' ∧ ∃ c,e=.returned c∧RV h mu w' v c
theorem Ah2 {α:Type}{g:FuncId}{A:List AV}{m:R α}{e:α→AV}(hb:Td P g)(hm : ∀ p,m≠.pan p)
  (hc : ∀ a,m=.ok a → ∀ (B:Base P) mu h w (cargs:Array Value),Sim B mu h w→Qa h mu w A cargs.toList→Calls P g cargs w (Asp w (e a) mu h)):CP P g A m e:=by
 intro h hne
 refine⟨hb,fun B mu w cargs s ha=>?_⟩
 cases hq:m with
 | bad=>exact absurd hq hne
 | pan p=>exact absurd hq (hm p)
 | ok a=>
  refine(hc a hq B mu h w cargs s ha).mono ?_
  rintro en w' ⟨k,c,rfl,hv⟩
  obtain⟨k1,k2⟩:=Below.ext s k
  exact⟨.ret (e a),h,mu,⟨rfl,rfl⟩,k1,k2,hv⟩
theorem Ats {α:Type}{g:FuncId}{A:List AV}{m:R α}{S:α→AV→Ae→Prop}{h:Ae}(hb:Td P g)(hm : ∀ p,m≠.pan p)
  (hc : ∀ a,m=.ok a → ∀ (B:Base P) mu w (cargs:Array Value),Sim B mu h w→Qa h mu w A cargs.toList→Calls P g cargs w fun en w'=>Go.RowKit.Below w.heap.size w w' ∧ ∃ v c,en=.returned c∧S a v h∧RV h mu w' v c):m≠.bad→Bl P g A h (Cu S h m):=by
 intro hne
 refine⟨hb,fun B mu w cargs s ha=>?_⟩
 cases hq:m with
 | bad=>exact absurd hq hne
 | pan p=>exact absurd hq (hm p)
 | ok a=>
  refine(hc a hq B mu w cargs s ha).mono ?_
  rintro en w' ⟨k,v,c,rfl,hS,hv⟩
  obtain⟨k1,k2⟩:=Below.ext s k
  exact⟨.ret v,h,mu,⟨v,rfl,hS⟩,k1,k2,hv⟩
theorem Akk {h:Ae}{mu:Mu}{w:World}{a:AV}{cargs:Array Value}(k:Qa h mu w [a] cargs.toList) : ∃ c,cargs = #[c]∧RV h mu w a c:=by
 obtain⟨l⟩:=cargs
 match l,k.1 with
 | [c],_=>exact⟨c,rfl,by simpa using k.2 0 (by simp)⟩
theorem Alc {h:Ae}{mu:Mu}{w:World}{a b:AV}{cargs:Array Value}(k:Qa h mu w [a,b] cargs.toList) : ∃ c d,cargs = #[c,d]∧RV h mu w a c∧RV h mu w b d:=by
 obtain⟨l⟩:=cargs
 match l,k.1 with
 | [c,d],_=>exact⟨c,d,rfl,by simpa using k.2 0 (by simp),by simpa using k.2 1 (by simp)⟩
theorem Aeh {h:Ae}{mu:Mu}{w:World}{s:List UInt8}{c:Value}(k:RV h mu w (.str s) c):c=.string ⟨s.toArray⟩:=by cases k; rfl
theorem Anu {h:Ae}{mu:Mu}{w:World}{t:IntKind}{n:Int}{c:Value}(k:RV h mu w (.int t n) c):c=.int t n:=by cases k; rfl
theorem Asx {h:Ae}{mu:Mu}{w:World}{st:Nat}{c:Value}(k:RV h mu w (.sl st []) c) : ∃ a cap,c=.slice a 0 cap:=by
 cases k with
 | sl0 _ a cap=>exact⟨a,cap,rfl⟩
 | sl _ _ b off cap=>exact⟨_,cap,rfl⟩
theorem Ar3 {h:Ae}{mu:Mu}{w:World}{l:List Aw}{c:Value}(k:RV h mu w (.sl 1 (l.map rS)) c):l=[] ∨ ∃ bk o cap,c=.slice (some ⟨bk,o,none⟩) l.length cap∧bk<w.heap.size∧l.length≤Em∧l.length≤cap ∧ ∀ j x,l[j]? = some x→w.cell? ⟨bk,o+j,none⟩=some (.string ⟨x.toArray⟩):=by
 generalize hr:l.map rS=rows at k
 cases k with
 | sl0 _ a cap=>exact .inl (List.map_eq_nil_iff.1 hr)
 | sl _ _ b off cap vs hcap hlim h1 h2 h5 h3 h4=>
  subst hr
  refine .inr ⟨b,off,cap,by rw [List.length_map],h4,by simpa using hlim,by simpa using hcap,fun j x hx=>?_⟩
  have hj:j<l.length:=A3 hx
  have:=h1 j 0 (by simpa using hj) (by omega)
  have h2':=h2 j 0 (by simpa using hj) (by omega)
  rw [Nat.mul_one,Nat.add_zero] at this
  rw [this]
  have e:cell (l.map rS) j 0=.str x:=by simp [cell,hx,rS]
  rw [e] at h2'
  rw [Aeh h2']
end
end Go.Am
namespace Go.Am
open Go
set_option linter.unusedSimpArgs false
set_option linter.unusedVariables false
set_option linter.unusedSectionVars false
inductive HM (h h2:Ae):List (Option AO)→List (Option AO)→Prop
 | nil:HM h h2 [] []
 | keep {x:Option AO} {xs ys:List (Option AO)} (r:HM h h2 xs ys):HM h h2 (x::xs) (x::ys)
 | drop {x:Option AO} {xs ys:List (Option AO)} (r:HM h h2 xs ys):HM h h2 (x::xs) (none::ys)
 | own {α:Type} {e:α→List AV} {L:List α} {v:AV} {g st i:Nat} {y:α} {row:List AV} {xs ys:List (Option AO)} (hr : ∀ x,E4 st (e x)) (hz:LF h h2 row (e y)) (r:HM h h2 xs ys) :
   HM h h2 (Ah v g st ((L.map e).set i row)::xs) (Ah v g st ((L.set i y).map e)::ys)
theorem HM.get {h h2:Ae}{xs ys:List (Option AO)}(k:HM h h2 xs ys):xs.length=ys.length ∧ ∀ (j:Nat) (y:AO),ys[j]? = some (some y) → ∃ x,xs[j]? = some (some x)∧AFz h h2 x y:=by
 induction k with
 | nil=>exact⟨rfl,fun j y e=>by simp at e⟩
 | keep r ih=>
  refine⟨by simp [ih.1],fun j y e=>?_⟩
  cases j with
  | zero=>simp only [List.getElem?_cons_zero,Option.some.injEq] at e; subst e; exact⟨y,by simp,.same _⟩
  | succ j=>simpa using ih.2 j y (by simpa using e)
 | drop r ih=>
  refine⟨by simp [ih.1],fun j y e=>?_⟩
  cases j with
  | zero=>simp at e
  | succ j=>simpa using ih.2 j y (by simpa using e)
 | @own α e L v g st i y row xs ys hr hz r ih=>
  refine⟨by simp [ih.1],fun j z hz'=>?_⟩
  cases j with
  | succ j=>simpa using ih.2 j z (by simpa using hz')
  | zero=>
   simp only [List.getElem?_cons_zero,Option.some.injEq] at hz' ⊢
   have key:AFz h h2 (.rows g st ((L.map e).set i row)) (.rows g st ((L.set i y).map e)):=by
    refine .rows g st _ _ (by simp) (fun q hq=>?_) fun a b ha hb=>?_
    ·obtain⟨w,_,rfl⟩:=List.mem_map.1 hq
     exact hr w
    ·rw [List.map_set]
     by_cases hia:i=a
     ·subst hia
      have hlt:i<(L.map e).length:=by simpa using ha
      simp only [cell]
      have e1:((L.map e).set i row).getD i []=row:=by rw [List.getD_eq_getElem?_getD,List.getElem?_set_self hlt]; rfl
      have e2:((L.map e).set i (e y)).getD i []=e y:=by rw [List.getD_eq_getElem?_getD,List.getElem?_set_self hlt]; rfl
      rw [e1,e2]
      exact hz.all.2 b (by rw [hz.all.1,(hr y).1]; exact hb)
     ·simp only [cell]
      have e1:((L.map e).set i row).getD a []=(L.map e).getD a []:=by simp [List.getD,List.getElem?_set_ne hia]
      have e2:((L.map e).set i (e y)).getD a []=(L.map e).getD a []:=by simp [List.getD,List.getElem?_set_ne hia]
      rw [e1,e2]
      exact .same _
   unfold Ah at hz' ⊢
   split at hz'
   ·cases hz'
   ·rename_i hv
    cases hz'
    exact⟨_,rfl,key⟩
theorem HM.hfz {h0:Ae}{ids:List Nat}{N:Nat}{xs ys:List (Option AO)}(hI:Ids h0 ids N)(hl:xs.length=N)(k:HM (hp h0 ids xs) (hp h0 ids ys) xs ys):HFz (hp h0 ids xs) (hp h0 ids ys):=by
 intro o y e
 obtain⟨k1,k2⟩:=k.get
 by_cases ho:o ∈ ids
 ·obtain⟨j,hj,rfl⟩:=List.mem_iff_getElem.1 ho
  have ej:ids[j]=ix ids j:=by simp [ix,List.getD,hj]
  rw [ej] at e ⊢
  have hjl:j<ys.length:=by rw [← k1,hl,← hI.len]; exact hj
  have hy:=hI.at (xs:=ys) (j:=j) (x:=ys[j]) (by rw [← k1,hl]) (List.getElem?_eq_getElem hjl)
  rw [hy] at e
  obtain⟨x,hx,hz⟩:=k2 j y (by rw [List.getElem?_eq_getElem hjl,e])
  exact⟨x,hI.at hl hx,hz⟩
 ·rw [Tu ho] at e
  exact⟨y,by rw [Tu ho]; exact e,.same _⟩
end Go.Am
namespace Go.Am
open Go
set_option linter.unusedSimpArgs false
set_option linter.unusedVariables false
set_option linter.unusedSectionVars false
section
variable {α:Type} {n:Nat} {e:α→List AV} {E:α→AV} {v:Vector α n} {i:Nat}
theorem E4.all {s:Nat}{r:List AV}(h:E4 s r):r.all AV.flat=true:=List.all_eq_true.2 h.2
end
section
variable {P:Program} [GW P] {h:Ae} {t et:TypeId} {a b:Nat} {z:List AV} {E:TI} {k:IntKind}
theorem toNat_lt {i:Int}{m:Nat}(h:0≤i∧i<(m:Int)):i.toNat<m:=by omega
end
theorem Zy {h h2:Ae} : ∀ l:List AV,LF h h2 l l
 | []=>.nil
 | a::l=>.cons (.same a) (Zy l)
def R.np {α:Type}:R α→R α
 | .pan _=>.bad
 | m=>m
@[simp] theorem R.np_ok {α:Type}(a:α):(R.ok a).np=.ok a:=rfl
end Go.Am
namespace Go.Am
open Go
set_option linter.unusedSimpArgs false
set_option linter.unusedVariables false
set_option linter.unusedSectionVars false
end Go.Am
namespace Go.Am
open Go
set_option linter.unusedSimpArgs false
set_option linter.unusedVariables false
set_option linter.unusedSectionVars false
section
variable {P:Program} [GW P] {f:FuncId} {n:Nat} {d:FK} {fr:Nat→AV} {ds:List AD} {h:Ae} {u:AU} {Q:QT} {k:List Item}
theorem Sim.take {B:Base P}{mu:Mu}{w:World}{b:Nat}{x:Option (List Deferred)}(s:Sim B mu h w)(hb:w.heap[b]? = some (.deferred x))(hm:¬ Ep h mu b)(hn:B.n≤b){n0:Nat}(hn0:n0≤b) :
  Sim B mu h { w with heap:=w.heap.setIfInBounds b (.deferred none) }∧Afk n0 h mu w h mu { w with heap:=w.heap.setIfInBounds b (.deferred none) }:=by
 have hlt:b<w.heap.size:=by
  rcases Nat.lt_or_ge b w.heap.size with hh | hh
  ·exact hh
  ·rw [Array.getElem?_eq_none hh] at hb; cases hb
 have hne : ∀ k,k≠b→(w.heap.setIfInBounds b (.deferred none))[k]? = w.heap[k]? := fun k hk=>Array.getElem?_setIfInBounds_ne (Ne.symm hk)
 have hself:(w.heap.setIfInBounds b (.deferred none))[b]? = some (.deferred none):=by simp [hlt]
 have ext:Afk n0 h mu w h mu { w with heap:=w.heap.setIfInBounds b (.deferred none) }:=
  ⟨rfl,rfl,rfl,by simp,fun k hk hkm=>⟨by
   by_cases hq:k=b
   ·subst hq; exact .inr ⟨hn0,_,_,hb,hself⟩
   ·exact .inl (hne k hq),hkm⟩,fun _ _ _ h=>h⟩
 have hcell : ∀ a:Addr,({ w with heap:=w.heap.setIfInBounds b (.deferred none) }:World).cell? a=w.cell? a:=fun a=>by
  by_cases hq:a.block=b
  ·unfold World.cell?
   show(match (w.heap.setIfInBounds b (.deferred none))[a.block]? with | some (.cells cells _ _)=>_ | _=>_)=_
   rw [hq,hself,hb]
  ·exact cell?_of_heap (hne _ hq)
 have hnb : ∀ {o x l},h o=some x→mu o x.gen=some l→l.b≠b:=fun h1 h2 hq=>hm ⟨_,_,_,h1,h2,hq⟩
 refine⟨⟨by simpa using s.base,fun o g l hl=>?_,s.fin,s.finh,fun o g st rs hx=>?_,fun o g es hx=>?_,s.inj,GW.step s.glob fun k hk=>hne k (by omega),fun o g x hx=>?_⟩,ext⟩
 ·obtain⟨h1,h2,h3⟩:=s.muOk o g l hl
  refine⟨h1,by simpa using h2,fun hc=>?_⟩
  obtain⟨cells,e,f,k1,k2,k3⟩:=h3 hc
  have:l.b≠b:=fun hq=>by rw [hq,hb] at k1; cases k1
  exact⟨cells,e,f,(hne _ this).trans k1,k2,k3⟩
 ·obtain⟨l,h1,h2,h3,h4,h5,h6⟩:=s.rows o g st rs hx
  refine⟨l,h1,h2,h3,h4,h5,fun i j hi hj=>?_⟩
  obtain⟨c,hc1,hc2⟩:=h6 i j hi hj
  exact⟨c,(hcell _).trans hc1,hc2.extG ext⟩
 ·obtain⟨l,h1,h2,ens,clock,h3,h4,h5⟩:=s.maps o g es hx
  exact⟨l,h1,h2,ens,clock,⟨(hne _ (hnb hx h1)).trans h3.1,h3.2⟩,h4,fun i hi=>⟨(h5 i hi).1.extG ext,(h5 i hi).2.extG ext⟩⟩
 ·obtain⟨l,h1,h2,h3⟩:=s.blks o g x hx
  exact⟨l,h1,h2,(hne _ (hnb hx h1)).trans h3⟩
theorem Qa.extG {n:Nat}{h h':Ae}{mu mu':Mu}{w w':World}(e:Afk n h mu w h' mu' w'){l:List AV}{cs:List Value}(k:Qa h mu w l cs):Qa h' mu' w' l cs:=⟨k.1,fun i hi=>(k.2 i hi).extG e⟩
theorem Sk.extG {n:Nat}{h h':Ae}{mu mu':Mu}{w w':World}(e:Afk n h mu w h' mu' w'){u:AU}{m:FrameMode}(k:Sk h mu w u m):Sk h' mu' w' u m:=by
 unfold Sk at k ⊢
 split at k
 ·trivial
 ·exact⟨k.1,k.2.1,k.2.2.extG e⟩
 ·exact k.elim
structure LpOk (f n:Nat)(params:Array Tmp)(assign body:Code)(r:Loop):Prop where
 ready:r.state=.ready
 pend:r.pending=none
 fn:r.fn=f
 size:r.tmps.size=n
 params:r.params=params
 assign:r.assign=assign
 body:r.body=body
end
end Go.Am
namespace Go.Am
open Go
set_option linter.unusedSimpArgs false
set_option linter.unusedVariables false
set_option linter.unusedSectionVars false
end Go.Am
namespace Go.Am
@[reducible] def un9 {α β γ δ ε ζ η θ ι ω:Type}(f:α→β→γ→δ→ε→ζ→η→θ→ι→ω):α×β×γ×δ×ε×ζ×η×θ×ι→ω | (x0,x1,x2,x3,x4,x5,x6,x7,x8)=>f x0 x1 x2 x3 x4 x5 x6 x7 x8
@[simp] theorem Awh {α β γ δ ε ζ η θ ι ω:Type}(f:α→β→γ→δ→ε→ζ→η→θ→ι→ω)(x0:α)(x1:β)(x2:γ)(x3:δ)(x4:ε)(x5:ζ)(x6:η)(x7:θ)(x8:ι):un9 f (x0,x1,x2,x3,x4,x5,x6,x7,x8)=f x0 x1 x2 x3 x4 x5 x6 x7 x8:=rfl
end Go.Am
namespace Go.Am
open Go
set_option linter.unusedVariables false
set_option linter.unusedSectionVars false
theorem Aul {P:Program}[GW P]{f:FuncId}{n:Nat}{d:FK}{α β γ:Type}{Q:Spec β}{k:List Item}{all ops:List Oper}{fr:Nat→AV}{ds:List AD}{h:Ae}{u:AU}{F:γ→R β}{m:R α}{rest:α→R γ}
  (hk:(∀ v,m≠.pan v)→WO P f n d Q k all ((m.bind rest).bind F) ops fr ds h u):WO P f n d Q k all ((m.np.bind rest).bind F) ops fr ds h u:=by
 cases m with
 | ok a=>exact hk (fun v hv=>by cases hv)
 | pan v=>exact fun hb=>absurd hb Q.bad
 | bad=>exact fun hb=>absurd hb Q.bad
end Go.Am
namespace Go.Am
open Go
set_option linter.unusedVariables false
set_option linter.unusedSectionVars false
theorem Ase {P:Program}{W:World}{name:String}{k:IntKind}{zs:List Int}{g:Nat}{t e:TypeId}{n:Nat}(hg:P.globalNamed name=some g)(hty:(P.globals[g]?).map (·.type)=some t)(ht:P.underlying t=some (.array n e))(he:P.underlying e=some (.int k))(hce:P.cellsOf e=1)(hct:P.cellsOf t=n)
  (h:Lib.VarReads P W name (Lib.tabData k zs)):Lib.TabIs P W name k zs:=by
 obtain⟨g',t',cs,fuel,p,hg',ht',hvar,hd⟩:=h
 obtain rfl:=Option.some.inj (hg.symm.trans hg')
 obtain rfl:=Option.some.inj (hty.symm.trans ht')
 unfold Lib.TabIs
 rw [hvar,← Lib.cells_of_tab ht he hce hct hd]
theorem Agh {P:Program}{W:World}{name u:String}{d:DataW Unit}{g:Nat}{t:TypeId}{ms:Array _}(hg:P.globalNamed name=some g)(hty:(P.globals[g]?).map (·.type)=some t)(ht:P.underlying t=some (.interface ms))
  (h:Lib.VarReads P W name (.iface u d)) : ∃ tp p,W.var? P name=some #[.iface tp p]:=by
 obtain⟨g',t',cs,fuel,p,hg',ht',hvar,hd⟩:=h
 obtain rfl:=Option.some.inj (hg.symm.trans hg')
 obtain rfl:=Option.some.inj (hty.symm.trans ht')
 cases fuel with
 | zero=>simp [DataW.trod] at hd
 | succ fuel=>
  obtain⟨cs⟩:=cs
  cases cs with
  | nil=>simp [DataW.trod,ht] at hd
  | cons v rest=>
   cases rest with
   | cons a b=>simp [DataW.trod,ht] at hd
   | nil=>
    cases v with
    | iface tp q=>exact⟨tp,q,hvar⟩
    | _=>simp [DataW.trod,ht] at hd
theorem Atv {P:Program}{W:World}{name:String}{g:Nat}{d:DataW Unit}(hg:P.globalNamed name=some g)(h:Lib.VarReads P W name d):g<W.heap.size:=by
 obtain⟨g',t',cs,fuel,p,hg',ht',hvar,hd⟩:=h
 obtain rfl:=Option.some.inj (hg.symm.trans hg')
 unfold World.var? at hvar
 rw [hg] at hvar
 rcases Nat.lt_or_ge g W.heap.size with h | h
 ·exact h
 ·simp [Array.getElem?_eq_none h] at hvar
theorem Abu {H:Type}{enc:TypeId×Value→H}{C:Checked}{os:Os}{f:FuncId}{fn:Func}{s:OpenSpec}{conds:List PathCond}{apart:Bool}{laid:List (String×DataW Unit)}(modest:Bool)(w0:World)(args:Array Value)(hos:w0.os=os)
  (hsh:(w0.forCall (fun _ _=>0) ⟨#[],args,[]⟩).Shaped C.prog)
  (hok:Input.okWideB C.prog (w0.forCall (fun _ _=>0) ⟨#[],args,[]⟩) f ⟨#[],args,[]⟩=true)
  (hrow:s.preRow enc C.prog fn conds apart laid (w0.forCall (fun _ _=>0) ⟨#[],args,[]⟩).memory args) :
  ∃ (w:World) (tape:Tape) (i:Input),w.os=os∧(w.forCall tape i).Shaped C.prog∧i.vars=[]∧Input.okWide C.prog (w.forCall tape i) .any w.heap.size f i ∧
   s.preRow enc C.prog fn conds apart laid (w.forCall tape i).memory i.args∧({ modest:=modest }:Assume).holds C.prog (lone (Frame.enter C.prog f i.args .normal) [] (w.forCall tape i)):=
 ⟨w0,fun _ _=>0,⟨#[],args,[]⟩,hos,hsh,(Input.okWide_of_okWideB (base:=0) hok).1,(Input.okWide_of_okWideB hok).2,hrow,by
  simp only [Assume.holds]
  exact⟨by simp,by simp,fun _=>Modest.zero,by simp,by simp⟩⟩
end Go.Am
namespace Go.Am
open Go
set_option linter.unusedVariables false
set_option linter.unusedSectionVars false
section
variable {P:Program} [GW P] {h:Ae}
theorem Aus {t:TypeId}{T:TI}{b c:Nat}{row:List AV}{v:AV}(hr:GW.row P b=some row)(hT:ti P t=some T)(hv:Lj row c T.size T.k.agg=some v):Pj P h t (.gptr ⟨b,c,none⟩)=some v:=by simp only [Pj,hT,hr,hv]
theorem P1 {t kt et:TypeId}{a b:Nat}{z:List AV}{K:TI}{ET:TI}{es:List (Aw×AV)}{s c:Aw}{q:Aw×AV}(hT:ti P t=some ⟨.map kt et,a,b,z⟩)(hK:ti P kt=some K)(hk:K.k=.str)(hE:ti P et=some ET)(hs:(s==c)=true)(hf:es.find? (fun p=>c==p.1)=some q) :
  R2 P h t (.mapc es) (.str s) true=some (.tup [q.2,.bool true]):=by
 obtain rfl:=eq_of_beq hs
 obtain⟨r,h1,h2⟩:=X4 (k:=s) es 0
 rw [hf] at h2
 obtain⟨j,v,rfl⟩ : ∃ j v,r=some (j,v):=by cases r with | none=>simp at h2 | some q=>exact⟨q.1,q.2,rfl⟩
 obtain rfl:v=q.2:=by simpa using h2
 simp only [R2,hT,hK,hE,Aby,hk,Yw,if_true,h1]
theorem Aoz {t kt et:TypeId}{a b:Nat}{z:List AV}{K:TI}{ET:TI}{es:List (Aw×AV)}{s:Aw}{v:AV}(hT:ti P t=some ⟨.map kt et,a,b,z⟩)(hK:ti P kt=some K)(hk:K.k=.str)(hE:ti P et=some ET)(hz:Lj ET.z 0 ET.size ET.k.agg=some v)(hf:es.find? (fun p=>s==p.1)=none) :
  R2 P h t (.mapc es) (.str s) true=some (.tup [v,.bool false]):=by
 obtain⟨r,h1,h2⟩:=X4 (k:=s) es 0
 rw [hf] at h2
 obtain rfl:r=none:=by simpa using h2
 simp only [R2,hT,hK,hE,Aby,hk,Yw,if_true,h1,hz]
theorem Tt {es:List (Aw×AV)}{s c:Aw}{v:AV}(h:(s==c)=false)(r:es.find? (fun p=>s==p.1)=none):((c,v)::es).find? (fun p=>s==p.1)=none:=by rw [List.find?_cons]; simp only [h]; exact r
end
section
variable {P:Program} [GW P] {f:FuncId} {n:Nat} {γ:Type} {m:R γ} {u u':AU} {h0:Ae}
theorem Anj {fn : Func} {c : Code} {args : List AV} {os0 : List Nat} {K : Nat} {xs : List (Option AO)} {ysf : γ → List (Option AO)} (N : Nat) (hf : P.funcs[f]? = some fn) (hb : fn.body = some c) (hn : fn.name ≠ "runtime.NumGoroutine") (hnt : fn.ntmps = n) (hl : Nat.ble args.length n = true)
  (hI0 : Ids h0 os0 K) (hx : xs.length = K) (hy : ∀ a, (ysf a).length = K)
  (hr : ∀ ids, (∀ j, Nat.blt j K = true → ix ids j = ix os0 j) → Ids h0 ids (K + N) → WR P f n true (Alr (fun a => hp h0 ids (ysf a ++ List.replicate N none)) u') m [.code c] (A6 (Aaw 0 args)) [] (hp h0 ids (xs ++ List.replicate N none)) u) :
  (∃ a, m = .ok a) → P4 P f args u (hp h0 os0 xs) (Ab9 (fun a => hp h0 os0 (ysf a)) u' m) := by
 intro hm
 refine Adk hf hb hn hnt (by simpa using hl) ?_
 refine Acw N os0 fun os h1 h2 h3 h4 => ?_
 have hout : ∀ o ∈ os, o ∉ os0 := fun o ho => h4 o ho
 have hI : Ids h0 (os0 ++ os) (K + N) := by
  refine ⟨List.nodup_append.2 ⟨hI0.nodup, h2, fun a ha b hb hq => hout b hb (hq ▸ ha)⟩, fun o ho => ?_, by simp [hI0.len, h1]⟩
  rcases List.mem_append.1 ho with ho | ho
  ·exact hI0.fresh o ho
  ·have := h3 o ho
   rwa [Tu (hout o ho)] at this
 have e : ∀ zs : List (Option AO), zs.length = K → hp h0 (os0 ++ os) (zs ++ List.replicate N none) = hp h0 os0 zs := fun zs hz => by
  rw [Yz (by rw [hI0.len, hz]), Ut fun o ho => hI.fresh o (List.mem_append_right _ ho)]
 have := hr (os0 ++ os) (fun j hj => by
  have hj' : j < os0.length := by rw [hI0.len]; simpa using hj
  simp [ix, List.getD, List.getElem?_append_left hj']) hI hm
 rw [e xs hx] at this
 refine Ti (fun t => ?_) (Aps this ?_)
 ·rcases Uw args 0 t with h | ⟨_, h⟩
  ·exact .inl h
  ·exact .inr h
 ·rintro r h' u1 ⟨a, h1, h2, h3, h4⟩
  exact ⟨a, h1, h2, h3.trans (e _ (hy a)), h4⟩
end
def Kx (l:List (Aw×Aw×FuncId)):List (Aw×AV):=l.map fun x=>(x.1,.func (.func x.2.2) [] [])
def Aad (l:List (Aw×Aw×FuncId)):DataW (List UInt8):=.map (l.map fun x=>(.string x.1,.held x.2.1))
def Ata (P:Program)(l:List (Aw×Aw×FuncId)):Bool:=l.all fun x => !x.2.1.isEmpty&&((List.range P.funcs.size).filter fun f=>(P.funcs[f]?).any (·.name.toUTF8.data.toList==x.2.1))==[x.2.2]
structure FMapAt (w:World)(m g:Nat)(es:List (Aw×AV)):Prop where
 ex : ∃ (b:Nat) (ens:Array MapEntry) (clock:Nat) (es2:List (Aw×AV)),w.cell? ⟨g,0,none⟩=some (.map (some b))∧b<m∧w.heap[b]? = some (.map ens clock)∧es2.Perm es∧es2.length=ens.size ∧
  ∀ i,i<es2.length→(ens.getD i default).key=.string ⟨(es2.getD i ([],.und)).1.toArray⟩ ∧ ∃ k,(es2.getD i ([],.und)).2=.func (.func k) [] []∧(ens.getD i default).val=.func (.func k) #[] #[]
 nd:(es.map (·.1)).Nodup
theorem FMapAt.keep {w w':World}{m g:Nat}{es:List (Aw×AV)}(k:FMapAt w m g es)(hg:g<m)(e : ∀ b,b<m→w'.heap[b]? = w.heap[b]?):FMapAt w' m g es:=by
 obtain⟨⟨b,ens,clock,es2,h1,h2,h3,h4,h5,h6⟩,hnd⟩:=k
 exact⟨⟨b,ens,clock,es2,by rw [cell?_of_heap (w:=w) (a:=⟨g,0,none⟩) (e g hg)]; exact h1,h2,by rw [e b h2]; exact h3,h4,h5,h6⟩,hnd⟩
theorem FMapAt.rv {w:World}{m g:Nat}{es:List (Aw×AV)}(k:FMapAt w m g es)(hm:m≤w.heap.size){mu:Mu}{M:Nat→Prop}(hM : ∀ b,M b→m≤b) : ∃ x,w.cell? ⟨g,0,none⟩=some x∧Rv w mu M (.mapc es) x:=by
 obtain⟨⟨b,ens,clock,es2,h1,h2,h3,h4,h5,h6⟩,hnd⟩:=k
 refine⟨_,h1,.mapc es es2 h4 hnd b ens clock h3 h5 (fun i hi=>(h6 i hi).1) (fun i hi=>?_) (fun hb=>by have:=hM b hb; omega) (by omega)⟩
 obtain⟨_,k,e1,e2⟩:=h6 i hi
 rw [e1,e2]
 exact .func _ [] [] [] [] rfl rfl (fun i hi=>by simp at hi) (fun i hi=>by simp at hi)
open Go.ChangeShapes Go.WideShapes Go.WideElems
theorem Am2 {P:Program}{e:TypeId}{ps rs:Array TypeId}{va:Bool}{v c:Value}(he:P.underlying e=some (.func ps rs va))(hf:v.formed P e=true)(hc:v.cells.toList=[c]):v=c:=by
 cases v with
 | agg a=>simp [Value.formed,he] at hf
 | _=>simpa [Value.cells] using hc
theorem Arc {P:Program}{W:World}{name:String}{d:DataW Unit}{l:List (Aw×Aw×FuncId)}{g:Nat}{t k e:TypeId}{ps rs:Array TypeId}{va:Bool}(h:funcsAt P W name d)(hd:d.funcsOut=Aad l)(hg:P.globalNamed name=some g)(hty:(P.globals[g]?).map (·.type)=some t)
  (ht:P.underlying t=some (.map k e)) (hk:P.underlying k=some .string) (he:P.underlying e=some (.func ps rs va)) (hok:Ata P l=true) (hnd:((Kx l).map (·.1)).Nodup):FMapAt W W.heap.size g (Kx l):=by
 obtain⟨g',t',cs,fuel,p,hg',ht',hvar,hr⟩:=h
 obtain rfl:=Option.some.inj (hg.symm.trans hg')
 obtain rfl:=Option.some.inj (hty.symm.trans ht')
 rw [hd] at hr
 rcases open_map ht hr with⟨_,hx⟩ | ⟨b,ens,clock,n,rfl,hcs,hb,_,F,hx⟩
 ·simp [Aad] at hx
 ·refine⟨?_,hnd⟩
  have hmap:Aad l=.map ((ens.toList.map (rg P k (elemAt (funcToken P) P W 0 (fun _=>true) true n e))).foldr DataW.insert []):=congrArg Prod.fst hx
  have hperm:(ens.toList.map (rg P k (elemAt (funcToken P) P W 0 (fun _=>true) true n e))).Perm (l.map fun x=>(Lit.string x.1,DataW.held x.2.1)):=by
   have h1:=sorted_perm (ens.toList.map (rg P k (elemAt (funcToken P) P W 0 (fun _=>true) true n e)))
   unfold Aad at hmap
   rw [← DataW.map.inj hmap] at h1
   exact h1.symm
  have hent : ∀ x ∈ ens.toList,∃ y ∈ l,x.key=.string ⟨y.1.toArray⟩∧x.val=.func (.func y.2.2) #[] #[]∧rg P k (elemAt (funcToken P) P W 0 (fun _=>true) true n e) x=(Lit.string y.1,DataW.held y.2.1):=by
   intro x hx
   have hm:=hperm.mem_iff.1 (List.mem_map.2 ⟨x,hx,rfl⟩)
   obtain⟨y,hy,hyx⟩:=List.mem_map.1 hm
   obtain⟨z,hz⟩:=F.reads x hx
   rw [rg_of hz] at hyx
   subst hyx
   refine⟨y,hy,?_,?_,by rw [rg_of hz]⟩
   ·have h1:=rd_key hz
    rw [keyOf_string hk] at h1
    unfold mapKey at h1
    rw [hk] at h1
    generalize x.key=kv at h1
    cases kv <;> simp at h1
    rename_i s
    obtain⟨_,h1⟩:=h1
    obtain⟨⟨sl⟩⟩:=s
    simp at h1
    rw [← h1]
   ·obtain⟨v,hv,hv2⟩:=rd_val hz
    have hyok:=List.all_eq_true.1 hok y hy
    simp only [Bool.and_eq_true,beq_iff_eq,Bool.not_eq_true'] at hyok
    obtain⟨v1,v2⟩:=v
    simp only at hv2
    unfold elemAt at hv
    split at hv
    ·cases fuel':n with
     | zero=>rw [fuel'] at hv; simp [DataW.trod] at hv
     | succ n'=>
      have hcells : ∃ v0,x.val.cells.toList=[v0]:=by
       have:=hv
       rw [fuel',DataW.trod_step] at this
       unfold DataW.trodStep at this
       rw [he] at this
       generalize x.val.cells.toList=cl at this
       match cl,this with
       | [v0],_=>exact⟨v0,rfl⟩
       | [],h=>simp at h
       | _::_::_,h=>simp at h
      obtain⟨v0,hv0⟩:=hcells
      rw [hv0] at hv
      obtain⟨y1,y2,y3⟩:=y
      simp only at hv2 hyok hv
      cases y2 with
      | nil=>simp at hyok
      | cons b0 r0=>
       rw [← hv2] at hv
       have hf:=func_of_trod he hyok.2 hv
       subst hf
       refine Am2 he ?_ hv0
       assumption
    ·cases hv
  let θ:Lit×DataW (List UInt8)→Aw×AV:=fun p=>match p with
   | (.string s,.held nm)=>(s,match l.find? (fun y=>y.2.1==nm) with
    | some y=>.func (.func y.2.2) [] []
    | none=>.und)
   | _=>([],.und)
  have hθ : ∀ y ∈ l,θ (Lit.string y.1,DataW.held y.2.1)=(y.1,.func (.func y.2.2) [] []):=by
   intro y hy
   show(y.1,_)=_
   cases hq:l.find? (fun z=>z.2.1==y.2.1) with
   | none=>
    rw [List.find?_eq_none] at hq
    exact absurd (by simp) (hq y hy)
   | some z=>
    have hz1:=List.mem_of_find?_eq_some hq
    have hz2:z.2.1=y.2.1:=by simpa using List.find?_some hq
    have k1:=List.all_eq_true.1 hok y hy
    have k2:=List.all_eq_true.1 hok z hz1
    simp only [Bool.and_eq_true,beq_iff_eq] at k1 k2
    rw [hz2,k1.2] at k2
    have:y.2.2=z.2.2:=by simpa using k2.2
    simp only [this]
  refine⟨b,ens,clock,ens.toList.map fun x=>θ (rg P k (elemAt (funcToken P) P W 0 (fun _=>true) true n e) x),?_,?_,hb,?_,by simp,fun i hi=>?_⟩
  ·have:=World.var?_cell hg hvar 0
   rw [Array.eq_one_of_toList hcs] at this
   simpa using this
  ·rcases Nat.lt_or_ge b W.heap.size with h | h
   ·exact h
   ·simp [Array.getElem?_eq_none h] at hb
  ·have:=hperm.map θ
   rw [List.map_map,List.map_map] at this
   refine this.trans (List.Perm.of_eq (List.map_congr_left fun y hy=>hθ y hy))
  ·have hi':i<ens.toList.length:=by simpa using hi
   have hm:ens.toList[i] ∈ ens.toList:=List.getElem_mem hi'
   obtain⟨y,hy,e1,e2,e3⟩:=hent _ hm
   have g1:ens.getD i default=ens.toList[i]:=by
    rw [← Vk,Fy (List.getElem?_eq_getElem hi')]
   have g2:(ens.toList.map fun x=>θ (rg P k (elemAt (funcToken P) P W 0 (fun _=>true) true n e) x)).getD i ([],.und)=(y.1,.func (.func y.2.2) [] []):=by
    rw [Fy (x:=θ (rg P k (elemAt (funcToken P) P W 0 (fun _=>true) true n e) ens.toList[i])) (by rw [List.getElem?_map,List.getElem?_eq_getElem hi',Option.map_some]),e3,hθ y hy]
   rw [g1,g2]
   exact⟨e1,_,rfl,e2⟩
end Go.Am
namespace Go.Am
open Go
set_option linter.unusedVariables false
set_option linter.unusedSectionVars false
set_option linter.unusedSimpArgs false
abbrev AV.q (ids:List Nat)(j g:Nat):AV:=.ptr (ix ids j) g 0 0
abbrev AV.I (n:Int):AV:=.int .i64 n
abbrev Sc.I (n:Int):Sc:=.int .i64 n
section
variable (P:Program) [GW P]
def Ak4:Op→Bool
 | .move _=>true
 | .assign _=>true
 | .pick _ _ _=>true
 | .build _ _=>true
 | .nilCheck _=>true
 | .binOp _ _ _ _ _=>true
 | .unOp _ _ _=>true
 | .makeInterface _ _=>true
 | .makeFunc _ _ _=>true
 | .fieldAddr _ _ _=>true
 | .field _ _ _=>true
 | .typeAssert _ _ _ _=>true
 | .extract _ _=>true
 | _=>false
def Ao0 (xs:List (Option AO))(fr:Nat→AV)(j:Nat)(op:Op):Option (AV×Option (Nat×Nat×Nat)):=
 match op with
 | .load t a=>match ev fr a with
  | .ptr o g r c=>match ti P t,xs[j]? with
   | some T,some (some (.rows g' st rs))=>match rs[r]? with
    | some row=>(Lj row c T.size T.k.agg).map fun v=>(v,some (o,g,g'))
    | none=>none
   | _,_=>none
  | .cp row c=>match ti P t with
   | some T=>(Lj row c T.size T.k.agg).map fun v=>(v,none)
   | none=>none
  | _=>none
 | op=>if Ak4 op then(E7 P fr hE op).map fun v=>(v,none) else none
def Qn (n:Nat)(all:List Oper)(xs:List (Option AO)):List Oper→List Nat→List (Nat×AV)→Option (List (Nat×AV)×List (Nat×Nat)×List (Nat×Nat))
 | [],_,l=>some (l,[],[])
 | o::ops,hs,l=>if I4 n o.dst then match Gt all (A6 l) o,o.dst with
   | some true,some t=>match Ao0 P xs (A6 l) (hs.headD 0) o.op with
    | some (v,none)=>Qn n all xs ops hs ((t,v)::l)
    | some (v,some (ob,g,g'))=>(Qn n all xs ops hs.tail ((t,v)::l)).map fun r=>(r.1,(ob,g)::r.2.1,(hs.headD 0,g')::r.2.2)
    | none=>none
   | some false,some t=>Qn n all xs ops hs ((t,.und)::l)
   | some false,none=>Qn n all xs ops hs l
   | _,_=>none
  else none
def Akr (ops:List Oper)(ks:List Nat)(l:List (Nat×AV)):Bool:=ops.all fun o=>match o.dst with
 | none=>true
 | some t=>ks.contains t || !(l.any fun p=>Nat.beq t p.1)
end
section
variable {P:Program} [GW P] {f:FuncId} {n:Nat} {d:FK} {β γ:Type} {Q:Spec β} {m:R β} {ds:List AD} {h:Ae} {u:AU} {k:List Item} {l:List (Nat×AV)} {F:γ→R β}
variable {all:List Oper} {h0:Ae} {ids:List Nat} {xs:List (Option AO)} {N:Nat}
theorem Ae6 {fr:Nat→AV}{j:Nat}{op:Op}{v:AV}{q:Option (Nat×Nat×Nat)}(hI:Ids h0 ids N)(hl:xs.length=N)(hx:Ao0 P xs fr j op=some (v,q))(hq : ∀ o g g',q=some (o,g,g')→o=ix ids j∧g=g'):E7 P fr (hp h0 ids xs) op=some v:=by
 unfold Ao0 at hx
 split at hx
 ·rename_i t a
  show Pj P _ t (ev fr a)=_
  split at hx
  ·rename_i o g r c ha
   rw [ha]
   split at hx
   ·rename_i T g' st rs hT hj
    split at hx
    ·rename_i row hr
     simp only [Option.map_eq_some_iff,Prod.mk.injEq] at hx
     obtain⟨v',h1,rfl,rfl⟩:=hx
     obtain⟨rfl,rfl⟩:=hq _ _ _ rfl
     exact Bh hI hl hj hr hT h1
    ·cases hx
   ·cases hx
  ·rename_i row c ha
   rw [ha]
   split at hx
   ·rename_i T hT
    simp only [Option.map_eq_some_iff,Prod.mk.injEq] at hx
    obtain⟨v',h1,rfl,rfl⟩:=hx
    exact Cr hT h1
   ·cases hx
  ·cases hx
 split at hx
 ·rename_i hp
  simp only [Option.map_eq_some_iff,Prod.mk.injEq] at hx
  obtain⟨v',h1,rfl,rfl⟩:=hx
  revert h1
  cases op <;> first
   | exact id
   | (simp [Ak4] at hp)
 ·cases hx
theorem Ab4 {rest:List Oper} : ∀ {ops:List Oper} {hs:List Nat} {l l':List (Nat×AV)} {A B:List (Nat×Nat)},Qn P n all xs ops hs l=some (l',A,B)→A=B.map (fun q=>(ix ids q.1,q.2))→Ids h0 ids N→xs.length=N →
  WO P f n d Q k all m rest (A6 l') ds (hp h0 ids xs) u→WO P f n d Q k all m (ops++rest) (A6 l) ds (hp h0 ids xs) u
 | [],hs,l,l',A,B,hx,hA,hI,hl,hk=>by
  simp only [Qn,Option.some.injEq,Prod.mk.injEq] at hx
  obtain⟨rfl,rfl,rfl⟩:=hx
  exact hk
 | o::ops,hs,l,l',A,B,hx,hA,hI,hl,hk=>by
  unfold Qn at hx
  split at hx
  ·rename_i hd
   split at hx
   ·rename_i t hw ht
    rw [ht] at hd
    have step : ∀ {v:AV},E7 P (A6 l) (hp h0 ids xs) o.op=some v→WO P f n d Q k all m (ops++rest) (A6 ((t,v)::l)) ds (hp h0 ids xs) u→WO P f n d Q k all m (o::ops++rest) (A6 l) ds (hp h0 ids xs) u:=by
     intro v hv hk'
     refine Q5 (by rw [ht]; exact hd) hw fun hb K U hK hU=>Afx (t:=ds) hv (hK _ _ _ _ ?_)
     rw [ht,J8]; exact hk'
    split at hx
    ·rename_i v hr
     exact step (Ae6 hI hl hr (fun _ _ _ h=>by cases h)) (Ab4 hx hA hI hl hk)
    ·rename_i v ob g g' hr
     simp only [Option.map_eq_some_iff,Prod.mk.injEq] at hx
     obtain⟨⟨l1,A1,B1⟩,hx,rfl,rfl,rfl⟩:=hx
     simp only [List.map_cons,List.cons.injEq,Prod.mk.injEq] at hA
     exact step (Ae6 hI hl hr (fun o2 g2 g2' h=>by cases h; exact hA.1)) (Ab4 hx hA.2 hI hl hk)
    ·cases hx
   ·rename_i t hw ht
    rw [ht] at hd
    exact Ak9 (by rw [ht]; exact hd) hw (by rw [ht,J8]; exact Ab4 hx hA hI hl hk)
   ·rename_i hw ht
    exact Ak9 (by rw [ht]; rfl) hw (by rw [ht]; exact Ab4 hx hA hI hl hk)
   ·cases hx
  ·cases hx
theorem Z5 {ops:List Oper}{ks:List Nat}{news:List (Nat×AV)} : ∀ {hs:List Nat} {l l':List (Nat×AV)} {A B:List (Nat×Nat)} {ops:List Oper},Qn P n all xs ops hs l=some (l',A,B) → ∀ t,(∀ o ∈ ops,o.dst≠some t)→A6 l' t=A6 l t
 | hs,l,l',A,B,[],hx,t,ho=>by
  simp only [Qn,Option.some.injEq,Prod.mk.injEq] at hx
  obtain⟨rfl,rfl,rfl⟩:=hx
  rfl
 | hs,l,l',A,B,o::ops,hx,t,ho=>by
  have ho' : ∀ o ∈ ops,o.dst≠some t:=fun q hq=>ho q (List.mem_cons_of_mem _ hq)
  have hne : ∀ {t':Nat} {v:AV},o.dst=some t'→A6 ((t',v)::l) t=A6 l t:=by
   intro t' v h
   have:t≠t':=fun e=>ho o (List.mem_cons_self ..) (e ▸ h)
   simp only [A6]
   have:Nat.beq t t'=false:=by
    cases hq:Nat.beq t t' with
    | false=>rfl
    | true=>exact absurd (Nat.eq_of_beq_eq_true hq) this
   rw [this]; rfl
  unfold Qn at hx
  split at hx
  ·split at hx
   ·rename_i t' hw ht
    split at hx
    ·rw [Z5 (ks:=ks) (news:=news) (ops:=ops) hx t ho',hne ht]
    ·simp only [Option.map_eq_some_iff,Prod.mk.injEq] at hx
     obtain⟨⟨l1,A1,B1⟩,hx,rfl,rfl,rfl⟩:=hx
     rw [Z5 (ks:=ks) (news:=news) (ops:=ops) hx t ho',hne ht]
    ·cases hx
   ·rename_i t' hw ht
    rw [Z5 (ks:=ks) (news:=news) (ops:=ops) hx t ho',hne ht]
   ·exact Z5 (ks:=ks) (news:=news) (ops:=ops) hx t ho'
   ·cases hx
  ·cases hx
theorem Avg {ops:List Oper}(K:Nat)(hs:List Nat)(news:List (Nat×AV))(hI:Ids h0 ids N)(hl:xs.length=N)
  (hc:(Qn P n all xs (ops.take K) hs l).map (fun r=>(news.map (fun p=>A6 r.1 p.1),r.2.1,Akr (ops.take K) (news.map (·.1)) l))=some (news.map (·.2),((Qn P n all xs (ops.take K) hs l).elim [] fun r=>r.2.2.map fun q=>(ix ids q.1,q.2)),true))
  (hk:WO P f n d Q k all m (ops.drop K) (A6 (news++l)) ds (hp h0 ids xs) u):WO P f n d Q k all m ops (A6 l) ds (hp h0 ids xs) u:=by
 cases hr:Qn P n all xs (ops.take K) hs l with
 | none=>rw [hr] at hc; cases hc
 | some r=>
  obtain⟨l',A,B⟩:=r
  rw [hr] at hc
  simp only [Option.map_some,Option.elim_some,Option.some.injEq,Prod.mk.injEq] at hc
  obtain⟨h1,h2,h3⟩:=hc
  have:=Ab4 (rest:=ops.drop K) hr h2 hI hl (f:=f) (d:=d) (Q:=Q) (k:=k) (m:=m) (ds:=ds) (u:=u) (fun hb i hi=>Ti (fun t=>?_) (hk hb i hi))
  ·rwa [List.take_append_drop] at this
  ·
   have key : ∀ (ns:List (Nat×AV)),ns.map (fun p=>A6 l' p.1)=ns.map (·.2)→(∀ s,s ∈ ns.map (·.1)→s ∈ news.map (·.1))→(∀ s,s ∈ news.map (·.1)→s=t→s ∈ ns.map (·.1))→A6 (ns++l) t=.any∨A6 (ns++l) t=A6 l' t:=by
    intro ns
    induction ns with
    | nil=>
     intro _ _ hsub
     simp only [List.nil_append]
     by_cases hin:l.any (fun p=>Nat.beq t p.1)=true
     ·right
      symm
      refine Z5 (ks:=[]) (news:=[]) (ops:=ops.take K) hr t fun o ho hd=>?_
      have:=List.all_eq_true.1 h3 o ho
      rw [hd] at this
      simp only [Bool.or_eq_true,Bool.not_eq_true',List.contains_iff_mem] at this
      rcases this with hc | hc
      ·exact absurd (hsub t hc rfl) (by simp)
      ·rw [hc] at hin; cases hin
     ·left
      have : ∀ l:List (Nat×AV),l.any (fun p=>Nat.beq t p.1)≠true→A6 l t=.any:=by
       intro l
       induction l with
       | nil=>intro _; rfl
       | cons p l ih=>
        intro hne
        simp only [List.any_cons] at hne
        simp only [A6]
        have h1:Nat.beq t p.1=false:=by cases hq:Nat.beq t p.1 with | false=>rfl | true=>exact absurd (by rw [hq]; rfl) hne
        rw [h1]
        exact ih (fun h=>hne (by rw [h,h1]; rfl))
      exact this l hin
    | cons p ns ih=>
     intro hv h4 h5
     simp only [List.map_cons,List.cons.injEq] at hv
     simp only [List.cons_append,A6]
     cases hq:Nat.beq t p.1 with
     | true=>
      right
      have:t=p.1:=Nat.eq_of_beq_eq_true hq
      subst this
      exact hv.1.symm
     | false=>
      refine ih hv.2 (fun s hs=>h4 s (by simp [hs])) (fun s hs e=>?_)
      rcases List.mem_cons.1 (h5 s hs e) with h | h
      ·subst e; rw [h] at hq; simp at hq
      ·exact h
   exact key news h1 (fun s hs=>hs) (fun s hs _=>hs)
theorem Ab {ops:List Oper}(K:Nat)(hs:List Nat)(news:List (Nat×AV))(hk:WO P f n d Q k all m (ops.drop K) (A6 (news++l)) ds (hp h0 ids xs) u)(hI:Ids h0 ids N:=by assumption)(hl:xs.length=N:=by rfl)
  (hc:(Qn P n all xs (ops.take K) hs l).map (fun r=>(news.map (fun p=>A6 r.1 p.1),r.2.1,Akr (ops.take K) (news.map (·.1)) l))=some (news.map (·.2),((Qn P n all xs (ops.take K) hs l).elim [] fun r=>r.2.2.map fun q=>(ix ids q.1,q.2)),true):=by kernel_rfl):WO P f n d Q k all m ops (A6 l) ds (hp h0 ids xs) u:=Avg K hs news hI hl hc hk
theorem A5 {ops:List Oper}{t:Nat}{b b':Bool}(hb:b=b')(ht:A6 l t=.bool b)(hk:WO P f n d Q k all m ops (A6 ((t,.bool b')::l)) ds h u):WO P f n d Q k all m ops (A6 l) ds h u:=by
 subst hb
 refine fun hV i hi=>Ti (fun s=>?_) (hk hV i hi)
 right
 simp only [A6]
 cases hq:Nat.beq s t with
 | true=>rw [Nat.eq_of_beq_eq_true hq,ht]; rfl
 | false=>rfl
theorem Ax {ops:List Oper}{fr:Nat→AV}(js:List Nat){zs ys:List (Option AO)}(hI:Ids h0 ids N)(hl:xs.length=N)(hk:Sy N js=true)(hz:js.length=zs.length)(hr:WO P f n d Q k all m ops fr ds (hp h0 ids ys) u)
  (e:Uc js zs xs=ys:=by first | (simp only [List.set_cons_zero,List.set_cons_succ,List.cons_append,List.nil_append,List.replicate_succ,List.replicate_zero,Uc,X7,Xj,AV.cells,AV.I,AV.q]; rfl) | rfl):WO P f n d Q k all m ops fr ds (hp (hp h0 ids (Ur js xs)) (Zn ids js) zs) u:=Ar0 js ys hI hl hk hz e hr
theorem Bq {todo:List Item}{l':List (Nat×AV)}(hr:WR P f n d Q m todo (A6 l') ds h u)(hx:FrIs l l':=by repeat (first | exact .nil | refine .cons rfl ?_)):WR P f n d Q m todo (A6 l) ds h u:=Dt l' hx hr
theorem Bg {ops:List Oper}{l':List (Nat×AV)}(hr:WO P f n d Q k all m ops (A6 l') ds h u)(hx:FrIs l l':=by repeat (first | exact .nil | refine .cons rfl ?_)):WO P f n d Q k all m ops (A6 l) ds h u:=Ck l' hx hr
theorem Al {todo:List Item}{fr:Nat→AV}{ys:List (Option AO)}(hr:WR P f n d Q m todo fr ds (hp h0 ids ys) u)(e:xs=ys:=by first | (simp only [List.set_cons_zero,List.set_cons_succ,List.cons_append,List.nil_append,List.replicate_succ,List.replicate_zero,Uc,X7,Xj,AV.cells,AV.I,AV.q]; rfl) | rfl) :
  WR P f n d Q m todo fr ds (hp h0 ids xs) u:=e ▸ hr
end
section
variable {P:Program} [GW P] {fr:Nat→AV} {h:Ae} {all:List Oper} {pre:List (List Nat)} {pend:Tv} {ty:TypeId} {pos:String} {after:Array Edge} {i:Nat}
theorem Ao1 {j t jg tj:Nat}{want:Bool}{v:AV}{op:Op}(hj:(all[jg]?).bind (·.dst)=some tj)(ho:all[j]? = some ⟨some t,op,ty,pos,after,some (jg,want)⟩)(hg:fr tj=.bool want)(hv:E7 P fr h op=some v)(hr:M9 P all pre i h pend):M9 P all pre i h ((j,fr,v)::pend):=by
 refine⟨?_,hr⟩
 split
 ·trivial
 ·rw [ho]; simp only [aF,Cq hj hg,hv]
end
theorem J {α:Sort _}{a:α}:a=a:=rfl
theorem FI {l l':List (Nat×AV)}(h:l'.map (fun p=>A6 l p.1)=l'.map (·.2)):FrIs l l':=by
 induction l' with
 | nil=>exact .nil
 | cons p r ih=>
  rw [List.map_cons,List.map_cons] at h
  injection h with h1 h2
  exact .cons h1 (ih h2)
end Go.Am
namespace Go.Am
open Go
set_option maxRecDepth 100000
set_option maxHeartbeats 4000000
set_option linter.unusedSimpArgs false
set_option linter.unusedVariables false
structure Span where
 From:Int
 To:Int
 deriving DecidableEq
def Cb (x:Span):List AV:=[(.int .i64 x.From),(.int .i64 x.To)]
theorem Afz (x:Span):E4 2 (Cb x):=Mb rfl rfl
structure Volume where
 Name:Aw
 Closed:(List Span)
 deriving DecidableEq
def As (x:Volume):List AV:=[(.str x.Name),(.sl 2 (List.map Cb x.Closed))]
theorem V9 (x:Volume):E4 2 (As x):=Mb rfl rfl
structure Sector where
 Name:Aw
 Names:(List Aw)
 Volumes:(List Int)
 Radar:Int
 Procedural:Int
 deriving DecidableEq
def A4 (x:Sector):List AV:=[(.str x.Name),(.sl 1 (List.map rS x.Names)),(.sl 1 (List.map (rI .i64) x.Volumes)),(.int .i64 x.Radar),(.int .i64 x.Procedural)]
theorem P6 (x:Sector):E4 5 (A4 x):=Mb rfl rfl
structure Config where
 Name:Aw
 Names:(List Aw)
 Sectors:(List Int)
 deriving DecidableEq
def Bd (x:Config):List AV:=[(.str x.Name),(.sl 1 (List.map rS x.Names)),(.sl 1 (List.map (rI .i64) x.Sectors))]
theorem Tb (x:Config):E4 3 (Bd x):=Mb rfl rfl
structure Segment where
 Name:Aw
 In:Aw
 Volume:Int
 Length:Int
 Open:(List Span)
 deriving DecidableEq
def Bb (x:Segment):List AV:=[(.str x.Name),(.str x.In),(.int .i64 x.Volume),(.int .i64 x.Length),(.sl 2 (List.map Cb x.Open))]
theorem R8 (x:Segment):E4 5 (Bb x):=Mb rfl rfl
structure Route where
 Name:Aw
 A:Aw
 B:Aw
 From:Int
 To:Int
 Names:(List Aw)
 Segments:(List Int)
 deriving DecidableEq
def Bo (x:Route):List AV:=[(.str x.Name),(.str x.A),(.str x.B),(.int .i64 x.From),(.int .i64 x.To),(.sl 1 (List.map rS x.Names)),(.sl 1 (List.map (rI .i64) x.Segments))]
theorem Us (x:Route):E4 7 (Bo x):=Mb rfl rfl
structure Mode where
 Name:Aw
 Places:Int
 deriving DecidableEq
def Ds (x:Mode):List AV:=[(.str x.Name),(.int .i64 x.Places)]
theorem Afb (x:Mode):E4 2 (Ds x):=Mb rfl rfl
structure Airport where
 Name:Aw
 Modes:(List Mode)
 deriving DecidableEq
def A9 (x:Airport):List AV:=[(.str x.Name),(.sl 2 (List.map Ds x.Modes))]
theorem Tx (x:Airport):E4 2 (A9 x):=Mb rfl rfl
structure Class where
 Name:Aw
 Slow:Int
 Fast:Int
 Places:Int
 deriving DecidableEq
def By (x:Class):List AV:=[(.str x.Name),(.int .i64 x.Slow),(.int .i64 x.Fast),(.int .i64 x.Places)]
theorem Aaz (x:Class):E4 4 (By x):=Mb rfl rfl
structure Rule where
 Kind:Int
 C:Aw
 A:Aw
 Class:Int
 Airport:Int
 N:Int
 Hours:Span
 deriving DecidableEq
def Bc (x:Rule):List AV:=[(.int .i64 x.Kind),(.str x.C),(.str x.A),(.int .i64 x.Class),(.int .i64 x.Airport),(.int .i64 x.N),(.int .i64 x.Hours.From),(.int .i64 x.Hours.To)]
theorem Qy (x:Rule):E4 8 (Bc x):=Mb rfl rfl
structure Airspace where
 Volumes:(List Volume)
 Sectors:(List Sector)
 Configs:(List Config)
 Segments:(List Segment)
 Routes:(List Route)
 Airports:(List Airport)
 Classes:(List Class)
 Rules:(List Rule)
 deriving DecidableEq
def Av (x:Airspace):List AV:=[(.sl 2 (List.map As x.Volumes)),(.sl 5 (List.map A4 x.Sectors)),(.sl 3 (List.map Bd x.Configs)),(.sl 5 (List.map Bb x.Segments)),(.sl 7 (List.map Bo x.Routes)),(.sl 2 (List.map A9 x.Airports)),(.sl 4 (List.map By x.Classes)),(.sl 8 (List.map Bc x.Rules))]
structure Token where
 Kind:Int
 Text:Aw
 N:Int
 At:Int
 deriving DecidableEq
def Ac (x:Token):List AV:=[(.int .i64 x.Kind),(.str x.Text),(.int .i64 x.N),(.int .i64 x.At)]
theorem Qm (x:Token):E4 4 (Ac x):=Mb rfl rfl
structure T63 where
 fAt:Int
 fE:Int
 deriving DecidableEq
structure T67 where
 fL:(List Token)
 fEnd:Int
 fA:Airspace
 deriving DecidableEq
def Avh (x:T67):List AV:=[(.sl 4 (List.map Ac x.fL)),(.int .i64 x.fEnd),(.sl 2 (List.map As x.fA.Volumes)),(.sl 5 (List.map A4 x.fA.Sectors)),(.sl 3 (List.map Bd x.fA.Configs)),(.sl 5 (List.map Bb x.fA.Segments)),(.sl 7 (List.map Bo x.fA.Routes)),(.sl 2 (List.map A9 x.fA.Airports)),(.sl 4 (List.map By x.fA.Classes)),(.sl 8 (List.map Bc x.fA.Rules))]
structure T69 where
 L:(List Token)
 N:Int
 End:Int
 E:Int
 At:Int
 deriving DecidableEq
structure T88 where
 fL:(List Token)
 fBad:Bool
 deriving DecidableEq
structure T119 where
 fSrc:Aw
 fAt:Int
 fL:(List Token)
 deriving DecidableEq
def O5 (x:T119):List AV:=[(.str x.fSrc),(.int .i64 x.fAt),(.sl 4 (List.map Ac x.fL))]
end Go.Am
namespace Go.Am
open Go
set_option maxRecDepth 100000
set_option maxHeartbeats 4000000
set_option linter.unusedSimpArgs false
set_option linter.unusedVariables false
noncomputable section
def strings_IndexByte (s:Aw)(c:Int):R Int:=.ok (Lib.indexByte s c.toNat.toUInt8)
def Lq (c:Int):R Int:=
 if(((decide (c≥97))&&(decide (c≤122)))||((decide (c≥65))&&(decide (c≤90)))) then
(.ok 2)
else
(if((decide (c≥48))&&(decide (c≤57))) then
(.ok 3)
else
(if(c==95) then
(.ok 5)
else
(if((((c==32)||(c==9))||(c==10))||(c==13)) then
(.ok 1)
else
((strings_IndexByte [123,125,40,41,59,44,61,35,47,60,33,45,46] c).bind fun r=>
 if r≥0 then
(.ok 4)
else
(.ok 0)))))
def Pn (s:T119):R Unit:=
 .pan ⟨113,.int .i64 s.fAt⟩
def G6 (v:Int)(j:Nat)(a:Int):R (Unit ⊕ Int):=
 if(v==a) then
(.ok (.inr ((j:Int))))
else
(.ok (.inl ()))
def Ql (s:List Int)(v:Int):R Int:=
 (each (fun j a=>fun _=>G6 v j a) 0 s ()).bind (C6 (fun _=>.ok (-1)) (fun r=>.ok r))
def L9 (s:List Int)(v:Int):R Bool:=
 (Ql s v).bind fun r=>
 .ok (decide (r≥0))
def Mv (s:T119)(some:List Int)(n:Int):R (Int ⊕ Int):=
 (if(decide (n<(s.fSrc.length:Int))) then(E3 s.fSrc n).bind fun a=>
 (Lq (a.toNat:Int)).bind fun r=>
 (L9 some r).bind fun r1=>
 R.ok r1 else R.ok false).bind (fun(b:Bool)=>if b then
(.ok (.inl (IntKind.wrap .i64 (n+1))))
else
(.ok (.inr (n))))
def My (s:T119)(n1:Int):R Aw:=
 if(0:Int)≤s.fAt∧s.fAt≤n1∧n1≤(s.fSrc.length:Int) then
 .ok (Sb s.fSrc s.fAt n1) else .bad
def Kd (s:T119)(some:List Int):R Aw:=
 (loop (fun n=>Mv s some n) s.fAt).bind (fun n1=>My s n1)
def Qx (a1:UInt8):R (Unit ⊕ Bool):=
 (Lq (a1.toNat:Int)).bind fun c=>
 if(((c != 2)&&(c != 3))&&(c != 5)) then
(.ok (.inr (false)))
else
(.ok (.inl ()))
def Uu (s:Aw):R Bool:=
 (if((s==[])||(decide ((s.length:Int) > 32))) then R.ok true else(E3 s 0).bind fun a=>
 (Lq (a.toNat:Int)).bind fun r=>
 R.ok (r != 2)).bind (fun(b:Bool)=>if b then
(.ok false)
else
(if s.length≤Em then
((each (fun _ a1=>fun _=>Qx a1) 0 s ()).bind (C6 (fun _=>.ok true) (fun r=>.ok r))) else .bad))
def S8 (t:Token):R Bool:=
 if(t.Kind==1) then
((Uu t.Text).bind fun r=>
 .ok (r&&(t.N==0)))
else
(if(t.Kind==2) then
(.ok (((t.Text==[])&&(decide (t.N≥0)))&&(decide (t.N≤1099511627776))))
else
(if(t.Kind==3) then
((if((t.Text.length:Int)==1) then(E3 t.Text 0).bind fun a=>
 (Lq (a.toNat:Int)).bind fun r1=>
 R.ok (r1==4) else R.ok false).bind (fun(b:Bool)=>.ok (b&&(t.N==0))))
else
(.ok false)))
def Pz (s:Aw):R (Int×Bool):=if s.length≤281474976710656 then(match Lib.atoiAll s with
 | .ok v=>.ok (v,false)
 | Lib.NumEnd.syntax=>.ok (0,true)
 | .range=>.ok (Lib.atoiSat s,true)) else .bad
def strconv_Itoa (n:Int):R Aw:=if -9223372036854775808≤n∧n≤9223372036854775807 then .ok (Lib.itoa n) else .bad
def Iv (s:Aw)(vprefix:Aw):R Bool:=
 (if(decide ((s.length:Int)≥(vprefix.length:Int))) then if(0:Int)≤(vprefix.length:Int)∧(vprefix.length:Int)≤(s.length:Int) then
 R.ok ((s.take (Int.toNat (vprefix.length:Int)))==vprefix) else .bad else R.ok false).bind (fun(b:Bool)=>.ok b)
def N3 (s:Aw)(vprefix:Aw):R Bool:=
 (Iv s vprefix).bind fun r=>
 .ok r
def L7 (s0_src:Aw)(s0_at:Int)(l:List Token):R Int:=
 (Kd ({ fSrc:=s0_src,fAt:=s0_at,fL:=l }:T119) [1]).bind fun r=>
 .ok (IntKind.wrap .i64 (s0_at+(r.length:Int)))
def Ha (text:Aw)(t:Token)(s0_src:Aw)(s0_at:Int)(l:List Token):R (List Token):=
 (S8 t).bind fun r=>
 if r then
(if(l.length+[({ Kind:=t.Kind,Text:=t.Text,N:=t.N,At:=s0_at }:Token)].length) * 40≤Em then
 .ok (l++[({ Kind:=t.Kind,Text:=t.Text,N:=t.N,At:=s0_at }:Token)]) else .bad)
else
(.pan ⟨113,.int .i64 s0_at⟩)
def Nb (s0_src:Aw)(s0_at:Int)(l:List Token):R (Int×(List Token)):=
 (Kd ({ fSrc:=s0_src,fAt:=s0_at,fL:=l }:T119) [2,3,5]).bind fun t=>
 (Ha t ({ Kind:=1,Text:=t,N:=0,At:=0 }:Token) s0_src s0_at l).bind fun r=>
 .ok ((IntKind.wrap .i64 (s0_at+(t.length:Int))),r)
def Lf (s0_src:Aw)(s0_at:Int)(l:List Token):R (Int×(List Token)):=
 (Kd ({ fSrc:=s0_src,fAt:=s0_at,fL:=l }:T119) [3]).bind fun t=>
 (Pz t).bind fun r=>
 (if r.2 then R.ok true else(strconv_Itoa r.1).bind fun r1=>
 R.ok (!(r1==t))).bind (fun(b:Bool)=>if b then
(.pan ⟨113,.int .i64 s0_at⟩)
else
((Ha t ({ Kind:=2,Text:=[],N:=r.1,At:=0 }:Token) s0_src s0_at l).bind fun r2=>
 .ok ((IntKind.wrap .i64 (s0_at+(t.length:Int))),r2)))
def M5 (s0_src:Aw)(s0_at:Int)(l:List Token):R (Int×(List Token)):=
 if(0:Int)≤s0_at∧s0_at≤(s0_src.length:Int) then
 (N3 (s0_src.drop (Int.toNat s0_at)) [47,47]).bind fun r=>
 if r then
(if(0:Int)≤s0_at∧s0_at≤(s0_src.length:Int) then
 (strings_IndexByte (s0_src.drop (Int.toNat s0_at)) 10).bind fun n=>
 if n≥0 then
(.ok ((IntKind.wrap .i64 (s0_at+n)),l))
else
(.ok ((s0_src.length:Int),l)) else .bad)
else
(if(0:Int)≤s0_at∧s0_at≤(IntKind.wrap .i64 (s0_at+1))∧(IntKind.wrap .i64 (s0_at+1))≤(s0_src.length:Int) then
 (Ha (Sb s0_src s0_at (IntKind.wrap .i64 (s0_at+1))) ({ Kind:=3,Text:=(Sb s0_src s0_at (IntKind.wrap .i64 (s0_at+1))),N:=0,At:=0 }:Token) s0_src s0_at l).bind fun r1=>
 .ok ((IntKind.wrap .i64 (s0_at+((Sb s0_src s0_at (IntKind.wrap .i64 (s0_at+1))).length:Int))),r1) else .bad) else .bad
def Ka (n:Int):R Int:=
 .ok n
def N7 (src:Aw)(fAt:Int)(l:List Token):R ((Int×(List Token)) ⊕ (Int×(List Token))):=
 if fAt<(src.length:Int) then
((E3 src fAt).bind fun a=>
 (Lq (a.toNat:Int)).bind fun r=>
 if r=0 then
((Pn ({ fSrc:=src,fAt:=fAt,fL:=l }:T119)).bind fun _=>
 .ok (.inl (fAt,l)))
else
(if r=1 then
((L7 src fAt l).bind fun r2=>
 .ok (.inl (r2,l)))
else
(if r=2 then
((Nb src fAt l).bind fun r3=>
 .ok (.inl (r3.1,r3.2)))
else
(if r=3 then
((Lf src fAt l).bind fun r4=>
 .ok (.inl (r4.1,r4.2)))
else
(if r=4 then
((M5 src fAt l).bind fun r5=>
 .ok (.inl (r5.1,r5.2)))
else
(if r=5 then
((Pn ({ fSrc:=src,fAt:=fAt,fL:=l }:T119)).bind fun _=>
 .ok (.inl (fAt,l)))
else
(.bad)))))))
else
(.ok (.inr ((fAt,l))))
def Xk (fAt3:Int)(l1:List Token):R ((List Token)×Int×Int):=
 .ok (l1,0,0)
def Y4 (src:Aw):R ((List Token)×Int×Int):=
 if(src.length:Int) > 65536 then
(.ok ([],0,2))
else
((loop (C3 fun fAt l=>N7 src fAt l) (0,[])).bind (C3 fun fAt3 l1=>Xk fAt3 l1))
def Ac7 (src:Aw):R ((List Token)×Int×Int):=
 (Y4 src).catch' (O1 113 .i64 (fun n=>(Ka n).bind fun p=>.ok ([],p,70)) (fun _=>.bad))
def Mt (r:T67)(e:Int):R Unit:=
 if(r.fL.length:Int) > 0 then
((E3 r.fL 0).bind fun a=>
 .pan ⟨64,.two .i64 .i64 a.At e⟩)
else
(.pan ⟨64,.two .i64 .i64 r.fEnd e⟩)
def Bm (e:Int)(s_l:List Token)(s_end:Int):R Unit:=
 if(s_l.length:Int) > 0 then
((E3 s_l 0).bind fun a=>
 .pan ⟨64,.two .i64 .i64 a.At e⟩)
else
(.pan ⟨64,.two .i64 .i64 s_end e⟩)
def K5 (a:Token):R Bool:=
 .ok true
def Fa (s_l:List Token):R Token:=
 (E3 s_l 0).bind fun a2=>
 if(0:Int)≤1∧1≤(s_l.length:Int) then
 .ok a2 else .bad
def Ni (kind:Int)(s_l:List Token)(s_end:Int):R Token:=
 (if((s_l.length:Int)==0) then R.ok true else(E3 s_l 0).bind fun a=>
 R.ok (a.Kind != kind)).bind (fun(b:Bool)=>(if b then R.ok true else(E3 s_l 0).bind fun a1=>
 (K5 a1).bind fun r=>
 R.ok (!r)).bind (fun(b1:Bool)=>if b1 then
((Bm 80 s_l s_end).bind fun _=>
 Fa s_l)
else
(Fa s_l)))
def Cc (s_l:List Token)(s_end:Int):R Aw:=
 (Ni 1 s_l s_end).bind fun r=>
 .ok r.Text
def K0 (t:Token)(b:Aw):R Bool:=
 .ok (t.Text==b)
def Ew (s0_l:List Token):R Token:=
 (E3 s0_l 0).bind fun a2=>
 if(0:Int)≤1∧1≤(s0_l.length:Int) then
 .ok a2 else .bad
def Ly (kind:Int)(s0_l:List Token)(s0_end:Int)(s1:Aw):R Token:=
 (if((s0_l.length:Int)==0) then R.ok true else(E3 s0_l 0).bind fun a=>
 R.ok (a.Kind != kind)).bind (fun(b:Bool)=>(if b then R.ok true else(E3 s0_l 0).bind fun a1=>
 (K0 a1 s1).bind fun r=>
 R.ok (!r)).bind (fun(b1:Bool)=>if b1 then
((Bm 80 s0_l s0_end).bind fun _=>
 Ew s0_l)
else
(Ew s0_l)))
def C8 (text:Aw)(s_l:List Token)(s_end:Int):R Unit:=
 (Ly 1 s_l s_end text).bind fun r=>
 .ok ()
def H0 (t:Token)(b:Int)(c:Int):R Bool:=
 .ok ((decide (t.N≥b))&&(decide (t.N≤c)))
def Et (s0_l:List Token):R Token:=
 (E3 s0_l 0).bind fun a2=>
 if(0:Int)≤1∧1≤(s0_l.length:Int) then
 .ok a2 else .bad
def L1 (kind:Int)(s0_l:List Token)(s0_end:Int)(s1:Int)(s2:Int):R Token:=
 (if((s0_l.length:Int)==0) then R.ok true else(E3 s0_l 0).bind fun a=>
 R.ok (a.Kind != kind)).bind (fun(b:Bool)=>(if b then R.ok true else(E3 s0_l 0).bind fun a1=>
 (H0 a1 s1 s2).bind fun r=>
 R.ok (!r)).bind (fun(b1:Bool)=>if b1 then
((Bm 80 s0_l s0_end).bind fun _=>
 Et s0_l)
else
(Et s0_l)))
def Dv (least:Int)(most:Int)(s_l:List Token)(s_end:Int):R Int:=
 (L1 2 s_l s_end least most).bind fun r=>
 .ok r.N
def Gg (s1_l:List Token)(s1_end:Int):R Mode:=
 (C8 [109,111,100,101] s1_l s1_end).bind fun _=>
 (Cc (s1_l.drop 1) s1_end).bind fun r1=>
 (Dv 0 64 ((s1_l.drop 1).drop 1) s1_end).bind fun r2=>
 .ok ({ Name:=r1,Places:=r2 }:Mode)
def F4 (kind:Int)(text:Aw)(s_l:List Token)(s_end:Int):R Bool:=
 (if(decide ((s_l.length:Int) > 0)) then(E3 s_l 0).bind fun a=>
 R.ok (a.Kind==kind) else R.ok false).bind (fun(b:Bool)=>(if b then(E3 s_l 0).bind fun a1=>
 R.ok (a1.Text==text) else R.ok false).bind (fun(b1:Bool)=>.ok b1))
def Kz (t:Token)(b:Aw):R Bool:=
 .ok (t.Text==b)
def Ev (s0_l:List Token):R Token:=
 (E3 s0_l 0).bind fun a2=>
 if(0:Int)≤1∧1≤(s0_l.length:Int) then
 .ok a2 else .bad
def Lz (kind:Int)(s0_l:List Token)(s0_end:Int)(s1:Aw):R Token:=
 (if((s0_l.length:Int)==0) then R.ok true else(E3 s0_l 0).bind fun a=>
 R.ok (a.Kind != kind)).bind (fun(b:Bool)=>(if b then R.ok true else(E3 s0_l 0).bind fun a1=>
 (Kz a1 s1).bind fun r=>
 R.ok (!r)).bind (fun(b1:Bool)=>if b1 then
((Bm 80 s0_l s0_end).bind fun _=>
 Ev s0_l)
else
(Ev s0_l)))
def Ch (text:Aw)(s_l:List Token)(s_end:Int):R Unit:=
 (Lz 3 s_l s_end text).bind fun r=>
 .ok ()
def F9 (s:Aw)(s1_l:List Token)(s1_end:Int):R Class:=
 (C8 [115,108,111,119] s1_l s1_end).bind fun _=>
 (Dv 1 64 (s1_l.drop 1) s1_end).bind fun r1=>
 (C8 [102,97,115,116] ((s1_l.drop 1).drop 1) s1_end).bind fun _=>
 (Dv r1 64 (((s1_l.drop 1).drop 1).drop 1) s1_end).bind fun r3=>
 (C8 [112,108,97,99,101,115] ((((s1_l.drop 1).drop 1).drop 1).drop 1) s1_end).bind fun _=>
 (Dv 1 8 (((((s1_l.drop 1).drop 1).drop 1).drop 1).drop 1) s1_end).bind fun r5=>
 .ok ({ Name:=s,Slow:=r1,Fast:=r3,Places:=r5 }:Class)
def Il (s_l:List Token)(s_end:Int):R Span:=
 (Dv 0 1439 s_l s_end).bind fun r=>
 (C8 [116,111] (s_l.drop 1) s_end).bind fun _=>
 (Dv (IntKind.wrap .i64 (r+1)) 1440 ((s_l.drop 1).drop 1) s_end).bind fun r2=>
 .ok ({ From:=r,To:=r2 }:Span)
def La (s0:Rule)(s2_l:List Token)(s2_end:Int):R Rule:=
 (C8 [97,116] s2_l s2_end).bind fun _=>
 (Cc (s2_l.drop 1) s2_end).bind fun r1=>
 (Il ((s2_l.drop 1).drop 1) s2_end).bind fun r2=>
 .ok ({ Kind:=s0.Kind,C:=s0.C,A:=r1,Class:=s0.Class,Airport:=s0.Airport,N:=s0.N,Hours:=r2 }:Rule)
def Gs (class1:Aw)(s0:Int)(s3_l:List Token)(s3_end:Int):R Rule:=
 (La ({ Kind:=s0,C:=class1,A:=[],Class:=0,Airport:=0,N:=0,Hours:=({ From:=0,To:=0 }:Span) }:Rule) s3_l s3_end).bind fun r=>
 .ok r
def Ok (a:Rule):R Unit:=
 .ok ()
def Hy (class1:Aw)(s0:Int):R Unit:=
 (Ok ({ Kind:=s0,C:=class1,A:=[],Class:=0,Airport:=0,N:=0,Hours:=({ From:=0,To:=0 }:Span) }:Rule)).bind fun _=>
 .ok ()
def Hm (t:Token):R Bool:=
 .ok ((decide (t.N≤60))&&((Int.tmod t.N 10)==0))
def Eu (s_l:List Token):R Token:=
 (E3 s_l 0).bind fun a2=>
 if(0:Int)≤1∧1≤(s_l.length:Int) then
 .ok a2 else .bad
def Hz (kind:Int)(s_l:List Token)(s_end:Int):R Token:=
 (if((s_l.length:Int)==0) then R.ok true else(E3 s_l 0).bind fun a=>
 R.ok (a.Kind != kind)).bind (fun(b:Bool)=>(if b then R.ok true else(E3 s_l 0).bind fun a1=>
 (Hm a1).bind fun r=>
 R.ok (!r)).bind (fun(b1:Bool)=>if b1 then
((Bm 80 s_l s_end).bind fun _=>
 Eu s_l)
else
(Eu s_l)))
def K6 (s0:Rule)(s2_l:List Token)(s2_end:Int):R Rule:=
 (Hz 2 s2_l s2_end).bind fun r=>
 .ok ({ Kind:=s0.Kind,C:=s0.C,A:=s0.A,Class:=s0.Class,Airport:=s0.Airport,N:=r.N,Hours:=s0.Hours }:Rule)
def Gn (class1:Aw)(s0:Int)(s3_l:List Token)(s3_end:Int):R Rule:=
 (K6 ({ Kind:=s0,C:=class1,A:=[],Class:=0,Airport:=0,N:=0,Hours:=({ From:=0,To:=0 }:Span) }:Rule) s3_l s3_end).bind fun r=>
 .ok r
def K7 (s0:Rule)(s2_l:List Token)(s2_end:Int):R Rule:=
 (Dv 1 8 s2_l s2_end).bind fun r=>
 .ok ({ Kind:=s0.Kind,C:=s0.C,A:=s0.A,Class:=s0.Class,Airport:=s0.Airport,N:=r,Hours:=s0.Hours }:Rule)
def Gq (class1:Aw)(s0:Int)(s3_l:List Token)(s3_end:Int):R Rule:=
 (K7 ({ Kind:=s0,C:=class1,A:=[],Class:=0,Airport:=0,N:=0,Hours:=({ From:=0,To:=0 }:Span) }:Rule) s3_l s3_end).bind fun r=>
 .ok r
def Ia (s0_end:Int)(fL:List Token)(l1:List Mode)(r:Mode):R (((List Token)×(List Mode)) ⊕ ((List Mode)×(List Token))):=
 (Ch [44] (((fL.drop 1).drop 1).drop 1) s0_end).bind fun _=>
 .ok (.inl (((((fL.drop 1).drop 1).drop 1).drop 1),(l1++[r])))
def Ie (most:Int)(s0_end:Int)(fL:List Token)(l1:List Mode):R (((List Token)×(List Mode)) ⊕ ((List Mode)×(List Token))):=
 (Gg fL s0_end).bind fun r=>
 if(l1.length+[r].length) * 24≤Em then
 (F4 3 [44] (((fL.drop 1).drop 1).drop 1) s0_end).bind fun r1=>
 if r1 then
(if(((l1++[r]).length:Int)==most) then
((Bm 2 (((fL.drop 1).drop 1).drop 1) s0_end).bind fun _=>
 Ia s0_end fL l1 r)
else
(Ia s0_end fL l1 r))
else
(.ok (.inr (((l1++[r]),(((fL.drop 1).drop 1).drop 1))))) else .bad
def Hx (most:Int)(s0_l:List Token)(s0_end:Int)(l:List Volume):R ((List Mode)×(List Token)):=
 (loop (C3 fun fL l1=>Ie most s0_end fL l1) (s0_l,[])).bind (fun r=>.ok r)
def Fk (s:Aw)(s1_l:List Token)(s1_end:Int)(l:List Volume):R (Airport×(List Token)):=
 (Hx 16 s1_l s1_end l).bind fun r=>
 .ok (({ Name:=s,Modes:=r.1 }:Airport),r.2)
def Gv (s0_end:Int)(fL:List Token)(l1:List Aw)(r:Aw):R (((List Token)×(List Aw)) ⊕ ((List Aw)×(List Token))):=
 (Ch [44] (fL.drop 1) s0_end).bind fun _=>
 .ok (.inl (((fL.drop 1).drop 1),(l1++[r])))
def Gu (most:Int)(s0_end:Int)(fL:List Token)(l1:List Aw):R (((List Token)×(List Aw)) ⊕ ((List Aw)×(List Token))):=
 (Cc fL s0_end).bind fun r=>
 if(l1.length+[r].length) * 16≤Em then
 (F4 3 [44] (fL.drop 1) s0_end).bind fun r1=>
 if r1 then
(if(((l1++[r]).length:Int)==most) then
((Bm 2 (fL.drop 1) s0_end).bind fun _=>
 Gv s0_end fL l1 r)
else
(Gv s0_end fL l1 r))
else
(.ok (.inr (((l1++[r]),(fL.drop 1))))) else .bad
def Eo (most:Int)(s0_l:List Token)(s0_end:Int)(l:List Volume):R ((List Aw)×(List Token)):=
 (loop (C3 fun fL l1=>Gu most s0_end fL l1) (s0_l,[])).bind (fun r=>.ok r)
def Fr (s:Aw)(s1_l:List Token)(s1_end:Int)(l:List Volume):R (Config×(List Token)):=
 (Ch [61] s1_l s1_end).bind fun _=>
 (Eo 64 (s1_l.drop 1) s1_end l).bind fun r1=>
 .ok (({ Name:=s,Names:=r1.1,Sectors:=[] }:Config),r1.2)
def Fi (s:Aw)(s1_l:List Token)(s1_end:Int)(l:List Volume):R (Route×(List Token)):=
 (C8 [102,114,111,109] s1_l s1_end).bind fun _=>
 (Cc (s1_l.drop 1) s1_end).bind fun r1=>
 (C8 [116,111] ((s1_l.drop 1).drop 1) s1_end).bind fun _=>
 (Cc (((s1_l.drop 1).drop 1).drop 1) s1_end).bind fun r3=>
 (C8 [118,105,97] ((((s1_l.drop 1).drop 1).drop 1).drop 1) s1_end).bind fun _=>
 (Eo 8 (((((s1_l.drop 1).drop 1).drop 1).drop 1).drop 1) s1_end l).bind fun r5=>
 .ok (({ Name:=s,A:=r1,B:=r3,From:=0,To:=0,Names:=r5.1,Segments:=[] }:Route),r5.2)
def Ft (s:Aw)(s1_l:List Token)(s1_end:Int)(l:List Volume):R (Sector×(List Token)):=
 (Ch [61] s1_l s1_end).bind fun _=>
 (Eo 64 (s1_l.drop 1) s1_end l).bind fun r1=>
 (C8 [114,97,100,97,114] r1.2 s1_end).bind fun _=>
 (Dv 0 64 (r1.2.drop 1) s1_end).bind fun r3=>
 (C8 [112,114,111,99,101,100,117,114,97,108] ((r1.2.drop 1).drop 1) s1_end).bind fun _=>
 (Dv 0 r3 (((r1.2.drop 1).drop 1).drop 1) s1_end).bind fun r5=>
 .ok (({ Name:=s,Names:=r1.1,Volumes:=[],Radar:=r3,Procedural:=r5 }:Sector),((((r1.2.drop 1).drop 1).drop 1).drop 1))
def G1 (s0_end:Int)(fL:List Token)(l1:List Span)(r:Span):R (((List Token)×(List Span)) ⊕ ((List Span)×(List Token))):=
 (Ch [44] (((fL.drop 1).drop 1).drop 1) s0_end).bind fun _=>
 .ok (.inl (((((fL.drop 1).drop 1).drop 1).drop 1),(l1++[r])))
def G2 (most:Int)(s0_end:Int)(fL:List Token)(l1:List Span):R (((List Token)×(List Span)) ⊕ ((List Span)×(List Token))):=
 (Il fL s0_end).bind fun r=>
 if(l1.length+[r].length) * 16≤Em then
 (F4 3 [44] (((fL.drop 1).drop 1).drop 1) s0_end).bind fun r1=>
 if r1 then
(if(((l1++[r]).length:Int)==most) then
((Bm 2 (((fL.drop 1).drop 1).drop 1) s0_end).bind fun _=>
 G1 s0_end fL l1 r)
else
(G1 s0_end fL l1 r))
else
(.ok (.inr (((l1++[r]),(((fL.drop 1).drop 1).drop 1))))) else .bad
def Fp (most:Int)(s0_l:List Token)(s0_end:Int)(l:List Volume):R ((List Span)×(List Token)):=
 (loop (C3 fun fL l1=>G2 most s0_end fL l1) (s0_l,[])).bind (fun r=>.ok r)
def Hg (text:Aw)(s0_l:List Token)(s0_end:Int)(l:List Volume):R ((List Span)×(List Token)):=
 (F4 1 text s0_l s0_end).bind fun r=>
 if r then
((C8 text s0_l s0_end).bind fun _=>
 (Fp 16 (s0_l.drop 1) s0_end l).bind fun r2=>
 .ok (r2.1,r2.2))
else
(.ok ([],s0_l))
def Fs (s:Aw)(s1_l:List Token)(s1_end:Int)(l:List Volume):R (Segment×(List Token)):=
 (C8 [105,110] s1_l s1_end).bind fun _=>
 (Cc (s1_l.drop 1) s1_end).bind fun r1=>
 (C8 [108,101,110,103,116,104] ((s1_l.drop 1).drop 1) s1_end).bind fun _=>
 (Dv 1 4096 (((s1_l.drop 1).drop 1).drop 1) s1_end).bind fun r3=>
 (Hg [111,112,101,110] ((((s1_l.drop 1).drop 1).drop 1).drop 1) s1_end l).bind fun r4=>
 .ok (({ Name:=s,In:=r1,Volume:=0,Length:=r3,Open:=r4.1 }:Segment),r4.2)
def Fo (s:Aw)(s1_l:List Token)(s1_end:Int)(l:List Volume):R (Volume×(List Token)):=
 (Hg [99,108,111,115,101,100] s1_l s1_end l).bind fun r=>
 .ok (({ Name:=s,Closed:=r.1 }:Volume),r.2)
def Ix (s0_l:List Token)(s0_end:Int)(l:List Volume):R ((List Token)×(List Volume)):=
 if(0:Int)≤1∧1≤(s0_l.length:Int) then
 (Cc (s0_l.drop 1) s0_end).bind fun r1=>
 (Fo r1 ((s0_l.drop 1).drop 1) s0_end l).bind fun r2=>
 (Ch [59] r2.2 s0_end).bind fun _=>
 if(l.length+[r2.1].length) * 40≤Em then
 .ok ((r2.2.drop 1),(l++[r2.1])) else .bad else .bad
def Ij (most:Int)(s0_l:List Token)(s0_end:Int)(l:List Volume):R ((List Token)×(List Volume)):=
 if((l.length:Int)==most) then
((Bm 2 s0_l s0_end).bind fun _=>
 Ix s0_l s0_end l)
else
(Ix s0_l s0_end l)
def Jz (s0_l:List Token)(s0_end:Int)(l:List Volume):R ((List Token)×(List Volume)):=
 (Ij 64 s0_l s0_end l).bind fun r=>
 .ok (r.1,r.2)
def Ir (s0_l:List Token)(s0_end:Int)(l:List Volume)(l1:List Sector):R ((List Token)×(List Sector)):=
 if(0:Int)≤1∧1≤(s0_l.length:Int) then
 (Cc (s0_l.drop 1) s0_end).bind fun r1=>
 (Ft r1 ((s0_l.drop 1).drop 1) s0_end l).bind fun r2=>
 (Ch [59] r2.2 s0_end).bind fun _=>
 if(l1.length+[r2.1].length) * 80≤Em then
 .ok ((r2.2.drop 1),(l1++[r2.1])) else .bad else .bad
def Ig (most:Int)(s0_l:List Token)(s0_end:Int)(l:List Volume)(l1:List Sector):R ((List Token)×(List Sector)):=
 if((l1.length:Int)==most) then
((Bm 2 s0_l s0_end).bind fun _=>
 Ir s0_l s0_end l l1)
else
(Ir s0_l s0_end l l1)
def Jt (s0_l:List Token)(s0_end:Int)(l:List Volume)(l1:List Sector):R ((List Token)×(List Sector)):=
 (Ig 64 s0_l s0_end l l1).bind fun r=>
 .ok (r.1,r.2)
def Iy (s0_l:List Token)(s0_end:Int)(l:List Volume)(l1:List Config):R ((List Token)×(List Config)):=
 if(0:Int)≤1∧1≤(s0_l.length:Int) then
 (Cc (s0_l.drop 1) s0_end).bind fun r1=>
 (Fr r1 ((s0_l.drop 1).drop 1) s0_end l).bind fun r2=>
 (Ch [59] r2.2 s0_end).bind fun _=>
 if(l1.length+[r2.1].length) * 64≤Em then
 .ok ((r2.2.drop 1),(l1++[r2.1])) else .bad else .bad
def Ih (most:Int)(s0_l:List Token)(s0_end:Int)(l:List Volume)(l1:List Config):R ((List Token)×(List Config)):=
 if((l1.length:Int)==most) then
((Bm 2 s0_l s0_end).bind fun _=>
 Iy s0_l s0_end l l1)
else
(Iy s0_l s0_end l l1)
def Jy (s0_l:List Token)(s0_end:Int)(l:List Volume)(l1:List Config):R ((List Token)×(List Config)):=
 (Ih 32 s0_l s0_end l l1).bind fun r=>
 .ok (r.1,r.2)
def H7 (s0_l:List Token)(s0_end:Int)(l:List Volume)(l1:List Segment):R ((List Token)×(List Segment)):=
 if(0:Int)≤1∧1≤(s0_l.length:Int) then
 (Cc (s0_l.drop 1) s0_end).bind fun r1=>
 (Fs r1 ((s0_l.drop 1).drop 1) s0_end l).bind fun r2=>
 (Ch [59] r2.2 s0_end).bind fun _=>
 if(l1.length+[r2.1].length) * 72≤Em then
 .ok ((r2.2.drop 1),(l1++[r2.1])) else .bad else .bad
def H1 (most:Int)(s0_l:List Token)(s0_end:Int)(l:List Volume)(l1:List Segment):R ((List Token)×(List Segment)):=
 if((l1.length:Int)==most) then
((Bm 2 s0_l s0_end).bind fun _=>
 H7 s0_l s0_end l l1)
else
(H7 s0_l s0_end l l1)
def J1 (s0_l:List Token)(s0_end:Int)(l:List Volume)(l1:List Segment):R ((List Token)×(List Segment)):=
 (H1 128 s0_l s0_end l l1).bind fun r=>
 .ok (r.1,r.2)
def I5 (s0_l:List Token)(s0_end:Int)(l:List Volume)(l1:List Route):R ((List Token)×(List Route)):=
 if(0:Int)≤1∧1≤(s0_l.length:Int) then
 (Cc (s0_l.drop 1) s0_end).bind fun r1=>
 (Fi r1 ((s0_l.drop 1).drop 1) s0_end l).bind fun r2=>
 (Ch [59] r2.2 s0_end).bind fun _=>
 if(l1.length+[r2.1].length) * 112≤Em then
 .ok ((r2.2.drop 1),(l1++[r2.1])) else .bad else .bad
def I1 (most:Int)(s0_l:List Token)(s0_end:Int)(l:List Volume)(l1:List Route):R ((List Token)×(List Route)):=
 if((l1.length:Int)==most) then
((Bm 2 s0_l s0_end).bind fun _=>
 I5 s0_l s0_end l l1)
else
(I5 s0_l s0_end l l1)
def J0 (s0_l:List Token)(s0_end:Int)(l:List Volume)(l1:List Route):R ((List Token)×(List Route)):=
 (I1 64 s0_l s0_end l l1).bind fun r=>
 .ok (r.1,r.2)
def Ib (s0_l:List Token)(s0_end:Int)(l:List Volume)(l1:List Airport):R ((List Token)×(List Airport)):=
 if(0:Int)≤1∧1≤(s0_l.length:Int) then
 (Cc (s0_l.drop 1) s0_end).bind fun r1=>
 (Fk r1 ((s0_l.drop 1).drop 1) s0_end l).bind fun r2=>
 (Ch [59] r2.2 s0_end).bind fun _=>
 if(l1.length+[r2.1].length) * 40≤Em then
 .ok ((r2.2.drop 1),(l1++[r2.1])) else .bad else .bad
def H2 (most:Int)(s0_l:List Token)(s0_end:Int)(l:List Volume)(l1:List Airport):R ((List Token)×(List Airport)):=
 if((l1.length:Int)==most) then
((Bm 2 s0_l s0_end).bind fun _=>
 Ib s0_l s0_end l l1)
else
(Ib s0_l s0_end l l1)
def Jx (s0_l:List Token)(s0_end:Int)(l:List Volume)(l1:List Airport):R ((List Token)×(List Airport)):=
 (H2 16 s0_l s0_end l l1).bind fun r=>
 .ok (r.1,r.2)
def Jd (s0_l:List Token)(s0_end:Int)(l:List Class):R (List Class):=
 if(0:Int)≤1∧1≤(s0_l.length:Int) then
 (Cc (s0_l.drop 1) s0_end).bind fun r1=>
 (F9 r1 ((s0_l.drop 1).drop 1) s0_end).bind fun r2=>
 (Ch [59] ((((((((s0_l.drop 1).drop 1).drop 1).drop 1).drop 1).drop 1).drop 1).drop 1) s0_end).bind fun _=>
 if(l.length+[r2].length) * 40≤Em then
 .ok (l++[r2]) else .bad else .bad
def Iz (most:Int)(s0_l:List Token)(s0_end:Int)(l:List Class):R (List Class):=
 if((l.length:Int)==most) then
((Bm 2 s0_l s0_end).bind fun _=>
 Jd s0_l s0_end l)
else
(Jd s0_l s0_end l)
def J5 (s0_l:List Token)(s0_end:Int)(l:List Class):R (List Class):=
 (Iz 8 s0_l s0_end l).bind fun r=>
 .ok r
def Js (s0_l:List Token)(s0_end:Int)(l:List Rule)(s2:Int):R (List Rule):=
 if(0:Int)≤1∧1≤(s0_l.length:Int) then
 (Cc (s0_l.drop 1) s0_end).bind fun r1=>
 (Gs r1 s2 ((s0_l.drop 1).drop 1) s0_end).bind fun r2=>
 (Ch [59] (((((((s0_l.drop 1).drop 1).drop 1).drop 1).drop 1).drop 1).drop 1) s0_end).bind fun _=>
 if(l.length+[r2].length) * 80≤Em then
 .ok (l++[r2]) else .bad else .bad
def Ji (most:Int)(s0_l:List Token)(s0_end:Int)(l:List Rule)(s2:Int):R (List Rule):=
 if((l.length:Int)==most) then
((Bm 2 s0_l s0_end).bind fun _=>
 Js s0_l s0_end l s2)
else
(Js s0_l s0_end l s2)
def Lo (kind:Int)(s0_l:List Token)(s0_end:Int)(l:List Rule):R (List Rule):=
 (Ji 64 s0_l s0_end l kind).bind fun r=>
 .ok r
def J6 (s0_l:List Token)(s0_end:Int)(l:List Rule):R (List Rule):=
 (Lo 1 s0_l s0_end l).bind fun r=>
 .ok r
def J4 (s0_l:List Token)(s0_end:Int)(l:List Rule)(s2:Int):R (List Rule):=
 if(0:Int)≤1∧1≤(s0_l.length:Int) then
 (Cc (s0_l.drop 1) s0_end).bind fun r1=>
 (Hy r1 s2).bind fun _=>
 (Ch [59] ((s0_l.drop 1).drop 1) s0_end).bind fun _=>
 if(l.length+[({ Kind:=s2,C:=r1,A:=[],Class:=0,Airport:=0,N:=0,Hours:=({ From:=0,To:=0 }:Span) }:Rule)].length) * 80≤Em then
 .ok (l++[({ Kind:=s2,C:=r1,A:=[],Class:=0,Airport:=0,N:=0,Hours:=({ From:=0,To:=0 }:Span) }:Rule)]) else .bad else .bad
def Jm (most:Int)(s0_l:List Token)(s0_end:Int)(l:List Rule)(s2:Int):R (List Rule):=
 if((l.length:Int)==most) then
((Bm 2 s0_l s0_end).bind fun _=>
 J4 s0_l s0_end l s2)
else
(J4 s0_l s0_end l s2)
def Le (kind:Int)(s0_l:List Token)(s0_end:Int)(l:List Rule):R (List Rule):=
 (Jm 64 s0_l s0_end l kind).bind fun r=>
 .ok r
def Jw (s0_l:List Token)(s0_end:Int)(l:List Rule):R (List Rule):=
 (Le 2 s0_l s0_end l).bind fun r=>
 .ok r
def Ju (s0_l:List Token)(s0_end:Int)(l:List Rule)(s2:Int):R (List Rule):=
 if(0:Int)≤1∧1≤(s0_l.length:Int) then
 (Cc (s0_l.drop 1) s0_end).bind fun r1=>
 (Gn r1 s2 ((s0_l.drop 1).drop 1) s0_end).bind fun r2=>
 (Ch [59] (((s0_l.drop 1).drop 1).drop 1) s0_end).bind fun _=>
 if(l.length+[r2].length) * 80≤Em then
 .ok (l++[r2]) else .bad else .bad
def Jq (most:Int)(s0_l:List Token)(s0_end:Int)(l:List Rule)(s2:Int):R (List Rule):=
 if((l.length:Int)==most) then
((Bm 2 s0_l s0_end).bind fun _=>
 Ju s0_l s0_end l s2)
else
(Ju s0_l s0_end l s2)
def Li (kind:Int)(s0_l:List Token)(s0_end:Int)(l:List Rule):R (List Rule):=
 (Jq 64 s0_l s0_end l kind).bind fun r=>
 .ok r
def Jb (s0_l:List Token)(s0_end:Int)(l:List Rule):R (List Rule):=
 (Li 4 s0_l s0_end l).bind fun r=>
 .ok r
def J2 (s0_l:List Token)(s0_end:Int)(l:List Rule)(s2:Int):R (List Rule):=
 if(0:Int)≤1∧1≤(s0_l.length:Int) then
 (Cc (s0_l.drop 1) s0_end).bind fun r1=>
 (Gq r1 s2 ((s0_l.drop 1).drop 1) s0_end).bind fun r2=>
 (Ch [59] (((s0_l.drop 1).drop 1).drop 1) s0_end).bind fun _=>
 if(l.length+[r2].length) * 80≤Em then
 .ok (l++[r2]) else .bad else .bad
def Jg (most:Int)(s0_l:List Token)(s0_end:Int)(l:List Rule)(s2:Int):R (List Rule):=
 if((l.length:Int)==most) then
((Bm 2 s0_l s0_end).bind fun _=>
 J2 s0_l s0_end l s2)
else
(J2 s0_l s0_end l s2)
def Lc (kind:Int)(s0_l:List Token)(s0_end:Int)(l:List Rule):R (List Rule):=
 (Jg 64 s0_l s0_end l kind).bind fun r=>
 .ok r
def I6 (s0_l:List Token)(s0_end:Int)(l:List Rule):R (List Rule):=
 (Lc 3 s0_l s0_end l).bind fun r=>
 .ok r
def Fg (s0_l:List Token)(s0_end:Int)(l:List Volume)(l1:List Sector)(l2:List Config)(l3:List Segment)(l4:List Route)(l5:List Airport)(l6:List Class)(l7:List Rule):R ((List Token)×(List Volume)×(List Sector)×(List Config)×(List Segment)×(List Route)×(List Airport)×(List Class)×(List Rule)):=
 (Mt ({ fL:=s0_l,fEnd:=s0_end,fA:=({ Volumes:=l,Sectors:=l1,Configs:=l2,Segments:=l3,Routes:=l4,Airports:=l5,Classes:=l6,Rules:=l7 }:Airspace) }:T67) 80).bind fun _=>
 .ok (s0_l,l,l1,l2,l3,l4,l5,l6,l7)
def Gf (s0_l:List Token)(s0_end:Int)(l:List Volume)(l1:List Sector)(l2:List Config)(l3:List Segment)(l4:List Route)(l5:List Airport)(l6:List Class)(l7:List Rule):R ((List Token)×(List Volume)×(List Sector)×(List Config)×(List Segment)×(List Route)×(List Airport)×(List Class)×(List Rule)):=
 (E3 s0_l 0).bind fun a=>
 if(a.Kind==1) then
(if(a.Text==[97,105,114,112,111,114,116]) then
((Jx s0_l s0_end l l5).bind fun r=>
 .ok (r.1,l,l1,l2,l3,l4,r.2,l6,l7))
else
(if(a.Text==[99,108,97,115,115]) then
((J5 s0_l s0_end l6).bind fun r1=>
 .ok ((((((((((s0_l.drop 1).drop 1).drop 1).drop 1).drop 1).drop 1).drop 1).drop 1).drop 1),l,l1,l2,l3,l4,l5,r1,l7))
else
(if(a.Text==[99,111,110,102,105,103]) then
((Jy s0_l s0_end l l2).bind fun r2=>
 .ok (r2.1,l,l1,r2.2,l3,l4,l5,l6,l7))
else
(if(a.Text==[99,117,114,102,101,119]) then
((J6 s0_l s0_end l7).bind fun r3=>
 .ok (((((((((s0_l.drop 1).drop 1).drop 1).drop 1).drop 1).drop 1).drop 1).drop 1),l,l1,l2,l3,l4,l5,l6,r3))
else
(if(a.Text==[101,120,101,109,112,116]) then
((Jw s0_l s0_end l7).bind fun r4=>
 .ok ((((s0_l.drop 1).drop 1).drop 1),l,l1,l2,l3,l4,l5,l6,r4))
else
(if(a.Text==[108,111,110,103,101,115,116]) then
((Jb s0_l s0_end l7).bind fun r5=>
 .ok (((((s0_l.drop 1).drop 1).drop 1).drop 1),l,l1,l2,l3,l4,l5,l6,r5))
else
(if(a.Text==[114,111,117,116,101]) then
((J0 s0_l s0_end l l4).bind fun r6=>
 .ok (r6.1,l,l1,l2,l3,r6.2,l5,l6,l7))
else
(if(a.Text==[115,101,99,116,111,114]) then
((Jt s0_l s0_end l l1).bind fun r7=>
 .ok (r7.1,l,r7.2,l2,l3,l4,l5,l6,l7))
else
(if(a.Text==[115,101,103,109,101,110,116]) then
((J1 s0_l s0_end l l3).bind fun r8=>
 .ok (r8.1,l,l1,l2,r8.2,l4,l5,l6,l7))
else
(if(a.Text==[118,111,108,117,109,101]) then
((Jz s0_l s0_end l).bind fun r9=>
 .ok (r9.1,r9.2,l1,l2,l3,l4,l5,l6,l7))
else
(if(a.Text==[119,101,105,103,104,116]) then
((I6 s0_l s0_end l7).bind fun r10=>
 .ok (((((s0_l.drop 1).drop 1).drop 1).drop 1),l,l1,l2,l3,l4,l5,l6,r10))
else
(Fg s0_l s0_end l l1 l2 l3 l4 l5 l6 l7))))))))))))
else
(Fg s0_l s0_end l l1 l2 l3 l4 l5 l6 l7)
def G4 (n:Int)(n2:Int):R (Int×Int):=
 .ok (n,n2)
def Kb (src:Aw)(fL:List Token)(l:List Airport)(l1:List Class)(l2:List Config)(l3:List Rule)(l4:List Route)(l5:List Sector)(l6:List Segment)(l7:List Volume):R (((List Token)×(List Airport)×(List Class)×(List Config)×(List Rule)×(List Route)×(List Sector)×(List Segment)×(List Volume)) ⊕ ((List Token)×(List Airport)×(List Class)×(List Config)×(List Rule)×(List Route)×(List Sector)×(List Segment)×(List Volume))):=
 if(fL.length:Int) > 0 then
((Gf fL (src.length:Int) l7 l5 l2 l6 l4 l l1 l3).bind fun r1=>
 .ok (.inl (r1.1,r1.2.2.2.2.2.2.1,r1.2.2.2.2.2.2.2.1,r1.2.2.2.1,r1.2.2.2.2.2.2.2.2,r1.2.2.2.2.2.1,r1.2.2.1,r1.2.2.2.2.1,r1.2.1)))
else
(.ok (.inr ((fL,l,l1,l2,l3,l4,l5,l6,l7))))
def Q2 (fL3:List Token)(l8:List Airport)(l9:List Class)(l10:List Config)(l11:List Rule)(l12:List Route)(l13:List Sector)(l14:List Segment)(l15:List Volume):R (Airspace×Int×Int):=
 .ok (({ Volumes:=l15,Sectors:=l13,Configs:=l10,Segments:=l14,Routes:=l12,Airports:=l8,Classes:=l9,Rules:=l11 }:Airspace),0,0)
def R1 (src:Aw):R (Airspace×Int×Int):=
 ((Ac7 src).np).bind fun r=>
 if(r.2.2 != 0) then
(.ok (({ Volumes:=[],Sectors:=[],Configs:=[],Segments:=[],Routes:=[],Airports:=[],Classes:=[],Rules:=[] }:Airspace),r.2.1,r.2.2))
else
((loop (un9 fun fL l l1 l2 l3 l4 l5 l6 l7=>Kb src fL l l1 l2 l3 l4 l5 l6 l7) (r.1,[],[],[],[],[],[],[],[])).bind (un9 fun fL3 l8 l9 l10 l11 l12 l13 l14 l15=>Q2 fL3 l8 l9 l10 l11 l12 l13 l14 l15))
def Ki (src:Aw):R (Airspace×Int×Int):=
 (R1 src).catch' (O0 64 .i64 .i64 (fun n n2=>(G4 n n2).bind fun p=>.ok (({ Volumes:=[],Sectors:=[],Configs:=[],Segments:=[],Routes:=[],Airports:=[],Classes:=[],Rules:=[] }:Airspace),p.1,p.2)) (fun _=>.bad))
def Ge (ok:Bool)(t:Token)(s0_bad:Bool)(l:List Token):R (List Token):=
 if(l.length+[t].length) * 40≤Em then
 .ok (l++[t]) else .bad
def Cp (s:Aw)(s0_bad:Bool)(l:List Token):R (Bool×(List Token)):=
 (Uu s).bind fun r=>
 (Ge r ({ Kind:=1,Text:=s,N:=0,At:=0 }:Token) s0_bad l).bind fun r1=>
 .ok ((s0_bad||(!r)),r1)
def Fc (a:Aw)(fBad:Bool)(l2:List Token):R (Bool×(List Token)):=
 (Ge true ({ Kind:=1,Text:=a,N:=0,At:=0 }:Token) fBad l2).bind fun r=>
 .ok ((fBad||(!true)),r)
def Bu (l:List Aw)(s0_bad:Bool)(l1:List Token):R (Bool×(List Token)):=
 (Di (fun _ a=>C3 fun fBad l2=>Fc a fBad l2) 0 l (s0_bad,l1)).bind ((C3 fun fBad l2=>.ok (fBad,l2)))
def Fb (a:Aw)(fBad:Bool)(l2:List Token):R (Bool×(List Token)):=
 (Ge true ({ Kind:=3,Text:=a,N:=0,At:=0 }:Token) fBad l2).bind fun r=>
 .ok ((fBad||(!true)),r)
def Cd (l:List Aw)(s0_bad:Bool)(l1:List Token):R (Bool×(List Token)):=
 (Di (fun _ a=>C3 fun fBad l2=>Fb a fBad l2) 0 l (s0_bad,l1)).bind ((C3 fun fBad l2=>.ok (fBad,l2)))
def Ci (n:Int)(least:Int)(most:Int)(s0_bad:Bool)(l:List Token):R (List Token):=
 (Ge ((decide (n≥least))&&(decide (n≤most))) ({ Kind:=2,Text:=[],N:=n,At:=0 }:Token) s0_bad l).bind fun r=>
 .ok r
def Hf (s:Span)(s0_bad:Bool)(l:List Token):R (Bool×(List Token)):=
 (Ci s.From 0 1439 s0_bad l).bind fun r=>
 (Bu [[116,111]] (s0_bad||(!((decide (s.From≥0))&&(decide (s.From≤1439))))) r).bind fun r1=>
 (Ci s.To (IntKind.wrap .i64 (s.From+1)) 1440 r1.1 r1.2).bind fun r2=>
 .ok ((r1.1||(!((decide (s.To≥(IntKind.wrap .i64 (s.From+1))))&&(decide (s.To≤1440))))),r2)
def Kr (a:Span)(fBad1:Bool)(l3:List Token):R (Bool×(List Token)):=
 (Hf a fBad1 l3).bind fun r1=>
 .ok (r1.1,r1.2)
def Ks (j:Nat)(a:Span)(fBad:Bool)(l2:List Token):R (Bool×(List Token)):=
 if(j:Int) > 0 then
((Cd [[44]] fBad l2).bind fun r=>
 Kr a r.1 r.2)
else
(Kr a fBad l2)
def J3 (l:List Span)(most:Int)(s0_bad:Bool)(l1:List Token):R (Bool×(List Token)):=
 (Di (fun j a=>C3 fun fBad l2=>Ks j a fBad l2) 0 l (((s0_bad||((l.length:Int)==0))||(decide ((l.length:Int) > most))),l1)).bind ((C3 fun fBad l2=>.ok (fBad,l2)))
def Hd (text:Aw)(l:List Span)(s0_bad:Bool)(l1:List Token):R (Bool×(List Token)):=
 if(l.length:Int) > 0 then
((Bu [text] s0_bad l1).bind fun r=>
 (J3 l 16 r.1 r.2).bind fun r1=>
 .ok (r1.1,r1.2))
else
(.ok (s0_bad,l1))
def Nz (a:Volume)(s1_bad:Bool)(l:List Token):R (Bool×(List Token)):=
 (Cp a.Name s1_bad l).bind fun r=>
 (Hd [99,108,111,115,101,100] a.Closed r.1 r.2).bind fun r1=>
 .ok (r1.1,r1.2)
def Hw (a:Volume)(fBad1:Bool)(l2:List Token):R (Bool×(List Token)):=
 (Nz a fBad1 l2).bind fun r1=>
 (Cd [[59]] r1.1 r1.2).bind fun r2=>
 .ok (r2.1,r2.2)
def Gi (text:Aw)(a:Volume)(fBad:Bool)(l1:List Token):R (Bool×(List Token)):=
 if(text==[]) then
(Hw a fBad l1)
else
((Bu [text] fBad l1).bind fun r=>
 Hw a r.1 r.2)
def Hh (text:Aw)(l:List Volume)(most:Int)(s0_bad:Bool):R (Bool×(List Token)):=
 (Di (fun _ a=>C3 fun fBad l1=>Gi text a fBad l1) 0 l ((s0_bad||(decide ((l.length:Int) > most))),[])).bind ((C3 fun fBad l1=>.ok (fBad,l1)))
def Kc (a:Aw)(fBad1:Bool)(l3:List Token):R (Bool×(List Token)):=
 (Cp a fBad1 l3).bind fun r1=>
 .ok (r1.1,r1.2)
def Ke (j:Nat)(a:Aw)(fBad:Bool)(l2:List Token):R (Bool×(List Token)):=
 if(j:Int) > 0 then
((Cd [[44]] fBad l2).bind fun r=>
 Kc a r.1 r.2)
else
(Kc a fBad l2)
def Gc (l:List Aw)(most:Int)(s0_bad:Bool)(l1:List Token):R (Bool×(List Token)):=
 (Di (fun j a=>C3 fun fBad l2=>Ke j a fBad l2) 0 l (((s0_bad||((l.length:Int)==0))||(decide ((l.length:Int) > most))),l1)).bind ((C3 fun fBad l2=>.ok (fBad,l2)))
def Nx (a:Sector)(s1_bad:Bool)(l:List Token):R (Bool×(List Token)):=
 (Cp a.Name s1_bad l).bind fun r=>
 (Cd [[61]] r.1 r.2).bind fun r1=>
 (Gc a.Names 64 r1.1 r1.2).bind fun r2=>
 (Bu [[114,97,100,97,114]] r2.1 r2.2).bind fun r3=>
 (Ci a.Radar 0 64 r3.1 r3.2).bind fun r4=>
 (Bu [[112,114,111,99,101,100,117,114,97,108]] (r3.1||(!((decide (a.Radar≥0))&&(decide (a.Radar≤64))))) r4).bind fun r5=>
 (Ci a.Procedural 0 a.Radar r5.1 r5.2).bind fun r6=>
 .ok ((r5.1||(!((decide (a.Procedural≥0))&&(decide (a.Procedural≤a.Radar))))),r6)
def Hu (a:Sector)(fBad1:Bool)(l3:List Token):R (Bool×(List Token)):=
 (Nx a fBad1 l3).bind fun r1=>
 (Cd [[59]] r1.1 r1.2).bind fun r2=>
 .ok (r2.1,r2.2)
def Hq (text:Aw)(a:Sector)(fBad:Bool)(l2:List Token):R (Bool×(List Token)):=
 if(text==[]) then
(Hu a fBad l2)
else
((Bu [text] fBad l2).bind fun r=>
 Hu a r.1 r.2)
def F6 (text:Aw)(l:List Sector)(most:Int)(s0_bad:Bool)(l1:List Token):R (Bool×(List Token)):=
 (Di (fun _ a=>C3 fun fBad l2=>Hq text a fBad l2) 0 l ((s0_bad||(decide ((l.length:Int) > most))),l1)).bind ((C3 fun fBad l2=>.ok (fBad,l2)))
def N0 (a:Config)(s1_bad:Bool)(l:List Token):R (Bool×(List Token)):=
 (Cp a.Name s1_bad l).bind fun r=>
 (Cd [[61]] r.1 r.2).bind fun r1=>
 (Gc a.Names 64 r1.1 r1.2).bind fun r2=>
 .ok (r2.1,r2.2)
def Hv (a:Config)(fBad1:Bool)(l3:List Token):R (Bool×(List Token)):=
 (N0 a fBad1 l3).bind fun r1=>
 (Cd [[59]] r1.1 r1.2).bind fun r2=>
 .ok (r2.1,r2.2)
def Hs (text:Aw)(a:Config)(fBad:Bool)(l2:List Token):R (Bool×(List Token)):=
 if(text==[]) then
(Hv a fBad l2)
else
((Bu [text] fBad l2).bind fun r=>
 Hv a r.1 r.2)
def Ga (text:Aw)(l:List Config)(most:Int)(s0_bad:Bool)(l1:List Token):R (Bool×(List Token)):=
 (Di (fun _ a=>C3 fun fBad l2=>Hs text a fBad l2) 0 l ((s0_bad||(decide ((l.length:Int) > most))),l1)).bind ((C3 fun fBad l2=>.ok (fBad,l2)))
def Nv (a:Segment)(s1_bad:Bool)(l:List Token):R (Bool×(List Token)):=
 (Cp a.Name s1_bad l).bind fun r=>
 (Bu [[105,110]] r.1 r.2).bind fun r1=>
 (Cp a.In r1.1 r1.2).bind fun r2=>
 (Bu [[108,101,110,103,116,104]] r2.1 r2.2).bind fun r3=>
 (Ci a.Length 1 4096 r3.1 r3.2).bind fun r4=>
 (Hd [111,112,101,110] a.Open (r3.1||(!((decide (a.Length≥1))&&(decide (a.Length≤4096))))) r4).bind fun r5=>
 .ok (r5.1,r5.2)
def Hl (a:Segment)(fBad1:Bool)(l3:List Token):R (Bool×(List Token)):=
 (Nv a fBad1 l3).bind fun r1=>
 (Cd [[59]] r1.1 r1.2).bind fun r2=>
 .ok (r2.1,r2.2)
def Hn (text:Aw)(a:Segment)(fBad:Bool)(l2:List Token):R (Bool×(List Token)):=
 if(text==[]) then
(Hl a fBad l2)
else
((Bu [text] fBad l2).bind fun r=>
 Hl a r.1 r.2)
def F1 (text:Aw)(l:List Segment)(most:Int)(s0_bad:Bool)(l1:List Token):R (Bool×(List Token)):=
 (Di (fun _ a=>C3 fun fBad l2=>Hn text a fBad l2) 0 l ((s0_bad||(decide ((l.length:Int) > most))),l1)).bind ((C3 fun fBad l2=>.ok (fBad,l2)))
def N1 (a:Route)(s1_bad:Bool)(l:List Token):R (Bool×(List Token)):=
 (Cp a.Name s1_bad l).bind fun r=>
 (Bu [[102,114,111,109]] r.1 r.2).bind fun r1=>
 (Cp a.A r1.1 r1.2).bind fun r2=>
 (Bu [[116,111]] r2.1 r2.2).bind fun r3=>
 (Cp a.B r3.1 r3.2).bind fun r4=>
 (Bu [[118,105,97]] r4.1 r4.2).bind fun r5=>
 (Gc a.Names 8 r5.1 r5.2).bind fun r6=>
 .ok (r6.1,r6.2)
def Id (a:Route)(fBad1:Bool)(l3:List Token):R (Bool×(List Token)):=
 (N1 a fBad1 l3).bind fun r1=>
 (Cd [[59]] r1.1 r1.2).bind fun r2=>
 .ok (r2.1,r2.2)
def If (text:Aw)(a:Route)(fBad:Bool)(l2:List Token):R (Bool×(List Token)):=
 if(text==[]) then
(Id a fBad l2)
else
((Bu [text] fBad l2).bind fun r=>
 Id a r.1 r.2)
def Gp (text:Aw)(l:List Route)(most:Int)(s0_bad:Bool)(l1:List Token):R (Bool×(List Token)):=
 (Di (fun _ a=>C3 fun fBad l2=>If text a fBad l2) 0 l ((s0_bad||(decide ((l.length:Int) > most))),l1)).bind ((C3 fun fBad l2=>.ok (fBad,l2)))
def Jh (m:Mode)(s1_bad:Bool)(l:List Token):R (Bool×(List Token)):=
 (Bu [[109,111,100,101]] s1_bad l).bind fun r=>
 (Cp m.Name r.1 r.2).bind fun r1=>
 (Ci m.Places 0 64 r1.1 r1.2).bind fun r2=>
 .ok ((r1.1||(!((decide (m.Places≥0))&&(decide (m.Places≤64))))),r2)
def Lw (a:Mode)(fBad1:Bool)(l3:List Token):R (Bool×(List Token)):=
 (Jh a fBad1 l3).bind fun r1=>
 .ok (r1.1,r1.2)
def L0 (j:Nat)(a:Mode)(fBad:Bool)(l2:List Token):R (Bool×(List Token)):=
 if(j:Int) > 0 then
((Cd [[44]] fBad l2).bind fun r=>
 Lw a r.1 r.2)
else
(Lw a fBad l2)
def Ld (l:List Mode)(most:Int)(s0_bad:Bool)(l1:List Token):R (Bool×(List Token)):=
 (Di (fun j a=>C3 fun fBad l2=>L0 j a fBad l2) 0 l (((s0_bad||((l.length:Int)==0))||(decide ((l.length:Int) > most))),l1)).bind ((C3 fun fBad l2=>.ok (fBad,l2)))
def N2 (a:Airport)(s1_bad:Bool)(l:List Token):R (Bool×(List Token)):=
 (Cp a.Name s1_bad l).bind fun r=>
 (Ld a.Modes 16 r.1 r.2).bind fun r1=>
 .ok (r1.1,r1.2)
def Hi (a:Airport)(fBad1:Bool)(l3:List Token):R (Bool×(List Token)):=
 (N2 a fBad1 l3).bind fun r1=>
 (Cd [[59]] r1.1 r1.2).bind fun r2=>
 .ok (r2.1,r2.2)
def Hj (text:Aw)(a:Airport)(fBad:Bool)(l2:List Token):R (Bool×(List Token)):=
 if(text==[]) then
(Hi a fBad l2)
else
((Bu [text] fBad l2).bind fun r=>
 Hi a r.1 r.2)
def F0 (text:Aw)(l:List Airport)(most:Int)(s0_bad:Bool)(l1:List Token):R (Bool×(List Token)):=
 (Di (fun _ a=>C3 fun fBad l2=>Hj text a fBad l2) 0 l ((s0_bad||(decide ((l.length:Int) > most))),l1)).bind ((C3 fun fBad l2=>.ok (fBad,l2)))
def Nu (a:Class)(s1_bad:Bool)(l:List Token):R (Bool×(List Token)):=
 (Cp a.Name s1_bad l).bind fun r=>
 (Bu [[115,108,111,119]] r.1 r.2).bind fun r1=>
 (Ci a.Slow 1 64 r1.1 r1.2).bind fun r2=>
 (Bu [[102,97,115,116]] (r1.1||(!((decide (a.Slow≥1))&&(decide (a.Slow≤64))))) r2).bind fun r3=>
 (Ci a.Fast a.Slow 64 r3.1 r3.2).bind fun r4=>
 (Bu [[112,108,97,99,101,115]] (r3.1||(!((decide (a.Fast≥a.Slow))&&(decide (a.Fast≤64))))) r4).bind fun r5=>
 (Ci a.Places 1 8 r5.1 r5.2).bind fun r6=>
 .ok ((r5.1||(!((decide (a.Places≥1))&&(decide (a.Places≤8))))),r6)
def H8 (a:Class)(fBad1:Bool)(l3:List Token):R (Bool×(List Token)):=
 (Nu a fBad1 l3).bind fun r1=>
 (Cd [[59]] r1.1 r1.2).bind fun r2=>
 .ok (r2.1,r2.2)
def H5 (text:Aw)(a:Class)(fBad:Bool)(l2:List Token):R (Bool×(List Token)):=
 if(text==[]) then
(H8 a fBad l2)
else
((Bu [text] fBad l2).bind fun r=>
 H8 a r.1 r.2)
def Gr (text:Aw)(l:List Class)(most:Int)(s0_bad:Bool)(l1:List Token):R (Bool×(List Token)):=
 (Di (fun _ a=>C3 fun fBad l2=>H5 text a fBad l2) 0 l ((s0_bad||(decide ((l.length:Int) > most))),l1)).bind ((C3 fun fBad l2=>.ok (fBad,l2)))
def Fu (text:Aw)(s1_bad:Bool)(l:List Token)(s3:Rule):R (Bool×(List Token)):=
 (Bu [text] s1_bad l).bind fun r=>
 (Cp s3.C r.1 r.2).bind fun r1=>
 .ok (r1.1,r1.2)
def Dl (b:Rule)(fBad:Bool)(l1:List Token)(o:Rule):R (Bool×(List Token)):=
 if fBad then
(.ok (true,l1))
else
(.ok ((!((b.Kind==o.Kind)&&((b.C==o.C)&&((b.A==o.A)&&((0==o.Class)&&((0==o.Airport)&&((b.N==o.N)&&((b.Hours.From==o.Hours.From)&&(b.Hours.To==o.Hours.To))))))))),l1))
def Jk (b:Rule)(s0_bad:Bool)(l:List Token):R (Bool×(List Token)):=
 if(b.Kind==1) then
((Fu [99,117,114,102,101,119] s0_bad l b).bind fun r=>
 (Bu [[97,116]] r.1 r.2).bind fun r1=>
 (Cp b.A r1.1 r1.2).bind fun r2=>
 (Hf b.Hours r2.1 r2.2).bind fun r3=>
 Dl b r3.1 r3.2 ({ Kind:=b.Kind,C:=b.C,A:=b.A,Class:=0,Airport:=0,N:=0,Hours:=b.Hours }:Rule))
else
(if(b.Kind==2) then
((Fu [101,120,101,109,112,116] s0_bad l b).bind fun r4=>
 Dl b r4.1 r4.2 ({ Kind:=b.Kind,C:=b.C,A:=[],Class:=0,Airport:=0,N:=0,Hours:=({ From:=0,To:=0 }:Span) }:Rule))
else
(if(b.Kind==3) then
((Fu [119,101,105,103,104,116] s0_bad l b).bind fun r5=>
 (Ci b.N 1 8 r5.1 r5.2).bind fun r6=>
 Dl b (r5.1||(!((decide (b.N≥1))&&(decide (b.N≤8))))) r6 ({ Kind:=b.Kind,C:=b.C,A:=[],Class:=0,Airport:=0,N:=b.N,Hours:=({ From:=0,To:=0 }:Span) }:Rule))
else
(if(b.Kind==4) then
((Fu [108,111,110,103,101,115,116] s0_bad l b).bind fun r7=>
 (Ci b.N 0 60 r7.1 r7.2).bind fun r8=>
 if(r7.1||(!((decide (b.N≥0))&&(decide (b.N≤60))))) then
(Dl b true r8 ({ Kind:=b.Kind,C:=b.C,A:=[],Class:=0,Airport:=0,N:=b.N,Hours:=({ From:=0,To:=0 }:Span) }:Rule))
else
(Dl b ((Int.tmod b.N 10) != 0) r8 ({ Kind:=b.Kind,C:=b.C,A:=[],Class:=0,Airport:=0,N:=b.N,Hours:=({ From:=0,To:=0 }:Span) }:Rule)))
else
(Dl b true l ({ Kind:=b.Kind,C:=b.C,A:=[],Class:=0,Airport:=0,N:=0,Hours:=({ From:=0,To:=0 }:Span) }:Rule)))))
def J9 (a:Rule)(fBad1:Bool)(l3:List Token):R (Bool×(List Token)):=
 (Jk a fBad1 l3).bind fun r1=>
 (Cd [[59]] r1.1 r1.2).bind fun r2=>
 .ok (r2.1,r2.2)
def Ht (text:Aw)(a:Rule)(fBad:Bool)(l2:List Token):R (Bool×(List Token)):=
 if(text==[]) then
(J9 a fBad l2)
else
((Bu [text] fBad l2).bind fun r=>
 J9 a r.1 r.2)
def F7 (text:Aw)(l:List Rule)(most:Int)(s0_bad:Bool)(l1:List Token):R (Bool×(List Token)):=
 (Di (fun _ a=>C3 fun fBad l2=>Ht text a fBad l2) 0 l ((s0_bad||(decide ((l.length:Int) > most))),l1)).bind ((C3 fun fBad l2=>.ok (fBad,l2)))
def strings_Join (l:List Aw)(sep:Aw):R Aw:=if(Lib.join l sep).length≤140737488355328 then .ok (Lib.join l sep) else .bad
def Q0 (j:Nat)(a:Token)(words:List Aw):R ((List Aw) ⊕ (Aw×Int)):=
 (S8 a).bind fun r=>
 if r then
(if(a.Kind==2) then
((strconv_Itoa a.N).bind fun r1=>
 (E3 words (j:Int)).bind fun a1=>
 .ok (.inl (words.set (j:Int).toNat r1)))
else
((E3 words (j:Int)).bind fun a2=>
 .ok (.inl (words.set (j:Int).toNat a.Text))))
else
(.ok (.inr (([],70))))
def Q4 (l:List Token):R (Aw×Int):=
 if(0:Int)≤(l.length:Int)∧((l.length:Int):Int)≤(l.length:Int)∧(Int.toNat (l.length:Int)) * 16≤Em then
 (each (fun j a=>fun words=>Q0 j a words) 0 l (List.replicate (Int.toNat (l.length:Int)) [])).bind (C6 (fun words=>(strings_Join words [32]).bind fun src=>
 .ok (src,0)) (fun r=>.ok r)) else .bad
def I7 (a:Airspace):R (Aw×Int):=
 (Hh [118,111,108,117,109,101] a.Volumes 64 false).bind fun r=>
 (F6 [115,101,99,116,111,114] a.Sectors 64 r.1 r.2).bind fun r1=>
 (Ga [99,111,110,102,105,103] a.Configs 32 r1.1 r1.2).bind fun r2=>
 (F1 [115,101,103,109,101,110,116] a.Segments 128 r2.1 r2.2).bind fun r3=>
 (Gp [114,111,117,116,101] a.Routes 64 r3.1 r3.2).bind fun r4=>
 (F0 [97,105,114,112,111,114,116] a.Airports 16 r4.1 r4.2).bind fun r5=>
 (Gr [99,108,97,115,115] a.Classes 8 r5.1 r5.2).bind fun r6=>
 (F7 [] a.Rules 64 r6.1 r6.2).bind fun r7=>
 if r7.1 then
(.ok ([],80))
else
((Q4 r7.2).bind fun r8=>
 .ok (r8.1,r8.2))
def Mw (b:List Span)(j:Nat)(a1:Span):R (Unit ⊕ Bool):=
 (E3 b (j:Int)).bind fun a2=>
 if((a1.From==a2.From)&&(a1.To==a2.To)) then
(.ok (.inl ()))
else
(.ok (.inr (false)))
def Nj (a:List Span)(b:List Span):R Bool:=
 if((a.length:Int) != (b.length:Int)) then
(.ok false)
else
((each (fun j a1=>fun _=>Mw b j a1) 0 a ()).bind (C6 (fun _=>.ok true) (fun r=>.ok r)))
def Ms (b:List Aw)(j:Nat)(a1:Aw):R (Unit ⊕ Bool):=
 (E3 b (j:Int)).bind fun a2=>
 if(a1==a2) then
(.ok (.inl ()))
else
(.ok (.inr (false)))
def Ln (a:List Aw)(b:List Aw):R Bool:=
 if((a.length:Int) != (b.length:Int)) then
(.ok false)
else
((each (fun j a1=>fun _=>Ms b j a1) 0 a ()).bind (C6 (fun _=>.ok true) (fun r=>.ok r)))
def Nt (b:List Int)(j:Nat)(a1:Int):R (Unit ⊕ Bool):=
 (E3 b (j:Int)).bind fun a2=>
 if(a1 != a2) then
(.ok (.inr (false)))
else
(.ok (.inl ()))
def Ii (a:List Int)(b:List Int):R Bool:=
 if((a.length:Int) != (b.length:Int)) then
(.ok false)
else
((each (fun j a1=>fun _=>Nt b j a1) 0 a ()).bind (C6 (fun _=>.ok true) (fun r=>.ok r)))
def Qr (x1:Bool):R (Unit ⊕ Bool):=
 if x1 then
(.ok (.inr (false)))
else
(.ok (.inl ()))
def Qv (b:Airspace)(j:Nat)(a1:Volume):R (Unit ⊕ Bool):=
 (E3 b.Volumes (j:Int)).bind fun a2=>
 if(!(a1.Name==a2.Name)) then
(Qr true)
else
((Nj a1.Closed a2.Closed).bind fun r=>
 Qr (!r))
def Ou (b:Airspace)(j1:Nat)(a3:Sector):R (Unit ⊕ Bool):=
 (E3 b.Sectors (j1:Int)).bind fun a4=>
 (if(!(a3.Name==a4.Name)) then R.ok true else(Ln a3.Names a4.Names).bind fun r1=>
 R.ok (!r1)).bind (fun(b1:Bool)=>(if b1 then R.ok true else(Ii a3.Volumes a4.Volumes).bind fun r2=>
 R.ok (!r2)).bind (fun(b2:Bool)=>if((b2||(a3.Radar != a4.Radar))||(a3.Procedural != a4.Procedural)) then
(.ok (.inr (false)))
else
(.ok (.inl ()))))
def Nn (b:Airspace)(j2:Nat)(a5:Config):R (Unit ⊕ Bool):=
 (E3 b.Configs (j2:Int)).bind fun a6=>
 (if(!(a5.Name==a6.Name)) then R.ok true else(Ln a5.Names a6.Names).bind fun r3=>
 R.ok (!r3)).bind (fun(b3:Bool)=>(if b3 then R.ok true else(Ii a5.Sectors a6.Sectors).bind fun r4=>
 R.ok (!r4)).bind (fun(b4:Bool)=>if b4 then
(.ok (.inr (false)))
else
(.ok (.inl ()))))
def Lr (b:Airspace)(j3:Nat)(a7:Segment):R (Unit ⊕ Bool):=
 (E3 b.Segments (j3:Int)).bind fun a8=>
 (if((((!(a7.Name==a8.Name))||(!(a7.In==a8.In)))||(a7.Volume != a8.Volume))||(a7.Length != a8.Length)) then R.ok true else(Nj a7.Open a8.Open).bind fun r5=>
 R.ok (!r5)).bind (fun(b5:Bool)=>if b5 then
(.ok (.inr (false)))
else
(.ok (.inl ())))
def Kt (b:Airspace)(j4:Nat)(a9:Route):R (Unit ⊕ Bool):=
 (E3 b.Routes (j4:Int)).bind fun a10=>
 (if(((((!(a9.Name==a10.Name))||(!(a9.A==a10.A)))||(!(a9.B==a10.B)))||(a9.From != a10.From))||(a9.To != a10.To)) then R.ok true else(Ln a9.Names a10.Names).bind fun r6=>
 R.ok (!r6)).bind (fun(b6:Bool)=>(if b6 then R.ok true else(Ii a9.Segments a10.Segments).bind fun r7=>
 R.ok (!r7)).bind (fun(b7:Bool)=>if b7 then
(.ok (.inr (false)))
else
(.ok (.inl ()))))
def Qo (a12:Airport)(j6:Nat)(a13:Mode):R (Unit ⊕ Bool):=
 (E3 a12.Modes (j6:Int)).bind fun a14=>
 if((a13.Name==a14.Name)&&(a13.Places==a14.Places)) then
(.ok (.inl ()))
else
(.ok (.inr (false)))
def Je (b:Airspace)(j5:Nat)(a11:Airport):R (Unit ⊕ Bool):=
 (E3 b.Airports (j5:Int)).bind fun a12=>
 if((!(a11.Name==a12.Name))||((a11.Modes.length:Int) != (a12.Modes.length:Int))) then
(.ok (.inr (false)))
else
((each (fun j6 a13=>fun _=>Qo a12 j6 a13) 0 a11.Modes ()).bind (C6 (fun _=>.ok (.inl ())) (fun r=>.ok (.inr (r)))))
def H6 (b:Airspace)(j7:Nat)(a15:Class):R (Unit ⊕ Bool):=
 (E3 b.Classes (j7:Int)).bind fun a16=>
 if((a15.Name==a16.Name)&&((a15.Slow==a16.Slow)&&((a15.Fast==a16.Fast)&&(a15.Places==a16.Places)))) then
(.ok (.inl ()))
else
(.ok (.inr (false)))
def Hb (b:Airspace)(j8:Nat)(a17:Rule):R (Unit ⊕ Bool):=
 (E3 b.Rules (j8:Int)).bind fun a18=>
 if((a17.Kind==a18.Kind)&&((a17.C==a18.C)&&((a17.A==a18.A)&&((a17.Class==a18.Class)&&((a17.Airport==a18.Airport)&&((a17.N==a18.N)&&((a17.Hours.From==a18.Hours.From)&&(a17.Hours.To==a18.Hours.To)))))))) then
(.ok (.inl ()))
else
(.ok (.inr (false)))
def Qc (a:Airspace)(b:Airspace):R Bool:=
 if(((((((((a.Volumes.length:Int) != (b.Volumes.length:Int))||((a.Sectors.length:Int) != (b.Sectors.length:Int)))||((a.Configs.length:Int) != (b.Configs.length:Int)))||((a.Segments.length:Int) != (b.Segments.length:Int)))||((a.Routes.length:Int) != (b.Routes.length:Int)))||((a.Airports.length:Int) != (b.Airports.length:Int)))||((a.Classes.length:Int) != (b.Classes.length:Int)))||((a.Rules.length:Int) != (b.Rules.length:Int))) then
(.ok false)
else
((each (fun j a1=>fun _=>Qv b j a1) 0 a.Volumes ()).bind (C6 (fun _=>(each (fun j1 a3=>fun _=>Ou b j1 a3) 0 a.Sectors ()).bind (C6 (fun _=>(each (fun j2 a5=>fun _=>Nn b j2 a5) 0 a.Configs ()).bind (C6 (fun _=>(each (fun j3 a7=>fun _=>Lr b j3 a7) 0 a.Segments ()).bind (C6 (fun _=>(each (fun j4 a9=>fun _=>Kt b j4 a9) 0 a.Routes ()).bind (C6 (fun _=>(each (fun j5 a11=>fun _=>Je b j5 a11) 0 a.Airports ()).bind (C6 (fun _=>(each (fun j7 a15=>fun _=>H6 b j7 a15) 0 a.Classes ()).bind (C6 (fun _=>(each (fun j8 a17=>fun _=>Hb b j8 a17) 0 a.Rules ()).bind (C6 (fun _=>.ok true) (fun r=>.ok r))) (fun r=>.ok r))) (fun r=>.ok r))) (fun r=>.ok r))) (fun r=>.ok r))) (fun r=>.ok r))) (fun r=>.ok r))) (fun r=>.ok r)))
def N4 (s2:List Span)(j:Nat)(a:Span):R (Unit ⊕ Bool):=
 (E3 s2 (j:Int)).bind fun a1=>
 if((a.From==a1.From)&&(a.To==a1.To)) then
(.ok (.inl ()))
else
(.ok (.inr (false)))
def Pl (s1:List Span)(s2:List Span):R Bool:=
 if((s1.length:Int) != (s2.length:Int)) then
(.ok false)
else
((each (fun j a=>fun _=>N4 s2 j a) 0 s1 ()).bind (C6 (fun _=>.ok true) (fun r=>.ok r)))
def U1 (a:Volume)(y:Volume):R Bool:=
 (if(a.Name==y.Name) then(Pl a.Closed y.Closed).bind fun r=>
 R.ok r else R.ok false).bind (fun(b:Bool)=>.ok b)
def Ea (s2:List Volume)(j:Nat)(a:Volume):R (Unit ⊕ Bool):=
 (E3 s2 (j:Int)).bind fun a1=>
 (U1 a a1).bind fun r=>
 if r then
(.ok (.inl ()))
else
(.ok (.inr (false)))
def Fm (s1:List Volume)(s2:List Volume):R Bool:=
 if((s1.length:Int) != (s2.length:Int)) then
(.ok false)
else
((each (fun j a=>fun _=>Ea s2 j a) 0 s1 ()).bind (C6 (fun _=>.ok true) (fun r=>.ok r)))
def Mk (s2:List Aw)(j:Nat)(a:Aw):R (Unit ⊕ Bool):=
 (E3 s2 (j:Int)).bind fun a1=>
 if(a==a1) then
(.ok (.inl ()))
else
(.ok (.inr (false)))
def L6 (s1:List Aw)(s2:List Aw):R Bool:=
 if((s1.length:Int) != (s2.length:Int)) then
(.ok false)
else
((each (fun j a=>fun _=>Mk s2 j a) 0 s1 ()).bind (C6 (fun _=>.ok true) (fun r=>.ok r)))
def Oq (s2:List Int)(j:Nat)(a:Int):R (Unit ⊕ Bool):=
 (E3 s2 (j:Int)).bind fun a1=>
 if(a != a1) then
(.ok (.inr (false)))
else
(.ok (.inl ()))
def I9 (s1:List Int)(s2:List Int):R Bool:=
 if((s1.length:Int) != (s2.length:Int)) then
(.ok false)
else
((each (fun j a=>fun _=>Oq s2 j a) 0 s1 ()).bind (C6 (fun _=>.ok true) (fun r=>.ok r)))
def U3 (a:Sector)(y:Sector):R Bool:=
 (if(a.Name==y.Name) then(L6 a.Names y.Names).bind fun r=>
 R.ok r else R.ok false).bind (fun(b:Bool)=>(if b then(I9 a.Volumes y.Volumes).bind fun r1=>
 R.ok r1 else R.ok false).bind (fun(b1:Bool)=>.ok ((b1&&(a.Radar==y.Radar))&&(a.Procedural==y.Procedural))))
def D9 (s2:List Sector)(j:Nat)(a:Sector):R (Unit ⊕ Bool):=
 (E3 s2 (j:Int)).bind fun a1=>
 (U3 a a1).bind fun r=>
 if r then
(.ok (.inl ()))
else
(.ok (.inr (false)))
def Fq (s1:List Sector)(s2:List Sector):R Bool:=
 if((s1.length:Int) != (s2.length:Int)) then
(.ok false)
else
((each (fun j a=>fun _=>D9 s2 j a) 0 s1 ()).bind (C6 (fun _=>.ok true) (fun r=>.ok r)))
def U4 (a:Config)(y:Config):R Bool:=
 (if(a.Name==y.Name) then(L6 a.Names y.Names).bind fun r=>
 R.ok r else R.ok false).bind (fun(b:Bool)=>(if b then(I9 a.Sectors y.Sectors).bind fun r1=>
 R.ok r1 else R.ok false).bind (fun(b1:Bool)=>.ok b1))
def Eb (s2:List Config)(j:Nat)(a:Config):R (Unit ⊕ Bool):=
 (E3 s2 (j:Int)).bind fun a1=>
 (U4 a a1).bind fun r=>
 if r then
(.ok (.inl ()))
else
(.ok (.inr (false)))
def Ef (s1:List Config)(s2:List Config):R Bool:=
 if((s1.length:Int) != (s2.length:Int)) then
(.ok false)
else
((each (fun j a=>fun _=>Eb s2 j a) 0 s1 ()).bind (C6 (fun _=>.ok true) (fun r=>.ok r)))
def U7 (a:Segment)(y:Segment):R Bool:=
 (if((((a.Name==y.Name)&&(a.In==y.In))&&(a.Volume==y.Volume))&&(a.Length==y.Length)) then(Pl a.Open y.Open).bind fun r=>
 R.ok r else R.ok false).bind (fun(b:Bool)=>.ok b)
def D0 (s2:List Segment)(j:Nat)(a:Segment):R (Unit ⊕ Bool):=
 (E3 s2 (j:Int)).bind fun a1=>
 (U7 a a1).bind fun r=>
 if r then
(.ok (.inl ()))
else
(.ok (.inr (false)))
def Dg (s1:List Segment)(s2:List Segment):R Bool:=
 if((s1.length:Int) != (s2.length:Int)) then
(.ok false)
else
((each (fun j a=>fun _=>D0 s2 j a) 0 s1 ()).bind (C6 (fun _=>.ok true) (fun r=>.ok r)))
def U8 (a:Route)(y:Route):R Bool:=
 (if(((((a.Name==y.Name)&&(a.A==y.A))&&(a.B==y.B))&&(a.From==y.From))&&(a.To==y.To)) then(L6 a.Names y.Names).bind fun r=>
 R.ok r else R.ok false).bind (fun(b:Bool)=>(if b then(I9 a.Segments y.Segments).bind fun r1=>
 R.ok r1 else R.ok false).bind (fun(b1:Bool)=>.ok b1))
def Eg (s2:List Route)(j:Nat)(a:Route):R (Unit ⊕ Bool):=
 (E3 s2 (j:Int)).bind fun a1=>
 (U8 a a1).bind fun r=>
 if r then
(.ok (.inl ()))
else
(.ok (.inr (false)))
def C7 (s1:List Route)(s2:List Route):R Bool:=
 if((s1.length:Int) != (s2.length:Int)) then
(.ok false)
else
((each (fun j a=>fun _=>Eg s2 j a) 0 s1 ()).bind (C6 (fun _=>.ok true) (fun r=>.ok r)))
def N8 (s2:List Mode)(j:Nat)(a:Mode):R (Unit ⊕ Bool):=
 (E3 s2 (j:Int)).bind fun a1=>
 if((a.Name==a1.Name)&&(a.Places==a1.Places)) then
(.ok (.inl ()))
else
(.ok (.inr (false)))
def Sd (s1:List Mode)(s2:List Mode):R Bool:=
 if((s1.length:Int) != (s2.length:Int)) then
(.ok false)
else
((each (fun j a=>fun _=>N8 s2 j a) 0 s1 ()).bind (C6 (fun _=>.ok true) (fun r=>.ok r)))
def U9 (a:Airport)(y:Airport):R Bool:=
 (if(a.Name==y.Name) then(Sd a.Modes y.Modes).bind fun r=>
 R.ok r else R.ok false).bind (fun(b:Bool)=>.ok b)
def Dz (s2:List Airport)(j:Nat)(a:Airport):R (Unit ⊕ Bool):=
 (E3 s2 (j:Int)).bind fun a1=>
 (U9 a a1).bind fun r=>
 if r then
(.ok (.inl ()))
else
(.ok (.inr (false)))
def Cl (s1:List Airport)(s2:List Airport):R Bool:=
 if((s1.length:Int) != (s2.length:Int)) then
(.ok false)
else
((each (fun j a=>fun _=>Dz s2 j a) 0 s1 ()).bind (C6 (fun _=>.ok true) (fun r=>.ok r)))
def Nc (s2:List Class)(j:Nat)(a:Class):R (Unit ⊕ Bool):=
 (E3 s2 (j:Int)).bind fun a1=>
 if((a.Name==a1.Name)&&((a.Slow==a1.Slow)&&((a.Fast==a1.Fast)&&(a.Places==a1.Places)))) then
(.ok (.inl ()))
else
(.ok (.inr (false)))
def Hr (s1:List Class)(s2:List Class):R Bool:=
 if((s1.length:Int) != (s2.length:Int)) then
(.ok false)
else
((each (fun j a=>fun _=>Nc s2 j a) 0 s1 ()).bind (C6 (fun _=>.ok true) (fun r=>.ok r)))
def N9 (s2:List Rule)(j:Nat)(a:Rule):R (Unit ⊕ Bool):=
 (E3 s2 (j:Int)).bind fun a1=>
 if((a.Kind==a1.Kind)&&((a.C==a1.C)&&((a.A==a1.A)&&((a.Class==a1.Class)&&((a.Airport==a1.Airport)&&((a.N==a1.N)&&((a.Hours.From==a1.Hours.From)&&(a.Hours.To==a1.Hours.To)))))))) then
(.ok (.inl ()))
else
(.ok (.inr (false)))
def G7 (s1:List Rule)(s2:List Rule):R Bool:=
 if((s1.length:Int) != (s2.length:Int)) then
(.ok false)
else
((each (fun j a=>fun _=>N9 s2 j a) 0 s1 ()).bind (C6 (fun _=>.ok true) (fun r=>.ok r)))
def Pe (a:Airspace)(b:Airspace):R Bool:=
 (Fm a.Volumes b.Volumes).bind fun r=>
 (if r then(Fq a.Sectors b.Sectors).bind fun r1=>
 R.ok r1 else R.ok false).bind (fun(b1:Bool)=>(if b1 then(Ef a.Configs b.Configs).bind fun r2=>
 R.ok r2 else R.ok false).bind (fun(b2:Bool)=>(if b2 then(Dg a.Segments b.Segments).bind fun r3=>
 R.ok r3 else R.ok false).bind (fun(b3:Bool)=>(if b3 then(C7 a.Routes b.Routes).bind fun r4=>
 R.ok r4 else R.ok false).bind (fun(b4:Bool)=>(if b4 then(Cl a.Airports b.Airports).bind fun r5=>
 R.ok r5 else R.ok false).bind (fun(b5:Bool)=>(if b5 then(Hr a.Classes b.Classes).bind fun r6=>
 R.ok r6 else R.ok false).bind (fun(b6:Bool)=>(if b6 then(G7 a.Rules b.Rules).bind fun r7=>
 R.ok r7 else R.ok false).bind (fun(b7:Bool)=>.ok b7)))))))
def T5:R Bool:=
 (Ki []).bind fun r=>
 (Ki [118,111,108,117,109,101,32,97,32,99,108,111,115,101,100,32,54,48,32,116,111,32,54,48,59]).bind fun r1=>
 (Ki [101,120,101,109,112,116,32,104,101,97,118,121]).bind fun r2=>
 (Ki [108,111,110,103,101,115,116,32,104,101,97,118,121,32,51,53,59]).bind fun r3=>
 (I7 ({ Volumes:=[],Sectors:=[],Configs:=[],Segments:=[],Routes:=[],Airports:=[({ Name:=[120],Modes:=[] }:Airport)],Classes:=[],Rules:=[] }:Airspace)).bind fun r4=>
 (I7 ({ Volumes:=[({ Name:=[97],Closed:=[] }:Volume)],Sectors:=[],Configs:=[],Segments:=[],Routes:=[],Airports:=[],Classes:=[],Rules:=[] }:Airspace)).bind fun r5=>
 (Ki [99,117,114,102,101,119,32,104,101,97,118,121,32,97,116,32,120,32,48,32,116,111,32,51,48,48,59,32,115,101,99,116,111,114,32,115,32,61,32,97,44,32,98,32,114,97,100,97,114,32,57,32,112,114,111,99,101,100,117,114,97,108,32,52,59]).bind fun r6=>
 (I7 ({ Volumes:=[],Sectors:=[({ Name:=[115],Names:=[[97],[98]],Volumes:=[0,1],Radar:=9,Procedural:=4 }:Sector)],Configs:=[],Segments:=[],Routes:=[],Airports:=[],Classes:=[],Rules:=[({ Kind:=1,C:=[104,101,97,118,121],A:=[120],Class:=0,Airport:=0,N:=0,Hours:=({ From:=0,To:=300 }:Span) }:Rule)] }:Airspace)).bind fun r7=>
 if(((((((((((((r.2.2 != 0)||(r1.2.2 != 80))||(r2.2.2 != 80))||(r3.2.2 != 80))||(r4.2 != 80))||(r5.2 != 0))||(r6.2.2 != 0))||(r7.2 != 0))||(r.2.1 != 0))||(r1.2.1 != 22))||(r2.2.1 != 12))||(r3.2.1 != 14))||(r6.2.1 != 0)) then
(.ok false)
else
((Qc r.1 ({ Volumes:=[],Sectors:=[],Configs:=[],Segments:=[],Routes:=[],Airports:=[],Classes:=[],Rules:=[] }:Airspace)).bind fun r8=>
 (if(r8&&(r5.1==[118,111,108,117,109,101,32,97,32,59])) then(Qc r6.1 ({ Volumes:=[],Sectors:=[({ Name:=[115],Names:=[[97],[98]],Volumes:=[],Radar:=9,Procedural:=4 }:Sector)],Configs:=[],Segments:=[],Routes:=[],Airports:=[],Classes:=[],Rules:=[({ Kind:=1,C:=[104,101,97,118,121],A:=[120],Class:=0,Airport:=0,N:=0,Hours:=({ From:=0,To:=300 }:Span) }:Rule)] }:Airspace)).bind fun r9=>
 R.ok r9 else R.ok false).bind (fun(b:Bool)=>(if(b&&(r7.1==[115,101,99,116,111,114,32,115,32,61,32,97,32,44,32,98,32,114,97,100,97,114,32,57,32,112,114,111,99,101,100,117,114,97,108,32,52,32,59,32,99,117,114,102,101,119,32,104,101,97,118,121,32,97,116,32,120,32,48,32,116,111,32,51,48,48,32,59])) then(Pe r6.1 ({ Volumes:=[],Sectors:=[({ Name:=[115],Names:=[[97],[98]],Volumes:=[],Radar:=9,Procedural:=4 }:Sector)],Configs:=[],Segments:=[],Routes:=[],Airports:=[],Classes:=[],Rules:=[({ Kind:=1,C:=[104,101,97,118,121],A:=[120],Class:=0,Airport:=0,N:=0,Hours:=({ From:=0,To:=300 }:Span) }:Rule)] }:Airspace)).bind fun r10=>
 R.ok r10 else R.ok false).bind (fun(b1:Bool)=>(if b1 then(Pe r6.1 ({ Volumes:=[],Sectors:=[({ Name:=[115],Names:=[[97],[98]],Volumes:=[0,1],Radar:=9,Procedural:=4 }:Sector)],Configs:=[],Segments:=[],Routes:=[],Airports:=[],Classes:=[],Rules:=[({ Kind:=1,C:=[104,101,97,118,121],A:=[120],Class:=0,Airport:=0,N:=0,Hours:=({ From:=0,To:=300 }:Span) }:Rule)] }:Airspace)).bind fun r11=>
 R.ok (!r11) else R.ok false).bind (fun(b2:Bool)=>.ok b2))))
def Ny (a:Aw):R (Unit ⊕ Bool):=
 if(a.length:Int) > 60 then
(.ok (.inr (false)))
else
(.ok (.inl ()))
def Me (l:List Aw):R Bool:=
 (each (fun _ a=>fun _=>Ny a) 0 l ()).bind (C6 (fun _=>.ok (decide ((l.length:Int)≤70))) (fun r=>.ok r))
def Rm (a1:Volume)(x:Int):R Int:=
 .ok (IntKind.wrap .i64 (x+(a1.Closed.length:Int)))
def Oi (a2:Sector)(x2:Int):R (Int ⊕ Bool):=
 (Me a2.Names).bind fun r=>
 if r then
(.ok (.inl (IntKind.wrap .i64 (x2+(a2.Volumes.length:Int)))))
else
(.ok (.inr (false)))
def Mr (a3:Config)(x4:Int):R (Int ⊕ Bool):=
 (Me a3.Names).bind fun r1=>
 if r1 then
(.ok (.inl (IntKind.wrap .i64 (x4+(a3.Sectors.length:Int)))))
else
(.ok (.inr (false)))
def M6 (a4:Segment)(x6:Int):R Int:=
 .ok (IntKind.wrap .i64 (x6+(a4.Open.length:Int)))
def Kk (a5:Route)(x8:Int):R (Int ⊕ Bool):=
 (Me a5.Names).bind fun r2=>
 if r2 then
(.ok (.inl (IntKind.wrap .i64 (x8+(a5.Segments.length:Int)))))
else
(.ok (.inr (false)))
def Ko (a6:Airport)(x10:Int):R Int:=
 .ok (IntKind.wrap .i64 (x10+(a6.Modes.length:Int)))
def V6 (a:Airspace):R Bool:=
 if((((((((decide ((a.Volumes.length:Int) > 70))||(decide ((a.Sectors.length:Int) > 70)))||(decide ((a.Configs.length:Int) > 40)))||(decide ((a.Segments.length:Int) > 130)))||(decide ((a.Routes.length:Int) > 70)))||(decide ((a.Airports.length:Int) > 20)))||(decide ((a.Classes.length:Int) > 12)))||(decide ((a.Rules.length:Int) > 70))) then
(.ok false)
else
((Di (fun _ a1=>fun x=>Rm a1 x) 0 a.Volumes 0).bind ((fun x=>(each (fun _ a2=>fun x2=>Oi a2 x2) 0 a.Sectors x).bind (C6 (fun x2=>(each (fun _ a3=>fun x4=>Mr a3 x4) 0 a.Configs x2).bind (C6 (fun x4=>(Di (fun _ a4=>fun x6=>M6 a4 x6) 0 a.Segments x4).bind ((fun x6=>(each (fun _ a5=>fun x8=>Kk a5 x8) 0 a.Routes x6).bind (C6 (fun x8=>(Di (fun _ a6=>fun x10=>Ko a6 x10) 0 a.Airports x8).bind ((fun x10=>.ok (decide (x10≤600))))) (fun r=>.ok r))))) (fun r=>.ok r))) (fun r=>.ok r)))))
def L4 (a1:Sector)(l:List Sector):R (List Sector):=
 if(l.length+[({ Name:=a1.Name,Names:=a1.Names,Volumes:=[],Radar:=a1.Radar,Procedural:=a1.Procedural }:Sector)].length) * 80≤Em then
 .ok (l++[({ Name:=a1.Name,Names:=a1.Names,Volumes:=[],Radar:=a1.Radar,Procedural:=a1.Procedural }:Sector)]) else .bad
def Kh (a2:Config)(l1:List Config):R (List Config):=
 if(l1.length+[({ Name:=a2.Name,Names:=a2.Names,Sectors:=[] }:Config)].length) * 64≤Em then
 .ok (l1++[({ Name:=a2.Name,Names:=a2.Names,Sectors:=[] }:Config)]) else .bad
def Ik (a3:Segment)(l2:List Segment):R (List Segment):=
 if(l2.length+[({ Name:=a3.Name,In:=a3.In,Volume:=0,Length:=a3.Length,Open:=a3.Open }:Segment)].length) * 72≤Em then
 .ok (l2++[({ Name:=a3.Name,In:=a3.In,Volume:=0,Length:=a3.Length,Open:=a3.Open }:Segment)]) else .bad
def G5 (a4:Route)(l3:List Route):R (List Route):=
 if(l3.length+[({ Name:=a4.Name,A:=a4.A,B:=a4.B,From:=0,To:=0,Names:=a4.Names,Segments:=[] }:Route)].length) * 112≤Em then
 .ok (l3++[({ Name:=a4.Name,A:=a4.A,B:=a4.B,From:=0,To:=0,Names:=a4.Names,Segments:=[] }:Route)]) else .bad
def Gd (a5:Rule)(l4:List Rule):R (List Rule):=
 if(l4.length+[({ Kind:=a5.Kind,C:=a5.C,A:=a5.A,Class:=0,Airport:=0,N:=a5.N,Hours:=a5.Hours }:Rule)].length) * 80≤Em then
 .ok (l4++[({ Kind:=a5.Kind,C:=a5.C,A:=a5.A,Class:=0,Airport:=0,N:=a5.N,Hours:=a5.Hours }:Rule)]) else .bad
def On (a:Airspace):R Airspace:=
 (Di (fun _ a1=>fun l=>L4 a1 l) 0 a.Sectors []).bind ((fun l=>(Di (fun _ a2=>fun l1=>Kh a2 l1) 0 a.Configs []).bind ((fun l1=>(Di (fun _ a3=>fun l2=>Ik a3 l2) 0 a.Segments []).bind ((fun l2=>(Di (fun _ a4=>fun l3=>G5 a4 l3) 0 a.Routes []).bind ((fun l3=>(Di (fun _ a5=>fun l4=>Gd a5 l4) 0 a.Rules []).bind ((fun l4=>.ok ({ Volumes:=a.Volumes,Sectors:=l,Configs:=l1,Segments:=l2,Routes:=l3,Airports:=a.Airports,Classes:=a.Classes,Rules:=l4 }:Airspace)))))))))))
def Qf (a:Airspace):R Bool:=
 (T5).bind fun r=>
 if r then
((V6 a).bind fun r1=>
 if r1 then
((I7 a).bind fun r2=>
 if((r2.2 != 0)||(decide ((r2.1.length:Int) > 65536))) then
(.ok ((r2.2==0)||(r2.1==[])))
else
((Ki r2.1).bind fun r3=>
 (I7 r3.1).bind fun r4=>
 if(r3.2.2==0) then
(if(r3.2.1==0) then
((On a).bind fun r5=>
 (Qc r3.1 r5).bind fun r6=>
 if r6 then
(if(r4.2==0) then
(.ok (r4.1==r2.1))
else
(.ok false))
else
(.ok false))
else
(.ok false))
else
(.ok false)))
else
(.ok true))
else
(.ok false)
end
end Go.Am
namespace Go.Am
open Go
set_option linter.unusedVariables false
def R9:Ty Span:=⟨Cb,fun x=>(En .i64).good x.From∧(En .i64).good x.To∧True,fun x=>((En .i64).bulk x.From+((En .i64).bulk x.To+(0)))+1⟩
def Vb:Ty Volume:=⟨As,fun x=>E8.good x.Name∧(Fw 2 R9).good x.Closed∧True,fun x=>(E8.bulk x.Name+((Fw 2 R9).bulk x.Closed+(0)))+1⟩
def U5:Ty Sector:=⟨A4,fun x=>E8.good x.Name∧(Fw 1 E8).good x.Names∧(Fw 1 (En .i64)).good x.Volumes∧(En .i64).good x.Radar∧(En .i64).good x.Procedural∧True,fun x=>(E8.bulk x.Name+((Fw 1 E8).bulk x.Names+((Fw 1 (En .i64)).bulk x.Volumes+((En .i64).bulk x.Radar+((En .i64).bulk x.Procedural+(0))))))+1⟩
def Vd:Ty Config:=⟨Bd,fun x=>E8.good x.Name∧(Fw 1 E8).good x.Names∧(Fw 1 (En .i64)).good x.Sectors∧True,fun x=>(E8.bulk x.Name+((Fw 1 E8).bulk x.Names+((Fw 1 (En .i64)).bulk x.Sectors+(0))))+1⟩
def Sz:Ty Segment:=⟨Bb,fun x=>E8.good x.Name∧E8.good x.In∧(En .i64).good x.Volume∧(En .i64).good x.Length∧(Fw 2 R9).good x.Open∧True,fun x=>(E8.bulk x.Name+(E8.bulk x.In+((En .i64).bulk x.Volume+((En .i64).bulk x.Length+((Fw 2 R9).bulk x.Open+(0))))))+1⟩
def X8:Ty Route:=⟨Bo,fun x=>E8.good x.Name∧E8.good x.A∧E8.good x.B∧(En .i64).good x.From∧(En .i64).good x.To∧(Fw 1 E8).good x.Names∧(Fw 1 (En .i64)).good x.Segments∧True,fun x=>(E8.bulk x.Name+(E8.bulk x.A+(E8.bulk x.B+((En .i64).bulk x.From+((En .i64).bulk x.To+((Fw 1 E8).bulk x.Names+((Fw 1 (En .i64)).bulk x.Segments+(0))))))))+1⟩
def Ac1:Ty Mode:=⟨Ds,fun x=>E8.good x.Name∧(En .i64).good x.Places∧True,fun x=>(E8.bulk x.Name+((En .i64).bulk x.Places+(0)))+1⟩
def Ss:Ty Airport:=⟨A9,fun x=>E8.good x.Name∧(Fw 2 Ac1).good x.Modes∧True,fun x=>(E8.bulk x.Name+((Fw 2 Ac1).bulk x.Modes+(0)))+1⟩
def Acl:Ty Class:=⟨By,fun x=>E8.good x.Name∧(En .i64).good x.Slow∧(En .i64).good x.Fast∧(En .i64).good x.Places∧True,fun x=>(E8.bulk x.Name+((En .i64).bulk x.Slow+((En .i64).bulk x.Fast+((En .i64).bulk x.Places+(0)))))+1⟩
def Aed:Ty Rule:=⟨Bc,fun x=>(En .i64).good x.Kind∧E8.good x.C∧E8.good x.A∧(En .i64).good x.Class∧(En .i64).good x.Airport∧(En .i64).good x.N∧R9.good x.Hours∧True,fun x=>((En .i64).bulk x.Kind+(E8.bulk x.C+(E8.bulk x.A+((En .i64).bulk x.Class+((En .i64).bulk x.Airport+((En .i64).bulk x.N+(R9.bulk x.Hours+(0))))))))+1⟩
def M8:Ty Airspace:=⟨Av,fun x=>(Fw 2 Vb).good x.Volumes∧(Fw 5 U5).good x.Sectors∧(Fw 3 Vd).good x.Configs∧(Fw 5 Sz).good x.Segments∧(Fw 7 X8).good x.Routes∧(Fw 2 Ss).good x.Airports∧(Fw 4 Acl).good x.Classes∧(Fw 8 Aed).good x.Rules∧True,fun x=>((Fw 2 Vb).bulk x.Volumes+((Fw 5 U5).bulk x.Sectors+((Fw 3 Vd).bulk x.Configs+((Fw 5 Sz).bulk x.Segments+((Fw 7 X8).bulk x.Routes+((Fw 2 Ss).bulk x.Airports+((Fw 4 Acl).bulk x.Classes+((Fw 8 Aed).bulk x.Rules+(0)))))))))+1⟩
def Pu:Prop := ∀ (a0:Airspace) (_:M8.good a0),M8.bulk a0≤1048576→Qf a0=.ok true
end Go.Am
namespace Go.Am
open Go
set_option linter.unusedVariables false
set_option linter.unusedSimpArgs false
def Lk (c:UInt8):Bool:=c==32||c==9||c==10||c==13
def Oz (c:UInt8):Bool:=(decide (97≤c)&&decide (c≤122))||(decide (65≤c)&&decide (c≤90))
def Fd (c:UInt8):Bool:=decide (48≤c)&&decide (c≤57)
def It (c:UInt8):Bool:=Oz c||Fd c||c==95
def Sj (c:UInt8):Bool:=[(123:UInt8),125,40,41,59,44,61,35,47,60,33,45,46].contains c
def I0 (c:UInt8):Int:=if Oz c then 2 else if Fd c then 3 else if c==95 then 5 else if Lk c then 1 else if Sj c then 4 else 0
theorem Rp {p:UInt8→Prop}(h : ∀ n:Fin 256,p (UInt8.ofNat n.val))(c:UInt8):p c:=by
 have h1:=h ⟨c.toNat,c.toNat_lt⟩
 have e:UInt8.ofNat c.toNat=c:=by simp
 simpa [e] using h1
theorem Ach (c:UInt8):Lq (c.toNat:Int)=.ok (I0 c):=Rp (p:=fun c=>Lq (c.toNat:Int)=.ok (I0 c)) (by decide +kernel) c
theorem Ao5 (c:UInt8):(I0 c==1)=Lk c:=Rp (p:=fun c=>(I0 c==1)=Lk c) (by decide +kernel) c
theorem Alm (c:UInt8):(I0 c==2)=Oz c:=Rp (p:=fun c=>(I0 c==2)=Oz c) (by decide +kernel) c
theorem An3 (c:UInt8):(I0 c==3)=Fd c:=Rp (p:=fun c=>(I0 c==3)=Fd c) (by decide +kernel) c
theorem Aof (c:UInt8):(I0 c==4)=Sj c:=Rp (p:=fun c=>(I0 c==4)=Sj c) (by decide +kernel) c
theorem Ath (c:UInt8):(I0 c==2||I0 c==3||I0 c==5)=It c:=Rp (p:=fun c=>(I0 c==2||I0 c==3||I0 c==5)=It c) (by decide +kernel) c
theorem Avt (c:UInt8):I0 c=0∨I0 c=1∨I0 c=2∨I0 c=3∨I0 c=4∨I0 c=5:=Rp (p:=fun c=>I0 c=0∨I0 c=1∨I0 c=2∨I0 c=3∨I0 c=4∨I0 c=5) (by decide +kernel) c
theorem Aiu {c:UInt8}(h:Oz c=true):It c=true:=by simp [It,h]
theorem Atc {c:UInt8}(h:Oz c=true):Lk c=false:=by
 revert h; exact Rp (p:=fun c=>Oz c=true→Lk c=false) (by decide +kernel) c
theorem As5 {c:UInt8}(h:Fd c=true):Lk c=false∧Oz c=false:=by
 revert h; exact Rp (p:=fun c=>Fd c=true→Lk c=false∧Oz c=false) (by decide +kernel) c
theorem Aq2 {c:UInt8}(h:Sj c=true):Lk c=false∧Oz c=false∧Fd c=false:=by
 revert h; exact Rp (p:=fun c=>Sj c=true→Lk c=false∧Oz c=false∧Fd c=false) (by decide +kernel) c
theorem Ahn {c:UInt8}(h:Lk c=true):It c=false∧Fd c=false∧c≠47:=by
 revert h; exact Rp (p:=fun c=>Lk c=true→It c=false∧Fd c=false∧c≠47) (by decide +kernel) c
theorem Akj {src:Aw}{q:UInt8→Bool}{body:Int→R (Int ⊕ Int)}(hb : ∀ n:Nat,n≤src.length→body (n:Int)=match src[n]? with | some c=>if q c then .ok (.inl ((n+1:Nat):Int)) else .ok (.inr (n:Int)) | none=>.ok (.inr (n:Int))) :
  ∀ (k p:Nat),p≤src.length→src.length - p=k→loop body (p:Int)=.ok (((p+((src.drop p).takeWhile q).length:Nat)):Int)
 | k,p,hp,hk=>by
  rw [Ve,hb p hp]
  by_cases hl:p<src.length
  ·have e:src.drop p=src[p]::src.drop (p+1):=List.drop_eq_getElem_cons hl
   rw [List.getElem?_eq_getElem hl,e,List.takeWhile_cons]
   simp only
   cases hq:q src[p]
   ·simp
   ·simp only [if_true,R.ok_bind]
    cases k with
    | zero=>omega
    | succ k=>
     rw [Akj hb k (p+1) hl (by omega)]
     simp only [List.length_cons]
     congr 2
     omega
  ·have e:src[p]? = none:=List.getElem?_eq_none (by omega)
   have e2:src.drop p=[]:=List.drop_eq_nil_of_le (by omega)
   rw [e,e2]; simp
theorem Akn {α:Type}(q:α→Bool) : ∀ l:List α,l.take (l.takeWhile q).length=l.takeWhile q
 | []=>rfl
 | a::l=>by
  rw [List.takeWhile_cons]
  cases q a
  ·rfl
  ·simp [Akn q l]
theorem Tk {α:Type}(q:α→Bool) : ∀ l:List α,(l.takeWhile q).length≤l.length
 | []=>Nat.le_refl _
 | a::l=>by
  rw [List.takeWhile_cons]
  cases q a
  ·simp
  ·simpa using Tk q l
theorem Asy {src:Aw}{p:Nat}(q:UInt8→Bool):Sb src (p:Int) ((p+((src.drop p).takeWhile q).length:Nat):Int)=(src.drop p).takeWhile q:=by
 unfold Sb
 simp only [Int.toNat_natCast]
 rw [show p+((src.drop p).takeWhile q).length - p=((src.drop p).takeWhile q).length by omega,Akn]
theorem Akf {src:Aw}{n:Nat}{c:UInt8}(h:src[n]? = some c):E3 src (n:Int)=.ok c:=Ac2 h
theorem Agt (v:Int) : ∀ (l:List Int) (k:Nat),∃ j:Nat,each (fun j a=>fun _=>G6 v j a) k l ()=.ok (if l.contains v then .inr (j:Int) else .inl ())
 | [],k=>⟨0,rfl⟩
 | a::l,k=>by
  rw [S4]
  by_cases h:v=a
  ·subst h; exact⟨k,by simp [G6]⟩
  ·have h1:(v==a)=false:=by simpa using h
   obtain⟨j,hj⟩:=Agt v l (k+1)
   refine⟨j,?_⟩
   rw [show G6 v k a=.ok (.inl ()) by unfold G6; rw [h1]; rfl,R.ok_bind,List.contains_cons,h1]
   exact hj
theorem Aiy (l:List Int)(v:Int):L9 l v=.ok (l.contains v):=by
 unfold L9 Ql
 obtain⟨j,hj⟩:=Agt v l 0
 rw [hj]
 cases h:l.contains v
 ·simp only [Bool.false_eq_true,if_false,R.ok_bind]; rfl
 ·simp only [if_true,R.ok_bind]
  simp
theorem Atj (src:Aw)(p:Nat)(l:List Token)(some:List Int)(hp:p≤src.length)(hs:src.length≤65536) :
  Kd ({ fSrc:=src,fAt:=p,fL:=l }:T119) some=.ok ((src.drop p).takeWhile fun c=>some.contains (I0 c)):=by
 unfold Kd
 rw [Akj (src:=src) (q:=fun c=>some.contains (I0 c)) (k:=src.length - p) (p:=p) (fun n hn=>?_) hp rfl]
 ·simp only [R.ok_bind]
  unfold My
  have hle:=Tk (fun c=>some.contains (I0 c)) (src.drop p)
  rw [List.length_drop] at hle
  dsimp only
  rw [if_pos ⟨by omega,by omega,by omega⟩]
  simp only [Asy]
 ·unfold Mv
  by_cases hl:n<src.length
  ·have hi:(n:Int)<src.length:=by omega
   rw [List.getElem?_eq_getElem hl]
   simp only [hi,decide_true,if_true]
   rw [Akf (List.getElem?_eq_getElem hl)]
   simp only [R.ok_bind,Ach,Aiy]
   cases some.contains (I0 src[n])
   ·rfl
   ·simp only [if_true]
    rw [Zp (by omega) (by omega)]
    rfl
  ·have hi:¬ ((n:Int)<src.length):=by omega
   rw [List.getElem?_eq_none (by omega)]
   simp only [hi,decide_false,Bool.false_eq_true,if_false,R.ok_bind]
def E6 (s:Aw):Bool:=match s with | []=>false | c::w=>Oz c&&w.all It&&decide (w.length+1≤32)
theorem Agf {α:Type}{b:Nat→α→Unit→R (Unit ⊕ Bool)}{p:α→Bool}(hb : ∀ j a,b j a ()=if p a then .ok (.inl ()) else .ok (.inr false)) : ∀ (l:List α) (k:Nat),each b k l ()=.ok (if l.all p then .inl () else .inr false)
 | [],k=>rfl
 | a::l,k=>by
  rw [S4,hb]
  cases h:p a
  ·simp [h]
  ·simp [h,Agf hb l (k+1)]
theorem An1 (c:UInt8):(((I0 c != 2)&&(I0 c != 3))&&(I0 c != 5)) = !It c:=by
 rw [← Ath]; simp [bne,Bool.not_or]
theorem Aj7 (s:Aw):Uu s=.ok (E6 s):=by
 unfold Uu E6
 cases s with
 | nil=>rfl
 | cons c w=>
  simp only [show((c::w:Aw)==[])=false from rfl,Bool.false_or]
  by_cases h:w.length+1≤32
  ·have h1:¬ (((c::w).length:Int) > 32):=by simp only [List.length_cons]; omega
   have h2:(c::w).length≤Em:=by simp only [List.length_cons,Em]; omega
   simp only [h1,decide_false,Bool.false_eq_true,if_false,Ap5,R.ok_bind,Ach,h2,if_true,h,decide_true,Bool.and_true]
   cases hc:Oz c
   ·rw [show(I0 c != 2)=true by rw [bne,Alm,hc]; rfl]; simp
   ·rw [show(I0 c != 2)=false by rw [bne,Alm,hc]; rfl]
    simp only [Bool.false_eq_true,if_false,Bool.true_and]
    rw [Agf (p:=It) (fun j a=>by unfold Qx; simp only [Ach,R.ok_bind,An1]; cases It a <;> rfl)]
    simp only [R.ok_bind,List.all_cons,Aiu hc,Bool.true_and]
    cases w.all It <;> rfl
  ·have h1:((c::w).length:Int) > 32:=by simp only [List.length_cons]; omega
   simp only [h1,decide_true,if_true,R.ok_bind,h,decide_false,Bool.and_false]
end Go.Am
namespace Go.Am
open Go
set_option linter.unusedVariables false
set_option linter.unusedSimpArgs false
def Ui (a:Nat)(s:Aw):Nat:=s.foldl (fun a c=>a * 10+(c.toNat - 48)) a
theorem Aax (a:Nat):Ui a []=a:=rfl
theorem Od (a:Nat)(c:UInt8)(s:Aw):Ui a (c::s)=Ui (a * 10+(c.toNat - 48)) s:=by unfold Ui; rw [List.foldl_cons]
theorem Ad3 : ∀ (s t:Aw) (a:Nat),Ui a (s++t)=Ui (Ui a s) t
 | [],t,a=>rfl
 | c::s,t,a=>by rw [List.cons_append,Od,Od,Ad3 s t]
theorem Af5 : ∀ (s:Aw) (a:Nat),a≤Ui a s
 | [],a=>Nat.le_refl _
 | c::s,a=>by
  have:=Af5 s (a * 10+(c.toNat - 48))
  rw [Od]; omega
def val (s:Aw):Nat:=Ui 0 s
def Xg (s:Aw):Bool:=decide (s.length=1)||decide (s.head? ≠ some 48)
def Vl (s:Aw):Bool:=Xg s&&decide (val s≤1099511627776)
theorem Vh {c:UInt8}:Fd c=true↔48≤c.toNat∧c.toNat≤57:=by
 unfold Fd
 simp only [Bool.and_eq_true,decide_eq_true_eq,UInt8.le_iff_toNat_le]
 rfl
theorem Amj (n:Nat)(h:n<10):Fd (UInt8.ofNat (48+n))=true∧(UInt8.ofNat (48+n)).toNat=48+n:=by
 have e:(UInt8.ofNat (48+n)).toNat=48+n:=by rw [UInt8.toNat_ofNat']; omega
 exact⟨Vh.2 (by omega),e⟩
theorem Ahs {c:UInt8}(h:Fd c=true):UInt8.ofNat (48+(c.toNat - 48))=c:=by
 have:=Vh.1 h
 rw [show 48+(c.toNat - 48)=c.toNat by omega]; simp
theorem Akv (u:Nat):(Lib.decDigits u).all Fd=true∧val (Lib.decDigits u)=u∧Lib.decDigits u≠[]∧Xg (Lib.decDigits u)=true∧(1≤u→(Lib.decDigits u).head? ≠ some 48):=by
 induction u using Nat.strongRecOn with
 | _ u ih=>
  by_cases h:u<10
  ·rw [Lib.decDigits_one h]
   obtain⟨h1,h2⟩:=Amj u h
   refine⟨by rw [List.all_cons,h1]; rfl,by unfold val; rw [Od,Aax,h2]; omega,by simp,by simp [Xg],fun hu e=>?_⟩
   simp only [List.head?_cons,Option.some.injEq] at e
   rw [e] at h2
   have:(48:UInt8).toNat=48:=rfl
   omega
  ·rw [Lib.decDigits,dif_neg h]
   obtain⟨a1,a2,a3,a4,a5⟩:=ih (u / 10) (by omega)
   obtain⟨h1,h2⟩:=Amj (u % 10) (by omega)
   have hd:(Lib.decDigits (u / 10)++[UInt8.ofNat (48+u % 10)]).head? = (Lib.decDigits (u / 10)).head? := by
    cases hq:Lib.decDigits (u / 10) with
    | nil=>exact absurd hq a3
    | cons c w=>rfl
   refine⟨by rw [List.all_append,a1,List.all_cons,h1]; rfl,?_,by simp,?_,fun hu=>by rw [hd]; exact a5 (by omega)⟩
   ·unfold val at a2 ⊢
    rw [Ad3,a2,Od,Aax,h2]; omega
   ·have:=a5 (by omega)
    unfold Xg
    rw [hd]
    simp [this]
theorem Ato : ∀ (s:Aw),s≠[]→s.all Fd=true→Xg s=true→Lib.decDigits (val s)=s:=by
 suffices H : ∀ (n:Nat) (s:Aw),s.length=n→s≠[]→s.all Fd=true→Xg s=true→Lib.decDigits (val s)=s from fun s=>H _ s rfl
 intro n
 induction n with
 | zero=>intro s h1 h2; exact absurd (List.length_eq_zero_iff.1 h1) h2
 | succ n ih=>
  intro s h1 h2 h3 h4
  obtain⟨w,c,rfl⟩ : ∃ w c,s=w++[c]:=⟨s.dropLast,s.getLast h2,(List.dropLast_concat_getLast h2).symm⟩
  rw [List.all_append,Bool.and_eq_true] at h3
  obtain⟨h3,h5⟩:=h3
  have h5:Fd c=true:=by simpa using h5
  have hc:=Vh.1 h5
  have hv:val (w++[c])=val w * 10+(c.toNat - 48):=by unfold val; rw [Ad3,Od,Aax]
  by_cases hw:w=[]
  ·subst hw
   have h0:val []=0:=rfl
   rw [hv,h0,Lib.decDigits_one (by omega)]
   simp only [Nat.zero_mul,Nat.zero_add,List.nil_append]
   rw [Ahs h5]
  ·obtain⟨d,w',rfl⟩ : ∃ d w',w=d::w':=by cases w with | nil=>exact absurd rfl hw | cons d w'=>exact⟨d,w',rfl⟩
   have hp:d≠48:=by
    intro e; subst e
    simp [Xg] at h4
   have hd:Fd d=true:=by simp at h3; exact h3.1
   have hd':=Vh.1 hd
   have h1v:1≤val (d::w'):=by
    have:=Af5 w' (0 * 10+(d.toNat - 48))
    have h6:d.toNat≠48:=fun e=>hp (UInt8.toNat_inj.1 (by rw [e]; rfl))
    unfold val
    rw [Od]
    omega
   have e0:Ui 0 (d::w')=val (d::w'):=rfl
   rw [hv,Lib.decDigits,dif_neg (by omega)]
   have e1:(val (d::w') * 10+(c.toNat - 48)) / 10=val (d::w'):=by omega
   have e2:(val (d::w') * 10+(c.toNat - 48)) % 10=c.toNat - 48:=by omega
   rw [e1,e2,Ahs h5,ih (d::w') (by simpa using h1) hw h3 (by simp [Xg,hp])]
theorem Ai5 : ∀ (s:Aw) (a:Nat),s.all Fd=true→Ui a s<18446744073709551616→Lib.parseUint10 a s=.ok (Ui a s)
 | [],a,_,_=>rfl
 | c::s,a,h,hv=>by
  have h:Fd c=true∧s.all Fd=true:=by simpa using h
  have hc:=Vh.1 h.1
  have hv':Ui (a * 10+(c.toNat - 48)) s<18446744073709551616:=by rw [← Od]; exact hv
  have:=Af5 s (a * 10+(c.toNat - 48))
  rw [Lib.parseUint10,if_pos hc,if_neg (by omega),if_neg (by omega),Ai5 s _ h.2 hv',Od]
theorem Agv : ∀ (s:Aw) (a:Nat),a<18446744073709551616→s.all Fd=true→18446744073709551616≤Ui a s→Lib.parseUint10 a s=.range
 | [],a,ha,_,hv=>by exfalso; rw [Aax] at hv; omega
 | c::s,a,ha,h,hv=>by
  have h:Fd c=true∧s.all Fd=true:=by simpa using h
  have hc:=Vh.1 h.1
  rw [Lib.parseUint10,if_pos hc]
  split
  ·rfl
  ·split
   ·rfl
   ·exact Agv s _ (by omega) h.2 (by rw [← Od]; exact hv)
theorem Apj {s:Aw}(hs:s≠[])(h:s.all Fd=true):Lib.atoiAll s=if 9223372036854775808≤val s then .range else .ok (val s:Int):=by
 cases s with
 | nil=>exact absurd rfl hs
 | cons c s=>
  have hc:Fd c=true:=by simp at h; exact h.1
  have hc:=Vh.1 hc
  rw [Lib.atoiAll_plain c s (by omega) (by omega),Lib.parseMag,if_neg (by simp)]
  by_cases hv:val (c::s)<18446744073709551616
  ·rw [Ai5 _ _ h hv]; rfl
  ·rw [Agv _ _ (by omega) h (Nat.le_of_not_lt hv),if_pos (by omega)]; rfl
end Go.Am
namespace Go.Am
open Go
set_option linter.unusedVariables false
set_option linter.unusedSimpArgs false
def tk (c:UInt8)(s:Aw):Option (Option Token×Nat):=
 if Lk c then some (none,0)
 else if Oz c then
  if(s.takeWhile It).length+1≤32 then some (some ⟨1,c::s.takeWhile It,0,0⟩,(s.takeWhile It).length) else none
 else if Fd c then
  if Vl (c::s.takeWhile Fd) then some (some ⟨2,[],val (c::s.takeWhile Fd),0⟩,(s.takeWhile Fd).length) else none
 else if Sj c then
  if c=47∧s.head? = some 47 then some (none,(s.takeWhile (· != 10)).length)
  else some (some ⟨3,[c],0,0⟩,0)
 else none
def at' (p:Nat)(t:Token):Token:={ t with At:=p }
inductive Lx where
 | ok (l:List Token)
 | wrong (e:Nat)
 deriving DecidableEq
def Lx.add (o:Option Token)(p:Nat):Lx→Lx
 | .ok l=>.ok ((o.map (at' p)).toList++l)
 | .wrong e=>.wrong e
def Ad0:Nat→Aw→Nat→Lx
 | _,[],_=>.ok []
 | 0,_::_,_=>.ok []
 | n+1,c::s,p=>match tk c s with
  | none=>.wrong p
  | some (o,k)=>(Ad0 n (s.drop k) (p+1+k)).add o p
def Om (s:Aw)(p:Nat):Lx:=Ad0 s.length s p
theorem Aip : ∀ (n m:Nat) (s:Aw) (p:Nat),s.length≤n→s.length≤m→Ad0 n s p=Ad0 m s p
 | 0,0,s,p,_,_=>rfl
 | 0,m+1,s,p,h,_=>by
  have:s=[]:=List.length_eq_zero_iff.1 (by omega)
  subst this; rfl
 | n+1,0,s,p,_,h=>by
  have:s=[]:=List.length_eq_zero_iff.1 (by omega)
  subst this; rfl
 | n+1,m+1,[],p,_,_=>rfl
 | n+1,m+1,c::s,p,h1,h2=>by
  simp only [List.length_cons] at h1 h2
  rw [Ad0,Ad0]
  cases tk c s with
  | none=>rfl
  | some x=>
   obtain⟨o,k⟩:=x
   simp only
   rw [Aip n m (s.drop k) _ (by rw [List.length_drop]; omega) (by rw [List.length_drop]; omega)]
theorem Aio (p:Nat):Om [] p=.ok []:=rfl
theorem Yx (c:UInt8)(s:Aw)(p:Nat):Om (c::s) p=match tk c s with
  | none=>.wrong p
  | some (o,k)=>(Om (s.drop k) (p+1+k)).add o p:=by
 unfold Om
 rw [List.length_cons,Ad0]
 cases tk c s with
 | none=>rfl
 | some x=>
  obtain⟨o,k⟩:=x
  simp only
  rw [Aip s.length (s.drop k).length (s.drop k) _ (by rw [List.length_drop]; omega) (Nat.le_refl _)]
@[simp] theorem Lx.add_none (p:Nat)(x:Lx):x.add none p=x:=by cases x <;> rfl
theorem Aug {c:UInt8}(s:Aw)(h:Lk c=true):tk c s=some (none,0):=by unfold tk; rw [if_pos h]
theorem Auw {c:UInt8}{s:Aw}{o:Option Token}{k:Nat}(ht:tk c s=some (o,k)):k≤s.length:=by
 have h1:=Tk It s
 have h2:=Tk Fd s
 have h3:=Tk (· != 10) s
 unfold tk at ht
 repeat' split at ht
 all_goals first | (cases ht; done) | (cases ht; assumption) | (cases ht; exact Nat.zero_le _)
theorem Ad1 : ∀ (w s:Aw) (p:Nat),w.all Lk=true→Om (w++s) p=Om s (p+w.length)
 | [],s,p,_=>rfl
 | c::w,s,p,h=>by
  have h:Lk c=true∧w.all Lk=true:=by simpa using h
  rw [List.cons_append,Yx,Aug _ h.1]
  simp only [List.drop_zero,Lx.add_none]
  rw [Ad1 w s _ h.2,List.length_cons]
  congr 1; omega
def out:Lx→List Token×Int×Int
 | .ok l=>(l,0,0)
 | .wrong e=>([],(e:Int),70)
def Jv (s:Aw):List Token×Int×Int:=if s.length≤65536 then out (Om s 0) else([],0,2)
theorem Aex {α:Type}(q:α→Bool) : ∀ l:List α,(l.takeWhile q).all q=true
 | []=>rfl
 | a::l=>by
  rw [List.takeWhile_cons]
  cases h:q a
  ·rfl
  ·rw [if_pos rfl,List.all_cons,h,Aex q l]; rfl
theorem Ala {α:Type}(q:α→Bool)(l:List α):l.drop (l.takeWhile q).length=l.dropWhile q:=by
 induction l with
 | nil=>rfl
 | cons a l ih=>
  rw [List.takeWhile_cons,List.dropWhile_cons]
  cases q a
  ·rfl
  ·simpa using ih
theorem Ark {src:Aw}{p:Nat}{c:UInt8}{s:Aw}(h:src.drop p=c::s):Sb src (p:Int) ((p+1:Nat):Int)=[c]:=by
 unfold Sb
 simp only [Int.toNat_natCast]
 rw [h,show p+1 - p=1 by omega]; rfl
theorem Agm {src:Aw}{p:Nat}{c:UInt8}{s:Aw}(h:src.drop p=c::s)(k:Nat):s.drop k=src.drop (p+1+k):=by
 have:src.drop (p+1)=s:=by rw [← List.drop_drop,h]; rfl
 rw [← this,List.drop_drop]
theorem Ar5 {src:Aw}{p:Nat}{c:UInt8}{s:Aw}(h:src.drop p=c::s):src[p]? = some c:=by
 have:=List.getElem?_drop (xs:=src) (i:=p) (j:=0)
 rw [h] at this
 simpa using this.symm
theorem Ais {src:Aw}{p:Nat}{c:UInt8}{s:Aw}(h:src.drop p=c::s):p+1+s.length=src.length:=by
 have:=congrArg List.length h
 rw [List.length_drop,List.length_cons] at this
 omega
theorem Apx {c:UInt8}{w:Aw}(hc:Oz c=true)(hw:w.all It=true):E6 (c::w)=decide (w.length+1≤32):=by
 simp [E6,hc,hw]
end Go.Am
namespace Go.Am
open Go
set_option linter.unusedVariables false
set_option linter.unusedSimpArgs false
theorem Ajh (c:UInt8) : ∀ (l:Aw),Lib.indexByte l c=if(l.takeWhile (· != c)).length=l.length then -1 else((l.takeWhile (· != c)).length:Int)
 | []=>rfl
 | a::l=>by
  have ih:=Ajh c l
  have hle:=Tk (· != c) l
  rw [Lib.indexByte,List.takeWhile_cons]
  by_cases h:a=c
  ·subst h; simp
  ·have h1:(a != c)=true:=bne_iff_ne.2 h
   have h2:(a==c)=false:=by simpa using h
   rw [ih,h1]
   simp only [h2,Bool.false_eq_true,if_false,if_true,List.length_cons,Nat.add_right_cancel_iff]
   by_cases hq:(l.takeWhile (· != c)).length=l.length
   ·simp [hq]
   ·simp only [hq,if_false]
    have:¬ (((l.takeWhile (· != c)).length:Int)<0):=by omega
    simp [this]
    try omega
theorem Afa {α:Type}[BEq α][LawfulBEq α][DecidableEq α](a b:α):(a==b)=decide (a=b):=by
 by_cases h:a=b <;> simp [h]
def Xo:Aw→Bool
 | [c]=>Sj c
 | _=>false
def D6 (t:Token):Bool:=if t.Kind==1 then E6 t.Text&&(t.N==0) else if t.Kind==2 then(t.Text==[])&&decide (t.N≥0)&&decide (t.N≤1099511627776) else if t.Kind==3 then Xo t.Text&&(t.N==0) else false
theorem Av9 (s:Aw):((s.length:Int)==1)=(s.length==1):=by
 rw [Afa,Afa,decide_eq_decide]; omega
theorem Au5 (s:Aw){f:Int→R Bool}(hf : ∀ c:UInt8,f (c.toNat:Int)=.ok (Sj c)):(if((s.length:Int)==1) then(E3 s 0).bind fun a=>f (a.toNat:Int) else R.ok false)=.ok (Xo s):=by
 rw [Av9]
 match s with
 | []=>rfl
 | [c]=>simp only [List.length_singleton,beq_self_eq_true,if_true,Ap5,R.ok_bind,hf]; rfl
 | c::d::w=>simp [Xo]
theorem Ajf (t:Token):S8 t=.ok (D6 t):=by
 unfold S8 D6
 rw [show(fun a:UInt8=>(Lq (a.toNat:Int)).bind fun r1=>R.ok (r1==4))=fun a:UInt8=>(fun n:Int=>(Lq n).bind fun r1=>R.ok (r1==4)) (a.toNat:Int) from rfl,
  Au5 (f:=fun n:Int=>(Lq n).bind fun r1=>R.ok (r1==4)) t.Text (fun c=>by simp only [Ach,R.ok_bind,Aof])]
 simp only [Aj7,R.ok_bind]
 split
 ·rfl
 ·split
  ·rfl
  ·split <;> rfl
theorem Ahg (text:Aw)(t:Token)(src:Aw)(p:Nat)(l:List Token)(hl:(l.length+1) * 40≤Em) :
  Ha text t src p l=if D6 t then .ok (l++[at' p t]) else .pan ⟨113,.int .i64 p⟩:=by
 unfold Ha
 rw [Ajf,R.ok_bind]
 simp only [List.length_singleton]
 rw [if_pos hl]
 rfl
theorem Ahf (n:Nat):Lib.itoa (n:Int)=Lib.decDigits n:=Lib.itoa_nonneg n
theorem Aol {α:Type}{p q:α→Bool}(h : ∀ a,p a=q a)(l:List α):l.takeWhile p=l.takeWhile q:=by rw [show p=q from funext h]
theorem Afj {some:List Int}{q:UInt8→Bool}(h : ∀ c,some.contains (I0 c)=q c){src:Aw}{p:Nat}{l:List Token}(hp:p≤src.length)(hs:src.length≤65536) :
  Kd ({ fSrc:=src,fAt:=p,fL:=l }:T119) some=.ok ((src.drop p).takeWhile q):=by rw [Atj src p l some hp hs,Aol h]
def Af0 (p:Nat)(pre:List Token)(c:UInt8)(s:Aw):R ((Int×(List Token)) ⊕ (Int×(List Token))):=
 if Lk c then .ok (.inl (((p+1+(s.takeWhile Lk).length:Nat):Int),pre))
 else match tk c s with
  | none=>.pan ⟨113,.int .i64 p⟩
  | some (o,k)=>.ok (.inl (((p+1+k:Nat):Int),pre++(o.map (at' p)).toList))
theorem Aea {c:UInt8}{v:Int}(h:(I0 c==v)=true):I0 c=v:=eq_of_beq h
theorem Anm (s:Aw):N3 s [47,47]=.ok (decide (s.take 2=[47,47])):=by
 unfold N3 Iv
 by_cases h:2≤s.length
 ·have h1:(s.length:Int)≥(([47,47]:Aw).length:Int):=by simp; omega
  simp only [h1,decide_true,if_true]
  rw [if_pos ⟨by simp,trivial⟩]
  simp only [R.ok_bind]
  rw [Afa]
  rfl
 ·have h1:¬ ((s.length:Int)≥(([47,47]:Aw).length:Int)):=by simp; omega
  simp only [h1,decide_false,Bool.false_eq_true,if_false,R.ok_bind]
  rw [decide_eq_false]
  intro e
  have:=congrArg List.length e
  simp at this
  omega
theorem Amf (src:Aw)(hs:src.length≤65536)(p:Nat)(pre:List Token)(c:UInt8)(s:Aw)(h:src.drop p=c::s)(hl:pre.length≤p) :
  N7 src (p:Int) pre=Af0 p pre c s:=by
 have hlen:=Ais h
 have hat:=Ar5 h
 have hlim:(pre.length+1) * 40≤Em:=by simp only [Em]; omega
 unfold N7 Af0
 rw [if_pos (by omega),Akf hat]
 simp only [R.ok_bind,Ach]
 have wr : ∀ k:Nat,k≤s.length→IntKind.wrap .i64 ((p:Int)+((k+1:Nat):Int))=((p+1+k:Nat):Int):=by
  intro k hk; rw [Zp (by omega) (by omega)]; omega
 cases hsp:Lk c
 ·simp only [Bool.false_eq_true,if_false]
  unfold tk
  simp only [hsp,Bool.false_eq_true,if_false]
  cases hle:Oz c
  ·simp only [Bool.false_eq_true,if_false]
   cases hfi:Fd c
   ·simp only [Bool.false_eq_true,if_false]
    cases hsi:Sj c
    ·have h1:I0 c≠1:=fun e=>by rw [← Ao5,e] at hsp; cases hsp
     have h2:I0 c≠2:=fun e=>by rw [← Alm,e] at hle; cases hle
     have h3:I0 c≠3:=fun e=>by rw [← An3,e] at hfi; cases hfi
     have h4:I0 c≠4:=fun e=>by rw [← Aof,e] at hsi; cases hsi
     rcases Avt c with e | e | e | e | e | e
     ·rw [e]; rfl
     ·exact absurd e h1
     ·exact absurd e h2
     ·exact absurd e h3
     ·exact absurd e h4
     ·rw [e]; rfl
    ·have hc:I0 c=4:=Aea (by rw [Aof,hsi])
     rw [hc]
     simp only [show ¬ ((4:Int)=0) by decide,show ¬ ((4:Int)=1) by decide,show ¬ ((4:Int)=2) by decide,show ¬ ((4:Int)=3) by decide,if_false,if_true]
     unfold M5
     rw [if_pos ⟨by omega,by omega⟩]
     simp only [Int.toNat_natCast]
     rw [Anm,R.ok_bind,h]
     have e2:(decide ((c::s).take 2=[47,47]))=decide (c=47∧s.head? = some 47):=by
      cases s with
      | nil=>simp
      | cons d w=>simp
     rw [e2]
     by_cases hcom:c=47∧s.head? = some 47
     ·simp only [hcom,and_self,decide_true,if_true]
      obtain⟨rfl,hhd⟩:=hcom
      rw [if_pos ⟨by omega,by omega⟩]
      unfold strings_IndexByte
      rw [show((10:Int).toNat.toUInt8)=10 from rfl,Ajh,List.takeWhile_cons,show((47:UInt8) != 10)=true by decide,if_pos rfl]
      have hle:=Tk (· != 10) s
      simp only [List.length_cons,Nat.add_right_cancel_iff,R.ok_bind]
      by_cases hall:(s.takeWhile (· != 10)).length=s.length
      ·rw [if_pos hall,if_neg (by omega)]
       simp only [R.ok_bind,hall]
       rw [hlen]; simp
      ·rw [if_neg hall,if_pos (by omega),wr _ hle]
       simp
     ·simp only [hcom,decide_false,Bool.false_eq_true,if_false]
      have hw1:IntKind.wrap .i64 ((p:Int)+1)=((p+1:Nat):Int):=by rw [Zp (by omega) (by omega)]; rfl
      rw [hw1,Ark h,if_pos ⟨by omega,by omega,by omega⟩,Ahg _ _ _ _ _ hlim]
      have hv:D6 ({ Kind:=3,Text:=[c],N:=0,At:=0 }:Token)=true:=by
       show Xo [c]&&true=true
       simp [Xo,hsi]
      rw [hv]
      simp only [if_true,R.ok_bind]
      have:=wr 0 (Nat.zero_le _)
      simp only [List.length_singleton]
      rw [show((1:Nat):Int)=((0+1:Nat):Int) from rfl,this]
      rfl
   ·have hc:I0 c=3:=Aea (by rw [An3,hfi])
    rw [hc]
    simp only [show ¬ ((3:Int)=0) by decide,show ¬ ((3:Int)=1) by decide,show ¬ ((3:Int)=2) by decide,if_false,if_true]
    unfold Lf
    rw [Afj (q:=Fd) (fun c=>by rw [← An3]; simp only [List.contains_cons,List.contains_nil,Bool.or_false]) (by omega) hs,h,List.takeWhile_cons,hfi,if_pos rfl]
    have hall:(c::s.takeWhile Fd).all Fd=true:=by rw [List.all_cons,hfi,Aex]; rfl
    have hle:=Tk Fd s
    simp only [R.ok_bind]
    unfold Pz
    rw [if_pos (by simp only [List.length_cons]; omega),Apj (by simp) hall]
    generalize hg:c::s.takeWhile Fd=g
    have hg1:g≠[]:=by rw [← hg]; simp
    rw [hg] at hall
    have hgl:g.length=(s.takeWhile Fd).length+1:=by rw [← hg]; rfl
    by_cases hbig:9223372036854775808≤val g
    ·rw [if_pos hbig]
     have:Vl g=false:=by unfold Vl; rw [decide_eq_false (by omega:¬ val g≤1099511627776),Bool.and_false]
     rw [this]
     rfl
    ·rw [if_neg hbig]
     simp only [R.ok_bind,Bool.false_eq_true,if_false]
     unfold strconv_Itoa
     rw [if_pos ⟨by omega,by omega⟩,Ahf]
     simp only [R.ok_bind]
     have hdd:=Akv (val g)
     by_cases hpl:Xg g=true
     ·rw [Ato g hg1 hall hpl]
      simp only [beq_self_eq_true,Bool.not_true,Bool.false_eq_true,if_false]
      rw [Ahg _ _ _ _ _ hlim]
      have hv:D6 ({ Kind:=2,Text:=[],N:=(val g:Int),At:=0 }:Token)=Vl g:=by
       unfold Vl; rw [hpl]
       simp only [D6]
       rw [if_neg (by decide),if_pos (by decide),decide_eq_true (by omega:(val g:Int)≥0),Bool.true_and]
       show(true&&decide ((val g:Int)≤1099511627776))=_
       rw [Bool.true_and,decide_eq_decide]
       omega
      rw [hv]
      cases Vl g
      ·rfl
      ·simp only [if_true,R.ok_bind]
       rw [hgl,wr _ hle]
       rfl
     ·have hne:(Lib.decDigits (val g)==g)=false:=by
       rw [beq_eq_false_iff_ne]; intro e; rw [e] at hdd; exact hpl hdd.2.2.2.1
      rw [hne]
      have:Vl g=false:=by unfold Vl; rw [Bool.eq_false_iff.2 hpl,Bool.false_and]
      rw [this]
      rfl
  ·have hc:I0 c=2:=Aea (by rw [Alm,hle])
   rw [hc]
   simp only [show ¬ ((2:Int)=0) by decide,show ¬ ((2:Int)=1) by decide,if_false,if_true]
   unfold Nb
   rw [Afj (q:=It) (fun c=>by rw [← Ath]; simp only [List.contains_cons,List.contains_nil,Bool.or_false,Bool.or_assoc]) (by omega) hs,h,List.takeWhile_cons,Aiu hle,if_pos rfl]
   simp only [R.ok_bind]
   rw [Ahg _ _ _ _ _ hlim]
   have hv:D6 ({ Kind:=1,Text:=c::s.takeWhile It,N:=0,At:=0 }:Token)=decide ((s.takeWhile It).length+1≤32):=by
    show(E6 (c::s.takeWhile It)&&true)=_
    rw [Bool.and_true]
    exact Apx hle (Aex _ _)
   rw [hv]
   have hle':=Tk It s
   by_cases hn:(s.takeWhile It).length+1≤32
   ·simp only [hn,decide_true,if_true,R.ok_bind,List.length_cons]
    rw [wr _ hle']
    rfl
   ·simp only [hn,decide_false,Bool.false_eq_true,if_false,R.pan_bind]
 ·have hc:I0 c=1:=Aea (by rw [Ao5,hsp])
  rw [hc]
  simp only [show ¬ ((1:Int)=0) by decide,if_false,if_true]
  unfold L7
  rw [Afj (q:=Lk) (fun c=>by rw [← Ao5]; simp only [List.contains_cons,List.contains_nil,Bool.or_false]) (by omega) hs,h,List.takeWhile_cons,hsp,if_pos rfl]
  simp only [R.ok_bind,List.length_cons]
  rw [wr _ (Tk Lk s)]
def Ae0 (n:Nat)(pre:List Token):Lx→R (Int×List Token)
 | .ok l=>.ok ((n:Int),pre++l)
 | .wrong e=>.pan ⟨113,.int .i64 (e:Int)⟩
theorem Apt (src:Aw)(hs:src.length≤65536) : ∀ (n p:Nat) (pre:List Token),src.length - p≤n→p≤src.length→pre.length≤p →
  loop (C3 fun fAt l=>N7 src fAt l) ((p:Int),pre)=Ae0 src.length pre (Om (src.drop p) p):=by
 have hend : ∀ (p:Nat) (pre:List Token),src.drop p=[]→p≤src.length→loop (C3 fun fAt l=>N7 src fAt l) ((p:Int),pre)=Ae0 src.length pre (Om (src.drop p) p):=by
  intro p pre e hp
  have:src.length≤p:=by have:=congrArg List.length e; rw [List.length_drop] at this; simp at this; omega
  rw [Ve,e,Aio]
  simp only [C3]
  unfold N7
  rw [if_neg (by omega)]
  simp only [R.ok_bind,Ae0,List.append_nil]
  rw [show p=src.length by omega]
 intro n
 induction n with
 | zero=>intro p pre hn hp hl; exact hend p pre (List.drop_eq_nil_of_le (by omega)) hp
 | succ n ih=>
  intro p pre hn hp hl
  cases hd:src.drop p with
  | nil=>rw [← hd]; exact hend p pre hd hp
  | cons c s=>
   rw [Ve]
   simp only [C3]
   rw [Amf src hs p pre c s hd hl]
   have hlen:=Ais hd
   unfold Af0
   cases hsp:Lk c
   ·simp only [Bool.false_eq_true,if_false]
    rw [Yx]
    cases ht:tk c s with
    | none=>rfl
    | some x=>
     obtain⟨o,k⟩:=x
     have hk:k≤s.length:=Auw ht
     have hol:(o.map (at' p)).toList.length≤1:=by cases o <;> simp
     have:=ih (p+1+k) (pre++(o.map (at' p)).toList) (by omega) (by omega) (by rw [List.length_append]; omega)
     simp only [R.ok_bind]
     rw [← Agm hd k] at this
     refine this.trans ?_
     cases Om (s.drop k) (p+1+k) <;> simp [Ae0,Lx.add]
   ·simp only [if_true,R.ok_bind]
    have hle:=Tk Lk s
    have:=ih (p+1+(s.takeWhile Lk).length) pre (by omega) (by omega) (by omega)
    rw [← Agm hd] at this
    refine this.trans ?_
    congr 1
    have e:=Ad1 (c::s.takeWhile Lk) (s.drop (s.takeWhile Lk).length) p (by rw [List.all_cons,hsp,Aex]; rfl)
    rw [Ala,List.cons_append,List.takeWhile_append_dropWhile,List.length_cons] at e
    rw [e,Ala]
    congr 1
    omega
theorem Atg (s:Aw):Ac7 s=.ok (Jv s):=by
 unfold Ac7 Y4 Jv
 by_cases h:s.length≤65536
 ·rw [if_neg (by omega),if_pos h,show((0:Int),([]:List Token))=(((0:Nat):Int),[]) from rfl,Apt s h s.length 0 [] (by omega) (by omega) (by simp)]
  simp only [List.drop_zero]
  cases Om s 0 <;> rfl
 ·rw [if_pos (by omega),if_neg h]
  rfl
end Go.Am
namespace Go.Am
open Go
set_option linter.unusedVariables false
set_option linter.unusedSimpArgs false
abbrev PR (α:Type):=Except (List Token×Int) (α×List Token)
abbrev Rd (α:Type):=List Token→PR α
namespace Rd
variable {α β:Type}
def bind (p:Rd α)(f:α→Rd β):Rd β:=fun l=>match p l with
 | .error x=>.error x
 | .ok (a,r)=>f a r
def pure (a:α):Rd α:=fun l=>.ok (a,l)
def fail (e:Int):Rd α:=fun l=>.error (l,e)
end Rd
def Pr (q:Token→Bool):Rd Token
 | []=>.error ([],80)
 | t::r=>if q t then .ok (t,r) else .error (t::r,80)
def Sr (k:Int)(w:Aw)(t:Token):Bool:=t.Kind==k&&t.Text==w
def Zw (k:Int)(w:Aw):Rd Bool
 | []=>.ok (false,[])
 | t::r=>.ok (Sr k w t,t::r)
def Afq (lo hi st:Int)(t:Token):Bool:=t.Kind==2&&(decide (lo≤t.N)&&(decide (t.N≤hi)&&(Int.tmod t.N st==0)))
def Ob:Rd Aw:=(Pr fun t=>t.Kind==1).bind fun t=>.pure t.Text
def Oc (k:Int)(w:Aw):Rd Unit:=(Pr (Sr k w)).bind fun _=>.pure ()
def Ol (lo hi st:Int):Rd Int:=(Pr (Afq lo hi st)).bind fun t=>.pure t.N
def Qq:Rd Span:=(Ol 0 1439 1).bind fun a=>(Oc 1 [116,111]).bind fun _=>(Ol (a+1) 1440 1).bind fun b=>.pure ⟨a,b⟩
def F5 {α:Type}(p:Rd α):Nat→List α→Rd (List α)
 | n,acc=>p.bind fun a=>(Zw 3 [44]).bind fun b=>if b then(match n with
  | 0=>.fail 2
  | n+1=>(Oc 3 [44]).bind fun _=>F5 p n (acc++[a])) else .pure (acc++[a])
def Ae9 (E:Int):List Token→Int
 | []=>E
 | t::_=>t.At
def run {α:Type}(E:Int):PR α→R (α×List Token)
 | .ok x=>.ok x
 | .error (l,e)=>.pan ⟨64,.two .i64 .i64 (Ae9 E l) e⟩
theorem Ahi {α:Type}(E:Int)(x:α×List Token):run E (.ok x:PR α)=.ok x:=rfl
def Mz {α:Type}(E:Int)(k:Nat)(l:List Token)(x:R α)(p:Rd α):Prop:=(x=(run E (p l)).bind fun y=>.ok y.1) ∧ ∀ a r,p l=.ok (a,r)→r=l.drop k
section
variable {α β:Type} {E:Int} {k:Nat} {l:List Token} {p:Rd α}
theorem Kg {x:R α}{H:α→R (β×List Token)}{f:α→Rd β}(hx:Mz E k l x p)(h : ∀ a,p l=.ok (a,l.drop k)→H a=run E (f a (l.drop k))):x.bind H=run E (p.bind f l):=by
 obtain⟨rfl,h2⟩:=hx
 unfold Rd.bind
 cases hp:p l with
 | error x=>rfl
 | ok y=>
  obtain⟨a,r⟩:=y
  have:=h2 a r hp
  subst this
  exact h a hp
theorem S0 {x:R (α×List Token)}{H:α×List Token→R (β×List Token)}{f:α→Rd β}(hx:x=run E (p l))(h : ∀ a r,p l=.ok (a,r)→H (a,r)=run E (f a r)):x.bind H=run E (p.bind f l):=by
 subst hx
 unfold Rd.bind
 cases hp:p l with
 | error x=>rfl
 | ok y=>exact h _ _ hp
theorem Nd {m n:Nat}{x:R α}{H:α→R β}{f:α→Rd β}{l':List Token}(hn:n=k+m)(hl:l'=l.drop k)(hx:Mz E k l x p)(h : ∀ a,p l=.ok (a,l')→Mz E m l' (H a) (f a)):Mz E n l (x.bind H) (p.bind f):=by
 subst hl hn
 obtain⟨rfl,h2⟩:=hx
 unfold Mz Rd.bind
 cases hp:p l with
 | error x=>exact⟨rfl,fun _ _ h=>nomatch h⟩
 | ok y=>
  obtain⟨a,r⟩:=y
  have:=h2 a r hp
  subst this
  obtain⟨h3,h4⟩:=h a hp
  refine⟨h3,fun b r hr=>?_⟩
  rw [h4 b r hr,List.drop_drop]
theorem Ru (a:α):Mz E 0 l (.ok a) (Rd.pure a):=⟨rfl,fun _ _ h=>by cases h; rfl⟩
end
theorem Kw (e:Int)(l:List Token)(E:Int):Bm e l E=.pan ⟨64,.two .i64 .i64 (Ae9 E l) e⟩:=by
 unfold Bm
 cases l with
 | nil=>rfl
 | cons t l=>rw [if_pos (by simp only [List.length_cons]; omega)]; rfl
theorem Aki (r:T67)(e:Int):Mt r e=.pan ⟨64,.two .i64 .i64 (Ae9 r.fEnd r.fL) e⟩:=by
 unfold Mt
 cases h:r.fL with
 | nil=>rfl
 | cons t l=>rw [if_pos (by simp only [List.length_cons]; omega)]; rfl
theorem Z8 (kind:Int)(q:Token→Bool)(l:List Token)(E:Int)(j:R Token)(hj:j=((E3 l 0).bind fun a2=>if(0:Int)≤1∧1≤(l.length:Int) then .ok a2 else .bad))  (c:Token→R Bool)(hc : ∀ t,c t=.ok (q t)) :
  ((if((l.length:Int)==0) then R.ok true else(E3 l 0).bind fun a=>R.ok (a.Kind != kind)).bind (fun(b:Bool)=>(if b then R.ok true else(E3 l 0).bind fun a1=>(c a1).bind fun r=>R.ok (!r)).bind (fun(b1:Bool)=>if b1 then((Bm 80 l E).bind fun _=>j) else j)))
   = (run E (Pr (fun t=>t.Kind==kind&&q t) l)).bind fun y=>.ok y.1:=by
 subst hj
 cases l with
 | nil=>rfl
 | cons t l=>
  have e:E3 (t::l) 0=.ok t:=rfl
  have e0:(((t::l).length:Int)==0)=false:=by simp only [List.length_cons,beq_eq_false_iff_ne]; omega
  have e1:(0:Int)≤1∧1≤((t::l).length:Int):=by simp only [List.length_cons]; omega
  simp only [e,e0,R.ok_bind,hc,Kw,Pr,if_pos e1,Bool.false_eq_true,if_false]
  by_cases hk:t.Kind=kind
  ·have h1:(t.Kind==kind)=true:=by simp [hk]
   have h2:(t.Kind != kind)=false:=by simp [hk]
   simp only [h1,h2,Bool.false_eq_true,if_false,R.ok_bind,Bool.true_and]
   cases q t <;> rfl
  ·have h1:(t.Kind==kind)=false:=by simp [hk]
   have h2:(t.Kind != kind)=true:=by simp [hk]
   simp only [h1,h2,if_true,R.ok_bind,Bool.false_and]
   rfl
theorem Amu {q:Token→Bool}{l:List Token}{a:Token}{r:List Token}(h:Pr q l=.ok (a,r)):r=l.drop 1:=by
 cases l with
 | nil=>cases h
 | cons t l=>
  simp only [Pr] at h
  split at h
  ·cases h; rfl
  ·cases h
theorem Aci {α:Type}{E:Int}{l:List Token}{q:Token→Bool}{x:R Token}(f:Token→α)(hx:x=(run E (Pr q l)).bind fun y=>.ok y.1):Mz E 1 l (x.bind fun r=>.ok (f r)) ((Pr q).bind fun t=>.pure (f t)):=by
 subst hx
 unfold Mz Rd.bind
 cases h:Pr q l with
 | error x=>exact⟨rfl,fun _ _ h=>nomatch h⟩
 | ok y=>exact⟨rfl,fun a r h'=>by cases h'; exact Amu h⟩
theorem S6 (E:Int)(l:List Token):Mz E 1 l (Cc l E) Ob:=by
 have:=Aci (E:=E) (l:=l) (fun t=>t.Text) (Z8 1 (fun _=>true) l E _ rfl K5 (fun _=>rfl))
 simp only [Bool.and_true] at this
 exact this
theorem Nl (E:Int)(w:Aw)(l:List Token):Mz E 1 l (C8 w l E) (Oc 1 w):=
 Aci (E:=E) (l:=l) (fun _=>()) (Z8 1 (fun t=>t.Text==w) l E _ rfl (fun t=>K0 t w) (fun _=>rfl))
theorem Z6 (E:Int)(w:Aw)(l:List Token):Mz E 1 l (Ch w l E) (Oc 3 w):=
 Aci (E:=E) (l:=l) (fun _=>()) (Z8 3 (fun t=>t.Text==w) l E _ rfl (fun t=>Kz t w) (fun _=>rfl))
theorem Aup (n:Int):(Int.tmod n 1==0)=true:=by simp
theorem Of (E lo hi:Int)(l:List Token):Mz E 1 l (Dv lo hi l E) (Ol lo hi 1):=by
 have:=Aci (E:=E) (l:=l) (fun t=>t.N) (Z8 2 (fun t=>decide (lo≤t.N)&&(decide (t.N≤hi)&&(Int.tmod t.N 1==0))) l E _ rfl (fun t=>H0 t lo hi) (fun t=>by simp only [H0,Aup,Bool.and_true]))
 exact this
theorem Al6 (k:Int)(w:Aw)(l:List Token)(E:Int):F4 k w l E=.ok (match l with | []=>false | t::_=>Sr k w t):=by
 unfold F4
 cases l with
 | nil=>rfl
 | cons t l=>
  have e:E3 (t::l) 0=.ok t:=rfl
  have e0:decide (((t::l).length:Int) > 0)=true:=by simp only [List.length_cons,decide_eq_true_eq]; omega
  simp only [e,e0,R.ok_bind,if_true,Sr]
  cases t.Kind==k <;> rfl
theorem Akh {q:Token→Bool}{l:List Token}{a:Token}{r:List Token}(h:Pr q l=.ok (a,r)):l=a::r∧q a=true:=by
 cases l with
 | nil=>cases h
 | cons t l=>
  simp only [Pr] at h
  split at h
  ·rename_i hq; cases h; exact⟨rfl,hq⟩
  ·cases h
theorem Al1 {α β:Type}{p:Rd α}{f:α→Rd β}{l:List Token}{b:β}{r:List Token}(h:p.bind f l=.ok (b,r)) : ∃ a m,p l=.ok (a,m)∧f a m=.ok (b,r):=by
 unfold Rd.bind at h
 cases hp:p l with
 | error x=>rw [hp] at h; cases h
 | ok y=>rw [hp] at h; exact⟨y.1,y.2,rfl,h⟩
theorem Aqc {lo hi st:Int}{l:List Token}{a:Int}{r:List Token}(h:Ol lo hi st l=.ok (a,r)) : ∃ t,l=t::r∧t.Kind=2∧t.N=a∧lo≤a∧a≤hi∧Int.tmod a st=0:=by
 obtain⟨t,m,h1,h2⟩:=Al1 h
 cases h2
 obtain⟨rfl,hq⟩:=Akh h1
 simp only [Afq,Bool.and_eq_true,decide_eq_true_eq,beq_iff_eq] at hq
 exact⟨t,rfl,hq.1,rfl,hq.2.1,hq.2.2.1,hq.2.2.2⟩
theorem Ajj (E:Int)(l:List Token):Mz E 3 l (Il l E) Qq:=by
 refine Nd (m:=2) rfl rfl (Of E 0 1439 l) fun a ha=>?_
 refine Nd (m:=1) rfl rfl (Nl E _ _) fun _ _=>?_
 have e:IntKind.wrap .i64 (a+1)=a+1:=by
  obtain⟨t,_,_,_,h1,h2,_⟩:=Aqc ha
  exact Zp (by omega) (by omega)
 rw [e]
 exact Nd (m:=0) rfl rfl (Of E (a+1) 1440 _) fun b _=>Ru _
end Go.Am
namespace Go.Am
open Go
set_option linter.unusedVariables false
set_option linter.unusedSimpArgs false
def Ub (w:Aw):Rd (List Span):=(Zw 1 w).bind fun b=>if b then(Oc 1 w).bind fun _=>F5 Qq 15 [] else .pure []
def Wa:Rd Mode:=(Oc 1 [109,111,100,101]).bind fun _=>Ob.bind fun n=>(Ol 0 64 1).bind fun k=>.pure { Name:=n,Places:=k }
def Acj (s:Aw):Rd Volume:=(Ub [99,108,111,115,101,100]).bind fun c=>.pure { Name:=s,Closed:=c }
def Acg (s:Aw):Rd Sector:=(Oc 3 [61]).bind fun _=>(F5 Ob 63 []).bind fun ns=>(Oc 1 [114,97,100,97,114]).bind fun _=>(Ol 0 64 1).bind fun a=>
 (Oc 1 [112,114,111,99,101,100,117,114,97,108]).bind fun _=>(Ol 0 a 1).bind fun b=>.pure { Name:=s,Names:=ns,Volumes:=[],Radar:=a,Procedural:=b }
def Ab1 (s:Aw):Rd Config:=(Oc 3 [61]).bind fun _=>(F5 Ob 63 []).bind fun ns=>.pure { Name:=s,Names:=ns,Sectors:=[] }
def Ab8 (s:Aw):Rd Segment:=(Oc 1 [105,110]).bind fun _=>Ob.bind fun v=>(Oc 1 [108,101,110,103,116,104]).bind fun _=>(Ol 1 4096 1).bind fun k=>
 (Ub [111,112,101,110]).bind fun o=>.pure { Name:=s,In:=v,Volume:=0,Length:=k,Open:=o }
def Abt (s:Aw):Rd Route:=(Oc 1 [102,114,111,109]).bind fun _=>Ob.bind fun a=>(Oc 1 [116,111]).bind fun _=>Ob.bind fun b=>(Oc 1 [118,105,97]).bind fun _=>
 (F5 Ob 7 []).bind fun ns=>.pure { Name:=s,A:=a,B:=b,From:=0,To:=0,Names:=ns,Segments:=[] }
def Ab5 (s:Aw):Rd Airport:=(F5 Wa 15 []).bind fun ms=>.pure { Name:=s,Modes:=ms }
def Abl (s:Aw):Rd Class:=(Oc 1 [115,108,111,119]).bind fun _=>(Ol 1 64 1).bind fun a=>(Oc 1 [102,97,115,116]).bind fun _=>(Ol a 64 1).bind fun b=>
 (Oc 1 [112,108,97,99,101,115]).bind fun _=>(Ol 1 8 1).bind fun c=>.pure { Name:=s,Slow:=a,Fast:=b,Places:=c }
def Fe (k:Int)(c a:Aw)(n:Int)(h:Span):Rule:={ Kind:=k,C:=c,A:=a,Class:=0,Airport:=0,N:=n,Hours:=h }
def Adp (s:Aw):Rd Rule:=(Oc 1 [97,116]).bind fun _=>Ob.bind fun a=>Qq.bind fun h=>.pure (Fe 1 s a 0 h)
def Adq (s:Aw):Rd Rule:=.pure (Fe 2 s [] 0 ⟨0,0⟩)
def Adz (s:Aw):Rd Rule:=(Ol 1 8 1).bind fun n=>.pure (Fe 3 s [] n ⟨0,0⟩)
def Ace (s:Aw):Rd Rule:=(Ol 0 60 10).bind fun n=>.pure (Fe 4 s [] n ⟨0,0⟩)
def Fl {α:Type}(p:Aw→Rd α):Rd α:=Ob.bind fun n=>(p n).bind fun x=>(Oc 3 [59]).bind fun _=>.pure x
section
variable {α:Type} {E:Int}
theorem Abj {k sz most:Nat}{G:List Token→R α}{p:Rd α}(hG : ∀ l,Mz E k l (G l) p){b:List Token×List α→R ((List Token×List α) ⊕ (List α×List Token))}
  (hb : ∀ fL l1,b (fL,l1)=(G fL).bind fun r=>if(l1.length+1) * sz≤Em then(F4 3 [44] (fL.drop k) E).bind fun r1=>if r1 then(if(((l1++[r]).length:Int)==most) then .pan ⟨64,.two .i64 .i64 (Ae9 E (fL.drop k)) 2⟩ else(Ch [44] (fL.drop k) E).bind fun _=>.ok (.inl ((fL.drop k).drop 1,l1++[r]))) else .ok (.inr (l1++[r],fL.drop k)) else .bad)
  (hs:most * sz≤Em) : ∀ (n:Nat) (l:List Token) (acc:List α),acc.length+n+1=most→loop b (l,acc)=run E (F5 p n acc l):=by
 intro n
 induction n with
 | zero=>
  intro l acc hn
  rw [Ve,hb,F5]
  obtain⟨h1,h2⟩:=hG l
  rw [h1]
  unfold Rd.bind
  cases hp:p l with
  | error x=>rfl
  | ok y=>
   obtain⟨a,r⟩:=y
   have:=h2 a r hp; subst this
   have e1:(acc.length+1) * sz≤Em:=Nat.le_trans (Nat.mul_le_mul_right _ (by omega)) hs
   have e2:(((acc++[a]).length:Int)==most)=true:=by simp; omega
   simp only [Ahi,R.ok_bind,if_pos e1,Al6,e2,if_true]
   cases l.drop k with
   | nil=>rfl
   | cons t r=>
    cases h:Sr 3 [44] t <;> simp only [Zw,h,Bool.false_eq_true,if_false,if_true,R.ok_bind,R.pan_bind] <;> rfl
 | succ n ih=>
  intro l acc hn
  rw [Ve,hb,F5]
  obtain⟨h1,h2⟩:=hG l
  rw [h1]
  unfold Rd.bind
  cases hp:p l with
  | error x=>rfl
  | ok y=>
   obtain⟨a,r⟩:=y
   have:=h2 a r hp; subst this
   have e1:(acc.length+1) * sz≤Em:=Nat.le_trans (Nat.mul_le_mul_right _ (by omega)) hs
   have e2:(((acc++[a]).length:Int)==most)=false:=by simp; omega
   simp only [Ahi,R.ok_bind,if_pos e1,Al6,e2,Bool.false_eq_true,if_false]
   have e3:=(Z6 E [44] (l.drop k)).1
   cases hd:l.drop k with
   | nil=>rfl
   | cons t r=>
    cases h:Sr 3 [44] t
    ·simp only [Zw,h,Bool.false_eq_true,if_false,R.ok_bind]; rfl
    ·rw [hd] at e3
     have e4:Oc 3 [44] (t::r)=.ok ((),r):=by simp only [Oc,Rd.bind,Pr,h,if_true]; rfl
     simp only [Zw,h,if_true,e3,e4,Ahi,R.ok_bind,List.drop_one,List.tail_cons]
     exact ih r (acc++[a]) (by simp; omega)
end
theorem Aho (E:Int)(l:List Token)(v:List Volume):Fp 16 l E v=run E (F5 Qq 15 [] l):=by
 unfold Fp
 rw [Abj (k:=3) (sz:=16) (most:=16) (G:=fun l=>Il l E) (p:=Qq) (Ajj E) (fun fL l1=>?_) (by decide) 15 l [] rfl,R.bind_ok]
 simp only [C3,G2,G1,Kw,R.pan_bind,List.length_singleton,List.drop_drop]
 all_goals rfl
theorem Ar7 (E:Int)(l:List Token):Mz E 3 l (Gg l E) Wa:=
 Nd (m:=2) rfl rfl (Nl E _ l) fun _ _=>Nd (m:=1) rfl rfl (S6 E _) fun _ _=>Nd (m:=0) rfl rfl (Of E 0 64 _) fun _ _=>Ru _
theorem Ajv (E:Int)(l:List Token)(v:List Volume):Hx 16 l E v=run E (F5 Wa 15 [] l):=by
 unfold Hx
 rw [Abj (k:=3) (sz:=24) (most:=16) (G:=fun l=>Gg l E) (p:=Wa) (Ar7 E) (fun fL l1=>?_) (by decide) 15 l [] rfl,R.bind_ok]
 simp only [C3,Ie,Ia,Kw,R.pan_bind,List.length_singleton,List.drop_drop]
 all_goals rfl
theorem Zb (E:Int)(m:Nat)(hm:(m+1) * 16≤Em)(l:List Token)(v:List Volume):Eo ((m+1:Nat):Int) l E v=run E (F5 Ob m [] l):=by
 unfold Eo
 rw [Abj (k:=1) (sz:=16) (most:=m+1) (G:=fun l=>Cc l E) (p:=Ob) (S6 E) (fun fL l1=>?_) hm m l [] (by simp),R.bind_ok]
 simp only [C3,Gu,Gv,Kw,R.pan_bind,List.length_singleton,List.drop_drop]
 all_goals rfl
end Go.Am
namespace Go.Am
open Go
set_option linter.unusedVariables false
set_option linter.unusedSimpArgs false
def Vj (w:Aw)(A:Airspace):Option (Bool×Rd Airspace):=
 if w==[97,105,114,112,111,114,116] then some (decide (16≤A.Airports.length),(Fl Ab5).bind fun x=>.pure { A with Airports:=A.Airports++[x] }) else
 if w==[99,108,97,115,115] then some (decide (8≤A.Classes.length),(Fl Abl).bind fun x=>.pure { A with Classes:=A.Classes++[x] }) else
 if w==[99,111,110,102,105,103] then some (decide (32≤A.Configs.length),(Fl Ab1).bind fun x=>.pure { A with Configs:=A.Configs++[x] }) else
 if w==[99,117,114,102,101,119] then some (decide (64≤A.Rules.length),(Fl Adp).bind fun x=>.pure { A with Rules:=A.Rules++[x] }) else
 if w==[101,120,101,109,112,116] then some (decide (64≤A.Rules.length),(Fl Adq).bind fun x=>.pure { A with Rules:=A.Rules++[x] }) else
 if w==[108,111,110,103,101,115,116] then some (decide (64≤A.Rules.length),(Fl Ace).bind fun x=>.pure { A with Rules:=A.Rules++[x] }) else
 if w==[114,111,117,116,101] then some (decide (64≤A.Routes.length),(Fl Abt).bind fun x=>.pure { A with Routes:=A.Routes++[x] }) else
 if w==[115,101,99,116,111,114] then some (decide (64≤A.Sectors.length),(Fl Acg).bind fun x=>.pure { A with Sectors:=A.Sectors++[x] }) else
 if w==[115,101,103,109,101,110,116] then some (decide (128≤A.Segments.length),(Fl Ab8).bind fun x=>.pure { A with Segments:=A.Segments++[x] }) else
 if w==[118,111,108,117,109,101] then some (decide (64≤A.Volumes.length),(Fl Acj).bind fun x=>.pure { A with Volumes:=A.Volumes++[x] }) else
 if w==[119,101,105,103,104,116] then some (decide (64≤A.Rules.length),(Fl Adz).bind fun x=>.pure { A with Rules:=A.Rules++[x] }) else
 none
def Po (A:Airspace):Rd Airspace
 | []=>.error ([],80)
 | t::r=>if t.Kind==1 then(match Vj t.Text A with
  | none=>.error (t::r,80)
  | some (f,p)=>if f then .error (t::r,2) else p r) else .error (t::r,80)
theorem Aiw (w:Aw)(E:Int)(l:List Token)(v:List Volume):Hg w l E v=run E (Ub w l):=by
 unfold Hg Ub
 rw [Al6]
 cases l with
 | nil=>rfl
 | cons t r=>
  show(if Sr 1 w t=true then _ else _)=run E ((if Sr 1 w t=true then(Oc 1 w).bind fun _=>F5 Qq 15 [] else .pure []) (t::r))
  split
  ·refine Kg (Nl E w _) fun _ _=>?_
   rw [show(Fp 16 (List.drop 1 (t::r)) E v)=run E (F5 Qq 15 [] (List.drop 1 (t::r))) from Aho E _ v]
   cases F5 Qq 15 [] (List.drop 1 (t::r)) <;> rfl
  ·rfl
theorem Atz (s:Aw)(E:Int)(l:List Token)(v:List Volume):Fo s l E v=run E (Acj s l):=by
 unfold Fo Acj
 exact S0 (Aiw _ E l v) fun a r _=>rfl
theorem At9 (s:Aw)(E:Int)(l:List Token)(v:List Volume):Ft s l E v=run E (Acg s l):=by
 unfold Ft Acg
 refine Kg (Z6 E _ l) fun _ _=>S0 (Zb E 63 (by decide) _ v) fun ns r _=>?_
 exact Kg (Nl E _ r) fun _ _=>Kg (Of E 0 64 _) fun a _=>Kg (Nl E _ _) fun _ _=>Kg (Of E 0 a _) fun b _=>rfl
theorem Atb (s:Aw)(E:Int)(l:List Token)(v:List Volume):Fr s l E v=run E (Ab1 s l):=by
 unfold Fr Ab1
 exact Kg (Z6 E _ l) fun _ _=>S0 (Zb E 63 (by decide) _ v) fun ns r _=>rfl
theorem Ash (s:Aw)(E:Int)(l:List Token)(v:List Volume):Fs s l E v=run E (Ab8 s l):=by
 unfold Fs Ab8
 refine Kg (Nl E _ l) fun _ _=>Kg (S6 E _) fun a _=>Kg (Nl E _ _) fun _ _=>Kg (Of E 1 4096 _) fun b _=>?_
 exact S0 (Aiw _ E _ v) fun o r _=>rfl
theorem As8 (s:Aw)(E:Int)(l:List Token)(v:List Volume):Fi s l E v=run E (Abt s l):=by
 unfold Fi Abt
 refine Kg (Nl E _ l) fun _ _=>Kg (S6 E _) fun a _=>Kg (Nl E _ _) fun _ _=>Kg (S6 E _) fun b _=>Kg (Nl E _ _) fun _ _=>?_
 exact S0 (Zb E 7 (by decide) _ v) fun o r _=>rfl
theorem Aso (s:Aw)(E:Int)(l:List Token)(v:List Volume):Fk s l E v=run E (Ab5 s l):=by
 unfold Fk Ab5
 exact S0 (Ajv E l v) fun ms r _=>rfl
theorem Amr (s:Aw)(E:Int)(l:List Token):Mz E 6 l (F9 s l E) (Abl s):=
 Nd (m:=5) rfl rfl (Nl E _ l) fun _ _=>Nd (m:=4) rfl rfl (Of E 1 64 _) fun a _=>Nd (m:=3) rfl rfl (Nl E _ _) fun _ _=>Nd (m:=2) rfl rfl (Of E a 64 _) fun b _=>
  Nd (m:=1) rfl rfl (Nl E _ _) fun _ _=>Nd (m:=0) rfl rfl (Of E 1 8 _) fun b _=>Ru _
theorem Afo {α:Type}{E:Int}{k:Nat}{l:List Token}{x:R α}{p:Rd α}(h:Mz E k l x p):Mz E k l (x.bind fun r=>.ok r) p:=by rw [R.bind_ok]; exact h
theorem Ams (s:Aw)(E:Int)(l:List Token):Mz E 5 l (Gs s 1 l E) (Adp s):=
 Afo<|Nd (m:=4) rfl rfl (Nl E _ l) fun _ _=>Nd (m:=3) rfl rfl (S6 E _) fun a _=>Nd (m:=0) rfl rfl (Ajj E _) fun h _=>Ru _
theorem Amq (s:Aw)(E:Int)(l:List Token):Mz E 1 l (Gq s 3 l E) (Adz s):=
 Afo<|Nd (m:=0) rfl rfl (Of E 1 8 l) fun _ _=>Ru _
theorem Amo (s:Aw)(E:Int)(l:List Token)(hl : ∀ t ∈ l,0≤t.N):Mz E 1 l (Gn s 4 l E) (Ace s):=by
 have hn:Mz E 1 l ((Hz 2 l E).bind fun r=>.ok r.N) (Ol 0 60 10):=by
  have h:=Aci (E:=E) (l:=l) (fun t=>t.N) (Z8 2 (fun t=>decide (t.N≤60)&&(Int.tmod t.N 10==0)) l E _ rfl Hm (fun _=>rfl))
  have e:((Pr fun t=>t.Kind==2&&(decide (t.N≤60)&&(Int.tmod t.N 10==0))).bind fun t=>Rd.pure t.N) l=Ol 0 60 10 l:=by
   unfold Ol Rd.bind
   cases l with
   | nil=>rfl
   | cons t l=>
    have h0:decide (0≤t.N)=true:=decide_eq_true (hl t (List.mem_cons_self ..))
    simp only [Pr,Afq,h0,Bool.true_and]
  unfold Mz at h ⊢
  rw [e] at h
  exact h
 have:Mz E (1+0) l (((Hz 2 l E).bind fun r=>.ok r.N).bind fun n=>.ok (Fe 4 s [] n ⟨0,0⟩)) (Ace s):=Nd rfl rfl hn fun _ _=>Ru _
 rw [R.bind_assoc] at this
 exact Afo this
section
variable {α β:Type} {E:Int}
theorem Xu {item:Aw→List Token→R (α×List Token)}{p:Aw→Rd α}(hi : ∀ s l,item s l=run E (p s l))(acc:List α)(sz:Nat)(h:(acc.length+1) * sz≤Em)(l:List Token) :
  ((Cc l E).bind fun r1=>(item r1 (l.drop 1)).bind fun r2=>(Ch [59] r2.2 E).bind fun _=>if(acc.length+[r2.1].length) * sz≤Em then R.ok ((r2.2.drop 1),acc++[r2.1]) else .bad)=(run E (Fl p l)).bind fun x=>.ok (x.2,acc++[x.1]):=by
 have e:((Cc l E).bind fun r1=>(item r1 (l.drop 1)).bind fun r2=>(Ch [59] r2.2 E).bind fun _=>R.ok (r2.1,r2.2.drop 1))=run E (Fl p l):=
  Kg (S6 E l) fun a _=>S0 (hi a _) fun x r _=>Kg (Z6 E _ r) fun _ _=>rfl
 rw [← e]
 simp only [R.bind_assoc,R.ok_bind,List.length_singleton,if_pos h]
theorem Sm {k:Nat}{item:Aw→R α}{p:Aw→Rd α}(acc:List α)(sz:Nat)(h:(acc.length+1) * sz≤Em)(l:List Token)(hi : ∀ s,Mz E k (l.drop 1) (item s) (p s)) :
  ((Cc l E).bind fun r1=>(item r1).bind fun r2=>(Ch [59] ((l.drop 1).drop k) E).bind fun _=>if(acc.length+[r2].length) * sz≤Em then R.ok (acc++[r2]) else .bad)=((run E (Fl p l)).bind fun x=>.ok (acc++[x.1])) ∧ ∀ x r,Fl p l=.ok (x,r)→r=l.drop (k+2):=by
 have e:Mz E (k+2) l ((Cc l E).bind fun r1=>(item r1).bind fun r2=>(Ch [59] ((l.drop 1).drop k) E).bind fun _=>R.ok r2) (Fl p):=
  Nd (m:=k+1) (by omega) rfl (S6 E l) fun a _=>Nd (m:=1) rfl rfl (hi a) fun x _=>Nd (m:=0) rfl rfl (Z6 E _ _) fun _ _=>Ru _
 refine⟨?_,e.2⟩
 have e1:=congrArg (fun z=>R.bind z fun x=>R.ok (acc++[x])) e.1
 simp only [R.bind_assoc,R.ok_bind] at e1
 rw [← e1]
 simp only [List.length_singleton,if_pos h]
end
end Go.Am
namespace Go.Am
open Go
set_option linter.unusedVariables false
set_option linter.unusedSimpArgs false
theorem Arg (E:Int)(t:Token)(r:List Token)(v:List Volume)(acc:List Airport)(h:acc.length≤16):Jx (t::r) E v acc=if 16≤acc.length then .pan ⟨64,.two .i64 .i64 t.At 2⟩ else(run E (Fl Ab5 r)).bind fun x=>.ok (x.2,acc++[x.1]):=by
 show(H2 16 (t::r) E v acc).bind (fun r=>.ok r)=_
 rw [R.bind_ok]
 unfold H2 Ib
 by_cases hf:16≤acc.length
 ·have e:((acc.length:Int)==16)=true:=by rw [beq_iff_eq]; omega
  rw [if_pos hf]
  simp only [e,if_true,Kw,R.pan_bind]
  rfl
 ·have e:((acc.length:Int)==16)=false:=by rw [beq_eq_false_iff_ne]; omega
  have e1:(0:Int)≤1∧1≤((t::r).length:Int):=by simp only [List.length_cons]; omega
  rw [if_neg hf]
  simp only [e,Bool.false_eq_true,if_false,if_pos e1]
  exact Xu (E:=E) (item:=fun s l=>Fk s l E v) (fun s l=>Aso s E l v) acc 40 (by unfold Em; omega) r
theorem Aq8 (E:Int)(t:Token)(r:List Token)(acc:List Class)(h:acc.length≤8):J5 (t::r) E acc=if 8≤acc.length then .pan ⟨64,.two .i64 .i64 t.At 2⟩ else(run E (Fl Abl r)).bind fun x=>.ok (acc++[x.1]):=by
 show(Iz 8 (t::r) E acc).bind (fun r=>.ok r)=_
 rw [R.bind_ok]
 unfold Iz Jd
 by_cases hf:8≤acc.length
 ·have e:((acc.length:Int)==8)=true:=by rw [beq_iff_eq]; omega
  rw [if_pos hf]
  simp only [e,if_true,Kw,R.pan_bind]
  rfl
 ·have e:((acc.length:Int)==8)=false:=by rw [beq_eq_false_iff_ne]; omega
  have e1:(0:Int)≤1∧1≤((t::r).length:Int):=by simp only [List.length_cons]; omega
  rw [if_neg hf]
  simp only [e,Bool.false_eq_true,if_false,if_pos e1]
  have q:=(Sm (E:=E) (k:=6) (item:=fun s=>F9 s (r.drop 1) E) acc 40 (by unfold Em; omega) r (fun s=>Amr s E _)).1
  have ee:Int.toNat 1=1:=rfl
  simp only [ee,List.drop_drop,Nat.reduceAdd] at q ⊢
  exact q
theorem Aqx (E:Int)(t:Token)(r:List Token)(v:List Volume)(acc:List Config)(h:acc.length≤32):Jy (t::r) E v acc=if 32≤acc.length then .pan ⟨64,.two .i64 .i64 t.At 2⟩ else(run E (Fl Ab1 r)).bind fun x=>.ok (x.2,acc++[x.1]):=by
 show(Ih 32 (t::r) E v acc).bind (fun r=>.ok r)=_
 rw [R.bind_ok]
 unfold Ih Iy
 by_cases hf:32≤acc.length
 ·have e:((acc.length:Int)==32)=true:=by rw [beq_iff_eq]; omega
  rw [if_pos hf]
  simp only [e,if_true,Kw,R.pan_bind]
  rfl
 ·have e:((acc.length:Int)==32)=false:=by rw [beq_eq_false_iff_ne]; omega
  have e1:(0:Int)≤1∧1≤((t::r).length:Int):=by simp only [List.length_cons]; omega
  rw [if_neg hf]
  simp only [e,Bool.false_eq_true,if_false,if_pos e1]
  exact Xu (E:=E) (item:=fun s l=>Fr s l E v) (fun s l=>Atb s E l v) acc 64 (by unfold Em; omega) r
theorem Ar8 (E:Int)(t:Token)(r:List Token)(acc:List Rule)(h:acc.length≤64):J6 (t::r) E acc=if 64≤acc.length then .pan ⟨64,.two .i64 .i64 t.At 2⟩ else(run E (Fl Adp r)).bind fun x=>.ok (acc++[x.1]):=by
 show((Ji 64 (t::r) E acc 1).bind (fun r=>.ok r)).bind (fun r=>.ok r)=_
 rw [R.bind_ok,R.bind_ok]
 unfold Ji Js
 by_cases hf:64≤acc.length
 ·have e:((acc.length:Int)==64)=true:=by rw [beq_iff_eq]; omega
  rw [if_pos hf]
  simp only [e,if_true,Kw,R.pan_bind]
  rfl
 ·have e:((acc.length:Int)==64)=false:=by rw [beq_eq_false_iff_ne]; omega
  have e1:(0:Int)≤1∧1≤((t::r).length:Int):=by simp only [List.length_cons]; omega
  rw [if_neg hf]
  simp only [e,Bool.false_eq_true,if_false,if_pos e1]
  have q:=(Sm (E:=E) (k:=5) (item:=fun s=>Gs s 1 (r.drop 1) E) acc 80 (by unfold Em; omega) r (fun s=>Ams s E _)).1
  have ee:Int.toNat 1=1:=rfl
  simp only [ee,List.drop_drop,Nat.reduceAdd] at q ⊢
  exact q
theorem Aqg (E:Int)(t:Token)(r:List Token)(acc:List Rule)(h:acc.length≤64):Jw (t::r) E acc=if 64≤acc.length then .pan ⟨64,.two .i64 .i64 t.At 2⟩ else(run E (Fl Adq r)).bind fun x=>.ok (acc++[x.1]):=by
 show((Jm 64 (t::r) E acc 2).bind (fun r=>.ok r)).bind (fun r=>.ok r)=_
 rw [R.bind_ok,R.bind_ok]
 unfold Jm J4
 by_cases hf:64≤acc.length
 ·have e:((acc.length:Int)==64)=true:=by rw [beq_iff_eq]; omega
  rw [if_pos hf]
  simp only [e,if_true,Kw,R.pan_bind]
  rfl
 ·have e:((acc.length:Int)==64)=false:=by rw [beq_eq_false_iff_ne]; omega
  have e1:(0:Int)≤1∧1≤((t::r).length:Int):=by simp only [List.length_cons]; omega
  rw [if_neg hf]
  simp only [e,Bool.false_eq_true,if_false,if_pos e1]
  exact(Sm (E:=E) (k:=0) (item:=fun s=>(Hy s 2).bind fun _=>.ok (Fe 2 s [] 0 ⟨0,0⟩)) acc 80 (by unfold Em; omega) r (fun s=>Ru _)).1
theorem Aqs (E:Int)(t:Token)(r:List Token)(hl : ∀ x ∈ r,0≤x.N)(acc:List Rule)(h:acc.length≤64):Jb (t::r) E acc=if 64≤acc.length then .pan ⟨64,.two .i64 .i64 t.At 2⟩ else(run E (Fl Ace r)).bind fun x=>.ok (acc++[x.1]):=by
 show((Jq 64 (t::r) E acc 4).bind (fun r=>.ok r)).bind (fun r=>.ok r)=_
 rw [R.bind_ok,R.bind_ok]
 unfold Jq Ju
 by_cases hf:64≤acc.length
 ·have e:((acc.length:Int)==64)=true:=by rw [beq_iff_eq]; omega
  rw [if_pos hf]
  simp only [e,if_true,Kw,R.pan_bind]
  rfl
 ·have e:((acc.length:Int)==64)=false:=by rw [beq_eq_false_iff_ne]; omega
  have e1:(0:Int)≤1∧1≤((t::r).length:Int):=by simp only [List.length_cons]; omega
  rw [if_neg hf]
  simp only [e,Bool.false_eq_true,if_false,if_pos e1]
  have q:=(Sm (E:=E) (k:=1) (item:=fun s=>Gn s 4 (r.drop 1) E) acc 80 (by unfold Em; omega) r (fun s=>Amo s E _ (fun x hx=>hl x (List.mem_of_mem_drop hx)))).1
  have ee:Int.toNat 1=1:=rfl
  simp only [ee,List.drop_drop,Nat.reduceAdd] at q ⊢
  exact q
theorem Arv (E:Int)(t:Token)(r:List Token)(v:List Volume)(acc:List Route)(h:acc.length≤64):J0 (t::r) E v acc=if 64≤acc.length then .pan ⟨64,.two .i64 .i64 t.At 2⟩ else(run E (Fl Abt r)).bind fun x=>.ok (x.2,acc++[x.1]):=by
 show(I1 64 (t::r) E v acc).bind (fun r=>.ok r)=_
 rw [R.bind_ok]
 unfold I1 I5
 by_cases hf:64≤acc.length
 ·have e:((acc.length:Int)==64)=true:=by rw [beq_iff_eq]; omega
  rw [if_pos hf]
  simp only [e,if_true,Kw,R.pan_bind]
  rfl
 ·have e:((acc.length:Int)==64)=false:=by rw [beq_eq_false_iff_ne]; omega
  have e1:(0:Int)≤1∧1≤((t::r).length:Int):=by simp only [List.length_cons]; omega
  rw [if_neg hf]
  simp only [e,Bool.false_eq_true,if_false,if_pos e1]
  exact Xu (E:=E) (item:=fun s l=>Fi s l E v) (fun s l=>As8 s E l v) acc 112 (by unfold Em; omega) r
theorem Asa (E:Int)(t:Token)(r:List Token)(v:List Volume)(acc:List Sector)(h:acc.length≤64):Jt (t::r) E v acc=if 64≤acc.length then .pan ⟨64,.two .i64 .i64 t.At 2⟩ else(run E (Fl Acg r)).bind fun x=>.ok (x.2,acc++[x.1]):=by
 show(Ig 64 (t::r) E v acc).bind (fun r=>.ok r)=_
 rw [R.bind_ok]
 unfold Ig Ir
 by_cases hf:64≤acc.length
 ·have e:((acc.length:Int)==64)=true:=by rw [beq_iff_eq]; omega
  rw [if_pos hf]
  simp only [e,if_true,Kw,R.pan_bind]
  rfl
 ·have e:((acc.length:Int)==64)=false:=by rw [beq_eq_false_iff_ne]; omega
  have e1:(0:Int)≤1∧1≤((t::r).length:Int):=by simp only [List.length_cons]; omega
  rw [if_neg hf]
  simp only [e,Bool.false_eq_true,if_false,if_pos e1]
  exact Xu (E:=E) (item:=fun s l=>Ft s l E v) (fun s l=>At9 s E l v) acc 80 (by unfold Em; omega) r
theorem Arp (E:Int)(t:Token)(r:List Token)(v:List Volume)(acc:List Segment)(h:acc.length≤128):J1 (t::r) E v acc=if 128≤acc.length then .pan ⟨64,.two .i64 .i64 t.At 2⟩ else(run E (Fl Ab8 r)).bind fun x=>.ok (x.2,acc++[x.1]):=by
 show(H1 128 (t::r) E v acc).bind (fun r=>.ok r)=_
 rw [R.bind_ok]
 unfold H1 H7
 by_cases hf:128≤acc.length
 ·have e:((acc.length:Int)==128)=true:=by rw [beq_iff_eq]; omega
  rw [if_pos hf]
  simp only [e,if_true,Kw,R.pan_bind]
  rfl
 ·have e:((acc.length:Int)==128)=false:=by rw [beq_eq_false_iff_ne]; omega
  have e1:(0:Int)≤1∧1≤((t::r).length:Int):=by simp only [List.length_cons]; omega
  rw [if_neg hf]
  simp only [e,Bool.false_eq_true,if_false,if_pos e1]
  exact Xu (E:=E) (item:=fun s l=>Fs s l E v) (fun s l=>Ash s E l v) acc 72 (by unfold Em; omega) r
theorem Asb (E:Int)(t:Token)(r:List Token)(acc:List Volume)(h:acc.length≤64):Jz (t::r) E acc=if 64≤acc.length then .pan ⟨64,.two .i64 .i64 t.At 2⟩ else(run E (Fl Acj r)).bind fun x=>.ok (x.2,acc++[x.1]):=by
 show(Ij 64 (t::r) E acc).bind (fun r=>.ok r)=_
 rw [R.bind_ok]
 unfold Ij Ix
 by_cases hf:64≤acc.length
 ·have e:((acc.length:Int)==64)=true:=by rw [beq_iff_eq]; omega
  rw [if_pos hf]
  simp only [e,if_true,Kw,R.pan_bind]
  rfl
 ·have e:((acc.length:Int)==64)=false:=by rw [beq_eq_false_iff_ne]; omega
  have e1:(0:Int)≤1∧1≤((t::r).length:Int):=by simp only [List.length_cons]; omega
  rw [if_neg hf]
  simp only [e,Bool.false_eq_true,if_false,if_pos e1]
  exact Xu (E:=E) (item:=fun s l=>Fo s l E acc) (fun s l=>Atz s E l acc) acc 40 (by unfold Em; omega) r
theorem Arj (E:Int)(t:Token)(r:List Token)(acc:List Rule)(h:acc.length≤64):I6 (t::r) E acc=if 64≤acc.length then .pan ⟨64,.two .i64 .i64 t.At 2⟩ else(run E (Fl Adz r)).bind fun x=>.ok (acc++[x.1]):=by
 show((Jg 64 (t::r) E acc 3).bind (fun r=>.ok r)).bind (fun r=>.ok r)=_
 rw [R.bind_ok,R.bind_ok]
 unfold Jg J2
 by_cases hf:64≤acc.length
 ·have e:((acc.length:Int)==64)=true:=by rw [beq_iff_eq]; omega
  rw [if_pos hf]
  simp only [e,if_true,Kw,R.pan_bind]
  rfl
 ·have e:((acc.length:Int)==64)=false:=by rw [beq_eq_false_iff_ne]; omega
  have e1:(0:Int)≤1∧1≤((t::r).length:Int):=by simp only [List.length_cons]; omega
  rw [if_neg hf]
  simp only [e,Bool.false_eq_true,if_false,if_pos e1]
  have q:=(Sm (E:=E) (k:=1) (item:=fun s=>Gq s 3 (r.drop 1) E) acc 80 (by unfold Em; omega) r (fun s=>Amq s E _)).1
  have ee:Int.toNat 1=1:=rfl
  simp only [ee,List.drop_drop,Nat.reduceAdd] at q ⊢
  exact q
end Go.Am
namespace Go.Am
open Go
set_option linter.unusedVariables false
set_option linter.unusedSimpArgs false
def tup (x:Airspace×List Token):List Token×List Volume×List Sector×List Config×List Segment×List Route×List Airport×List Class×List Rule:=
 (x.2,x.1.Volumes,x.1.Sectors,x.1.Configs,x.1.Segments,x.1.Routes,x.1.Airports,x.1.Classes,x.1.Rules)
def Zf (A:Airspace):Prop:=A.Volumes.length≤64∧A.Sectors.length≤64∧A.Configs.length≤32∧A.Segments.length≤128∧A.Routes.length≤64∧A.Airports.length≤16∧A.Classes.length≤8∧A.Rules.length≤64
section
variable {α β:Type} {E:Int} {t:Token} {r:List Token} {acc:List α} {c:Prop} [Decidable c] {p:Aw→Rd α} {upd:α→Airspace}
theorem Uy {x:R (List Token×List α)}{F:List Token×List α→R (List Token×List Volume×List Sector×List Config×List Segment×List Route×List Airport×List Class×List Rule)}
  (hx:x=if c then .pan ⟨64,.two .i64 .i64 t.At 2⟩ else(run E (Fl p r)).bind fun y=>.ok (y.2,acc++[y.1])) (hF : ∀ y l,F (l,acc++[y])=.ok (tup (upd y,l))) :
  x.bind F=(run E (if decide c=true then .error (t::r,2) else((Fl p).bind fun y=>.pure (upd y)) r)).bind fun z=>.ok (tup z):=by
 subst hx
 by_cases hc:c
 ·rw [if_pos hc,if_pos (decide_eq_true hc)]; rfl
 ·rw [if_neg hc,if_neg (by simpa using hc)]
  unfold Rd.bind
  cases Fl p r with
  | error e=>rfl
  | ok y=>exact hF _ _
theorem Z3 {m:Nat}{x:R (List α)}{F:List α→R (List Token×List Volume×List Sector×List Config×List Segment×List Route×List Airport×List Class×List Rule)}
  (hx:x=if c then .pan ⟨64,.two .i64 .i64 t.At 2⟩ else(run E (Fl p r)).bind fun y=>.ok (acc++[y.1])) (hr : ∀ y q,Fl p r=.ok (y,q)→q=r.drop m) (hF : ∀ y,F (acc++[y])=.ok (tup (upd y,r.drop m))) :
  x.bind F=(run E (if decide c=true then .error (t::r,2) else((Fl p).bind fun y=>.pure (upd y)) r)).bind fun z=>.ok (tup z):=by
 subst hx
 by_cases hc:c
 ·rw [if_pos hc,if_pos (decide_eq_true hc)]; rfl
 ·rw [if_neg hc,if_neg (by simpa using hc)]
  unfold Rd.bind
  cases h:Fl p r with
  | error e=>rfl
  | ok y=>
   obtain⟨y,q⟩:=y
   have:=hr y q h
   subst this
   exact hF _
end
theorem Aoa (r:List Token) : ∀ x q,Fl Abl r=.ok (x,q)→q=r.drop 8:=
 (Sm (E:=0) (k:=6) (item:=fun s=>F9 s (r.drop 1) 0) ([]:List Class) 80 (by decide) r (fun s=>Amr s 0 _)).2
theorem Apk (r:List Token) : ∀ x q,Fl Adp r=.ok (x,q)→q=r.drop 7:=
 (Sm (E:=0) (k:=5) (item:=fun s=>Gs s 1 (r.drop 1) 0) ([]:List Rule) 80 (by decide) r (fun s=>Ams s 0 _)).2
theorem Aoi (r:List Token) : ∀ x q,Fl Adq r=.ok (x,q)→q=r.drop 2:=
 (Sm (E:=0) (k:=0) (item:=fun s=>(Hy s 2).bind fun _=>.ok (Fe 2 s [] 0 ⟨0,0⟩)) ([]:List Rule) 80 (by decide) r (fun s=>Ru _)).2
theorem Aob (r:List Token)(hl : ∀ x ∈ r,0≤x.N) : ∀ x q,Fl Ace r=.ok (x,q)→q=r.drop 3:=
 (Sm (E:=0) (k:=1) (item:=fun s=>Gn s 4 (r.drop 1) 0) ([]:List Rule) 80 (by decide) r (fun s=>Amo s 0 _ (fun x hx=>hl x (List.mem_of_mem_drop hx)))).2
theorem Aok (r:List Token) : ∀ x q,Fl Adz r=.ok (x,q)→q=r.drop 3:=
 (Sm (E:=0) (k:=1) (item:=fun s=>Gq s 3 (r.drop 1) 0) ([]:List Rule) 80 (by decide) r (fun s=>Amq s 0 _)).2
theorem Aqz (E:Int)(A:Airspace)(hA:Zf A)(t:Token)(r:List Token)(hl : ∀ x ∈ r,0≤x.N):Gf (t::r) E A.Volumes A.Sectors A.Configs A.Segments A.Routes A.Airports A.Classes A.Rules=(run E (Po A (t::r))).bind fun x=>.ok (tup x):=by
 obtain⟨hVolumes,hSectors,hConfigs,hSegments,hRoutes,hAirports,hClasses,hRules⟩:=hA
 have e:E3 (t::r) 0=.ok t:=rfl
 have e1:Po A (t::r)=(if(t.Kind==1)=true then(match Vj t.Text A with | none=>.error (t::r,80) | some (f,p)=>if f=true then .error (t::r,2) else p r) else .error (t::r,80)):=rfl
 rw [e1]
 unfold Gf Vj
 rw [e,R.ok_bind]
 by_cases hk:(t.Kind==1)=true
 ·rw [if_pos hk,if_pos hk]
  by_cases hair:(t.Text==[97,105,114,112,111,114,116])=true
  ·rw [if_pos hair,if_pos hair]
   exact Uy (upd:=fun x=>{ A with Airports:=A.Airports++[x] }) (Arg E t r A.Volumes A.Airports hAirports) (fun _ _=>rfl)
  rw [if_neg hair,if_neg hair]
  by_cases hcla:(t.Text==[99,108,97,115,115])=true
  ·rw [if_pos hcla,if_pos hcla]
   exact Z3 (upd:=fun x=>{ A with Classes:=A.Classes++[x] }) (Aq8 E t r A.Classes hClasses) (Aoa r) (fun _=>by simp only [show Int.toNat 1=1 from rfl,List.drop_drop,Nat.reduceAdd]; rfl)
  rw [if_neg hcla,if_neg hcla]
  by_cases hcon:(t.Text==[99,111,110,102,105,103])=true
  ·rw [if_pos hcon,if_pos hcon]
   exact Uy (upd:=fun x=>{ A with Configs:=A.Configs++[x] }) (Aqx E t r A.Volumes A.Configs hConfigs) (fun _ _=>rfl)
  rw [if_neg hcon,if_neg hcon]
  by_cases hcur:(t.Text==[99,117,114,102,101,119])=true
  ·rw [if_pos hcur,if_pos hcur]
   exact Z3 (upd:=fun x=>{ A with Rules:=A.Rules++[x] }) (Ar8 E t r A.Rules hRules) (Apk r) (fun _=>by simp only [show Int.toNat 1=1 from rfl,List.drop_drop,Nat.reduceAdd]; rfl)
  rw [if_neg hcur,if_neg hcur]
  by_cases hexe:(t.Text==[101,120,101,109,112,116])=true
  ·rw [if_pos hexe,if_pos hexe]
   exact Z3 (upd:=fun x=>{ A with Rules:=A.Rules++[x] }) (Aqg E t r A.Rules hRules) (Aoi r) (fun _=>by simp only [show Int.toNat 1=1 from rfl,List.drop_drop,Nat.reduceAdd]; rfl)
  rw [if_neg hexe,if_neg hexe]
  by_cases hlon:(t.Text==[108,111,110,103,101,115,116])=true
  ·rw [if_pos hlon,if_pos hlon]
   exact Z3 (upd:=fun x=>{ A with Rules:=A.Rules++[x] }) (Aqs E t r hl A.Rules hRules) (Aob r hl) (fun _=>by simp only [show Int.toNat 1=1 from rfl,List.drop_drop,Nat.reduceAdd]; rfl)
  rw [if_neg hlon,if_neg hlon]
  by_cases hrou:(t.Text==[114,111,117,116,101])=true
  ·rw [if_pos hrou,if_pos hrou]
   exact Uy (upd:=fun x=>{ A with Routes:=A.Routes++[x] }) (Arv E t r A.Volumes A.Routes hRoutes) (fun _ _=>rfl)
  rw [if_neg hrou,if_neg hrou]
  by_cases hsec:(t.Text==[115,101,99,116,111,114])=true
  ·rw [if_pos hsec,if_pos hsec]
   exact Uy (upd:=fun x=>{ A with Sectors:=A.Sectors++[x] }) (Asa E t r A.Volumes A.Sectors hSectors) (fun _ _=>rfl)
  rw [if_neg hsec,if_neg hsec]
  by_cases hseg:(t.Text==[115,101,103,109,101,110,116])=true
  ·rw [if_pos hseg,if_pos hseg]
   exact Uy (upd:=fun x=>{ A with Segments:=A.Segments++[x] }) (Arp E t r A.Volumes A.Segments hSegments) (fun _ _=>rfl)
  rw [if_neg hseg,if_neg hseg]
  by_cases hvol:(t.Text==[118,111,108,117,109,101])=true
  ·rw [if_pos hvol,if_pos hvol]
   exact Uy (upd:=fun x=>{ A with Volumes:=A.Volumes++[x] }) (Asb E t r A.Volumes hVolumes) (fun _ _=>rfl)
  rw [if_neg hvol,if_neg hvol]
  by_cases hwei:(t.Text==[119,101,105,103,104,116])=true
  ·rw [if_pos hwei,if_pos hwei]
   exact Z3 (upd:=fun x=>{ A with Rules:=A.Rules++[x] }) (Arj E t r A.Rules hRules) (Aok r) (fun _=>by simp only [show Int.toNat 1=1 from rfl,List.drop_drop,Nat.reduceAdd]; rfl)
  rw [if_neg hwei,if_neg hwei]
  unfold Fg
  rw [Aki]; rfl
 ·rw [if_neg hk,if_neg hk]
  unfold Fg
  rw [Aki]; rfl
end Go.Am
namespace Go.Am
open Go
set_option linter.unusedVariables false
set_option linter.unusedSimpArgs false
def Kv {α:Type}(p:Rd α):Prop := ∀ l a q,p l=.ok (a,q)→q <:+ l
section
variable {α β:Type}
theorem Cn {p:Rd α}{f:α→Rd β}(hp:Kv p)(hf : ∀ a,Kv (f a)):Kv (p.bind f):=fun l b q h=>by
 obtain⟨a,m,h1,h2⟩:=Al1 h
 exact(hf a m b q h2).trans (hp l a m h1)
theorem G0 (a:α):Kv (Rd.pure a):=fun l b q h=>by cases h; exact List.suffix_refl _
theorem Apl (e:Int):Kv (Rd.fail e:Rd α):=fun l b q h=>nomatch h
theorem Afe (q:Token→Bool):Kv (Pr q):=fun l a r h=>by
 obtain⟨rfl,_⟩:=Akh h
 exact List.suffix_cons _ _
theorem Aiq (k:Int)(w:Aw):Kv (Zw k w):=fun l a r h=>by
 cases l with
 | nil=>cases h; exact List.suffix_refl _
 | cons t l=>cases h; exact List.suffix_refl _
theorem Qj:Kv Ob:=Cn (Afe _) fun _=>G0 _
theorem L3 (k:Int)(w:Aw):Kv (Oc k w):=Cn (Afe _) fun _=>G0 _
theorem Px (a b c:Int):Kv (Ol a b c):=Cn (Afe _) fun _=>G0 _
theorem Ags:Kv Qq:=Cn (Px _ _ _) fun _=>Cn (L3 _ _) fun _=>Cn (Px _ _ _) fun _=>G0 _
theorem R3 {p:Rd α}(hp:Kv p) : ∀ (n:Nat) (acc:List α),Kv (F5 p n acc)
 | 0,acc=>by
  rw [F5]
  refine Cn hp fun a=>Cn (Aiq _ _) fun b=>?_
  cases b
  ·exact G0 _
  ·exact Apl _
 | n+1,acc=>by
  rw [F5]
  refine Cn hp fun a=>Cn (Aiq _ _) fun b=>?_
  cases b
  ·exact G0 _
  ·exact Cn (L3 _ _) fun _=>R3 hp n _
theorem Agu (w:Aw):Kv (Ub w):=Cn (Aiq _ _) fun b=>by
 cases b
 ·exact G0 _
 ·exact Cn (L3 _ _) fun _=>R3 Ags _ _
theorem Apu:Kv Wa:=Cn (L3 _ _) fun _=>Cn Qj fun _=>Cn (Px _ _ _) fun _=>G0 _
theorem Aq0 (s:Aw):Kv (Acj s):=Cn (Agu _) fun _=>G0 _
theorem Ara (s:Aw):Kv (Acg s):=Cn (L3 _ _) fun _=>Cn (R3 Qj _ _) fun _=>Cn (L3 _ _) fun _=>Cn (Px _ _ _) fun _=>Cn (L3 _ _) fun _=>Cn (Px _ _ _) fun _=>G0 _
theorem Aq6 (s:Aw):Kv (Ab1 s):=Cn (L3 _ _) fun _=>Cn (R3 Qj _ _) fun _=>G0 _
theorem Aqh (s:Aw):Kv (Ab8 s):=Cn (L3 _ _) fun _=>Cn Qj fun _=>Cn (L3 _ _) fun _=>Cn (Px _ _ _) fun _=>Cn (Agu _) fun _=>G0 _
theorem Aqo (s:Aw):Kv (Abt s):=Cn (L3 _ _) fun _=>Cn Qj fun _=>Cn (L3 _ _) fun _=>Cn Qj fun _=>Cn (L3 _ _) fun _=>Cn (R3 Qj _ _) fun _=>G0 _
theorem Aqv (s:Aw):Kv (Ab5 s):=Cn (R3 Apu _ _) fun _=>G0 _
theorem Ar2 (s:Aw):Kv (Abl s):=Cn (L3 _ _) fun _=>Cn (Px _ _ _) fun _=>Cn (L3 _ _) fun _=>Cn (Px _ _ _) fun _=>Cn (L3 _ _) fun _=>Cn (Px _ _ _) fun _=>G0 _
theorem Arq (s:Aw):Kv (Adp s):=Cn (L3 _ _) fun _=>Cn Qj fun _=>Cn Ags fun _=>G0 _
theorem Aq5 (s:Aw):Kv (Adq s):=G0 _
theorem Aqi (s:Aw):Kv (Adz s):=Cn (Px _ _ _) fun _=>G0 _
theorem Aq4 (s:Aw):Kv (Ace s):=Cn (Px _ _ _) fun _=>G0 _
theorem Ap9 {p:Aw→Rd α}(hp : ∀ s,Kv (p s)):Kv (Fl p):=Cn Qj fun s=>Cn (hp s) fun _=>Cn (L3 _ _) fun _=>G0 _
end
theorem Gm {c:Prop}[Decidable c]{α:Type}{a b:Option α}{y:α}(h:(if c then a else b)=some y):a=some y∨b=some y:=by
 by_cases hc:c
 ·rw [if_pos hc] at h; exact .inl h
 ·rw [if_neg hc] at h; exact .inr h
theorem Arw {w:Aw}{A:Airspace}{f:Bool}{p:Rd Airspace}(h:Vj w A=some (f,p)):Kv p∧(Zf A→f=false → ∀ l B q,p l=.ok (B,q)→Zf B):=by
 unfold Vj at h
 refine(Gm h).elim (fun h=>?_) (fun h=>(Gm h).elim (fun h=>?_) (fun h=>(Gm h).elim (fun h=>?_) (fun h=>(Gm h).elim (fun h=>?_) (fun h=>(Gm h).elim (fun h=>?_) (fun h=>(Gm h).elim (fun h=>?_) (fun h=>(Gm h).elim (fun h=>?_) (fun h=>(Gm h).elim (fun h=>?_) (fun h=>(Gm h).elim (fun h=>?_) (fun h=>(Gm h).elim (fun h=>?_) (fun h=>(Gm h).elim (fun h=>?_) (fun h=>nomatch h)))))))))))
 all_goals
  cases h
  refine⟨Cn (Ap9 (by first | exact Aqv | exact Ar2 | exact Aq6 | exact Arq | exact Aq5 | exact Aq4 | exact Aqo | exact Ara | exact Aqh | exact Aq0 | exact Aqi)) fun _=>G0 _,fun hF hf l B q hB=>?_⟩
  obtain⟨x,m,_,h2⟩:=Al1 hB
  cases h2
  obtain⟨h1,h2,h3,h4,h5,h6,h7,h8⟩:=hF
  have hf:=of_decide_eq_false hf
  refine⟨?_,?_,?_,?_,?_,?_,?_,?_⟩ <;> first | assumption | (simp only [List.length_append,List.length_singleton]; omega)
theorem An9 {A:Airspace}{t:Token}{r:List Token}{B:Airspace}{q:List Token}(hA:Zf A)(h:Po A (t::r)=.ok (B,q)):Zf B∧q <:+ r:=by
 simp only [Po] at h
 split at h
 ·cases hi:Vj t.Text A with
  | none=>rw [hi] at h; cases h
  | some x=>
   obtain⟨f,p⟩:=x
   rw [hi] at h
   simp only at h
   cases f
   ·obtain⟨h1,h2⟩:=Arw hi
    exact⟨h2 hA rfl r B q h,h1 r B q h⟩
   ·cases h
 ·cases h
def Uz:Nat→Airspace→List Token→Except (List Token×Int) Airspace
 | _,A,[]=>.ok A
 | 0,A,t::r=>.error (t::r,0)
 | n+1,A,t::r=>match Po A (t::r) with
  | .error e=>.error e
  | .ok (B,q)=>Uz n B q
def T7:Airspace:={ Volumes:=[],Sectors:=[],Configs:=[],Segments:=[],Routes:=[],Airports:=[],Classes:=[],Rules:=[] }
def Q7 (l:List Token):Except (List Token×Int) Airspace:=Uz l.length T7 l
def ps (A:Airspace)(l:List Token):=(l,A.Airports,A.Classes,A.Configs,A.Rules,A.Routes,A.Sectors,A.Segments,A.Volumes)
theorem Als (src:Aw) : ∀ (n:Nat) (A:Airspace) (l:List Token),l.length≤n→Zf A→(∀ x ∈ l,0≤x.N) →
  loop (un9 fun fL l l1 l2 l3 l4 l5 l6 l7=>Kb src fL l l1 l2 l3 l4 l5 l6 l7) (ps A l)=match Uz n A l with
   | .ok B=>.ok (ps B [])
   | .error (q,e)=>.pan ⟨64,.two .i64 .i64 (Ae9 (src.length:Int) q) e⟩:=by
 intro n
 induction n with
 | zero=>
  intro A l hl hA hN
  have:l=[]:=List.length_eq_zero_iff.1 (by omega)
  subst this
  rw [Ve]; rfl
 | succ n ih=>
  intro A l hl hA hN
  rw [Ve]
  cases l with
  | nil=>rfl
  | cons t r=>
   have e1:((t::r).length:Int) > 0:=by simp only [List.length_cons]; omega
   have hb:(un9 fun fL l l1 l2 l3 l4 l5 l6 l7=>Kb src fL l l1 l2 l3 l4 l5 l6 l7) (ps A (t::r))=(run (src.length:Int) (Po A (t::r))).bind fun x=>.ok (.inl (ps x.1 x.2)):=by
    show Kb src (t::r) A.Airports A.Classes A.Configs A.Rules A.Routes A.Sectors A.Segments A.Volumes=_
    unfold Kb
    rw [if_pos e1,Aqz _ A hA t r fun x hx=>hN x (List.mem_cons_of_mem _ hx),R.bind_assoc]
    rfl
   rw [hb,Uz]
   cases hd:Po A (t::r) with
   | error e=>rfl
   | ok y=>
    obtain⟨B,q⟩:=y
    obtain⟨hB,hq⟩:=An9 hA hd
    exact ih B q (by have:=hq.length_le; simp only [List.length_cons] at hl; omega) hB fun x hx=>hN x (List.mem_cons_of_mem _ (hq.subset hx))
def Atr (E:Int):Except (List Token×Int) Airspace→Airspace×Int×Int
 | .ok A=>(A,0,0)
 | .error (q,e)=>(T7,Ae9 E q,e)
def Vc (s:Aw):Airspace×Int×Int:=if(Jv s).2.2=0 then Atr (s.length:Int) (Q7 (Jv s).1) else(T7,(Jv s).2.1,(Jv s).2.2)
theorem Aoy {s:Aw}(hN : ∀ x ∈ (Jv s).1,0≤x.N):Ki s=.ok (Vc s):=by
 unfold Ki R1 Vc
 rw [Atg,show(R.ok (Jv s)).np=R.ok (Jv s) from rfl,R.ok_bind]
 by_cases h:(Jv s).2.2=0
 ·rw [if_pos h,show((Jv s).2.2 != 0)=false by rw [h]; rfl]
  have:=Als s _ T7 (Jv s).1 (Nat.le_refl _) ⟨by decide,by decide,by decide,by decide,by decide,by decide,by decide,by decide⟩ hN
  simp only [Bool.false_eq_true,if_false]
  rw [show((Jv s).1,([]:List Airport),([]:List Class),([]:List Config),([]:List Rule),([]:List Route),([]:List Sector),([]:List Segment),([]:List Volume))=ps T7 (Jv s).1 from rfl,this]
  unfold Q7
  cases Uz (Jv s).1.length T7 (Jv s).1 with
  | ok B=>rfl
  | error x=>rfl
 ·rw [if_neg h,if_pos (by simpa using h)]; rfl
end Go.Am
namespace Go.Am
open Go
set_option linter.unusedVariables false
set_option linter.unusedSimpArgs false
section
variable {E:Int} {L:List Token} (hL:L.length≤65536)
theorem Yh {α:Type}(q:Token→Bool)(f:Token→α)(t:Token)(r:List Token):((Pr q).bind fun t=>.pure (f t)) (t::r)=if q t=true then .ok (f t,r) else .error (t::r,80):=by
 by_cases h:q t=true
 ·rw [if_pos h]; simp only [Rd.bind,Pr,h,if_true]; rfl
 ·rw [if_neg h]; simp only [Rd.bind,Pr,h]; rfl
theorem Aic (k:Int)(w:Aw)(t:Token)(r:List Token):Oc k w (t::r)=if Sr k w t=true then .ok ((),r) else .error (t::r,80):=Yh _ _ t r
theorem Al5 (t:Token)(r:List Token):Ob (t::r)=if(t.Kind==1)=true then .ok (t.Text,r) else .error (t::r,80):=Yh _ _ t r
theorem Ag0 (lo hi st:Int)(t:Token)(r:List Token):Ol lo hi st (t::r)=if Afq lo hi st t=true then .ok (t.N,r) else .error (t::r,80):=Yh _ _ t r
include hL
omit hL
include hL
end
end Go.Am
namespace Go.Am
open Go
set_option linter.unusedVariables false
set_option linter.unusedSimpArgs false
end Go.Am
namespace Go.Am
open Go
set_option linter.unusedVariables false
set_option linter.unusedSimpArgs false
set_option linter.unusedSectionVars false
end Go.Am
namespace Go.Am
open Go
set_option linter.unusedVariables false
set_option linter.unusedSimpArgs false
end Go.Am
namespace Go.Am
open Go
set_option linter.unusedVariables false
set_option linter.unusedSimpArgs false
theorem Avn {c:UInt8}{s:Aw}{t:Token}{k:Nat}(h:tk c s=some (some t,k)):0≤t.N:=by
 unfold tk at h
 repeat' split at h
 all_goals first
  | (simp only [Option.some.injEq,Prod.mk.injEq,reduceCtorEq,false_and] at h; done)
  | (simp only [Option.some.injEq,Prod.mk.injEq] at h; obtain⟨rfl,_⟩:=h; simp; done)
  | (exfalso; exact nomatch h)
theorem Agi : ∀ (n:Nat) (s:Aw) (p:Nat) (l:List Token),s.length≤n→Om s p=.ok l→l.length≤s.length ∧ ∀ t ∈ l,0≤t.N
 | n,[],p,l,_,h=>by rw [Aio] at h; cases h; exact⟨Nat.le_refl _,fun _ h=>nomatch h⟩
 | 0,_::_,_,_,hn,_=>by simp at hn
 | n+1,c::s,p,l,hn,h=>by
  rw [Yx] at h
  cases ht:tk c s with
  | none=>rw [ht] at h; cases h
  | some x=>
   obtain⟨o,k⟩:=x
   rw [ht] at h
   simp only at h
   cases hr:Om (s.drop k) (p+1+k) with
   | wrong e=>rw [hr] at h; cases h
   | ok l'=>
    rw [hr] at h
    simp only [List.length_cons] at hn
    obtain⟨h1,h2⟩:=Agi n (s.drop k) (p+1+k) l' (by rw [List.length_drop]; omega) hr
    cases h
    rw [List.length_drop] at h1
    cases o with
    | none=>exact⟨by simp; omega,h2⟩
    | some t=>
     refine⟨by simp; omega,fun u hu=>?_⟩
     rcases List.mem_cons.1 hu with rfl | hu
     ·show 0≤t.N
      exact Avn ht
     ·exact h2 u hu
theorem Ajx (s:Aw):(Jv s).1.length≤65536∧(Jv s).1.length≤s.length ∧ ∀ t ∈ (Jv s).1,0≤t.N:=by
 unfold Jv
 split
 ·cases h:Om s 0 with
  | wrong e=>exact⟨Nat.zero_le _,Nat.zero_le _,fun _ h=>nomatch h⟩
  | ok l=>
   obtain⟨h1,h2⟩:=Agi _ s 0 l (Nat.le_refl _) h
   exact⟨Nat.le_trans h1 ‹_›,h1,h2⟩
 ·exact⟨Nat.zero_le _,Nat.zero_le _,fun _ h=>nomatch h⟩
theorem Ai1 (s:Aw):Ki s=.ok (Vc s):=Aoy (Ajx s).2.2
theorem K4 {α β:Type}(body:Nat→α→Unit→R (Unit ⊕ β))(L:List α)(h : ∀ j a,L[j]? = some a→body j a ()=.ok (.inl ())) : ∀ (l:List α) (k:Nat),L.drop k=l→each body k l ()=.ok (.inl ())
 | [],k,_=>rfl
 | a::l,k,e=>by
  rw [each,h k a (by have:=congrArg (·[0]?) e; simpa using this),R.ok_bind]
  exact K4 body L h l (k+1) (by have:=congrArg List.tail e; simpa using this)
theorem Qs {α:Type}{L:List α}{j:Nat}{a:α}(h:L[j]? = some a):E3 L (j:Int)=.ok a:=by
 unfold E3
 rw [if_pos (by omega)]
 simp only [Int.toNat_natCast,h]
theorem Ad9 (l:List Span):Nj l l=.ok true:=by
 unfold Nj
 rw [if_neg (by simp),K4 _ l (fun j a h=>by simp only [Mw,Qs h,R.ok_bind,beq_self_eq_true,Bool.and_self,if_true]) l 0 rfl]; rfl
theorem Aao (l:List Aw):Ln l l=.ok true:=by
 unfold Ln
 rw [if_neg (by simp),K4 _ l (fun j a h=>by simp only [Ms,Qs h,R.ok_bind,beq_self_eq_true,if_true]) l 0 rfl]; rfl
theorem Ack (l:List Int):Ii l l=.ok true:=by
 unfold Ii
 rw [if_neg (by simp),K4 _ l (fun j a h=>by simp only [Nt,Qs h,R.ok_bind,bne_self_eq_false,Bool.false_eq_true,if_false]) l 0 rfl]; rfl
theorem Ajw (a:Airspace):Qc a a=.ok true:=by
 unfold Qc
 rw [if_neg (by simp)]
 rw [K4 _ a.Volumes (fun j x h=>by simp only [Qv,Qs h,R.ok_bind,beq_self_eq_true,Bool.not_true,Bool.false_eq_true,if_false,Ad9,Qr]) a.Volumes 0 rfl]
 simp only [R.ok_bind,C6]
 rw [K4 _ a.Sectors (fun j x h=>by simp only [Ou,Qs h,R.ok_bind,beq_self_eq_true,bne_self_eq_false,Bool.or_self,Bool.not_true,Bool.false_eq_true,if_false,Aao,Ack]) a.Sectors 0 rfl]
 simp only [R.ok_bind,C6]
 rw [K4 _ a.Configs (fun j x h=>by simp only [Nn,Qs h,R.ok_bind,beq_self_eq_true,bne_self_eq_false,Bool.or_self,Bool.not_true,Bool.false_eq_true,if_false,Aao,Ack]) a.Configs 0 rfl]
 simp only [R.ok_bind,C6]
 rw [K4 _ a.Segments (fun j x h=>by simp only [Lr,Qs h,R.ok_bind,beq_self_eq_true,bne_self_eq_false,Bool.or_self,Bool.not_true,Bool.false_eq_true,if_false,Ad9]) a.Segments 0 rfl]
 simp only [R.ok_bind,C6]
 rw [K4 _ a.Routes (fun j x h=>by simp only [Kt,Qs h,R.ok_bind,beq_self_eq_true,bne_self_eq_false,Bool.or_self,Bool.not_true,Bool.false_eq_true,if_false,Aao,Ack]) a.Routes 0 rfl]
 simp only [R.ok_bind,C6]
 rw [K4 _ a.Airports (fun j x h=>by
  simp only [Je,Qs h,R.ok_bind,beq_self_eq_true,bne_self_eq_false,Bool.or_self,Bool.not_true,Bool.false_eq_true,if_false]
  rw [K4 _ x.Modes (fun j y h=>by simp only [Qo,Qs h,R.ok_bind,beq_self_eq_true,Bool.and_self,if_true]) x.Modes 0 rfl]; rfl) a.Airports 0 rfl]
 simp only [R.ok_bind,C6]
 rw [K4 _ a.Classes (fun j x h=>by simp only [H6,Qs h,R.ok_bind,beq_self_eq_true,Bool.and_self,if_true]) a.Classes 0 rfl]
 simp only [R.ok_bind,C6]
 rw [K4 _ a.Rules (fun j x h=>by simp only [Hb,Qs h,R.ok_bind,beq_self_eq_true,Bool.and_self,if_true]) a.Rules 0 rfl]
 simp only [R.ok_bind,C6]
set_option maxRecDepth 100000 in
theorem Ao8 : T5 = .ok true := by
 unfold T5
 simp only [Ai1, R.ok_bind]
 decide +kernel
end Go.Am
namespace Go.Am
open Go
set_option linter.unusedVariables false
set_option linter.unusedSimpArgs false
def Sv (t:Token):Token:={ t with At:=0 }
def Aux {α:Type}:PR α→PR α
 | .ok (a,r)=>.ok (a,r.map Sv)
 | .error (r,e)=>.error (r.map Sv,e)
def K9 {α:Type}(p:Rd α):Prop := ∀ l,p (l.map Sv)=Aux (p l)
section
variable {α β:Type}
theorem Cs {p:Rd α}{f:α→Rd β}(hp:K9 p)(hf : ∀ a,K9 (f a)):K9 (p.bind f):=fun l=>by
 unfold Rd.bind
 rw [hp l]
 cases h:p l with
 | error x=>rfl
 | ok y=>exact hf y.1 y.2
theorem Ip (a:α):K9 (Rd.pure a):=fun l=>rfl
theorem Aod (e:Int):K9 (Rd.fail e:Rd α):=fun l=>rfl
theorem Af1 {q:Token→Bool}{f:Token→α}(hq : ∀ t,q (Sv t)=q t)(hf : ∀ t,f (Sv t)=f t):K9 ((Pr q).bind fun t=>.pure (f t)):=fun l=>by
 cases l with
 | nil=>rfl
 | cons t l=>
  rw [List.map_cons,Yh,Yh,hq,hf]
  split <;> rfl
theorem Aig (k:Int)(w:Aw):K9 (Zw k w):=fun l=>by cases l <;> rfl
theorem Qh:K9 Ob:=Af1 (fun _=>rfl) fun _=>rfl
theorem L8 (k:Int)(w:Aw):K9 (Oc k w):=Af1 (fun _=>rfl) fun _=>rfl
theorem Ps (a b c:Int):K9 (Ol a b c):=Af1 (fun _=>rfl) fun _=>rfl
theorem Agb:K9 Qq:=Cs (Ps _ _ _) fun _=>Cs (L8 _ _) fun _=>Cs (Ps _ _ _) fun _=>Ip _
theorem Rw {p:Rd α}(hp:K9 p) : ∀ (n:Nat) (acc:List α),K9 (F5 p n acc)
 | 0,acc=>by
  rw [F5]
  refine Cs hp fun a=>Cs (Aig _ _) fun b=>?_
  cases b
  ·exact Ip _
  ·exact Aod _
 | n+1,acc=>by
  rw [F5]
  refine Cs hp fun a=>Cs (Aig _ _) fun b=>?_
  cases b
  ·exact Ip _
  ·exact Cs (L8 _ _) fun _=>Rw hp n _
theorem Agd (w:Aw):K9 (Ub w):=Cs (Aig _ _) fun b=>by
 cases b
 ·exact Ip _
 ·exact Cs (L8 _ _) fun _=>Rw Agb _ _
theorem Aom:K9 Wa:=Cs (L8 _ _) fun _=>Cs Qh fun _=>Cs (Ps _ _ _) fun _=>Ip _
theorem Aqq (s:Aw):K9 (Acj s):=Cs (Agd _) fun _=>Ip _
theorem Aqm (s:Aw):K9 (Acg s):=Cs (L8 _ _) fun _=>Cs (Rw Qh _ _) fun _=>Cs (L8 _ _) fun _=>Cs (Ps _ _ _) fun _=>Cs (L8 _ _) fun _=>Cs (Ps _ _ _) fun _=>Ip _
theorem Aqa (s:Aw):K9 (Ab1 s):=Cs (L8 _ _) fun _=>Cs (Rw Qh _ _) fun _=>Ip _
theorem Ars (s:Aw):K9 (Ab8 s):=Cs (L8 _ _) fun _=>Cs Qh fun _=>Cs (L8 _ _) fun _=>Cs (Ps _ _ _) fun _=>Cs (Agd _) fun _=>Ip _
theorem Aro (s:Aw):K9 (Abt s):=Cs (L8 _ _) fun _=>Cs Qh fun _=>Cs (L8 _ _) fun _=>Cs Qh fun _=>Cs (L8 _ _) fun _=>Cs (Rw Qh _ _) fun _=>Ip _
theorem Aqr (s:Aw):K9 (Ab5 s):=Cs (Rw Aom _ _) fun _=>Ip _
theorem Aql (s:Aw):K9 (Abl s):=Cs (L8 _ _) fun _=>Cs (Ps _ _ _) fun _=>Cs (L8 _ _) fun _=>Cs (Ps _ _ _) fun _=>Cs (L8 _ _) fun _=>Cs (Ps _ _ _) fun _=>Ip _
theorem Aqk (s:Aw):K9 (Adp s):=Cs (L8 _ _) fun _=>Cs Qh fun _=>Cs Agb fun _=>Ip _
theorem Aq9 (s:Aw):K9 (Adq s):=Ip _
theorem Arf (s:Aw):K9 (Adz s):=Cs (Ps _ _ _) fun _=>Ip _
theorem Aqf (s:Aw):K9 (Ace s):=Cs (Ps _ _ _) fun _=>Ip _
theorem Are {p:Aw→Rd α}(hp : ∀ s,K9 (p s)):K9 (Fl p):=Cs Qh fun s=>Cs (hp s) fun _=>Cs (L8 _ _) fun _=>Ip _
end
theorem Aoh {w:Aw}{A:Airspace}{f:Bool}{p:Rd Airspace}(h:Vj w A=some (f,p)):K9 p:=by
 unfold Vj at h
 refine(Gm h).elim (fun h=>?_) (fun h=>(Gm h).elim (fun h=>?_) (fun h=>(Gm h).elim (fun h=>?_) (fun h=>(Gm h).elim (fun h=>?_) (fun h=>(Gm h).elim (fun h=>?_) (fun h=>(Gm h).elim (fun h=>?_) (fun h=>(Gm h).elim (fun h=>?_) (fun h=>(Gm h).elim (fun h=>?_) (fun h=>(Gm h).elim (fun h=>?_) (fun h=>(Gm h).elim (fun h=>?_) (fun h=>(Gm h).elim (fun h=>?_) (fun h=>nomatch h)))))))))))
 all_goals
  cases h
  exact Cs (Are (by first | exact Aqr | exact Aql | exact Aqa | exact Aqk | exact Aq9 | exact Aqf | exact Aro | exact Aqm | exact Ars | exact Aqq | exact Arf)) fun _=>Ip _
theorem An4 (A:Airspace):K9 (Po A):=fun l=>by
 cases l with
 | nil=>rfl
 | cons t l=>
  show Po A (Sv t::l.map Sv)=_
  simp only [Po,show(Sv t).Kind=t.Kind from rfl,show(Sv t).Text=t.Text from rfl]
  split
  ·cases h:Vj t.Text A with
   | none=>rfl
   | some x=>
    obtain⟨f,p⟩:=x
    cases f
    ·exact Aoh h l
    ·rfl
  ·rfl
def Al8:Except (List Token×Int) Airspace→Except (List Token×Int) Airspace
 | .ok a=>.ok a
 | .error (r,e)=>.error (r.map Sv,e)
theorem Aks : ∀ (n:Nat) (A:Airspace) (l:List Token),Uz n A (l.map Sv)=Al8 (Uz n A l)
 | 0,A,[]=>rfl
 | _+1,A,[]=>rfl
 | 0,A,t::r=>rfl
 | n+1,A,t::r=>by
  have h:=An4 A (t::r)
  rw [List.map_cons] at h ⊢
  rw [Uz,Uz,h]
  cases hd:Po A (t::r) with
  | error e=>rfl
  | ok y=>exact Aks n y.1 y.2
theorem Af6 (l:List Token):Q7 (l.map Sv)=Al8 (Q7 l):=by
 unfold Q7
 rw [List.length_map]
 exact Aks _ _ _
end Go.Am
namespace Go.Am
open Go
set_option linter.unusedVariables false
set_option linter.unusedSimpArgs false
def Ahw {α β:Type}(q:α→β→Bool):List α→List β→Bool
 | [],[]=>true
 | a::l,b::m=>q a b&&Ahw q l m
 | _,_=>false
def key (a b:Token):Bool:=(a.Kind==b.Kind)&&(a.Text==b.Text)&&(a.N==b.N)
def same (a b:List Token):Bool:=Ahw key a b
def equal (a b:List Token):Bool:=same a b&&Ahw (fun x y:Token=>x.At==y.At) a b
def G9 (t:Token):Aw:=if t.Kind==2 then Lib.decDigits t.N.toNat else t.Text
def Afy (l:List Token):Aw×Int:=if l.all D6 then(Lib.join (l.map G9) [32],0) else([],70)
theorem Aco {t:Token}(h:D6 t=true)(hk:(t.Kind==2)=true):t.Text=[]∧0≤t.N∧t.N≤1099511627776:=by
 unfold D6 at h
 have:t.Kind=2:=eq_of_beq hk
 rw [this] at h
 rw [if_neg (by decide),if_pos (by decide)] at h
 simp at h
 exact⟨h.1.1,h.1.2,h.2⟩
theorem Ao2 {n:Int}(h:0≤n):Lib.itoa n=Lib.decDigits n.toNat:=by
 have:=Ahf n.toNat
 rwa [show((n.toNat:Nat):Int)=n by omega] at this
theorem Af7 : ∀ (l:List Token) (pre:List Aw) (k:Nat),pre.length=k→(∀ t ∈ l,t.N≤9223372036854775807) →
  each (fun j a=>fun words=>Q0 j a words) k l (pre++List.replicate l.length [])=.ok (if l.all D6 then .inl (pre++l.map G9) else .inr ([],70))
 | [],pre,k,_,_=>by simp
 | t::l,pre,k,hk,hn=>by
  rw [S4]
  unfold Q0
  rw [Ajf,R.ok_bind,List.all_cons]
  cases hv:D6 t
  ·rfl
  ·simp only [if_true,Bool.true_and]
   have e:(pre++List.replicate (t::l).length ([]:Aw))[k]? = some []:=by
    rw [List.getElem?_append_right (by omega),hk]; simp
   have e2 : ∀ w:Aw,(pre++List.replicate (t::l).length ([]:Aw)).set (k:Int).toNat w=(pre++[w])++List.replicate l.length []:=by
    intro w
    rw [Int.toNat_natCast,List.set_append_right _ _ (by omega),hk,List.length_cons,List.replicate_succ]
    simp
   have ih:=fun w=>Af7 l (pre++[w]) (k+1) (by simp [hk]) (fun t ht=>hn t (List.mem_cons_of_mem _ ht))
   cases hkd:(t.Kind==2)
   ·simp only [Bool.false_eq_true,if_false,Ac2 e,R.ok_bind]
    rw [e2]
    refine(ih _).trans ?_
    simp [G9,hkd]
   ·obtain⟨_,h1,h2⟩:=Aco hv hkd
    simp only [if_true]
    unfold strconv_Itoa
    rw [if_pos ⟨by omega,by omega⟩,Ao2 h1]
    simp only [Ac2 e,R.ok_bind]
    rw [e2]
    refine(ih _).trans ?_
    simp [G9,hkd]
def Ap7 (l:List Token):Prop:=l.length≤1048576∧(Lib.join (l.map G9) [32]).length≤140737488355328 ∧ ∀ t ∈ l,t.N≤9223372036854775807
theorem Aqd (l:List Token)(h:Ap7 l):Q4 l=.ok (Afy l):=by
 unfold Q4 Afy
 obtain⟨h1,h2,h3⟩:=h
 rw [if_pos ⟨by omega,by omega,by simp only [Int.toNat_natCast,Em]; omega⟩,Int.toNat_natCast]
 have:=Af7 l [] 0 rfl h3
 rw [List.nil_append,List.nil_append] at this
 rw [this]
 cases l.all D6
 ·rfl
 ·simp only [if_true,R.ok_bind]
  unfold strings_Join
  simp only [C6]
  rw [if_pos h2]
  rfl
end Go.Am
namespace Go.Am
open Go
set_option linter.unusedVariables false
set_option linter.unusedSimpArgs false
def Aag (l:List Token):Nat:=(l.map fun t=>t.Text.length).sum
theorem Ap4 : ∀ (k u:Nat),u<10 ^ (k+1)→Lib.nDigits u≤k+1
 | 0,u,h=>by rw [Lib.nDigits_small (by simpa using h)]; exact Nat.le_refl _
 | k+1,u,h=>by
  by_cases h1:u<10
  ·rw [Lib.nDigits_small h1]; omega
  ·rw [Lib.nDigits_big h1]
   have:=Ap4 k (u / 10) (by rw [Nat.pow_succ] at h; omega)
   omega
theorem Aoj {t:Token}(h:t.N≤9223372036854775807):(G9 t).length≤t.Text.length+20:=by
 unfold G9
 split
 ·rw [Lib.decDigits_length]
  have:=Ap4 19 t.N.toNat (by rw [show(10:Nat) ^ (19+1)=100000000000000000000 from rfl]; omega)
  omega
 ·omega
theorem Ai0 (sep:Aw) : ∀ l:List Aw,(Lib.joinTail sep l).length=sep.length * l.length+(l.map List.length).sum
 | []=>by simp [Lib.joinTail]
 | a::l=>by
  have ih:=Ai0 sep l
  have e:Lib.joinTail sep (a::l)=sep++a++Lib.joinTail sep l:=by simp [Lib.joinTail]
  rw [e,List.length_append,List.length_append,ih,List.map_cons,List.sum_cons,List.length_cons,Nat.mul_add]
  omega
theorem Ar1 (l:List Aw):(Lib.join l [32]).length≤l.length+(l.map List.length).sum:=by
 cases l with
 | nil=>simp [Lib.join_nil]
 | cons a l=>
  have e1:([32]:Aw).length=1:=rfl
  have e2:(a::l).length=l.length+1:=rfl
  rw [Lib.join_cons,List.length_append,Ai0,List.map_cons,List.sum_cons,e1]
  omega
theorem Ag2 : ∀ (l:List Token),(∀ t ∈ l,t.N≤9223372036854775807)→((l.map G9).map List.length).sum≤Aag l+20 * l.length
 | [],_=>by simp [Aag]
 | t::l,h=>by
  have ih:=Ag2 l fun t ht=>h t (List.mem_cons_of_mem _ ht)
  have:=Aoj (h t (List.mem_cons_self ..))
  unfold Aag at ih ⊢
  simp only [List.map_cons,List.sum_cons,List.length_cons]
  omega
theorem Ag8 (l:List Token)(h : ∀ t ∈ l,t.N≤9223372036854775807):(Lib.join (l.map G9) [32]).length≤Aag l+21 * l.length:=by
 have h1:=Ar1 (l.map G9)
 have h2:=Ag2 l h
 rw [List.length_map] at h1
 omega
end Go.Am
namespace Go.Am
open Go
set_option linter.unusedVariables false
set_option linter.unusedSimpArgs false
theorem Afg {α:Type}{q:α→Bool}{d:α}(hd:q d=false)(m:List α) : ∀ s:List α,(s++d::m).takeWhile q=s.takeWhile q
 | []=>by rw [List.nil_append,List.takeWhile_cons,hd]; rfl
 | a::s=>by
  rw [List.cons_append,List.takeWhile_cons,List.takeWhile_cons,Afg hd m s]
theorem An6 {α:Type}{s m:List α}{k:Nat}(h:k≤s.length):(s++m).drop k=s.drop k++m:=by
 rw [List.drop_append_of_le_length h]
def Lx.pre (l:List Token):Lx→Lx
 | .ok r=>.ok (l++r)
 | .wrong e=>.wrong e
def Lx.seq (x:Lx)(y:Lx):Lx:=match x with
 | .ok l=>y.pre l
 | .wrong e=>.wrong e
theorem As2 (l:List Token):out (.ok l)=(l,0,0):=rfl
theorem Aix {s:Aw}(h:s.length≤65536):Jv s=out (Om s 0):=by unfold Jv; rw [if_pos h]
theorem Aem {q:UInt8→Bool} : ∀ (w:Aw),w.all q=true→w.takeWhile q=w
 | [],_=>rfl
 | a::w,h=>by
  have h:q a=true∧w.all q=true:=by simpa using h
  rw [List.takeWhile_cons,h.1,if_pos rfl,Aem w h.2]
end Go.Am
namespace Go.Am
open Go
set_option linter.unusedVariables false
set_option linter.unusedSimpArgs false
theorem Aoo {t:Token}(hv:D6 t=true) : ∃ c w,G9 t=c::w ∧ ∀ m:Aw,(m=[] ∨ ∃ d m',m=d::m'∧Lk d=true) → ∃ u,tk c (w++m)=some (some u,w.length)∧key t u=true:=by
 unfold D6 at hv
 by_cases h1:(t.Kind==1)=true
 ·rw [if_pos h1] at hv
  have hk:t.Kind=1:=eq_of_beq h1
  have hsp:G9 t=t.Text:=by unfold G9; rw [hk]; rfl
  rw [hsp]
  rw [Bool.and_eq_true] at hv
  obtain⟨hn,h0⟩:=hv
  have h0:t.N=0:=eq_of_beq h0
  cases hT:t.Text with
  | nil=>rw [hT] at hn; cases hn
  | cons c w=>
   rw [hT] at hn
   have hn':Oz c=true∧w.all It=true∧w.length+1≤32:=by
    simp [E6] at hn
    simpa [and_assoc] using hn
   refine⟨c,w,rfl,fun m hm=>?_⟩
   have e:(w++m).takeWhile It=w:=by
    rcases hm with rfl | ⟨d,m',rfl,hd⟩
    ·rw [List.append_nil]; exact Aem w hn'.2.1
    ·rw [Afg (Ahn hd).1,Aem w hn'.2.1]
   refine⟨⟨1,c::w,0,0⟩,?_,by simp [key,hk,hT,h0]⟩
   unfold tk
   rw [Atc hn'.1,hn'.1,e]
   simp only [Bool.false_eq_true,if_false,if_true,hn'.2.2]
 ·rw [if_neg h1] at hv
  by_cases h2:(t.Kind==2)=true
  ·rw [if_pos h2] at hv
   have hk:t.Kind=2:=eq_of_beq h2
   have hvv:D6 t=true:=by unfold D6; rw [if_neg h1,if_pos h2]; exact hv
   obtain⟨hT,h3,h4⟩:=Aco hvv h2
   have hsp:G9 t=Lib.decDigits t.N.toNat:=by unfold G9; rw [if_pos h2]
   obtain⟨d1,d2,d3,d4,_⟩:=Akv t.N.toNat
   rw [hsp]
   cases hD:Lib.decDigits t.N.toNat with
   | nil=>exact absurd hD d3
   | cons c w=>
    rw [hD] at d1 d2 d4
    have d1':Fd c=true∧w.all Fd=true:=by simpa using d1
    refine⟨c,w,rfl,fun m hm=>?_⟩
    have e:(w++m).takeWhile Fd=w:=by
     rcases hm with rfl | ⟨d,m',rfl,hd⟩
     ·rw [List.append_nil]; exact Aem w d1'.2
     ·rw [Afg (Ahn hd).2.1,Aem w d1'.2]
    refine⟨⟨2,[],val (c::w),0⟩,?_,?_⟩
    ·unfold tk
     have:=As5 d1'.1
     rw [this.1,this.2,d1'.1,e]
     have hok:Vl (c::w)=true:=by unfold Vl; rw [d4,d2,decide_eq_true (by omega)]; rfl
     simp only [Bool.false_eq_true,if_false,if_true,hok]
    ·rw [d2]
     simp [key,hk,hT]
     omega
  ·rw [if_neg h2] at hv
   by_cases h3:(t.Kind==3)=true
   ·rw [if_pos h3,Bool.and_eq_true] at hv
    have hk:t.Kind=3:=eq_of_beq h3
    have hsp:G9 t=t.Text:=by unfold G9; rw [if_neg h2]
    have h0:t.N=0:=eq_of_beq hv.2
    rw [hsp]
    match hT:t.Text,hv.1 with
    | [c],hc=>
     rw [hT] at hv
     have hc:Sj c=true:=hv.1
     refine⟨c,[],rfl,fun m hm=>?_⟩
     refine⟨⟨3,[c],0,0⟩,?_,by simp [key,hk,hT,h0]⟩
     have hh:¬ (c=47∧m.head? = some 47):=by
      rcases hm with rfl | ⟨d,m',rfl,hd⟩
      ·simp
      ·have:=(Ahn hd).2.2
       simp [this]
     obtain⟨q1,q2,q3⟩:=Aq2 hc
     unfold tk
     rw [q1,q2,q3,hc,List.nil_append]
     simp only [Bool.false_eq_true,if_false,if_true,hh]
     rfl
   ·rw [if_neg h3] at hv; cases hv
def Gap (g:Aw):Prop := ∀ (m:Aw) (p:Nat),Om (g++m) p=Om m (p+g.length)
theorem Aqe {g:Aw}(h:g.all Lk=true):Gap g:=fun m p=>Ad1 g m p h
theorem Ah8 {t:Token}(hv:D6 t=true){m:Aw}(hm:m=[] ∨ ∃ d m',m=d::m'∧Lk d=true)(p:Nat) : ∃ u,Om (G9 t++m) p=(Om m (p+(G9 t).length)).add (some u) p∧key t u=true:=by
 obtain⟨c,w,hs,h⟩:=Aoo hv
 obtain⟨u,h1,h2⟩:=h m hm
 refine⟨u,?_,h2⟩
 rw [hs,List.cons_append,Yx,h1]
 simp only
 rw [An6 (Nat.le_refl _),List.drop_length,List.nil_append,List.length_cons]
 congr 2
 omega
theorem Ag3 : ∀ (l:List Token) (p:Nat),l.all D6=true → ∃ r,Om (Lib.joinTail [32] (l.map G9)) p=.ok r∧same l r=true
 | [],p,_=>⟨[],rfl,rfl⟩
 | t::l,p,h=>by
  have h:D6 t=true∧l.all D6=true:=by simpa using h
  have e:Lib.joinTail [32] ((t::l).map G9)=[32]++(G9 t++Lib.joinTail [32] (l.map G9)):=by simp [Lib.joinTail]
  obtain⟨u,h1,h2⟩:=Ah8 (m:=Lib.joinTail [32] (l.map G9)) h.1 (by cases l with
   | nil=>exact .inl rfl
   | cons a l=>exact .inr ⟨32,G9 a++Lib.joinTail [32] (l.map G9),by simp [Lib.joinTail],rfl⟩) (p+1)
  obtain⟨r,h3,h4⟩:=Ag3 l (p+1+(G9 t).length) h.2
  rw [e,Aqe (g:=[32]) (by rfl)]
  refine⟨at' (p+1) u::r,?_,?_⟩
  ·show Om _ (p+1)=_
   rw [h1,h3]; rfl
  ·show(key t u&&Ahw key l r)=true
   rw [h2]; exact h4
theorem Amv {l:List Token}(h:l.all D6=true)(p:Nat) : ∃ r,Om (Lib.join (l.map G9) [32]) p=.ok r∧same l r=true:=by
 cases l with
 | nil=>exact⟨[],rfl,rfl⟩
 | cons t l=>
  have h:D6 t=true∧l.all D6=true:=by simpa using h
  obtain⟨u,h1,h2⟩:=Ah8 (m:=Lib.joinTail [32] (l.map G9)) h.1 (by cases l with
   | nil=>exact .inl rfl
   | cons a l=>exact .inr ⟨32,G9 a++Lib.joinTail [32] (l.map G9),by simp [Lib.joinTail],rfl⟩) p
  obtain⟨r,h3,h4⟩:=Ag3 l (p+(G9 t).length) h.2
  refine⟨at' p u::r,?_,?_⟩
  ·rw [List.map_cons,Lib.join_cons,h1,h3]; rfl
  ·show(key t u&&Ahw key l r)=true
   rw [h2]; exact h4
theorem Arz {l:List Token}(h:l.all D6=true) : ∀ t ∈ l,t.N≤9223372036854775807:=by
 intro t ht
 have hv:D6 t=true:=List.all_eq_true.1 h t ht
 by_cases h2:(t.Kind==2)=true
 ·have:=Aco hv h2; omega
 ·unfold D6 at hv
  rw [if_neg h2] at hv
  split at hv
  ·rw [Bool.and_eq_true] at hv; have:t.N=0:=eq_of_beq hv.2; omega
  ·split at hv
   ·rw [Bool.and_eq_true] at hv; have:t.N=0:=eq_of_beq hv.2; omega
   ·cases hv
end Go.Am
namespace Go.Am
open Go
set_option linter.unusedVariables false
set_option linter.unusedSimpArgs false
end Go.Am
namespace Go.Am
open Go
set_option linter.unusedVariables false
set_option linter.unusedSimpArgs false
theorem Age : ∀ (l r:List Token),same l r=true→l.map Sv=r.map Sv
 | [],[],_=>rfl
 | [],_::_,h=>by cases h
 | _::_,[],h=>by cases h
 | a::l,b::r,h=>by
  have h:(key a b&&same l r)=true:=h
  rw [Bool.and_eq_true] at h
  obtain⟨h1,h2⟩:=h
  unfold key at h1
  simp only [Bool.and_eq_true,beq_iff_eq] at h1
  obtain⟨⟨h3,h4⟩,h5⟩:=h1
  rw [List.map_cons,List.map_cons,Age l r h2]
  unfold Sv
  rw [h3,h4,h5]
theorem Ajk {s:Aw}{l:List Token}(hs:s.length≤65536)(h:Om s 0=.ok l):Vc s=Atr (s.length:Int) (Q7 l):=by
 unfold Vc
 rw [Aix hs,h,As2]
 rfl
end Go.Am
namespace Go.Am
open Go
set_option linter.unusedVariables false
set_option linter.unusedSimpArgs false
structure Fine {α:Type}(p:Rd α):Prop where
 sub:Kv p
 err : ∀ l q e,p l=.error (q,e)→q <:+ l∧(e=80∨e=2∧q≠[])
 loc : ∀ c m a,p (c++m)=.ok (a,m) → ∀ m1 q,m=m1++q→p (c++m1)=.ok (a,m1)
 Sb : ∀ c q e,p (c++q)=.error (q,e)→(∃ a,p c=.ok (a,[]))∨p c=.error ([],80)
 nil:(∃ a,p []=.ok (a,[]))∨p []=.error ([],80)
end Go.Am
namespace Go.Am
open Go
set_option linter.unusedVariables false
set_option linter.unusedSimpArgs false
end Go.Am
namespace Go.Am
open Go
set_option linter.unusedVariables false
set_option linter.unusedSimpArgs false
end Go.Am
namespace Go.Am
open Go
set_option linter.unusedVariables false
set_option linter.unusedSimpArgs false
end Go.Am
namespace Go.Am
open Go
set_option linter.unusedVariables false
set_option linter.unusedSimpArgs false
end Go.Am
namespace Go.Am
open Go
set_option linter.unusedVariables false
set_option linter.unusedSimpArgs false
structure RExt {α:Type}(p:Rd α):Prop where
 sub:Kv p
 ext : ∀ c t m a,p (c++t::m)=.ok (a,t::m) → ∀ m',p (c++t::m')=.ok (a,t::m')
end Go.Am
namespace Go.Am
open Go
set_option linter.unusedVariables false
set_option linter.unusedSimpArgs false
end Go.Am
namespace Go.Am
open Go
set_option linter.unusedVariables false
set_option linter.unusedSimpArgs false
instance (A:Airspace):Decidable (Zf A):=by unfold Zf; exact inferInstance
end Go.Am
namespace Go.Am
open Go
set_option linter.unusedVariables false
set_option linter.unusedSimpArgs false
def Dr (s:Aw):Token:=⟨1,s,0,0⟩
def Kj (s:Aw):Token:=⟨3,s,0,0⟩
def No (n:Int):Token:=⟨2,[],n,0⟩
def Oe (n lo hi:Int):Bool:=decide (n≥lo)&&decide (n≤hi)
def Wr (f:Bool→List Token→R (Bool×List Token))(B:Bool)(T:List Token):Prop := ∀ b l,l.length+T.length≤1000000000000→f b l=.ok (b||B,l++T)
theorem Ahc (ok:Bool)(t:Token)(b:Bool)(l:List Token)(h:l.length+1≤1000000000000):Ge ok t b l=.ok (l++[t]):=by
 unfold Ge
 rw [if_pos (by rw [List.length_singleton]; unfold Em; omega)]
theorem O8 (s:Aw):Wr (Cp s) (!E6 s) [Dr s]:=fun b l h=>by
 unfold Cp
 rw [Aj7,R.ok_bind,Ahc _ _ _ _ h]; rfl
theorem Akl (ws:List Aw):Wr (Bu ws) false (ws.map Dr):=by
 have : ∀ (ws:List Aw) (k:Nat) (b:Bool) (l:List Token),l.length+ws.length≤1000000000000→Di (fun _ a=>C3 fun fBad l2=>Fc a fBad l2) k ws (b,l)=.ok (b,l++ws.map Dr):=by
  intro ws
  induction ws with
  | nil=>intro k b l _; rw [Rs]; simp
  | cons w ws ih=>
   intro k b l h
   simp only [List.length_cons] at h
   rw [Pb]
   show(Fc w b l).bind _=_
   have hb:Fc w b l=.ok (b,l++[Dr w]):=by
    unfold Fc
    rw [Ahc _ _ _ _ (by omega),R.ok_bind]
    simp [Dr]
   rw [hb,R.ok_bind,ih _ _ _ (by simp; omega)]
   simp
 intro b l h
 unfold Bu
 rw [this ws 0 b l (by simpa using h),Bool.or_false]; rfl
theorem Arb (ws:List Aw):Wr (Cd ws) false (ws.map Kj):=by
 have : ∀ (ws:List Aw) (k:Nat) (b:Bool) (l:List Token),l.length+ws.length≤1000000000000→Di (fun _ a=>C3 fun fBad l2=>Fb a fBad l2) k ws (b,l)=.ok (b,l++ws.map Kj):=by
  intro ws
  induction ws with
  | nil=>intro k b l _; rw [Rs]; simp
  | cons w ws ih=>
   intro k b l h
   simp only [List.length_cons] at h
   rw [Pb]
   show(Fb w b l).bind _=_
   have hb:Fb w b l=.ok (b,l++[Kj w]):=by
    unfold Fb
    rw [Ahc _ _ _ _ (by omega),R.ok_bind]
    simp [Kj]
   rw [hb,R.ok_bind,ih _ _ _ (by simp; omega)]
   simp
 intro b l h
 unfold Cd
 rw [this ws 0 b l (by simpa using h),Bool.or_false]; rfl
theorem Aia (n lo hi:Int)(b:Bool)(l:List Token)(h:l.length+1≤1000000000000):Ci n lo hi b l=.ok (l++[No n]):=by
 unfold Ci
 rw [Ahc _ _ _ _ h]; rfl
theorem Dm {f g:Bool→List Token→R (Bool×List Token)}{B:Bool}{T:List Token}(hf:Wr f B T){B':Bool}{T':List Token}(hg:Wr g B' T') :
  Wr (fun b l=>(f b l).bind fun r=>g r.1 r.2) (B||B') (T++T'):=fun b l h=>by
 rw [List.length_append] at h
 show(f b l).bind _=_
 rw [hf b l (by omega),R.ok_bind,hg (b||B) (l++T) (by rw [List.length_append]; omega),List.append_assoc,Bool.or_assoc]
theorem Yd {n lo hi:Int}{g:Bool→List Token→R (Bool×List Token)}{B':Bool}{T':List Token}(hg:Wr g B' T') :
  Wr (fun b l=>(Ci n lo hi b l).bind fun r=>g (b||(!((decide (n≥lo))&&(decide (n≤hi))))) r) (!Oe n lo hi||B') ([No n]++T'):=fun b l h=>by
 rw [List.length_append] at h
 show(Ci n lo hi b l).bind _=_
 rw [Aia n lo hi b l (by simp at h; omega),R.ok_bind,hg _ _ (by rw [List.length_append]; omega),List.append_assoc,Bool.or_assoc]; rfl
theorem Y3 {n lo hi:Int}:Wr (fun b l=>(Ci n lo hi b l).bind fun r=>.ok (b||(!((decide (n≥lo))&&(decide (n≤hi)))),r)) (!Oe n lo hi) [No n]:=fun b l h=>by
 show(Ci n lo hi b l).bind _=_
 rw [Aia n lo hi b l h,R.ok_bind]; rfl
theorem Xe {f:Bool→List Token→R (Bool×List Token)}{B:Bool}{T:List Token}(hf:Wr f B T):Wr (fun b l=>(f b l).bind fun r=>.ok (r.1,r.2)) B T:=fun b l h=>by
 show(f b l).bind _=_
 rw [hf b l h]; rfl
def U2 (s:Span):List Token:=[No s.From,Dr [116,111],No s.To]
def Wq (s:Span):Bool := !Oe s.From 0 1439 || !Oe s.To (IntKind.wrap .i64 (s.From+1)) 1440
theorem Ak7 (s:Span):Wr (Hf s) (Wq s) (U2 s):=by
 have:=Yd (n:=s.From) (lo:=0) (hi:=1439) (Dm (Akl [[116,111]]) (Y3 (n:=s.To) (lo:=IntKind.wrap .i64 (s.From+1)) (hi:=1440)))
 simp only [Bool.false_or] at this
 exact this
end Go.Am
namespace Go.Am
open Go
set_option linter.unusedVariables false
set_option linter.unusedSimpArgs false
def Tm {α:Type}(g:α→List Token)(l:List α):List Token:=l.flatMap fun b=>Kj [44]::g b
def H9 {α:Type}(g:α→List Token):List α→List Token
 | []=>[]
 | a::l=>g a++Tm g l
def Nw {α:Type}(B:α→Bool)(most:Nat)(l:List α):Bool:=l.isEmpty||decide (most<l.length)||l.any B
section
variable {α:Type} {item:α→Bool→List Token→R (Bool×List Token)} {B:α→Bool} {g:α→List Token} {body:Nat→α→Bool→List Token→R (Bool×List Token)}
theorem Acs (s:Aw):Wr (Cd [s]) false [Kj s]:=Arb [s]
theorem Oh (s:Aw):Wr (Bu [s]) false [Dr s]:=Akl [s]
theorem Ano (hb : ∀ j a b l,body j a b l=if(j:Int) > 0 then(Cd [[44]] b l).bind fun r=>(item a r.1 r.2).bind fun r1=>.ok (r1.1,r1.2) else(item a b l).bind fun r1=>.ok (r1.1,r1.2))(hi : ∀ a,Wr (item a) (B a) (g a)) :
  ∀ (l:List α) (k:Nat) (b:Bool) (o:List Token),0<k→o.length+(Tm g l).length≤1000000000000→Di (fun j a=>C3 fun fBad l2=>body j a fBad l2) k l (b,o)=.ok (b||l.any B,o++Tm g l)
 | [],k,b,o,_,_=>by rw [Rs]; simp [Tm]
 | a::l,k,b,o,hk,h=>by
  have e:Tm g (a::l)=(Kj [44]::g a)++Tm g l:=rfl
  rw [e,List.length_append,List.length_cons] at h
  rw [Pb]
  show(body k a b o).bind _=_
  rw [hb,if_pos (by omega),Acs [44] b o (by simp; omega)]
  simp only [R.ok_bind]
  rw [hi a (b||false) (o++[Kj [44]]) (by simp; omega)]
  simp only [R.ok_bind]
  rw [Ano hb hi l (k+1) _ _ (by omega) (by simp; omega),e]
  simp [Bool.or_assoc]
theorem Al3 (hb : ∀ j a b l,body j a b l=if(j:Int) > 0 then(Cd [[44]] b l).bind fun r=>(item a r.1 r.2).bind fun r1=>.ok (r1.1,r1.2) else(item a b l).bind fun r1=>.ok (r1.1,r1.2))(hi : ∀ a,Wr (item a) (B a) (g a))(l:List α)(most:Nat)(mostI:Int)(hm:mostI=most) :
  Wr (fun b l1=>(Di (fun j a=>C3 fun fBad l2=>body j a fBad l2) 0 l (((b||((l.length:Int)==0))||(decide ((l.length:Int) > mostI))),l1)).bind ((C3 fun fBad l2=>.ok (fBad,l2)))) (Nw B most l) (H9 g l):=by
 intro b o h
 subst hm
 cases l with
 | nil=>simp [Rs,Nw,H9]
 | cons a l=>
  have e:H9 g (a::l)=g a++Tm g l:=rfl
  rw [e,List.length_append] at h
  show(Di _ 0 (a::l) _).bind _=_
  rw [Pb]
  show((body 0 a _ o).bind _).bind _=_
  rw [hb,if_neg (by omega),hi a _ o (by omega)]
  simp only [R.ok_bind]
  rw [Ano hb hi l 1 _ _ (by omega) (by simp; omega),e]
  have e1:(((a::l).length:Int)==0)=false:=by simp only [List.length_cons,beq_eq_false_iff_ne]; omega
  have e2:decide (((a::l).length:Int) > (most:Int))=decide (most<(a::l).length):=by rw [decide_eq_decide]; omega
  rw [e1,e2]
  simp [Nw,Bool.or_assoc]
def E9 (w:Aw)(T:List Token):List Token:=Dr w::(T++[Kj [59]])
theorem Tc {d:α→List Token}{body:α→Bool→List Token→R (Bool×List Token)}(hi : ∀ a,Wr (body a) (B a) (d a))(l:List α)(most:Nat)(mostI:Int)(hm:mostI=most) :
  Wr (fun b l1=>(Di (fun _ a=>C3 fun fBad l2=>body a fBad l2) 0 l ((b||(decide ((l.length:Int) > mostI))),l1)).bind ((C3 fun fBad l2=>.ok (fBad,l2)))) (decide (most<l.length)||l.any B) (l.flatMap d):=by
 have : ∀ (l:List α) (k:Nat) (b:Bool) (o:List Token),o.length+(l.flatMap d).length≤1000000000000→Di (fun _ a=>C3 fun fBad l2=>body a fBad l2) k l (b,o)=.ok (b||l.any B,o++l.flatMap d):=by
  intro l
  induction l with
  | nil=>intro k b o _; rw [Rs]; simp
  | cons a l ih=>
   intro k b o h
   rw [List.flatMap_cons,List.length_append] at h
   rw [Pb]
   show(body a b o).bind _=_
   rw [hi a b o (by omega)]
   simp only [R.ok_bind]
   rw [ih _ _ _ (by simp at h ⊢; omega)]
   simp [Bool.or_assoc]
 intro b o h
 subst hm
 have e2:decide ((l.length:Int) > (most:Int))=decide (most<l.length):=by rw [decide_eq_decide]; omega
 show(Di _ 0 l _).bind _=_
 rw [this l 0 _ o h,e2]
 simp [Bool.or_assoc]
theorem X9 {it:Bool→List Token→R (Bool×List Token)}{Bi:Bool}{T:List Token}(w:Aw)(hw:w≠[])(hi:Wr it Bi T){j1:Bool→List Token→R (Bool×List Token)}
  (hj : ∀ b l,j1 b l=(it b l).bind fun r1=>(Cd [[59]] r1.1 r1.2).bind fun r2=>.ok (r2.1,r2.2)) :
  Wr (fun b l=>if(w==[]) then j1 b l else(Bu [w] b l).bind fun r=>j1 r.1 r.2) Bi (E9 w T):=by
 have h1:Wr j1 Bi (T++[Kj [59]]):=by
  have:=Dm hi (Xe (Acs [59]))
  rw [Bool.or_false] at this
  intro b l h
  rw [hj]
  exact this b l h
 have h2:=Dm (Oh w) h1
 rw [Bool.false_or] at h2
 intro b l h
 have e:(w==[])=false:=by simpa using hw
 simp only [e,Bool.false_eq_true,if_false]
 exact h2 b l h
end
def Qe (w:Aw)(l:List Span):List Token:=if l.isEmpty then [] else Dr w::H9 U2 l
def O9 (l:List Span):Bool := !l.isEmpty&&Nw Wq 16 l
theorem Ard (l:List Span):Wr (J3 l 16) (Nw Wq 16 l) (H9 U2 l):=
 Al3 (item:=Hf) (fun _ _ _ _=>rfl) Ak7 l 16 16 rfl
theorem Afi (l:List Aw)(most:Nat)(mostI:Int)(hm:mostI=most):Wr (Gc l mostI) (Nw (fun s => !E6 s) most l) (H9 (fun s=>[Dr s]) l):=
 Al3 (item:=Cp) (fun _ _ _ _=>rfl) O8 l most mostI hm
theorem Akp (w:Aw)(l:List Span):Wr (Hd w l) (O9 l) (Qe w l):=by
 intro b o h
 unfold Hd
 cases l with
 | nil=>simp [O9,Qe]
 | cons a l=>
  rw [if_pos (by simp only [List.length_cons]; omega)]
  have:=Dm (Oh w) (Xe (Ard (a::l)))
  exact this b o h
def Aft (m:Mode):List Token:=[Dr [109,111,100,101]]++([Dr m.Name]++[No m.Places])
def Adv (m:Mode):Bool := !E6 m.Name || !Oe m.Places 0 64
theorem As4 (m:Mode):Wr (Jh m) (Adv m) (Aft m):=by
 have:=Dm (Oh [109,111,100,101]) (Dm (O8 m.Name) (Y3 (n:=m.Places) (lo:=0) (hi:=64)))
 simp only [Bool.false_or] at this
 exact this
theorem Aqt (l:List Mode):Wr (Ld l 16) (Nw Adv 16 l) (H9 Aft l):=
 Al3 (item:=Jh) (fun _ _ _ _=>rfl) As4 l 16 16 rfl
def Tw (a:Volume):List Token:=[Dr a.Name]++Qe [99,108,111,115,101,100] a.Closed
def T4 (a:Volume):Bool := !E6 a.Name||O9 a.Closed
theorem Auk (a:Volume):Wr (Nz a) (T4 a) (Tw a):=Dm (O8 _) (Xe (Akp _ _))
abbrev Ya (l:List Aw):List Token:=H9 (fun s=>[Dr s]) l
abbrev Ab3 (most:Nat)(l:List Aw):Bool:=Nw (fun s => !E6 s) most l
def Th (a:Sector):List Token:=[Dr a.Name]++([Kj [61]]++(Ya a.Names++([Dr [114,97,100,97,114]]++([No a.Radar]++([Dr [112,114,111,99,101,100,117,114,97,108]]++[No a.Procedural])))))
def T2 (a:Sector):Bool := !E6 a.Name||(Ab3 64 a.Names||(!Oe a.Radar 0 64 || !Oe a.Procedural 0 a.Radar))
theorem Aue (a:Sector):Wr (Nx a) (T2 a) (Th a):=by
 have:=Dm (O8 a.Name) (Dm (Acs [61]) (Dm (Afi a.Names 64 64 rfl) (Dm (Oh [114,97,100,97,114]) (Yd (n:=a.Radar) (lo:=0) (hi:=64) (Dm (Oh [112,114,111,99,101,100,117,114,97,108]) (Y3 (n:=a.Procedural) (lo:=0) (hi:=a.Radar)))))))
 simp only [Bool.false_or] at this
 exact this
def Ug (a:Config):List Token:=[Dr a.Name]++([Kj [61]]++Ya a.Names)
def Tj (a:Config):Bool := !E6 a.Name||Ab3 64 a.Names
theorem Auf (a:Config):Wr (N0 a) (Tj a) (Ug a):=by
 have:=Dm (O8 a.Name) (Dm (Acs [61]) (Xe (Afi a.Names 64 64 rfl)))
 simp only [Bool.false_or] at this
 exact this
def T3 (a:Segment):List Token:=[Dr a.Name]++([Dr [105,110]]++([Dr a.In]++([Dr [108,101,110,103,116,104]]++([No a.Length]++Qe [111,112,101,110] a.Open))))
def Ts (a:Segment):Bool := !E6 a.Name||(!E6 a.In||(!Oe a.Length 1 4096||O9 a.Open))
theorem Auz (a:Segment):Wr (Nv a) (Ts a) (T3 a):=by
 have:=Dm (O8 a.Name) (Dm (Oh [105,110]) (Dm (O8 a.In) (Dm (Oh [108,101,110,103,116,104]) (Yd (n:=a.Length) (lo:=1) (hi:=4096) (Xe (Akp [111,112,101,110] a.Open))))))
 simp only [Bool.false_or] at this
 exact this
def T6 (a:Route):List Token:=[Dr a.Name]++([Dr [102,114,111,109]]++([Dr a.A]++([Dr [116,111]]++([Dr a.B]++([Dr [118,105,97]]++Ya a.Names)))))
def Tz (a:Route):Bool := !E6 a.Name||(!E6 a.A||(!E6 a.B||Ab3 8 a.Names))
theorem Aui (a:Route):Wr (N1 a) (Tz a) (T6 a):=by
 have:=Dm (O8 a.Name) (Dm (Oh [102,114,111,109]) (Dm (O8 a.A) (Dm (Oh [116,111]) (Dm (O8 a.B) (Dm (Oh [118,105,97]) (Xe (Afi a.Names 8 8 rfl)))))))
 simp only [Bool.false_or] at this
 exact this
def Ua (a:Airport):List Token:=[Dr a.Name]++H9 Aft a.Modes
def T9 (a:Airport):Bool := !E6 a.Name||Nw Adv 16 a.Modes
theorem Aut (a:Airport):Wr (N2 a) (T9 a) (Ua a):=Dm (O8 _) (Xe (Aqt _))
def Ue (a:Class):List Token:=[Dr a.Name]++([Dr [115,108,111,119]]++([No a.Slow]++([Dr [102,97,115,116]]++([No a.Fast]++([Dr [112,108,97,99,101,115]]++[No a.Places])))))
def Vo (a:Class):Bool := !E6 a.Name||(!Oe a.Slow 1 64||(!Oe a.Fast a.Slow 64 || !Oe a.Places 1 8))
theorem Aun (a:Class):Wr (Nu a) (Vo a) (Ue a):=by
 have:=Dm (O8 a.Name) (Dm (Oh [115,108,111,119]) (Yd (n:=a.Slow) (lo:=1) (hi:=64) (Dm (Oh [102,97,115,116]) (Yd (n:=a.Fast) (lo:=a.Slow) (hi:=64) (Dm (Oh [112,108,97,99,101,115]) (Y3 (n:=a.Places) (lo:=1) (hi:=8)))))))
 simp only [Bool.false_or] at this
 exact this
end Go.Am
namespace Go.Am
open Go
set_option linter.unusedVariables false
set_option linter.unusedSimpArgs false
def R7 (b o:Rule):Bool:=(b.Kind==o.Kind)&&((b.C==o.C)&&((b.A==o.A)&&((0==o.Class)&&((0==o.Airport)&&((b.N==o.N)&&((b.Hours.From==o.Hours.From)&&(b.Hours.To==o.Hours.To)))))))
theorem Abx (b o:Rule):Wr (fun f l=>Dl b f l o) (!R7 b o) []:=fun f l h=>by
 show Dl b f l o=_
 unfold Dl
 rw [List.append_nil]
 cases f <;> rfl
theorem Aee (w:Aw)(b:Rule):Wr (fun f l=>Fu w f l b) (!E6 b.C) ([Dr w]++[Dr b.C]):=by
 have:=Dm (Oh w) (Xe (O8 b.C))
 simp only [Bool.false_or] at this
 exact this
def Alf:Aw:=[99,117,114,102,101,119]
def Amb:Aw:=[101,120,101,109,112,116]
def Alx:Aw:=[119,101,105,103,104,116]
def Alu:Aw:=[108,111,110,103,101,115,116]
def Nf (b:Rule):List Token:=
 if b.Kind=1 then [Dr [97,116]]++([Dr b.A]++U2 b.Hours) else if b.Kind=2 then [] else [No b.N]
def Og (b:Rule):Aw:=if b.Kind=1 then Alf else if b.Kind=2 then Amb else if b.Kind=3 then Alx else Alu
def K3 (b:Rule):List Token:=if b.Kind=1∨b.Kind=2∨b.Kind=3∨b.Kind=4 then [Dr (Og b)]++([Dr b.C]++Nf b) else []
def L5 (b:Rule):Bool:=
 if b.Kind=1 then !E6 b.C||(!E6 b.A||(Wq b.Hours || !R7 b (Fe b.Kind b.C b.A 0 b.Hours)))
 else if b.Kind=2 then !E6 b.C || !R7 b (Fe b.Kind b.C [] 0 ⟨0,0⟩)
 else if b.Kind=3 then !E6 b.C||(!Oe b.N 1 8 || !R7 b (Fe b.Kind b.C [] b.N ⟨0,0⟩))
 else if b.Kind=4 then !E6 b.C||(!Oe b.N 0 60||(((Int.tmod b.N 10) != 0) || !R7 b (Fe b.Kind b.C [] b.N ⟨0,0⟩)))
 else true
theorem As0 (b:Rule):Wr (Jk b) (L5 b) (K3 b):=by
 intro f l h
 unfold Jk
 by_cases h1:b.Kind=1
 ·have e:K3 b=[Dr Alf]++([Dr b.C]++([Dr [97,116]]++([Dr b.A]++U2 b.Hours))):=by simp [K3,Og,Nf,h1]
  have e2:L5 b=(!E6 b.C||(!E6 b.A||(Wq b.Hours || !R7 b (Fe b.Kind b.C b.A 0 b.Hours)))):=by simp [L5,h1]
  rw [if_pos (by simp [h1]),e2]
  rw [e] at h ⊢
  have:=Dm (Aee Alf b) (Dm (Oh [97,116]) (Dm (O8 b.A) (Dm (Ak7 b.Hours) (Abx b (Fe b.Kind b.C b.A 0 b.Hours)))))
  simp only [Bool.false_or,List.append_nil,List.append_assoc] at this
  exact this f l h
 rw [if_neg (by simp [h1])]
 by_cases h2:b.Kind=2
 ·have e:K3 b=[Dr Amb]++[Dr b.C]:=by simp [K3,Og,Nf,h2]
  have e2:L5 b=(!E6 b.C || !R7 b (Fe b.Kind b.C [] 0 ⟨0,0⟩)):=by simp [L5,h2]
  rw [if_pos (by simp [h2]),e2]
  rw [e] at h ⊢
  have:=Dm (Aee Amb b) (Abx b (Fe b.Kind b.C [] 0 ⟨0,0⟩))
  simp only [Bool.false_or,List.append_nil,List.append_assoc] at this
  exact this f l h
 rw [if_neg (by simp [h2])]
 by_cases h3:b.Kind=3
 ·have e:K3 b=[Dr Alx]++([Dr b.C]++[No b.N]):=by simp [K3,Og,Nf,h3]
  have e2:L5 b=(!E6 b.C||(!Oe b.N 1 8 || !R7 b (Fe b.Kind b.C [] b.N ⟨0,0⟩))):=by simp [L5,h3]
  rw [if_pos (by simp [h3]),e2]
  rw [e] at h ⊢
  have:=Dm (Aee Alx b) (Yd (n:=b.N) (lo:=1) (hi:=8) (Abx b (Fe b.Kind b.C [] b.N ⟨0,0⟩)))
  simp only [Bool.false_or,List.append_nil,List.append_assoc] at this
  exact this f l h
 rw [if_neg (by simp [h3])]
 by_cases h4:b.Kind=4
 ·have e:K3 b=[Dr Alu]++([Dr b.C]++[No b.N]):=by simp [K3,Og,Nf,h4]
  have e2:L5 b=(!E6 b.C||(!Oe b.N 0 60||(((Int.tmod b.N 10) != 0) || !R7 b (Fe b.Kind b.C [] b.N ⟨0,0⟩)))):=by simp [L5,h4]
  rw [if_pos (by simp [h4]),e2]
  rw [e] at h ⊢
  have hj:Wr (fun f l=>if f then Dl b true l (Fe b.Kind b.C [] b.N ⟨0,0⟩) else Dl b ((Int.tmod b.N 10) != 0) l (Fe b.Kind b.C [] b.N ⟨0,0⟩)) (((Int.tmod b.N 10) != 0) || !R7 b (Fe b.Kind b.C [] b.N ⟨0,0⟩)) []:=by
   intro f l h
   cases f
   ·simp only [Bool.false_eq_true,if_false]
    exact Abx b _ _ l h
   ·simp only [if_true]
    exact Abx b _ true l h
  have:=Dm (Aee Alu b) (Yd (n:=b.N) (lo:=0) (hi:=60) hj)
  simp only [Bool.false_or,List.append_nil,List.append_assoc] at this
  exact this f l h
 ·rw [if_neg (by simp [h4])]
  have e:K3 b=[]:=by simp [K3,h1,h2,h3,h4]
  have e2:L5 b=true:=by simp [L5,h1,h2,h3,h4]
  rw [e,e2,List.append_nil,Bool.or_true]
  rfl
def Zh:Aw:=[118,111,108,117,109,101]
def Zj:Aw:=[115,101,99,116,111,114]
def Za:Aw:=[99,111,110,102,105,103]
def Y9:Aw:=[115,101,103,109,101,110,116]
def Zm:Aw:=[114,111,117,116,101]
def Zk:Aw:=[97,105,114,112,111,114,116]
def Zg:Aw:=[99,108,97,115,115]
def Q6 (b:Rule):List Token:=K3 b++[Kj [59]]
def Pp (a:Airspace):List Token:=
 a.Volumes.flatMap (fun x=>E9 Zh (Tw x))++(a.Sectors.flatMap (fun x=>E9 Zj (Th x))++(a.Configs.flatMap (fun x=>E9 Za (Ug x))++(a.Segments.flatMap (fun x=>E9 Y9 (T3 x)) ++
 (a.Routes.flatMap (fun x=>E9 Zm (T6 x))++(a.Airports.flatMap (fun x=>E9 Zk (Ua x))++(a.Classes.flatMap (fun x=>E9 Zg (Ue x))++a.Rules.flatMap Q6))))))
def Afh (a:Airspace):Bool:=
 (decide (64<a.Volumes.length)||a.Volumes.any T4)||((decide (64<a.Sectors.length)||a.Sectors.any T2)||((decide (32<a.Configs.length)||a.Configs.any Tj)||((decide (128<a.Segments.length)||a.Segments.any Ts) ||
 ((decide (64<a.Routes.length)||a.Routes.any Tz)||((decide (16<a.Airports.length)||a.Airports.any T9)||((decide (8<a.Classes.length)||a.Classes.any Vo)||(decide (64<a.Rules.length)||a.Rules.any L5)))))))
theorem Atm (l:List Volume):Wr (fun b l1=>(Di (fun _ a=>C3 fun fBad l2=>Gi Zh a fBad l2) 0 l ((b||(decide ((l.length:Int) > 64))),l1)).bind ((C3 fun fBad l2=>.ok (fBad,l2)))) (decide (64<l.length)||l.any T4) (l.flatMap fun x=>E9 Zh (Tw x)):=
 Tc (d:=fun x=>E9 Zh (Tw x)) (body:=Gi Zh) (fun a=>X9 Zh (by decide) (Auk a) (j1:=Hw a) fun _ _=>rfl) l 64 64 rfl
theorem As6 (l:List Sector):Wr (F6 Zj l 64) (decide (64<l.length)||l.any T2) (l.flatMap fun x=>E9 Zj (Th x)):=
 Tc (d:=fun x=>E9 Zj (Th x)) (body:=Hq Zj) (fun a=>X9 Zj (by decide) (Aue a) (j1:=Hu a) fun _ _=>rfl) l 64 64 rfl
theorem Atf (l:List Config):Wr (Ga Za l 32) (decide (32<l.length)||l.any Tj) (l.flatMap fun x=>E9 Za (Ug x)):=
 Tc (d:=fun x=>E9 Za (Ug x)) (body:=Hs Za) (fun a=>X9 Za (by decide) (Auf a) (j1:=Hv a) fun _ _=>rfl) l 32 32 rfl
theorem Aub (l:List Segment):Wr (F1 Y9 l 128) (decide (128<l.length)||l.any Ts) (l.flatMap fun x=>E9 Y9 (T3 x)):=
 Tc (d:=fun x=>E9 Y9 (T3 x)) (body:=Hn Y9) (fun a=>X9 Y9 (by decide) (Auz a) (j1:=Hl a) fun _ _=>rfl) l 128 128 rfl
theorem Asw (l:List Route):Wr (Gp Zm l 64) (decide (64<l.length)||l.any Tz) (l.flatMap fun x=>E9 Zm (T6 x)):=
 Tc (d:=fun x=>E9 Zm (T6 x)) (body:=If Zm) (fun a=>X9 Zm (by decide) (Aui a) (j1:=Id a) fun _ _=>rfl) l 64 64 rfl
theorem Atq (l:List Airport):Wr (F0 Zk l 16) (decide (16<l.length)||l.any T9) (l.flatMap fun x=>E9 Zk (Ua x)):=
 Tc (d:=fun x=>E9 Zk (Ua x)) (body:=Hj Zk) (fun a=>X9 Zk (by decide) (Aut a) (j1:=Hi a) fun _ _=>rfl) l 16 16 rfl
theorem Ast (l:List Class):Wr (Gr Zg l 8) (decide (8<l.length)||l.any Vo) (l.flatMap fun x=>E9 Zg (Ue x)):=
 Tc (d:=fun x=>E9 Zg (Ue x)) (body:=H5 Zg) (fun a=>X9 Zg (by decide) (Aun a) (j1:=H8 a) fun _ _=>rfl) l 8 8 rfl
theorem Atn (l:List Rule):Wr (F7 [] l 64) (decide (64<l.length)||l.any L5) (l.flatMap Q6):=
 Tc (d:=Q6) (body:=Ht []) (fun a b l h=>by
  have:=Dm (As0 a) (Xe (Acs [59]))
  rw [Bool.or_false] at this
  exact this b l h) l 64 64 rfl
theorem Aj9 (a:Airspace)(h:(Pp a).length≤1000000000000):I7 a=if Afh a then .ok ([],80) else Q4 (Pp a):=by
 have:=Dm (Atm a.Volumes) (Dm (As6 a.Sectors) (Dm (Atf a.Configs) (Dm (Aub a.Segments) (Dm (Asw a.Routes) (Dm (Atq a.Airports) (Dm (Ast a.Classes) (Atn a.Rules)))))))
 have:=this false [] (by simpa [Pp] using h)
 have e:I7 a=((Hh Zh a.Volumes 64 false).bind fun r=>(F6 Zj a.Sectors 64 r.1 r.2).bind fun r1=>(Ga Za a.Configs 32 r1.1 r1.2).bind fun r2=>
   (F1 Y9 a.Segments 128 r2.1 r2.2).bind fun r3=>(Gp Zm a.Routes 64 r3.1 r3.2).bind fun r4=>(F0 Zk a.Airports 16 r4.1 r4.2).bind fun r5=>(Gr Zg a.Classes 8 r5.1 r5.2).bind fun r6=>
   F7 [] a.Rules 64 r6.1 r6.2).bind fun r7=>if r7.1 then .ok ([],80) else(Q4 r7.2).bind fun r8=>.ok (r8.1,r8.2):=by
  simp only [R.bind_assoc]; rfl
 rw [e]
 have this:((Hh Zh a.Volumes 64 false).bind fun r=>(F6 Zj a.Sectors 64 r.1 r.2).bind fun r1=>(Ga Za a.Configs 32 r1.1 r1.2).bind fun r2=>
   (F1 Y9 a.Segments 128 r2.1 r2.2).bind fun r3=>(Gp Zm a.Routes 64 r3.1 r3.2).bind fun r4=>(F0 Zk a.Airports 16 r4.1 r4.2).bind fun r5=>(Gr Zg a.Classes 8 r5.1 r5.2).bind fun r6=>
   F7 [] a.Rules 64 r6.1 r6.2)=.ok (Afh a,Pp a):=this
 rw [this]
 simp only [R.ok_bind]
 cases Afh a
 ·simp only [Bool.false_eq_true,if_false]
  cases Q4 (Pp a) <;> rfl
 ·rfl
end Go.Am
namespace Go.Am
open Go
set_option linter.unusedVariables false
set_option linter.unusedSimpArgs false
section
variable {α:Type} {g:α→List Token} {c:Nat}
theorem Pf {d:α→List Token} : ∀ (l:List α),(∀ a ∈ l,(d a).length≤c)→(l.flatMap d).length≤l.length * c
 | [],_=>by simp
 | a::l,h=>by
  have:=Pf l fun x hx=>h x (List.mem_cons_of_mem _ hx)
  have h1:=h a (List.mem_cons_self ..)
  rw [List.flatMap_cons,List.length_append,List.length_cons,Nat.succ_mul]
  omega
theorem Aa7 (h : ∀ a,(g a).length≤c) : ∀ (l:List α),(H9 g l).length≤l.length * (c+1)
 | []=>by simp [H9]
 | a::l=>by
  have:(Tm g l).length≤l.length * (c+1):=Pf l fun x _=>by simp; exact h x
  have h1:=h a
  show(g a++Tm g l).length≤_
  rw [List.length_append,List.length_cons,Nat.succ_mul]
  omega
end
structure Mid (K:Nat)(a:Airspace):Prop where
 vol : ∀ x ∈ a.Volumes,x.Closed.length≤K
 sec : ∀ x ∈ a.Sectors,x.Names.length≤K
 con : ∀ x ∈ a.Configs,x.Names.length≤K
 seg : ∀ x ∈ a.Segments,x.Open.length≤K
 rou : ∀ x ∈ a.Routes,x.Names.length≤K
 air : ∀ x ∈ a.Airports,x.Modes.length≤K
theorem Aov (s:Span):(U2 s).length≤3:=Nat.le_refl _
theorem Ao9 (s:Mode):(Aft s).length≤3:=Nat.le_refl _
theorem Agc (w:Aw)(l:List Span){K:Nat}(h:l.length≤K):(Qe w l).length≤1+K * 4:=by
 unfold Qe
 have:=Aa7 Aov l
 split
 ·simp
 ·simp only [List.length_cons]; omega
theorem Afv (l:List Aw){K:Nat}(h:l.length≤K):(Ya l).length≤K * 2:=by
 have:=Aa7 (g:=fun s:Aw=>[Dr s]) (c:=1) (fun _=>Nat.le_refl _) l
 unfold Ya; omega
theorem Ahy {K:Nat}{a:Airspace}(h:Mid K a):(Pp a).length≤(a.Volumes.length+a.Sectors.length+a.Configs.length+a.Segments.length+a.Routes.length+a.Airports.length+a.Classes.length+a.Rules.length) * (K * 4+10):=by
 have h1:=Pf (d:=fun x=>E9 Zh (Tw x)) (c:=K * 4+10) a.Volumes fun x hx=>by
  have:=Agc [99,108,111,115,101,100] x.Closed (h.vol x hx)
  simp only [E9,Tw,List.length_cons,List.length_append,List.length_singleton]; simp; omega
 have h2:=Pf (d:=fun x=>E9 Zj (Th x)) (c:=K * 4+10) a.Sectors fun x hx=>by
  have:=Afv x.Names (h.sec x hx)
  simp only [E9,Th,List.length_cons,List.length_append,List.length_singleton]; simp; omega
 have h3:=Pf (d:=fun x=>E9 Za (Ug x)) (c:=K * 4+10) a.Configs fun x hx=>by
  have:=Afv x.Names (h.con x hx)
  simp only [E9,Ug,List.length_cons,List.length_append,List.length_singleton]; simp; omega
 have h4:=Pf (d:=fun x=>E9 Y9 (T3 x)) (c:=K * 4+10) a.Segments fun x hx=>by
  have:=Agc [111,112,101,110] x.Open (h.seg x hx)
  simp only [E9,T3,List.length_cons,List.length_append,List.length_singleton]; simp; omega
 have h5:=Pf (d:=fun x=>E9 Zm (T6 x)) (c:=K * 4+10) a.Routes fun x hx=>by
  have:=Afv x.Names (h.rou x hx)
  simp only [E9,T6,List.length_cons,List.length_append,List.length_singleton]; simp; omega
 have h6:=Pf (d:=fun x=>E9 Zk (Ua x)) (c:=K * 4+10) a.Airports fun x hx=>by
  have:=Aa7 Ao9 x.Modes
  have:=h.air x hx
  simp only [E9,Ua,List.length_cons,List.length_append,List.length_singleton]; simp; omega
 have h7:=Pf (d:=fun x=>E9 Zg (Ue x)) (c:=K * 4+10) a.Classes fun x hx=>by
  simp only [E9,Ue,List.length_cons,List.length_append,List.length_singleton]; simp
 have h8:=Pf (d:=Q6) (c:=K * 4+10) a.Rules fun x hx=>by
  simp only [Q6,K3,List.length_append,List.length_singleton]
  split
  ·unfold Nf; split
   ·simp [U2]
   ·split <;> simp
  ·simp
 simp only [Pp,List.length_append,Nat.add_mul]
 omega
abbrev Vt (T:List Token):Prop:=T.all D6=true
theorem De {T U:List Token}(h:Vt T)(k:Vt U):Vt (T++U):=by unfold Vt; rw [List.all_append,h,k]; rfl
theorem Rb {s:Aw}(h:(!E6 s)=false):Vt [Dr s]:=by
 have h:E6 s=true:=by simpa using h
 simp [Vt,D6,Dr,h]
theorem Xx {n lo hi:Int}(h:(!Oe n lo hi)=false)(h1:0≤lo)(h2:hi≤1099511627776):Vt [No n]:=by
 have h:Oe n lo hi=true:=by simpa using h
 simp only [Oe,Bool.and_eq_true,decide_eq_true_eq] at h
 simp [Vt,D6,No]; omega
theorem Qz {α:Type}{d:α→List Token} : ∀ (l:List α),(∀ a ∈ l,Vt (d a))→Vt (l.flatMap d)
 | [],_=>rfl
 | a::l,h=>by
  rw [List.flatMap_cons]
  exact De (h a (List.mem_cons_self ..)) (Qz l fun x hx=>h x (List.mem_cons_of_mem _ hx))
theorem Asm {α:Type}{B:α→Bool}{l:List α}(h:l.any B=false) : ∀ a ∈ l,B a=false:=by simpa using h
theorem Q8 {α:Type}{B:α→Bool}{most:Nat}{l:List α}(h:Nw B most l=false):l≠[]∧l.length≤most ∧ ∀ a ∈ l,B a=false:=by
 simp only [Nw,Bool.or_eq_false_iff,decide_eq_false_iff_not] at h
 exact⟨by simpa using h.1.1,by omega,Asm h.2⟩
theorem Abn {α:Type}{g:α→List Token}{B:α→Bool}{most:Nat}{l:List α}(hg : ∀ a,B a=false→Vt (g a))(h:Nw B most l=false):Vt (H9 g l):=by
 obtain⟨h1,_,h3⟩:=Q8 h
 cases l with
 | nil=>exact absurd rfl h1
 | cons a l=>
  refine De (hg a (h3 a (List.mem_cons_self ..))) (Qz l fun x hx=>?_)
  exact De (T:=[Kj [44]]) (by decide) (hg x (h3 x (List.mem_cons_of_mem _ hx)))
theorem As3 {s:Span}(h:Wq s=false):Vt (U2 s):=by
 simp only [Wq,Bool.or_eq_false_iff] at h
 have h1:Oe s.From 0 1439=true:=by simpa using h.1
 simp only [Oe,Bool.and_eq_true,decide_eq_true_eq] at h1
 have e:=h.2
 rw [Zp (by omega) (by omega)] at e
 exact De (Xx h.1 (by omega) (by omega)) (De (T:=[Dr [116,111]]) (by decide) (Xx e (by omega) (by omega)))
theorem Ahv {w:Aw}(hw:Vt [Dr w]){l:List Span}(h:O9 l=false):Vt (Qe w l):=by
 unfold O9 at h
 unfold Qe
 cases l with
 | nil=>rfl
 | cons a l=>
  have h:Nw Wq 16 (a::l)=false:=by simpa using h
  exact De hw (Abn (fun _=>As3) h)
theorem Ahz {most:Nat}{l:List Aw}(h:Ab3 most l=false):Vt (Ya l):=Abn (fun _=>Rb) h
theorem Avm {m:Mode}(h:Adv m=false):Vt (Aft m):=by
 simp only [Adv,Bool.or_eq_false_iff] at h
 exact De (by decide) (De (Rb h.1) (Xx h.2 (by omega) (by omega)))
theorem Ad4 {w:Aw}(hw:Vt [Dr w]){T:List Token}(h:Vt T):Vt (E9 w T):=De (T:=[Dr w]) hw (De h (by decide))
theorem Att {a:Volume}(h:T4 a=false):Vt (Tw a):=by
 simp only [T4,Bool.or_eq_false_iff] at h
 exact De (Rb h.1) (Ahv (by decide) h.2)
theorem At7 {a:Sector}(h:T2 a=false):Vt (Th a):=by
 simp only [T2,Bool.or_eq_false_iff] at h
 have h1:Oe a.Radar 0 64=true:=by simpa using h.2.2.1
 simp only [Oe,Bool.and_eq_true,decide_eq_true_eq] at h1
 exact De (Rb h.1) (De (by decide) (De (Ahz h.2.1) (De (by decide) (De (Xx h.2.2.1 (by omega) (by omega)) (De (by decide) (Xx h.2.2.2 (by omega) (by omega)))))))
theorem Asg {a:Config}(h:Tj a=false):Vt (Ug a):=by
 simp only [Tj,Bool.or_eq_false_iff] at h
 exact De (Rb h.1) (De (by decide) (Ahz h.2))
theorem Atl {a:Segment}(h:Ts a=false):Vt (T3 a):=by
 simp only [Ts,Bool.or_eq_false_iff] at h
 exact De (Rb h.1) (De (by decide) (De (Rb h.2.1) (De (by decide) (De (Xx h.2.2.1 (by omega) (by omega)) (Ahv (by decide) h.2.2.2)))))
theorem Asq {a:Route}(h:Tz a=false):Vt (T6 a):=by
 simp only [Tz,Bool.or_eq_false_iff] at h
 exact De (Rb h.1) (De (by decide) (De (Rb h.2.1) (De (by decide) (De (Rb h.2.2.1) (De (by decide) (Ahz h.2.2.2))))))
theorem Ass {a:Airport}(h:T9 a=false):Vt (Ua a):=by
 simp only [T9,Bool.or_eq_false_iff] at h
 exact De (Rb h.1) (Abn (fun _=>Avm) h.2)
theorem At2 {a:Class}(h:Vo a=false):Vt (Ue a):=by
 simp only [Vo,Bool.or_eq_false_iff] at h
 have h1:Oe a.Slow 1 64=true:=by simpa using h.2.1
 simp only [Oe,Bool.and_eq_true,decide_eq_true_eq] at h1
 exact De (Rb h.1) (De (by decide) (De (Xx h.2.1 (by omega) (by omega)) (De (by decide) (De (Xx h.2.2.1 (by omega) (by omega)) (De (by decide) (Xx h.2.2.2 (by omega) (by omega)))))))
theorem Asv {b:Rule}(h:L5 b=false):Vt (K3 b):=by
 unfold L5 at h
 unfold K3
 by_cases h1:b.Kind=1
 ·rw [if_pos h1] at h
  simp only [Bool.or_eq_false_iff] at h
  rw [if_pos (.inl h1)]
  simp only [Og,Nf,h1,if_true]
  exact De (by decide) (De (Rb h.1) (De (by decide) (De (Rb h.2.1) (As3 h.2.2.1))))
 rw [if_neg h1] at h
 by_cases h2:b.Kind=2
 ·rw [if_pos h2] at h
  simp only [Bool.or_eq_false_iff] at h
  rw [if_pos (.inr (.inl h2))]
  simp only [Og,Nf,h1,h2,if_true,if_false]
  rw [if_neg (by decide),if_neg (by decide)]
  exact De (by decide) (De (Rb h.1) rfl)
 rw [if_neg h2] at h
 by_cases h3:b.Kind=3
 ·rw [if_pos h3] at h
  simp only [Bool.or_eq_false_iff] at h
  rw [if_pos (.inr (.inr (.inl h3)))]
  simp only [Og,Nf,h1,h2,h3,if_true,if_false]
  exact De (by decide) (De (Rb h.1) (Xx h.2.1 (by omega) (by omega)))
 rw [if_neg h3] at h
 by_cases h4:b.Kind=4
 ·rw [if_pos h4] at h
  simp only [Bool.or_eq_false_iff] at h
  rw [if_pos (.inr (.inr (.inr h4)))]
  simp only [Og,Nf,h1,h2,h3,h4,if_true,if_false]
  exact De (by decide) (De (Rb h.1) (Xx h.2.1 (by omega) (by omega)))
 rw [if_neg h4] at h; cases h
structure GoodA (a:Airspace):Prop where
 fits:Zf a
 vol : ∀ x ∈ a.Volumes,T4 x=false
 sec : ∀ x ∈ a.Sectors,T2 x=false
 con : ∀ x ∈ a.Configs,Tj x=false
 seg : ∀ x ∈ a.Segments,Ts x=false
 rou : ∀ x ∈ a.Routes,Tz x=false
 air : ∀ x ∈ a.Airports,T9 x=false
 cla : ∀ x ∈ a.Classes,Vo x=false
 rul : ∀ x ∈ a.Rules,L5 x=false
theorem Aja (a:Airspace):Afh a=false↔GoodA a:=by
 unfold Afh
 simp only [Bool.or_eq_false_iff,decide_eq_false_iff_not,Nat.not_lt,List.any_eq_false,Bool.not_eq_true]
 constructor
 ·rintro⟨⟨f1,g1⟩,⟨f2,g2⟩,⟨f3,g3⟩,⟨f4,g4⟩,⟨f5,g5⟩,⟨f6,g6⟩,⟨f7,g7⟩,⟨f8,g8⟩⟩
  exact⟨⟨f1,f2,f3,f4,f5,f6,f7,f8⟩,g1,g2,g3,g4,g5,g6,g7,g8⟩
 ·rintro⟨⟨f1,f2,f3,f4,f5,f6,f7,f8⟩,g1,g2,g3,g4,g5,g6,g7,g8⟩
  exact⟨⟨f1,g1⟩,⟨f2,g2⟩,⟨f3,g3⟩,⟨f4,g4⟩,⟨f5,g5⟩,⟨f6,g6⟩,⟨f7,g7⟩,⟨f8,g8⟩⟩
theorem Agq {l:List Span}(h:O9 l=false):l.length≤64:=by
 cases l with
 | nil=>simp
 | cons a l=>
  have h:Nw Wq 16 (a::l)=false:=by simpa [O9] using h
  have:=(Q8 h).2.1; omega
theorem Apm {a:Airspace}(h:GoodA a):Mid 64 a where
 vol:=fun x hx=>Agq (by have:=h.vol x hx; simp only [T4,Bool.or_eq_false_iff] at this; exact this.2)
 sec:=fun x hx=>by have:=h.sec x hx; simp only [T2,Bool.or_eq_false_iff] at this; exact(Q8 this.2.1).2.1
 con:=fun x hx=>by have:=h.con x hx; simp only [Tj,Bool.or_eq_false_iff] at this; exact(Q8 this.2).2.1
 seg:=fun x hx=>Agq (by have:=h.seg x hx; simp only [Ts,Bool.or_eq_false_iff] at this; exact this.2.2.2)
 rou:=fun x hx=>by have:=h.rou x hx; simp only [Tz,Bool.or_eq_false_iff] at this; have:=(Q8 this.2.2.2).2.1; omega
 air:=fun x hx=>by have:=h.air x hx; simp only [T9,Bool.or_eq_false_iff] at this; have:=(Q8 this.2).2.1; omega
theorem Ahu {a:Airspace}(h:GoodA a):(Pp a).length≤131072:=by
 have h1:=Ahy (Apm h)
 obtain⟨f1,f2,f3,f4,f5,f6,f7,f8⟩:=h.fits
 omega
theorem Afc {a:Airspace}(h:GoodA a):Vt (Pp a):=by
 unfold Pp
 exact De (Qz _ fun x hx=>Ad4 (by decide) (Att (h.vol x hx))) (De (Qz _ fun x hx=>Ad4 (by decide) (At7 (h.sec x hx))) (De (Qz _ fun x hx=>Ad4 (by decide) (Asg (h.con x hx)))
  (De (Qz _ fun x hx=>Ad4 (by decide) (Atl (h.seg x hx))) (De (Qz _ fun x hx=>Ad4 (by decide) (Asq (h.rou x hx))) (De (Qz _ fun x hx=>Ad4 (by decide) (Ass (h.air x hx)))
  (De (Qz _ fun x hx=>Ad4 (by decide) (At2 (h.cla x hx))) (Qz _ fun x hx=>De (Asv (h.rul x hx)) (by decide))))))))
theorem All {s:Aw}(h:E6 s=true):s.length≤32:=by
 unfold E6 at h
 cases s with
 | nil=>simp
 | cons c w=>simp at h; simp; omega
theorem Anf {t:Token}(h:D6 t=true):t.Text.length≤32:=by
 unfold D6 at h
 split at h
 ·simp only [Bool.and_eq_true] at h; exact All h.1
 ·split at h
  ·simp only [Bool.and_eq_true,beq_iff_eq] at h; rw [h.1.1]; simp
  ·split at h
   ·simp only [Bool.and_eq_true] at h
    cases ht:t.Text with
    | nil=>simp
    | cons c w=>cases w with
     | nil=>simp
     | cons d w=>rw [ht] at h; simp [Xo] at h
   ·cases h
theorem Ail : ∀ (l:List Token),Vt l→Aag l≤32 * l.length
 | [],_=>by simp [Aag]
 | t::l,h=>by
  have h:D6 t=true∧l.all D6=true:=by simpa [Vt] using h
  have ih:=Ail l h.2
  have:=Anf h.1
  unfold Aag at ih ⊢
  simp only [List.map_cons,List.sum_cons,List.length_cons]
  omega
theorem Alw {a:Airspace}(h:GoodA a):Ap7 (Pp a):=by
 have h1:=Ahu h
 have h2:=Afc h
 have h3:=Arz h2
 have h4:=Ag8 (Pp a) h3
 have h5:=Ail _ h2
 exact⟨by omega,by omega,h3⟩
def Zq (a:Airspace):Aw:=Lib.join ((Pp a).map G9) [32]
theorem Ad8 {a:Airspace}(h:GoodA a):I7 a=.ok (Zq a,0):=by
 have h1:=Ahu h
 rw [Aj9 a (by omega),if_neg (by rw [(Aja a).2 h]; simp),Aqd _ (Alw h)]
 unfold Afy
 rw [if_pos (Afc h)]; rfl
theorem Ans {a:Airspace}(h:¬ GoodA a)(hl:(Pp a).length≤1000000000000):I7 a=.ok ([],80):=by
 rw [Aj9 a hl,if_pos]
 cases hb:Afh a
 ·exact absurd ((Aja a).1 hb) h
 ·rfl
end Go.Am
namespace Go.Am
open Go
set_option linter.unusedVariables false
set_option linter.unusedSimpArgs false
def G8 {α:Type}(p:Rd α)(T:List Token)(x:α)(ok:List Token→Prop):Prop := ∀ r,ok r→p (T++r)=.ok (x,r)
def Pq:List Token→Prop:=fun _=>True
def NoC:List Token→Prop:=fun r => ∀ t r',r=t::r'→Sr 3 [44] t=false
def Aor:List Token→Prop:=fun r => ∃ r',r=Kj [59]::r'
section
variable {α β:Type} {p:Rd α} {f:α→Rd β} {T U:List Token} {a:α} {b:β} {ok ok':List Token→Prop}
theorem Afl (hp:G8 p T a ok)(hf:G8 (f a) U b ok')(h : ∀ r,ok' r→ok (U++r)):G8 (p.bind f) (T++U) b ok':=fun r hr=>by
 unfold Rd.bind
 rw [List.append_assoc,hp _ (h r hr)]
 exact hf r hr
theorem Gh (hp:G8 p T a Pq)(hf:G8 (f a) U b ok'):G8 (p.bind f) (T++U) b ok':=Afl hp hf fun _ _=>trivial
theorem O6 {g:α→β}(hp:G8 p T a ok):G8 (p.bind fun x=>.pure (g x)) T (g a) ok:=fun r hr=>by
 unfold Rd.bind
 rw [hp r hr]; rfl
theorem Acn (hp:G8 p T a Pq):G8 p T a ok:=fun r _=>hp r trivial
theorem Aa6 {r:List Token}(h:Aor r):NoC r:=fun t r' e=>by
 obtain⟨q,rfl⟩:=h
 injection e with e1 e2
 subst e1; rfl
theorem Au1 (s:Aw)(r:List Token):NoC (Dr s::r):=fun t r' e=>by
 injection e with e1 e2
 subst e1; rfl
theorem X2 (s:Aw):G8 Ob [Dr s] s Pq:=fun r _=>by
 show Ob (Dr s::r)=_
 rw [Al5]; rfl
theorem O7 (s:Aw):G8 (Oc 1 s) [Dr s] () Pq:=fun r _=>by
 show Oc 1 s (Dr s::r)=_
 rw [Aic,if_pos (by simp [Sr,Dr])]
theorem Aec (s:Aw):G8 (Oc 3 s) [Kj s] () Pq:=fun r _=>by
 show Oc 3 s (Kj s::r)=_
 rw [Aic,if_pos (by simp [Sr,Kj])]
theorem Vm {n lo hi:Int}(h:(!Oe n lo hi)=false):G8 (Ol lo hi 1) [No n] n Pq:=fun r _=>by
 have h:Oe n lo hi=true:=by simpa using h
 simp only [Oe,Bool.and_eq_true,decide_eq_true_eq] at h
 show Ol lo hi 1 (No n::r)=_
 rw [Ag0,if_pos (by simp [Afq,No]; exact⟨decide_eq_true h.1,decide_eq_true h.2⟩)]; rfl
theorem Ar4 {n lo hi:Int}(h:(!Oe n lo hi)=false)(h2:Int.tmod n 10=0):G8 (Ol lo hi 10) [No n] n Pq:=fun r _=>by
 have h:Oe n lo hi=true:=by simpa using h
 simp only [Oe,Bool.and_eq_true,decide_eq_true_eq] at h
 show Ol lo hi 10 (No n::r)=_
 rw [Ag0,if_pos (by simp [Afq,No,h2]; exact⟨decide_eq_true h.1,decide_eq_true h.2⟩)]; rfl
theorem Akm {s:Span}(h:Wq s=false):G8 Qq (U2 s) s Pq:=by
 simp only [Wq,Bool.or_eq_false_iff] at h
 have h1:Oe s.From 0 1439=true:=by simpa using h.1
 simp only [Oe,Bool.and_eq_true,decide_eq_true_eq] at h1
 have e:=h.2
 rw [Zp (by omega) (by omega)] at e
 exact Gh (Vm h.1) (Gh (O7 [116,111]) (O6 (g:=fun b=>(⟨s.From,b⟩:Span)) (Vm e)))
theorem Aim {p:Rd α}{g:α→List Token}{B:α→Bool}(hp : ∀ a,B a=false→G8 p (g a) a Pq) : ∀ (l:List α) (n:Nat) (acc:List α),l≠[]→l.length≤n+1→(∀ a ∈ l,B a=false)→G8 (F5 p n acc) (H9 g l) (acc++l) NoC
 | [],n,acc,h,_,_=>absurd rfl h
 | [a],n,acc,_,hn,hB=>fun r hr=>by
  have e:H9 g [a]=g a:=by simp [H9,Tm]
  have h1:=hp a (hB a (List.mem_cons_self ..)) r trivial
  rw [e]
  have key : ∀ (K:Rd (List α)),(p.bind fun a=>(Zw 3 [44]).bind fun b=>if b=true then K else .pure (acc++[a])) (g a++r)=.ok (acc++[a],r):=fun K=>by
   unfold Rd.bind
   rw [h1]
   cases r with
   | nil=>rfl
   | cons t r=>
    have:=hr t r rfl
    simp only [Zw,this,Bool.false_eq_true,if_false]; rfl
  have key2 : ∀ (K:α→Rd (List α)),(p.bind fun a=>(Zw 3 [44]).bind fun b=>if b=true then K a else .pure (acc++[a])) (g a++r)=.ok (acc++[a],r):=fun K=>by
   unfold Rd.bind
   rw [h1]
   cases r with
   | nil=>rfl
   | cons t r=>
    have:=hr t r rfl
    simp only [Zw,this,Bool.false_eq_true,if_false]; rfl
  cases n with
  | zero=>rw [F5]; exact key _
  | succ n=>rw [F5]; exact key2 _
 | a::b::l,n,acc,_,hn,hB=>fun r hr=>by
  cases n with
  | zero=>simp at hn
  | succ n=>
   have e:H9 g (a::b::l)++r=g a++(Kj [44]::(H9 g (b::l)++r)):=by simp [H9,Tm]
   have h1:=hp a (hB a (List.mem_cons_self ..)) (Kj [44]::(H9 g (b::l)++r)) trivial
   have h2:=Aim hp (b::l) n (acc++[a]) (by simp) (by simpa using hn) (fun x hx=>hB x (List.mem_cons_of_mem _ hx)) r hr
   rw [F5,e]
   unfold Rd.bind
   rw [h1]
   have h3:Oc 3 [44] (Kj [44]::(H9 g (b::l)++r))=.ok ((),H9 g (b::l)++r):=Aec [44] _ trivial
   have h4:Sr 3 [44] (Kj [44])=true:=rfl
   simp only [Zw,h4,if_true,h3]
   rw [h2,List.append_assoc]; rfl
theorem Alp {p:Rd α}{g:α→List Token}{B:α→Bool}(hp : ∀ a,B a=false→G8 p (g a) a Pq){most:Nat}{l:List α}(h:Nw B (most+1) l=false):G8 (F5 p most []) (H9 g l) l NoC:=by
 obtain⟨h1,h2,h3⟩:=Q8 h
 exact Aim hp l most [] h1 h2 h3
theorem Alb {w:Aw}{l:List Span}(h:O9 l=false):G8 (Ub w) (Qe w l) l Aor:=by
 cases l with
 | nil=>
  intro r hr
  obtain⟨r',rfl⟩:=hr
  rfl
 | cons a l=>
  have h:Nw Wq 16 (a::l)=false:=by simpa [O9] using h
  intro r hr
  show Ub w (Dr w::(H9 U2 (a::l)++r))=_
  have h1:=Alp (p:=Qq) (most:=15) (fun _=>Akm) h r (Aa6 hr)
  have h3:Sr 1 w (Dr w)=true:=by simp [Sr,Dr]
  have h2:Oc 1 w (Dr w::(H9 U2 (a::l)++r))=.ok ((),H9 U2 (a::l)++r):=O7 w _ trivial
  unfold Ub Rd.bind
  simp only [Zw,h3,if_true,h2]
  exact h1
theorem Af2 {most:Nat}{l:List Aw}(h:Ab3 (most+1) l=false):G8 (F5 Ob most []) (Ya l) l NoC:=Alp (p:=Ob) (fun a _=>X2 a) h
theorem At3 {m:Mode}(h:Adv m=false):G8 Wa (Aft m) m Pq:=by
 simp only [Adv,Bool.or_eq_false_iff] at h
 exact Gh (O7 _) (Gh (X2 m.Name) (O6 (g:=fun k=>({ Name:=m.Name,Places:=k }:Mode)) (Vm h.2)))
def Abp (a:Sector):Sector:={ Name:=a.Name,Names:=a.Names,Volumes:=[],Radar:=a.Radar,Procedural:=a.Procedural }
def Ab7 (a:Config):Config:={ Name:=a.Name,Names:=a.Names,Sectors:=[] }
def Abr (a:Segment):Segment:={ Name:=a.Name,In:=a.In,Volume:=0,Length:=a.Length,Open:=a.Open }
def Acu (a:Route):Route:={ Name:=a.Name,A:=a.A,B:=a.B,From:=0,To:=0,Names:=a.Names,Segments:=[] }
def Acm (a:Rule):Rule:=Fe a.Kind a.C a.A a.N a.Hours
theorem Uh {p:Aw→Rd α}{n:Aw}{T:List Token}{x:α}(h:G8 (p n) T x Aor):G8 (Fl p) (([Dr n]++T)++[Kj [59]]) x Pq:=by
 rw [List.append_assoc]
 exact Gh (X2 n) (Afl h (O6 (g:=fun _=>x) (Aec [59])) fun r _=>⟨r,rfl⟩)
theorem Au3 {a:Volume}(h:T4 a=false):G8 (Fl Acj) (Tw a++[Kj [59]]) a Pq:=by
 simp only [T4,Bool.or_eq_false_iff] at h
 exact Uh (O6 (g:=fun c=>({ Name:=a.Name,Closed:=c }:Volume)) (Alb h.2))
theorem Au0 {a:Sector}(h:T2 a=false):G8 (Fl Acg) (Th a++[Kj [59]]) (Abp a) Pq:=by
 simp only [T2,Bool.or_eq_false_iff] at h
 exact Uh (Gh (Aec _) (Afl (Af2 h.2.1) (Gh (O7 _) (Gh (Vm h.2.2.1) (Gh (O7 _) (Acn (O6 (g:=fun k=>Abp { a with Procedural:=k }) (Vm h.2.2.2)))))) fun r _=>Au1 _ _))
theorem Auu {a:Config}(h:Tj a=false):G8 (Fl Ab1) (Ug a++[Kj [59]]) (Ab7 a) Pq:=by
 simp only [Tj,Bool.or_eq_false_iff] at h
 exact Uh (Gh (Aec _) fun r hr=>O6 (g:=fun l=>Ab7 { a with Names:=l }) (Af2 h.2) r (Aa6 hr))
theorem Auv {a:Segment}(h:Ts a=false):G8 (Fl Ab8) (T3 a++[Kj [59]]) (Abr a) Pq:=by
 simp only [Ts,Bool.or_eq_false_iff] at h
 exact Uh (Gh (O7 _) (Gh (X2 a.In) (Gh (O7 _) (Gh (Vm h.2.2.1) (O6 (g:=fun l=>Abr { a with Open:=l }) (Alb h.2.2.2))))))
theorem Au2 {a:Route}(h:Tz a=false):G8 (Fl Abt) (T6 a++[Kj [59]]) (Acu a) Pq:=by
 simp only [Tz,Bool.or_eq_false_iff] at h
 exact Uh (Gh (O7 _) (Gh (X2 a.A) (Gh (O7 _) (Gh (X2 a.B) (Gh (O7 _) fun r hr=>O6 (g:=fun l=>Acu { a with Names:=l }) (Af2 h.2.2.2) r (Aa6 hr))))))
theorem Aur {a:Airport}(h:T9 a=false):G8 (Fl Ab5) (Ua a++[Kj [59]]) a Pq:=by
 simp only [T9,Bool.or_eq_false_iff] at h
 exact Uh (fun r hr=>O6 (g:=fun l=>({ Name:=a.Name,Modes:=l }:Airport)) (Alp (p:=Wa) (most:=15) (fun _=>At3) h.2) r (Aa6 hr))
theorem Auq {a:Class}(h:Vo a=false):G8 (Fl Abl) (Ue a++[Kj [59]]) a Pq:=by
 simp only [Vo,Bool.or_eq_false_iff] at h
 exact Uh (Gh (O7 _) (Gh (Vm h.2.1) (Gh (O7 _) (Gh (Vm h.2.2.1) (Gh (O7 _) (Acn (O6 (g:=fun k=>({ a with Places:=k }:Class)) (Vm h.2.2.2))))))))
end
end Go.Am
namespace Go.Am
open Go
set_option linter.unusedVariables false
set_option linter.unusedSimpArgs false
theorem Acy {b:Rule}{k:Int}{c a:Aw}{n:Int}{h:Span}(e:(!R7 b (Fe k c a n h))=false):Acm b=Fe k c a n h:=by
 have e:R7 b (Fe k c a n h)=true:=by simpa using e
 simp only [R7,Fe,Bool.and_eq_true,beq_iff_eq] at e
 obtain⟨e1,e2,e3,_,_,e4,e5,e6⟩:=e
 unfold Acm Fe
 have:b.Hours=h:=by
  cases hh:b.Hours with
  | mk f t=>rw [hh] at e5 e6; cases h; simp at e5 e6; simp [e5,e6]
 rw [e1,e2,e3,e4,this]
theorem Q9 {α:Type}{p:Aw→Rd α}{w:Aw}{T:List Token}{x:α}{A:Airspace}{c:Bool}{upd:α→Airspace}(hi:Vj w A=some (c,(Fl p).bind fun x=>.pure (upd x)))(hc:c=false)(h:G8 (Fl p) (T++[Kj [59]]) x Pq)(r:List Token) :
  Po A (E9 w T++r)=.ok (upd x,r):=by
 show Po A (Dr w::((T++[Kj [59]])++r))=_
 subst hc
 have e:((Dr w).Kind==1)=true:=rfl
 simp only [Po,e,if_true,show(Dr w).Text=w from rfl,hi,Bool.false_eq_true,if_false]
 exact O6 (g:=upd) h r trivial
theorem Rx {α:Type}{d:α→List Token}{add:Airspace→α→Airspace}{cnt:Airspace→Nat}{most:Nat}(hadd : ∀ A a,cnt (add A a)=cnt A+1)(hne : ∀ a r,∃ t r',d a++r=t::r'∧r.length≤r'.length) :
  ∀ (l:List α) (A:Airspace) (n:Nat) (r:List Token),(∀ a ∈ l,∀ A r,cnt A<most→Po A (d a++r)=.ok (add A a,r))→cnt A+l.length≤most→(l.flatMap d++r).length≤n → ∃ j,r.length≤j∧Uz n A (l.flatMap d++r)=Uz j (l.foldl add A) r
 | [],A,n,r,_,_,hn=>⟨n,by simpa using hn,rfl⟩
 | a::l,A,n,r,hd,hc,hn=>by
  have e:(a::l).flatMap d++r=d a++(l.flatMap d++r):=by rw [List.flatMap_cons,List.append_assoc]
  rw [e] at hn ⊢
  have hc':cnt A+(l.length+1)≤most:=hc
  obtain⟨t,r',h1,h2⟩:=hne a (l.flatMap d++r)
  have h3:=hd a (List.mem_cons_self ..) A (l.flatMap d++r) (by omega)
  rw [h1] at hn h3 ⊢
  cases n with
  | zero=>simp at hn
  | succ n=>
   simp only [List.length_cons] at hn
   rw [Uz,h3]
   exact Rx hadd hne l (add A a) n r (fun x hx=>hd x (List.mem_cons_of_mem _ hx)) (by rw [hadd]; omega) (by omega)
theorem Ad5 (w:Aw)(T:List Token)(r:List Token) : ∃ t r',E9 w T++r=t::r'∧r.length≤r'.length:=⟨_,_,rfl,by simp; omega⟩
def Yy (a:Airspace):Airspace:={ Volumes:=a.Volumes,Sectors:=a.Sectors.map Abp,Configs:=a.Configs.map Ab7,Segments:=a.Segments.map Abr,Routes:=a.Routes.map Acu,Airports:=a.Airports,Classes:=a.Classes,Rules:=a.Rules.map Acm }
section
variable {α:Type} {add:Airspace→α→Airspace} {l:List α}
theorem Ao6 (l:List Volume) : ∀ A:Airspace,l.foldl (fun(A:Airspace) x=>{ A with Volumes:=A.Volumes++[x] }) A={ A with Volumes:=A.Volumes++l }:=by
 induction l with
 | nil=>intro A; simp
 | cons a l ih=>intro A; rw [List.foldl_cons,ih]; simp
theorem Apo (l:List Sector) : ∀ A:Airspace,l.foldl (fun(A:Airspace) x=>{ A with Sectors:=A.Sectors++[Abp x] }) A={ A with Sectors:=A.Sectors++l.map Abp }:=by
 induction l with
 | nil=>intro A; simp
 | cons a l ih=>intro A; rw [List.foldl_cons,ih]; simp
theorem Apy (l:List Config) : ∀ A:Airspace,l.foldl (fun(A:Airspace) x=>{ A with Configs:=A.Configs++[Ab7 x] }) A={ A with Configs:=A.Configs++l.map Ab7 }:=by
 induction l with
 | nil=>intro A; simp
 | cons a l ih=>intro A; rw [List.foldl_cons,ih]; simp
theorem Aop (l:List Segment) : ∀ A:Airspace,l.foldl (fun(A:Airspace) x=>{ A with Segments:=A.Segments++[Abr x] }) A={ A with Segments:=A.Segments++l.map Abr }:=by
 induction l with
 | nil=>intro A; simp
 | cons a l ih=>intro A; rw [List.foldl_cons,ih]; simp
theorem An2 (l:List Route) : ∀ A:Airspace,l.foldl (fun(A:Airspace) x=>{ A with Routes:=A.Routes++[Acu x] }) A={ A with Routes:=A.Routes++l.map Acu }:=by
 induction l with
 | nil=>intro A; simp
 | cons a l ih=>intro A; rw [List.foldl_cons,ih]; simp
theorem Ao7 (l:List Airport) : ∀ A:Airspace,l.foldl (fun(A:Airspace) x=>{ A with Airports:=A.Airports++[x] }) A={ A with Airports:=A.Airports++l }:=by
 induction l with
 | nil=>intro A; simp
 | cons a l ih=>intro A; rw [List.foldl_cons,ih]; simp
theorem Aou (l:List Class) : ∀ A:Airspace,l.foldl (fun(A:Airspace) x=>{ A with Classes:=A.Classes++[x] }) A={ A with Classes:=A.Classes++l }:=by
 induction l with
 | nil=>intro A; simp
 | cons a l ih=>intro A; rw [List.foldl_cons,ih]; simp
theorem Aph (l:List Rule) : ∀ A:Airspace,l.foldl (fun(A:Airspace) x=>{ A with Rules:=A.Rules++[Acm x] }) A={ A with Rules:=A.Rules++l.map Acm }:=by
 induction l with
 | nil=>intro A; simp
 | cons a l ih=>intro A; rw [List.foldl_cons,ih]; simp
end
theorem Rh {m n:Nat}(h:n<m):decide (m≤n)=false:=by simpa using h
theorem Apf {b:Rule}(h:L5 b=false)(A:Airspace)(r:List Token)(hc:A.Rules.length<64):Po A (Q6 b++r)=.ok ({ A with Rules:=A.Rules++[Acm b] },r):=by
 unfold L5 at h
 by_cases h1:b.Kind=1
 ·rw [if_pos h1] at h
  simp only [Bool.or_eq_false_iff] at h
  have e:Q6 b=E9 Alf ([Dr b.C]++([Dr [97,116]]++([Dr b.A]++U2 b.Hours))):=by simp [Q6,K3,Og,Nf,h1,E9]
  rw [e,Acy h.2.2.2,h1]
  exact Q9 (p:=Adp) (x:=Fe 1 b.C b.A 0 b.Hours) (c:=decide (64≤A.Rules.length)) (upd:=fun x=>{ A with Rules:=A.Rules++[x] }) rfl (Rh hc)
   (Uh (Gh (O7 _) (Gh (X2 b.A) (Acn (O6 (g:=fun x=>Fe 1 b.C b.A 0 x) (Akm h.2.2.1)))))) r
 rw [if_neg h1] at h
 by_cases h2:b.Kind=2
 ·rw [if_pos h2] at h
  simp only [Bool.or_eq_false_iff] at h
  have e:Q6 b=E9 Amb ([Dr b.C]++[]):=by simp [Q6,K3,Og,Nf,h2,E9]
  rw [e,Acy h.2,h2]
  exact Q9 (p:=Adq) (x:=Fe 2 b.C [] 0 ⟨0,0⟩) (c:=decide (64≤A.Rules.length)) (upd:=fun x=>{ A with Rules:=A.Rules++[x] }) rfl (Rh hc)
   (Uh (p:=Adq) fun r _=>rfl) r
 rw [if_neg h2] at h
 by_cases h3:b.Kind=3
 ·rw [if_pos h3] at h
  simp only [Bool.or_eq_false_iff] at h
  have e:Q6 b=E9 Alx ([Dr b.C]++[No b.N]):=by simp [Q6,K3,Og,Nf,h3,E9]
  rw [e,Acy h.2.2,h3]
  exact Q9 (p:=Adz) (x:=Fe 3 b.C [] b.N ⟨0,0⟩) (c:=decide (64≤A.Rules.length)) (upd:=fun x=>{ A with Rules:=A.Rules++[x] }) rfl (Rh hc)
   (Uh (Acn (O6 (g:=fun n=>Fe 3 b.C [] n ⟨0,0⟩) (Vm h.2.1)))) r
 rw [if_neg h3] at h
 by_cases h4:b.Kind=4
 ·rw [if_pos h4] at h
  simp only [Bool.or_eq_false_iff] at h
  have e:Q6 b=E9 Alu ([Dr b.C]++[No b.N]):=by simp [Q6,K3,Og,Nf,h4,E9]
  rw [e,Acy h.2.2.2,h4]
  exact Q9 (p:=Ace) (x:=Fe 4 b.C [] b.N ⟨0,0⟩) (c:=decide (64≤A.Rules.length)) (upd:=fun x=>{ A with Rules:=A.Rules++[x] }) rfl (Rh hc)
   (Uh (Acn (O6 (g:=fun n=>Fe 4 b.C [] n ⟨0,0⟩) (Ar4 h.2.1 (by simpa using h.2.2.1))))) r
 rw [if_neg h4] at h; cases h
abbrev B1 (a:Airspace):Airspace:={ T7 with Volumes:=T7.Volumes++a.Volumes }
abbrev B2 (a:Airspace):Airspace:={ B1 a with Sectors:=(B1 a).Sectors++a.Sectors.map Abp }
abbrev B3 (a:Airspace):Airspace:={ B2 a with Configs:=(B2 a).Configs++a.Configs.map Ab7 }
abbrev B4 (a:Airspace):Airspace:={ B3 a with Segments:=(B3 a).Segments++a.Segments.map Abr }
abbrev B5 (a:Airspace):Airspace:={ B4 a with Routes:=(B4 a).Routes++a.Routes.map Acu }
abbrev B6 (a:Airspace):Airspace:={ B5 a with Airports:=(B5 a).Airports++a.Airports }
abbrev B7 (a:Airspace):Airspace:={ B6 a with Classes:=(B6 a).Classes++a.Classes }
theorem Alz {a:Airspace}(h:GoodA a):Q7 (Pp a)=.ok (Yy a):=by
 obtain⟨f1,f2,f3,f4,f5,f6,f7,f8⟩:=h.fits
 unfold Q7
 unfold Pp
 obtain⟨j1,k1,e1⟩:=Rx (d:=fun x=>E9 Zh (Tw x)) (add:=fun(A:Airspace) x=>{ A with Volumes:=A.Volumes++[x] }) (cnt:=fun A=>A.Volumes.length) (most:=64) (fun _ _=>by simp) (fun _ _=>Ad5 _ _ _) a.Volumes T7 _ _
  (fun x hx A r hc=>Q9 (p:=Acj) (c:=decide (64≤A.Volumes.length)) (upd:=fun x=>{ A with Volumes:=A.Volumes++[x] }) rfl (Rh hc) (Au3 (h.vol x hx)) r) (by simpa [T7] using f1) (Nat.le_refl _)
 rw [e1,show List.foldl _ T7 a.Volumes=B1 a from Ao6 _ _]
 obtain⟨j2,k2,e2⟩:=Rx (d:=fun x=>E9 Zj (Th x)) (add:=fun(A:Airspace) x=>{ A with Sectors:=A.Sectors++[Abp x] }) (cnt:=fun A=>A.Sectors.length) (most:=64) (fun _ _=>by simp) (fun _ _=>Ad5 _ _ _) a.Sectors (B1 a) j1 _
  (fun x hx A r hc=>Q9 (p:=Acg) (c:=decide (64≤A.Sectors.length)) (upd:=fun x=>{ A with Sectors:=A.Sectors++[x] }) rfl (Rh hc) (Au0 (h.sec x hx)) r) (by simpa [T7] using f2) k1
 rw [e2,show List.foldl _ (B1 a) a.Sectors=B2 a from Apo _ _]
 obtain⟨j3,k3,e3⟩:=Rx (d:=fun x=>E9 Za (Ug x)) (add:=fun(A:Airspace) x=>{ A with Configs:=A.Configs++[Ab7 x] }) (cnt:=fun A=>A.Configs.length) (most:=32) (fun _ _=>by simp) (fun _ _=>Ad5 _ _ _) a.Configs (B2 a) j2 _
  (fun x hx A r hc=>Q9 (p:=Ab1) (c:=decide (32≤A.Configs.length)) (upd:=fun x=>{ A with Configs:=A.Configs++[x] }) rfl (Rh hc) (Auu (h.con x hx)) r) (by simpa [T7] using f3) k2
 rw [e3,show List.foldl _ (B2 a) a.Configs=B3 a from Apy _ _]
 obtain⟨j4,k4,e4⟩:=Rx (d:=fun x=>E9 Y9 (T3 x)) (add:=fun(A:Airspace) x=>{ A with Segments:=A.Segments++[Abr x] }) (cnt:=fun A=>A.Segments.length) (most:=128) (fun _ _=>by simp) (fun _ _=>Ad5 _ _ _) a.Segments (B3 a) j3 _
  (fun x hx A r hc=>Q9 (p:=Ab8) (c:=decide (128≤A.Segments.length)) (upd:=fun x=>{ A with Segments:=A.Segments++[x] }) rfl (Rh hc) (Auv (h.seg x hx)) r) (by simpa [T7] using f4) k3
 rw [e4,show List.foldl _ (B3 a) a.Segments=B4 a from Aop _ _]
 obtain⟨j5,k5,e5⟩:=Rx (d:=fun x=>E9 Zm (T6 x)) (add:=fun(A:Airspace) x=>{ A with Routes:=A.Routes++[Acu x] }) (cnt:=fun A=>A.Routes.length) (most:=64) (fun _ _=>by simp) (fun _ _=>Ad5 _ _ _) a.Routes (B4 a) j4 _
  (fun x hx A r hc=>Q9 (p:=Abt) (c:=decide (64≤A.Routes.length)) (upd:=fun x=>{ A with Routes:=A.Routes++[x] }) rfl (Rh hc) (Au2 (h.rou x hx)) r) (by simpa [T7] using f5) k4
 rw [e5,show List.foldl _ (B4 a) a.Routes=B5 a from An2 _ _]
 obtain⟨j6,k6,e6⟩:=Rx (d:=fun x=>E9 Zk (Ua x)) (add:=fun(A:Airspace) x=>{ A with Airports:=A.Airports++[x] }) (cnt:=fun A=>A.Airports.length) (most:=16) (fun _ _=>by simp) (fun _ _=>Ad5 _ _ _) a.Airports (B5 a) j5 _
  (fun x hx A r hc=>Q9 (p:=Ab5) (c:=decide (16≤A.Airports.length)) (upd:=fun x=>{ A with Airports:=A.Airports++[x] }) rfl (Rh hc) (Aur (h.air x hx)) r) (by simpa [T7] using f6) k5
 rw [e6,show List.foldl _ (B5 a) a.Airports=B6 a from Ao7 _ _]
 obtain⟨j7,k7,e7⟩:=Rx (d:=fun x=>E9 Zg (Ue x)) (add:=fun(A:Airspace) x=>{ A with Classes:=A.Classes++[x] }) (cnt:=fun A=>A.Classes.length) (most:=8) (fun _ _=>by simp) (fun _ _=>Ad5 _ _ _) a.Classes (B6 a) j6 _
  (fun x hx A r hc=>Q9 (p:=Abl) (c:=decide (8≤A.Classes.length)) (upd:=fun x=>{ A with Classes:=A.Classes++[x] }) rfl (Rh hc) (Auq (h.cla x hx)) r) (by simpa [T7] using f7) k6
 rw [e7,show List.foldl _ (B6 a) a.Classes=B7 a from Aou _ _]
 rw [← List.append_nil (a.Rules.flatMap Q6)]
 obtain⟨j8,k8,e8⟩:=Rx (d:=Q6) (add:=fun(A:Airspace) x=>{ A with Rules:=A.Rules++[Acm x] }) (cnt:=fun A=>A.Rules.length) (most:=64) (fun _ _=>by simp) (fun b r=>by
   unfold Q6
   cases ht:K3 b with
   | nil=>exact⟨_,_,rfl,by simp⟩
   | cons t q=>exact⟨t,_,rfl,by simp; omega⟩) a.Rules (B7 a) j7 []
  (fun x hx A r hc=>Apf (h.rul x hx) A r hc) (by simpa [T7] using f8) (by simpa using k7)
 rw [e8,Aph,Uz.eq_1]
 simp [T7,Yy]
end Go.Am

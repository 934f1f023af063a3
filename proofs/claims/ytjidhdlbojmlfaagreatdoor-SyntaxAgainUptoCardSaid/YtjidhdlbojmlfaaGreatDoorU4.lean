/- Written by shrink.py from texts of ours: comments struck, what is not reached left out, names short. -/
import Derived.Test.YtjidhdlbojmlfaaGreatDoorU3
import Derived.Test.YtjidhdlbojmlfaaGreatDoorU1
import Derived.Test.YtjidhdlbojmlfaaGreatDoorU2
import Derived.RangeFuncIn
import Derived.RangeFuncLeaves
import Derived.Deep.DeepHandedRow
import Derived.Lib.LaidU8
import Derived.Lay
import Derived.MakeChecks
import Derived.LaidMore
import Derived.WideKeyElems2
import Derived.KernelRfl
import Derived.Lib.Bytealg
import Derived.Lib.ItoaNum
import Derived.Lib.Join
import Derived.Lib.AtoiAll
import Derived.Lib.ItoaMem
import Derived.Lib.AtoiAllCases
namespace Go.Am
open Go
set_option linter.unusedSimpArgs false
set_option linter.unusedVariables false
set_option linter.unusedSectionVars false
inductive AFz (h h2:Ae):AO→AO→Prop
 | same (x:AO):AFz h h2 x x
 | rows (g st:Nat) (rs rs':List (List AV)) (hl:rs.length=rs'.length) (hr : ∀ r ∈ rs',E4 st r) (hc : ∀ i j,i<rs.length→j<st→Fz h h2 (cell rs i j) (cell rs' i j)):AFz h h2 (.rows g st rs) (.rows g st rs')
def HFz (h h2:Ae):Prop := ∀ o y,h2 o=some y → ∃ x,h o=some x∧AFz h h2 x y
theorem AFz.gen {h h2:Ae}{x y:AO}(k:AFz h h2 x y):x.gen=y.gen:=by cases k <;> rfl
theorem HFz.subG {h h2:Ae}(k:HFz h h2):Ahh h2 h:=fun o y e=>let ⟨x,h1,h2⟩:=k o y e; ⟨x,h1,h2.gen⟩
theorem Sim.fz {P:Program}[GW P]{B:Base P}{mu:Mu}{h h2:Ae}{w:World}(s:Sim B mu h w)(k:HFz h h2):Sim B mu h2 w:=by
 refine⟨s.base,s.muOk,s.fin,?_,?_,?_,?_,s.glob,fun o g x e=>by
  obtain⟨y,h1,hx⟩:=k o _ e
  cases hx with
  | same _=>exact s.blks o g x h1⟩
 ·obtain⟨N,hN⟩:=s.finh
  refine⟨N,fun o ho=>?_⟩
  cases hq:h2 o with
  | none=>rfl
  | some y=>obtain⟨x,h1,_⟩:=k o y hq; rw [hN o ho] at h1; cases h1
 ·intro o g st rs e
  obtain⟨x,h1,hx⟩:=k o _ e
  cases hx with
  | same _=>
   obtain⟨l,k1,k2,k3,k4,k5,k6⟩:=s.rows o g st rs h1
   exact⟨l,k1,k2,k3,k4,k5,fun i j hi hj=>let ⟨c,c1,c2⟩:=k6 i j hi hj; ⟨c,c1,Ot s k.subG (.same _) c2⟩⟩
  | rows _ _ rs0 _ hl hr hc=>
   obtain⟨l,k1,k2,k3,k4,k5,k6⟩:=s.rows o g st rs0 h1
   exact⟨l,k1,k2,k3,by rw [← hl]; exact k4,hr,fun i j hi hj=>let ⟨c,c1,c2⟩:=k6 i j (hl ▸ hi) hj; ⟨c,c1,Ot s k.subG (hc i j (hl ▸ hi) hj) c2⟩⟩
 ·intro o g es e
  obtain⟨x,h1,hx⟩:=k o _ e
  cases hx with
  | same _=>
   obtain⟨l,k1,k2,ens,clock,k3,k4,k5⟩:=s.maps o g es h1
   exact⟨l,k1,k2,ens,clock,k3,k4,fun i hi=>⟨Ot s k.subG (.same _) (k5 i hi).1,Ot s k.subG (.same _) (k5 i hi).2⟩⟩
 ·intro o o' x x' l l' e e' h1 h2 hb
  obtain⟨y,k1,k2⟩:=k _ _ e
  obtain⟨y',k1',k2'⟩:=k _ _ e'
  exact s.inj o o' y y' l l' k1 k1' (by rw [k2.gen]; exact h1) (by rw [k2'.gen]; exact h2) hb
section
variable {P:Program} [GW P] {f:FuncId} {n:Nat} {d:FK} {fr:Nat→AV} {ds:List AD} {h h2:Ae} {u:AU} {Q:QT} {k:List Item}
theorem Agv {fn:Func}{vs:List AV}{v':AV}(hf:P.funcs[f]? = some fn)(hx:No P h fr fn.results.toList=some vs)(hs:HFz h h2)(hz:Fz h h2 (Mj vs) v')(hu:d=false)(hq:Q (.ret v') h2 u):S9 P f n d .ret fr [] h u Q:=by
 intro B mu w a cs todo mode p hm
 obtain⟨c,h1,h2'⟩:=Wa p.sim p.fr hx
 have hd:a.defers=[]:=p.ds
 have hmode:=hm.ret_inv
 refine⟨.returned c,w,cs,_,.ret v',h2,mu,u,hq,Steps.refl P _,rfl,rfl,(by subst hu; exact⟨hmode,hd,fn,hf,h1⟩),Ot p.sim hs.subG hz h2',p.sim.fz hs,(Hm.subG hs.subG).g,?_⟩
 subst hu
 rfl
end
inductive HL (h h2:Ae):List (Option AO)→List (Option AO)→Prop
 | nil:HL h h2 [] []
 | keep {x:Option AO} {xs ys:List (Option AO)} (r:HL h h2 xs ys):HL h h2 (x::xs) (x::ys)
 | drop {x:Option AO} {xs ys:List (Option AO)} (r:HL h h2 xs ys):HL h h2 (x::xs) (none::ys)
 | fz {g st:Nat} {row row':List AV} {xs ys:List (Option AO)} (hz:LF h h2 row row') (hl:row'.length=st) (hf:row'.all AV.flat=true) (r:HL h h2 xs ys):HL h h2 (some (.rows g st [row])::xs) (some (.rows g st [row'])::ys)
theorem HL.get {h h2:Ae}{xs ys:List (Option AO)}(k:HL h h2 xs ys):xs.length=ys.length ∧ ∀ (j:Nat) (y:AO),ys[j]? = some (some y) → ∃ x,xs[j]? = some (some x)∧AFz h h2 x y:=by
 induction k with
 | nil=>exact⟨rfl,fun j y e=>by simp at e⟩
 | keep r ih=>
  refine⟨by simp [ih.1],fun j y e=>?_⟩
  cases j with
  | zero=>simp only [List.getElem?_cons_zero,Option.some.injEq] at e; subst e; exact⟨y,by simp,.same _⟩
  | succ j=>simpa using ih.2 j y (by simpa using e)
 | drop r ih=>
  refine⟨by simp [ih.1],fun j y e=>?_⟩
  cases j with
  | zero=>simp at e
  | succ j=>simpa using ih.2 j y (by simpa using e)
 | @fz g st row row' xs ys hz hl hf r ih=>
  refine⟨by simp [ih.1],fun j y e=>?_⟩
  cases j with
  | zero=>
   simp only [List.getElem?_cons_zero,Option.some.injEq] at e
   subst e
   refine⟨.rows g st [row],by simp only [List.getElem?_cons_zero],.rows g st [row] [row'] rfl ?_ ?_⟩
   ·intro r hr
    rw [List.mem_singleton.1 hr]
    exact⟨hl,fun v hv=>List.all_eq_true.1 hf v hv⟩
   ·intro i j hi hj
    have:i=0:=by simpa using hi
    subst this
    have:=hz.all.2 j (by rw [hz.all.1,hl]; exact hj)
    simpa [cell] using this
  | succ j=>simpa using ih.2 j y (by simpa using e)
theorem HL.hfz {h0:Ae}{ids:List Nat}{N:Nat}{xs ys:List (Option AO)}(hI:Ids h0 ids N)(hl:xs.length=N)(k:HL (hp h0 ids xs) (hp h0 ids ys) xs ys):HFz (hp h0 ids xs) (hp h0 ids ys):=by
 intro o y e
 obtain⟨k1,k2⟩:=k.get
 by_cases ho:o ∈ ids
 ·obtain⟨j,hj,rfl⟩:=List.mem_iff_getElem.1 ho
  have ej:ids[j]=ix ids j:=by simp [ix,List.getD,hj]
  rw [ej] at e ⊢
  have hjl:j<ys.length:=by rw [← k1,hl,← hI.len]; exact hj
  have hy:=hI.at (xs:=ys) (j:=j) (x:=ys[j]) (by rw [← k1,hl]) (List.getElem?_eq_getElem hjl)
  rw [hy] at e
  obtain⟨x,hx,hz⟩:=k2 j y (by rw [List.getElem?_eq_getElem hjl,e])
  exact⟨x,hI.at hl hx,hz⟩
 ·rw [Tv ho] at e
  exact⟨y,by rw [Tv ho]; exact e,.same _⟩
def Uj:List Nat→List (Option AO)→List (Option AO)
 | [],xs=>xs
 | j::js,xs=>Uj js (xs.set j none)
def Tq:List Nat→List (Option AO)→List (Option AO)→List (Option AO)
 | j::js,y::ys,xs=>(Tq js ys (xs.set j none)).set j y
 | _,_,xs=>xs
def Zp (ids:List Nat):List Nat→List Nat
 | []=>[]
 | j::js=>ix ids j::Zp ids js
def Sx (N:Nat):List Nat→Bool
 | []=>true
 | j::js=>Nat.blt j N && !js.contains j&&Sx N js
theorem Akp : ∀ (js:List Nat) (xs:List (Option AO)),(Uj js xs).length=xs.length
 | [],_=>rfl
 | j::js,xs=>by rw [Uj,Akp js]; simp
theorem Agt : ∀ (js:List Nat) (ys xs:List (Option AO)),(Tq js ys xs).length=xs.length
 | [],_,_=>by simp [Tq]
 | _::_,[],_=>by simp [Tq]
 | j::js,y::ys,xs=>by rw [Tq,List.length_set,Agt js]; simp
theorem Ahr : ∀ (js:List Nat) (xs:List (Option AO)) (i:Nat),xs[i]? = some none→(Uj js xs)[i]? = some none
 | [],_,_,h=>h
 | j::js,xs,i,h=>Ahr js _ i (by
  rw [List.getElem?_set]
  split
  ·rename_i hq; subst hq
   rw [if_pos]
   rcases Nat.lt_or_ge j xs.length with hh | hh
   ·exact hh
   ·rw [List.getElem?_eq_none hh] at h; cases h
  ·exact h)
theorem Am4 : ∀ (js:List Nat) (xs:List (Option AO)) (i:Nat),i ∈ js→i<xs.length→(Uj js xs)[i]? = some none
 | j::js,xs,i,hm,hi=>by
  rcases List.mem_cons.1 hm with rfl | hm
  ·exact Ahr js _ i (by simp [hi])
  ·exact Am4 js _ i hm (by simpa using hi)
section
variable {h0:Ae} {ids:List Nat} {N:Nat}
theorem Abq (hI:Ids h0 ids N) : ∀ {js:List Nat} {ys xs:List (Option AO)},xs.length=N→js.length=ys.length→Sx N js=true→hp (hp h0 ids (Uj js xs)) (Zp ids js) ys=hp h0 ids (Tq js ys xs)
 | [],[],xs,_,_,_=>rfl
 | j::js,y::ys,xs,hl,hj,hk=>by
  simp only [Sx,Bool.and_eq_true] at hk
  simp only [Zp,hp,Uj,Tq]
  rw [Abq hI (js:=js) (ys:=ys) (xs:=xs.set j none) (by simpa using hl) (by simpa using hj) hk.2]
  rw [hI.set (by rw [Agt]; simpa using hl) hk.1.1]
theorem Ids.sub' (hI:Ids h0 ids N){js:List Nat}{xs:List (Option AO)}(hl:xs.length=N)(hk:Sx N js=true):Ids (hp h0 ids (Uj js xs)) (Zp ids js) js.length:=by
 have hlt : ∀ {js:List Nat},Sx N js=true → ∀ j ∈ js,j<N:=by
  intro js
  induction js with
  | nil=>intro _ j hj; cases hj
  | cons i js ih=>
   intro hk j hj
   simp only [Sx,Bool.and_eq_true] at hk
   rcases List.mem_cons.1 hj with rfl | hj
   ·simpa using hk.1.1
   ·exact ih hk.2 j hj
 have hmem : ∀ {js:List Nat} {o:Nat},o ∈ Zp ids js → ∃ j ∈ js,o=ix ids j:=by
  intro js
  induction js with
  | nil=>intro o ho; cases ho
  | cons i js ih=>
   intro o ho
   rcases List.mem_cons.1 ho with rfl | ho
   ·exact⟨i,List.mem_cons_self ..,rfl⟩
   ·obtain⟨j,h1,h2⟩:=ih ho; exact⟨j,List.mem_cons_of_mem _ h1,h2⟩
 have hinj : ∀ {i j:Nat},i<N→j<N→ix ids i=ix ids j→i=j:=by
  intro i j hi hj e
  rw [← hI.len] at hi hj
  simp only [ix,List.getD,List.getElem?_eq_getElem hi,List.getElem?_eq_getElem hj,Option.getD_some] at e
  rcases Nat.lt_trichotomy i j with hh | hh | hh
  ·exact absurd e (List.pairwise_iff_getElem.1 hI.nodup i j hi hj hh)
  ·exact hh
  ·exact absurd e.symm (List.pairwise_iff_getElem.1 hI.nodup j i hj hi hh)
 refine⟨?_,?_,?_⟩
 ·have key : ∀ {js:List Nat},Sx N js=true→(Zp ids js).Nodup:=by
   intro js
   induction js with
   | nil=>intro _; exact List.nodup_nil
   | cons i js ih=>
    intro hk
    have hk':=hk
    simp only [Sx,Bool.and_eq_true] at hk
    refine List.nodup_cons.2 ⟨fun hm=>?_,ih hk.2⟩
    obtain⟨j,h1,h2⟩:=hmem hm
    have:=hinj (by simpa using hk.1.1) (hlt hk.2 j h1) h2
    subst this
    have:=hk.1.2
    simp [h1] at this
  exact key hk
 ·intro o ho
  obtain⟨j,h1,rfl⟩:=hmem ho
  exact hI.at (by rw [Akp]; exact hl) (Am4 js xs j h1 (by rw [hl]; exact hlt hk j h1))
 ·clear hk
  induction js with
  | nil=>rfl
  | cons i js ih=>simp only [Zp,List.length_cons]; rw [ih]
end
def Cs {α:Type}(S:α→AV→Ae→Prop)(h0:Ae)(m:R α):AR→Ae→Prop:=fun r h'=>match m with
 | .ok a => ∃ v,r=.ret v∧S a v h'
 | .pan v=>r=.panic v.av∧h'=h0
 | .bad=>False
def Agq {α:Type}(S:α→AV→Ae→Prop)(h0:Ae):Spec α:=⟨fun m=>m≠.bad,fun h=>h rfl,fun m r h' _=>Cs S h0 m r h'⟩
def tkf (ids:List Nat):Nat→Nat→List Nat
 | 0,_=>[]
 | k+1,j=>ix ids j::tkf ids k (j+1)
theorem Ahl : ∀ (ids:List Nat) (k j:Nat),j+k≤ids.length→(ids.drop j).take k=tkf ids k j
 | ids,0,j,_=>by simp [tkf]
 | ids,k+1,j,h=>by
  have hj:j<ids.length:=by omega
  rw [List.drop_eq_getElem_cons hj,List.take_succ_cons,tkf,Ahl ids k (j+1) (by omega)]
  simp [ix,List.getD,hj]
section
variable {P:Program} [GW P] {f:FuncId} {n:Nat} {α:Type} {m:R α} {S:α→AV→Ae→Prop} {h0:Ae}
theorem Bb {fn : Func} {c : Code} {args : List AV} {os0 : List Nat} {K : Nat} {xs : List (Option AO)} (N : Nat) (hf : P.funcs[f]? = some fn) (hb : fn.body = some c) (hn : fn.name ≠ "runtime.NumGoroutine") (hnt : fn.ntmps = n) (hl : Nat.ble args.length n = true)
  (hI0 : Ids h0 os0 K) (hx : xs.length = K)
  (hr : ∀ ids, (∀ j, Nat.blt j K = true → ix ids j = ix os0 j) → Ids h0 ids (K + N) → WR P f n false (Agq S h0) m [.code c] (A2 (Z1 0 args)) [] (hp h0 ids (xs ++ List.replicate N none)) .ret) :
  m ≠ .bad → Bh P f args (hp h0 os0 xs) (Cs S h0 m) := by
 intro hb'
 refine Yq hf hb hn hnt (by simpa using hl) ?_
 refine Acc N os0 fun os h1 h2 h3 h4 => ?_
 have hout : ∀ o ∈ os, o ∉ os0 := fun o ho => h4 o ho
 have hI : Ids h0 (os0 ++ os) (K + N) := by
  refine ⟨List.nodup_append.2 ⟨hI0.nodup, h2, fun a ha b hb hq => hout b hb (hq ▸ ha)⟩, fun o ho => ?_, by simp [hI0.len, h1]⟩
  rcases List.mem_append.1 ho with ho | ho
  ·exact hI0.fresh o ho
  ·have := h3 o ho
   rwa [Tv (hout o ho)] at this
 have e : hp h0 (os0 ++ os) (xs ++ List.replicate N none) = hp h0 os0 xs := by
  rw [Yc (by rw [hI0.len, hx]), U1 fun o ho => hI.fresh o (List.mem_append_right _ ho)]
 have := hr (os0 ++ os) (fun j hj => by
  have hj' : j < os0.length := by rw [hI0.len]; simpa using hj
  simp [ix, List.getD, List.getElem?_append_left hj']) hI hb'
 rw [e] at this
 refine T3 (fun t => ?_) this
 rcases Ux args 0 t with h | ⟨_, h⟩
 ·exact .inl h
 ·exact .inr h
section
variable {ids:List Nat} {xs:List (Option AO)} {K N:Nat} {l:List (Nat×AV)} {k:List Item} {u:AU}
theorem Ajr (hI:Ids h0 ids (K+N)){ys:List (Option AO)}(hy:ys.length=K):hp h0 ids (ys++List.replicate N none)=hp h0 (tkf ids K 0) ys:=by
 have e:=Ahl ids K 0 (by rw [hI.len]; omega)
 rw [List.drop_zero] at e
 rw [← e]
 have e2:ids=ids.take K++ids.drop K:=(List.take_append_drop K ids).symm
 conv=>lhs; rw [e2]
 rw [Yc (by rw [List.length_take,hI.len,hy]; omega),U1 fun o ho=>hI.fresh o (List.mem_of_mem_drop ho)]
theorem D3 {fn:Func}{a:α}{vs:List AV}{v:AV}(ys:List (Option AO))(hf:P.funcs[f]? = some fn)(hI:Ids h0 ids (K+N))(hl:xs.length=K+N)(hr:No P (hp h0 ids xs) (A2 l) fn.results.toList=some vs)
  (hy:ys.length=K) (hx:HL (hp h0 ids xs) (hp h0 ids (ys++List.replicate N none)) xs (ys++List.replicate N none)) (hz:Fz (hp h0 ids xs) (hp h0 ids (ys++List.replicate N none)) (Mj vs) v) (hS:S a v (hp h0 (tkf ids K 0) ys)) :
  WR P f n false (Agq S h0) (.ok a) (.code .ret::k) (A2 l) [] (hp h0 ids xs) u:=fun _=>by
 refine Acm (Agv hf hr (hx.hfz hI hl) hz rfl ⟨v,rfl,?_⟩)
 rw [Ajr hI hy]; exact hS
theorem Ce {fn:Func}{a:α}{vs:List AV}{v:AV}(ys:List (Option AO))(hf:P.funcs[f]? = some fn)(hI:Ids h0 ids (K+N))(hl:xs.length=K+N)(hr:No P (hp h0 ids xs) (A2 l) fn.results.toList=some vs)
  (hy:ys.length=K) (hx:HL (hp h0 ids xs) (hp h0 ids (ys++List.replicate N none)) xs (ys++List.replicate N none)) (hz:Fz (hp h0 ids xs) (hp h0 ids (ys++List.replicate N none)) (Mj vs) v) (hS:S a v (hp h0 (tkf ids K 0) ys)) :
  WR P f n false (Agq S h0) (.ok a) [] (A2 l) [] (hp h0 ids xs) u:=fun _=>by
 refine Ae6 (Agv hf hr (hx.hfz hI hl) hz rfl ⟨v,rfl,?_⟩)
 rw [Ajr hI hy]; exact hS
theorem Ao {fn:Func}{v:PV}{fr:Nat→AV}(hf:P.funcs[f]? = some fn)(hI:Ids h0 ids (K+N)):WU P f n false (Agq S h0) (.pan v) (.pan v.av false) fr [] (hp h0 ids xs) u:=fun _=>
 Ahb hf (hI.sub xs) (.same _) ⟨rfl,rfl⟩
end
end
section
variable {P:Program} [GW P] {f:FuncId} {n:Nat} {d:FK} {β γ:Type} {Q:Spec β} {m:R β} {ds:List AD} {u:AU} {k:List Item} {l:List (Nat×AV)} {F:γ→R β}
variable {all r:List Oper} {ty:TypeId} {pos:String} {after:Array Edge} {h0:Ae} {ids:List Nat} {xs:List (Option AO)} {N:Nat}
theorem Arl {ops:List Oper}{fr:Nat→AV}(js:List Nat){xs zs:List (Option AO)}(ys:List (Option AO))(hI:Ids h0 ids N)(hl:xs.length=N)(hk:Sx N js=true)(hz:js.length=zs.length)(e:Tq js zs xs=ys)(hr:WO P f n d Q k all m ops fr ds (hp h0 ids ys) u) :
  WO P f n d Q k all m ops fr ds (hp (hp h0 ids (Uj js xs)) (Zp ids js) zs) u:=by
 subst e
 rw [Abq hI hl hz hk]; exact hr
theorem An {α:Type}{dst:Option Tmp}{x:Operand}{as0:List Operand}{ts:Array TypeId}{g:FuncId}{fst cap A:List AV}{gd:Option (Nat×Bool)}{mg:R α}{S:α→AV→Ae→Prop}{rest:α→R γ}{zs:List (Option AO)}(js:List Nat)(hI:Ids h0 ids N)(hl:xs.length=N)(hk:Sx N js=true)
  (hc:mg≠.bad→Bh P g A (hp (hp h0 ids (Uj js xs)) (Zp ids js) zs) (Cs S (hp h0 ids (Uj js xs)) mg)) (hz:js.length=zs.length) (e2:Tq js zs xs=xs)
  (ht:Iz n dst=true) (hw:Gn all (A2 l) ⟨dst,.call ⟨.value x,⟨as0⟩,ts⟩,ty,pos,after,gd⟩=some true) (hx:ev (A2 l) x=.func (.func g) fst cap) (ha:fst++I9 (A2 l) as0++cap=A)
  (hp' : ∀ v,mg=.pan v→WU P f n d Q (.pan v) (.pan v.av false) (A2 l) ds (hp h0 ids (Uj js xs)) u)
  (hk : ∀ a,mg=.ok a → ∀ v h',S a v h'→WO P f n d Q k all ((rest a).bind F) r (Ii (A2 l) dst v) ds h' u) :
  WO P f n d Q k all ((mg.bind rest).bind F) (⟨dst,.call ⟨.value x,⟨as0⟩,ts⟩,ty,pos,after,gd⟩::r) (A2 l) ds (hp h0 ids xs) u:=by
 rw [Abq hI hl hz ‹Sx N js=true›,e2] at hc
 refine Ak9 (R.bind_assoc _ _ _) (Rp ht hw fun hb K U hK hU=>?_)
 simp only [Lk,hx]
 rw [ha]
 have hmb:mg≠.bad:=fun q=>by rw [q] at hb; exact Q.bad hb
 refine(hc hmb).mono fun r' h' hr=>?_
 cases hm:mg with
 | bad=>exact absurd hm hmb
 | ok a=>
  rw [hm] at hr hb hK
  obtain⟨v,rfl,hS⟩:=hr
  exact hK _ _ _ _ (hk a hm v h' hS)
 | pan v=>
  rw [hm] at hr hb hU
  obtain⟨rfl,rfl⟩:=hr
  exact hU _ _ _ _ _ (hp' v hm hb)
theorem Ap {ops:List Oper}{t:Nat}{v:AV}{h:Ae}(hr:WO P f n d Q k all m ops (A2 ((t,v)::l)) ds h u):WO P f n d Q k all m ops (Ii (A2 l) (some t) v) ds h u:=by rw [J1]; exact hr
theorem Sz {α:Type}{pre:List (List Nat)}{plan:Jk}{pend:Tp}{i:Nat}{dst:Option Tmp}{x:Operand}{as0:List Operand}{ts:Array TypeId}{g:FuncId}{fst cap A:List AV}{gd:Option (Nat×Bool)}{mg:R α}{S:α→AV→Ae→Prop}{rest:α→R γ}{zs:List (Option AO)}(js:List Nat)(hI:Ids h0 ids N)(hl:xs.length=N)(hk:Sx N js=true)
  (hc:mg≠.bad→Bh P g A (hp (hp h0 ids (Uj js xs)) (Zp ids js) zs) (Cs S (hp h0 ids (Uj js xs)) mg)) (hz:js.length=zs.length) (e2:Tq js zs xs=xs) (ho:all[i]? = some ⟨dst,.call ⟨.value x,⟨as0⟩,ts⟩,ty,pos,after,gd⟩)
  (ht:Iz n dst=true) (hw:Gn all (A2 l) ⟨dst,.call ⟨.value x,⟨as0⟩,ts⟩,ty,pos,after,gd⟩=some true) (hx:ev (A2 l) x=.func (.func g) fst cap) (ha:fst++I9 (A2 l) as0++cap=A)
  (hp' : ∀ v,mg=.pan v → ∀ fr,(∀ t,(all.any fun o=>o.dst==some t)=false→fr t=A2 l t)→WU P f n d Q (.pan v) (.pan v.av false) fr ds (hp h0 ids (Uj js xs)) u)
  (hk : ∀ a,mg=.ok a → ∀ v h',S a v h'→M8 P all pre i h' pend∧WP P f n d Q k all pre ((rest a).bind F) plan pend (Ii (A2 l) dst v) ds h' u) :
  WP P f n d Q k all pre ((mg.bind rest).bind F) ((true,i)::plan) pend (A2 l) ds (hp h0 ids xs) u:=by
 rw [Abq hI hl hz ‹Sx N js=true›,e2] at hc
 refine Alu (R.bind_assoc _ _ _) (Ads ho ht hw fun hb K U hK hU=>?_)
 simp only [Lk,hx]
 rw [ha]
 have hmb:mg≠.bad:=fun q=>by rw [q] at hb; exact Q.bad hb
 refine(hc hmb).mono fun r' h' hr=>?_
 cases hm:mg with
 | bad=>exact absurd hm hmb
 | ok a=>
  rw [hm] at hr hb hK
  obtain⟨v,rfl,hS⟩:=hr
  obtain⟨k1,k2⟩:=hk a hm v h' hS
  exact hK _ _ _ _ k1 k2
 | pan v=>
  rw [hm] at hr hb hU
  obtain⟨rfl,rfl⟩:=hr
  exact hU _ _ _ _ _ (fun fr' hf=>hp' v hm fr' hf hb)
theorem U6 {pre:List (List Nat)}{plan:Jk}{pend:Tp}{i:Nat}{fr:Nat→AV}(js:List Nat){xs zs:List (Option AO)}(ys:List (Option AO))(hI:Ids h0 ids N)(hl:xs.length=N)(hk:Sx N js=true)(hz:js.length=zs.length)(e:Tq js zs xs=ys)
  (hr:M8 P all pre i (hp h0 ids ys) pend∧WP P f n d Q k all pre m plan pend fr ds (hp h0 ids ys) u) :
  M8 P all pre i (hp (hp h0 ids (Uj js xs)) (Zp ids js) zs) pend∧WP P f n d Q k all pre m plan pend fr ds (hp (hp h0 ids (Uj js xs)) (Zp ids js) zs) u:=by
 subst e
 rw [Abq hI hl hz hk]; exact hr
theorem Ur {pre:List (List Nat)}{plan:Jk}{pend:Tp}{t:Nat}{v:AV}{h:Ae}(hr:WP P f n d Q k all pre m plan pend (A2 ((t,v)::l)) ds h u):WP P f n d Q k all pre m plan pend (Ii (A2 l) (some t) v) ds h u:=by rw [J1]; exact hr
end
theorem Aiq {P:Program}[GW P]{f:FuncId}{n:Nat}{α:Type}{e:α→AV}{hdl:PV→R α}{h0:Ae}{ids:List Nat}{N:Nat}{xs:List (Option AO)}{l:List (Nat×AV)}{k:List Item}{u:AU}{fn:Func}{a:α}{vs:List AV}(hf:P.funcs[f]? = some fn)(hI:Ids h0 ids N)
  (hr:No P (hp h0 ids xs) (A2 l) fn.results.toList=some vs) (hz:Fz (hp h0 ids xs) h0 (Mj vs) (e a)) :
  WR P f n false (Q4 e h0 hdl) (.ok a) (.code .ret::k) (A2 l) [] (hp h0 ids xs) u:=fun _=>
 Acm (Xt hf hr (hI.sub xs) hz rfl ⟨rfl,rfl⟩)
end Go.Am
namespace Go.Am
open Go
set_option linter.unusedSimpArgs false
set_option linter.unusedVariables false
set_option linter.unusedSectionVars false
def cut {α:Type}(l:List α)(a b:Int):List α:=(l.drop a.toNat).take (b.toNat - a.toNat)
section
variable {P:Program} [GW P] {h:Ae} {t et:TypeId} {a b st:Nat} {z:List AV} {E:TI} {s:List UInt8} {k k':IntKind} {lo hi:Int} {α:Type} {e:α→List AV} {L:List α}
theorem Ak3 {n:Nat}(h1:0≤lo)(h2:lo≤(n:Int))(d:Nat):Jr (some (.int k lo)) d n=some lo.toNat:=by simp only [Jr]; rw [if_pos ⟨h1,h2⟩]
theorem Amv (hT:ti P t=some ⟨.str,a,b,z⟩)(hc:0≤lo∧lo≤hi∧hi≤(s.length:Int)):Pr P h t (.str s) (some (.int k lo)) (some (.int k' hi)) none=some (.str (cut s lo hi)):=by
 obtain⟨h1,h2,h3⟩:=hc
 simp only [Pr,hT]
 rw [Ak3 (by omega) h3]
 simp only
 rw [Ak3 h1 (by omega)]
 rfl
theorem Ajx (hT:ti P t=some ⟨.str,a,b,z⟩)(hc:0≤lo∧lo≤(s.length:Int)):Pr P h t (.str s) (some (.int k lo)) none none=some (.str (s.drop lo.toNat)):=by
 simp only [Pr,hT,Jr]
 rw [if_pos hc]
 simp only [Option.some.injEq,AV.str.injEq]
 rw [List.take_of_length_le (by simp)]
theorem Asb (hT:ti P t=some ⟨.str,a,b,z⟩)(hc:0≤hi∧hi≤(s.length:Int)):Pr P h t (.str s) none (some (.int k hi)) none=some (.str (s.take hi.toNat)):=by
 simp only [Pr,hT]
 rw [Ak3 hc.1 hc.2]
 simp only [Jr,List.drop_zero,Nat.sub_zero]
theorem Ny (hT:ti P t=some ⟨.sl et,a,b,z⟩)(hE:ti P et=some E)(hs:st=E.size)(hc:0≤lo∧lo≤(L.length:Int)):Pr P h t (.sl st (L.map e)) (some (.int k lo)) none none=some (.sl st ((L.drop lo.toNat).map e)):=by
 simp only [Pr,hT,hE,Jr]
 rw [if_pos hs]
 simp only [List.length_map]
 rw [if_pos hc]
 simp only [Option.some.injEq,AV.sl.injEq,true_and]
 rw [List.take_of_length_le (by simp),List.map_drop]
theorem Up {m o g r c:Nat}{i:Int}(j:Nat)(hT:ti P t=some ⟨.arr m et,a,b,z⟩)(hE:ti P et=some E)(hi:i=(j:Int))(hj:Nat.blt j m=true):Kg P h t (.ptr o g r c) (.int k i)=some (.ptr o g r (c+j * E.size)):=by
 subst hi
 have:j<m:=by simpa using hj
 simp only [Kg,hT,hE]
 rw [if_pos ⟨by omega,by omega⟩,Int.toNat_natCast]
end
section
variable {P:Program} [GW P] {f:FuncId} {n:Nat} {d:FK} {β γ:Type} {Q:Spec β} {fr:Nat→AV} {ds:List AD} {h:Ae} {u:AU} {k:List Item} {F:γ→R β} {all:List Oper}
theorem Xb {p:Prop}[Decidable p]{A B:R γ}{ops:List Oper}(ht:p→WO P f n d Q k all (A.bind F) ops fr ds h u)(hf:¬ p→WO P f n d Q k all (B.bind F) ops fr ds h u):WO P f n d Q k all ((if p then A else B).bind F) ops fr ds h u:=by
 have e:(if p then A else B).bind F=if p then A.bind F else B.bind F:=by split <;> rfl
 rw [e]; exact Auj ht hf
theorem Aq9 {p:Prop}[Decidable p]{A:R γ}{todo:List Item}(hk:p→WR P f n d Q (A.bind F) todo fr ds h u):WR P f n d Q ((if p then A else .bad).bind F) todo fr ds h u:=by
 intro hb
 by_cases hp:p
 ·simp only [if_pos hp] at hb ⊢; exact hk hp hb
 ·simp only [if_neg hp] at hb; exact absurd hb Q.bad
theorem Asn {ops:List Oper}:WO P f n d Q k all ((R.bad:R γ).bind F) ops fr ds h u:=fun hb=>absurd hb Q.bad
end
def Alo (v:AV)(b:Bool):Prop:=match b with
 | false=>v=.nili
 | true => ∃ t x,v=.iface t x
theorem Aor {P:Program}[GW P]{t:TypeId}{v:AV}{b:Bool}{s by':Nat}{z:List AV}(hT:ti P t=some ⟨.ifc,s,by',z⟩)(hv:Alo v b):Pb P .neq t v .nili=some (.bool b):=by
 cases b with
 | false=>obtain rfl:v=.nili:=hv; exact Afl hT
 | true=>obtain⟨t',x,rfl⟩ : ∃ t x,v=.iface t x:=hv; exact Ado hT
theorem Amu {P:Program}[GW P]{o:BinOp}{t:TypeId}{x:Operand}{c:Value}{v:AV}{b:Bool}(ho:o=.eql∨o=.neq)(hv:Alo v b):Me P o t x (.const c) v .nili=true:=by
 cases b with
 | false=>obtain rfl:v=.nili:=hv; rcases ho with rfl | rfl <;> simp [Me]
 | true=>obtain⟨t',x,rfl⟩ : ∃ t x,v=.iface t x:=hv; rcases ho with rfl | rfl <;> rfl
section
variable {P:Program} [GW P] [GW P]
theorem S5.mk {g : FuncId} {gf : Func} {gc : Code} (h1 : P.funcs[g]? = some gf) (h2 : gf.body = some gc) (h3 : gf.name ≠ "runtime.NumGoroutine") : S5 P g := ⟨gf, gc, h1, h2, h3⟩
def Auh (w:World)(v:AV)(mu:Mu)(h:Ae):Ending→World→Prop:=fun e w'=>Go.RowKit.Below w.heap.size w w' ∧ ∃ c,e=.returned c∧RV h mu w' v c
theorem Aio {α:Type}{g:FuncId}{A:List AV}{m:R α}{e:α→AV}(hb:S5 P g)(hm : ∀ p,m≠.pan p)
  (hc : ∀ a,m=.ok a → ∀ (B:Base P) mu h w (cargs:Array Value),Sim B mu h w→Pz h mu w A cargs.toList→Calls P g cargs w (Auh w (e a) mu h)):CP P g A m e:=by
 intro h hne
 refine⟨hb,fun B mu w cargs s ha=>?_⟩
 cases hq:m with
 | bad=>exact absurd hq hne
 | pan p=>exact absurd hq (hm p)
 | ok a=>
  refine(hc a hq B mu h w cargs s ha).mono ?_
  rintro en w' ⟨k,c,rfl,hv⟩
  obtain⟨k1,k2⟩:=Below.ext s k
  exact⟨.ret (e a),h,mu,⟨rfl,rfl⟩,k1,k2,hv⟩
theorem Auk {α:Type}{g:FuncId}{A:List AV}{m:R α}{S:α→AV→Ae→Prop}{h:Ae}(hb:S5 P g)(hm : ∀ p,m≠.pan p)
  (hc : ∀ a,m=.ok a → ∀ (B:Base P) mu w (cargs:Array Value),Sim B mu h w→Pz h mu w A cargs.toList→Calls P g cargs w fun en w'=>Go.RowKit.Below w.heap.size w w' ∧ ∃ v c,en=.returned c∧S a v h∧RV h mu w' v c):m≠.bad→Bh P g A h (Cs S h m):=by
 intro hne
 refine⟨hb,fun B mu w cargs s ha=>?_⟩
 cases hq:m with
 | bad=>exact absurd hq hne
 | pan p=>exact absurd hq (hm p)
 | ok a=>
  refine(hc a hq B mu w cargs s ha).mono ?_
  rintro en w' ⟨k,v,c,rfl,hS,hv⟩
  obtain⟨k1,k2⟩:=Below.ext s k
  exact⟨.ret v,h,mu,⟨v,rfl,hS⟩,k1,k2,hv⟩
theorem Akd {h:Ae}{mu:Mu}{w:World}{a:AV}{cargs:Array Value}(k:Pz h mu w [a] cargs.toList) : ∃ c,cargs = #[c]∧RV h mu w a c:=by
 obtain⟨l⟩:=cargs
 match l,k.1 with
 | [c],_=>exact⟨c,rfl,by simpa using k.2 0 (by simp)⟩
theorem Akb {h:Ae}{mu:Mu}{w:World}{a b:AV}{cargs:Array Value}(k:Pz h mu w [a,b] cargs.toList) : ∃ c d,cargs = #[c,d]∧RV h mu w a c∧RV h mu w b d:=by
 obtain⟨l⟩:=cargs
 match l,k.1 with
 | [c,d],_=>exact⟨c,d,rfl,by simpa using k.2 0 (by simp),by simpa using k.2 1 (by simp)⟩
theorem Aes {h:Ae}{mu:Mu}{w:World}{s:List UInt8}{c:Value}(k:RV h mu w (.str s) c):c=.string ⟨s.toArray⟩:=by cases k; rfl
theorem Ana {h:Ae}{mu:Mu}{w:World}{t:IntKind}{n:Int}{c:Value}(k:RV h mu w (.int t n) c):c=.int t n:=by cases k; rfl
theorem Asy {h:Ae}{mu:Mu}{w:World}{st:Nat}{c:Value}(k:RV h mu w (.sl st []) c) : ∃ a cap,c=.slice a 0 cap:=by
 cases k with
 | sl0 _ a cap=>exact⟨a,cap,rfl⟩
 | sl _ _ b off cap=>exact⟨_,cap,rfl⟩
theorem Ar5 {h:Ae}{mu:Mu}{w:World}{l:List Ar}{c:Value}(k:RV h mu w (.sl 1 (l.map rS)) c):l=[] ∨ ∃ bk o cap,c=.slice (some ⟨bk,o,none⟩) l.length cap∧bk<w.heap.size∧l.length≤Eo∧l.length≤cap ∧ ∀ j x,l[j]? = some x→w.cell? ⟨bk,o+j,none⟩=some (.string ⟨x.toArray⟩):=by
 generalize hr:l.map rS=rows at k
 cases k with
 | sl0 _ a cap=>exact .inl (List.map_eq_nil_iff.1 hr)
 | sl _ _ b off cap vs hcap hlim h1 h2 h5 h3 h4=>
  subst hr
  refine .inr ⟨b,off,cap,by rw [List.length_map],h4,by simpa using hlim,by simpa using hcap,fun j x hx=>?_⟩
  have hj:j<l.length:=A5 hx
  have:=h1 j 0 (by simpa using hj) (by omega)
  have h2':=h2 j 0 (by simpa using hj) (by omega)
  rw [Nat.mul_one,Nat.add_zero] at this
  rw [this]
  have e:cell (l.map rS) j 0=.str x:=by simp [cell,hx,rS]
  rw [e] at h2'
  rw [Aes h2']
end
end Go.Am
namespace Go.Am
open Go
set_option linter.unusedSimpArgs false
set_option linter.unusedVariables false
set_option linter.unusedSectionVars false
inductive HM (h h2:Ae):List (Option AO)→List (Option AO)→Prop
 | nil:HM h h2 [] []
 | keep {x:Option AO} {xs ys:List (Option AO)} (r:HM h h2 xs ys):HM h h2 (x::xs) (x::ys)
 | drop {x:Option AO} {xs ys:List (Option AO)} (r:HM h h2 xs ys):HM h h2 (x::xs) (none::ys)
 | own {α:Type} {e:α→List AV} {L:List α} {v:AV} {g st i:Nat} {y:α} {row:List AV} {xs ys:List (Option AO)} (hr : ∀ x,E4 st (e x)) (hz:LF h h2 row (e y)) (r:HM h h2 xs ys) :
   HM h h2 (Ah v g st ((L.map e).set i row)::xs) (Ah v g st ((L.set i y).map e)::ys)
theorem HM.get {h h2:Ae}{xs ys:List (Option AO)}(k:HM h h2 xs ys):xs.length=ys.length ∧ ∀ (j:Nat) (y:AO),ys[j]? = some (some y) → ∃ x,xs[j]? = some (some x)∧AFz h h2 x y:=by
 induction k with
 | nil=>exact⟨rfl,fun j y e=>by simp at e⟩
 | keep r ih=>
  refine⟨by simp [ih.1],fun j y e=>?_⟩
  cases j with
  | zero=>simp only [List.getElem?_cons_zero,Option.some.injEq] at e; subst e; exact⟨y,by simp,.same _⟩
  | succ j=>simpa using ih.2 j y (by simpa using e)
 | drop r ih=>
  refine⟨by simp [ih.1],fun j y e=>?_⟩
  cases j with
  | zero=>simp at e
  | succ j=>simpa using ih.2 j y (by simpa using e)
 | @own α e L v g st i y row xs ys hr hz r ih=>
  refine⟨by simp [ih.1],fun j z hz'=>?_⟩
  cases j with
  | succ j=>simpa using ih.2 j z (by simpa using hz')
  | zero=>
   simp only [List.getElem?_cons_zero,Option.some.injEq] at hz' ⊢
   have key:AFz h h2 (.rows g st ((L.map e).set i row)) (.rows g st ((L.set i y).map e)):=by
    refine .rows g st _ _ (by simp) (fun q hq=>?_) fun a b ha hb=>?_
    ·obtain⟨w,_,rfl⟩:=List.mem_map.1 hq
     exact hr w
    ·rw [List.map_set]
     by_cases hia:i=a
     ·subst hia
      have hlt:i<(L.map e).length:=by simpa using ha
      simp only [cell]
      have e1:((L.map e).set i row).getD i []=row:=by rw [List.getD_eq_getElem?_getD,List.getElem?_set_self hlt]; rfl
      have e2:((L.map e).set i (e y)).getD i []=e y:=by rw [List.getD_eq_getElem?_getD,List.getElem?_set_self hlt]; rfl
      rw [e1,e2]
      exact hz.all.2 b (by rw [hz.all.1,(hr y).1]; exact hb)
     ·simp only [cell]
      have e1:((L.map e).set i row).getD a []=(L.map e).getD a []:=by simp [List.getD,List.getElem?_set_ne hia]
      have e2:((L.map e).set i (e y)).getD a []=(L.map e).getD a []:=by simp [List.getD,List.getElem?_set_ne hia]
      rw [e1,e2]
      exact .same _
   unfold Ah at hz' ⊢
   split at hz'
   ·cases hz'
   ·rename_i hv
    cases hz'
    exact⟨_,rfl,key⟩
theorem HM.hfz {h0:Ae}{ids:List Nat}{N:Nat}{xs ys:List (Option AO)}(hI:Ids h0 ids N)(hl:xs.length=N)(k:HM (hp h0 ids xs) (hp h0 ids ys) xs ys):HFz (hp h0 ids xs) (hp h0 ids ys):=by
 intro o y e
 obtain⟨k1,k2⟩:=k.get
 by_cases ho:o ∈ ids
 ·obtain⟨j,hj,rfl⟩:=List.mem_iff_getElem.1 ho
  have ej:ids[j]=ix ids j:=by simp [ix,List.getD,hj]
  rw [ej] at e ⊢
  have hjl:j<ys.length:=by rw [← k1,hl,← hI.len]; exact hj
  have hy:=hI.at (xs:=ys) (j:=j) (x:=ys[j]) (by rw [← k1,hl]) (List.getElem?_eq_getElem hjl)
  rw [hy] at e
  obtain⟨x,hx,hz⟩:=k2 j y (by rw [List.getElem?_eq_getElem hjl,e])
  exact⟨x,hI.at hl hx,hz⟩
 ·rw [Tv ho] at e
  exact⟨y,by rw [Tv ho]; exact e,.same _⟩
end Go.Am
namespace Go.Am
open Go
set_option linter.unusedSimpArgs false
set_option linter.unusedVariables false
set_option linter.unusedSectionVars false
section
variable {α:Type} {n:Nat} {e:α→List AV} {E:α→AV} {v:Vector α n} {i:Nat}
theorem E4.all {s:Nat}{r:List AV}(h:E4 s r):r.all AV.flat=true:=List.all_eq_true.2 h.2
end
section
variable {P:Program} [GW P] {h:Ae} {t et:TypeId} {a b:Nat} {z:List AV} {E:TI} {k:IntKind}
theorem toNat_lt {i:Int}{m:Nat}(h:0≤i∧i<(m:Int)):i.toNat<m:=by omega
end
theorem Zt {h h2:Ae} : ∀ l:List AV,LF h h2 l l
 | []=>.nil
 | a::l=>.cons (.same a) (Zt l)
def R.np {α:Type}:R α→R α
 | .pan _=>.bad
 | m=>m
@[simp] theorem R.np_ok {α:Type}(a:α):(R.ok a).np=.ok a:=rfl
end Go.Am
namespace Go.Am
open Go
set_option linter.unusedSimpArgs false
set_option linter.unusedVariables false
set_option linter.unusedSectionVars false
end Go.Am
namespace Go.Am
open Go
set_option linter.unusedSimpArgs false
set_option linter.unusedVariables false
set_option linter.unusedSectionVars false
section
variable {P:Program} [GW P] {f:FuncId} {n:Nat} {d:FK} {fr:Nat→AV} {ds:List AD} {h:Ae} {u:AU} {Q:QT} {k:List Item}
theorem Sim.take {B:Base P}{mu:Mu}{w:World}{b:Nat}{x:Option (List Deferred)}(s:Sim B mu h w)(hb:w.heap[b]? = some (.deferred x))(hm:¬ Er h mu b)(hn:B.n≤b){n0:Nat}(hn0:n0≤b) :
  Sim B mu h { w with heap:=w.heap.setIfInBounds b (.deferred none) }∧Aev n0 h mu w h mu { w with heap:=w.heap.setIfInBounds b (.deferred none) }:=by
 have hlt:b<w.heap.size:=by
  rcases Nat.lt_or_ge b w.heap.size with hh | hh
  ·exact hh
  ·rw [Array.getElem?_eq_none hh] at hb; cases hb
 have hne : ∀ k,k≠b→(w.heap.setIfInBounds b (.deferred none))[k]? = w.heap[k]? := fun k hk=>Array.getElem?_setIfInBounds_ne (Ne.symm hk)
 have hself:(w.heap.setIfInBounds b (.deferred none))[b]? = some (.deferred none):=by simp [hlt]
 have ext:Aev n0 h mu w h mu { w with heap:=w.heap.setIfInBounds b (.deferred none) }:=
  ⟨rfl,rfl,rfl,by simp,fun k hk hkm=>⟨by
   by_cases hq:k=b
   ·subst hq; exact .inr ⟨hn0,_,_,hb,hself⟩
   ·exact .inl (hne k hq),hkm⟩,fun _ _ _ h=>h⟩
 have hcell : ∀ a:Addr,({ w with heap:=w.heap.setIfInBounds b (.deferred none) }:World).cell? a=w.cell? a:=fun a=>by
  by_cases hq:a.block=b
  ·unfold World.cell?
   show(match (w.heap.setIfInBounds b (.deferred none))[a.block]? with | some (.cells cells _ _)=>_ | _=>_)=_
   rw [hq,hself,hb]
  ·exact cell?_of_heap (hne _ hq)
 have hnb : ∀ {o x l},h o=some x→mu o x.gen=some l→l.b≠b:=fun h1 h2 hq=>hm ⟨_,_,_,h1,h2,hq⟩
 refine⟨⟨by simpa using s.base,fun o g l hl=>?_,s.fin,s.finh,fun o g st rs hx=>?_,fun o g es hx=>?_,s.inj,GW.step s.glob fun k hk=>hne k (by omega),fun o g x hx=>?_⟩,ext⟩
 ·obtain⟨h1,h2,h3⟩:=s.muOk o g l hl
  refine⟨h1,by simpa using h2,fun hc=>?_⟩
  obtain⟨cells,e,f,k1,k2,k3⟩:=h3 hc
  have:l.b≠b:=fun hq=>by rw [hq,hb] at k1; cases k1
  exact⟨cells,e,f,(hne _ this).trans k1,k2,k3⟩
 ·obtain⟨l,h1,h2,h3,h4,h5,h6⟩:=s.rows o g st rs hx
  refine⟨l,h1,h2,h3,h4,h5,fun i j hi hj=>?_⟩
  obtain⟨c,hc1,hc2⟩:=h6 i j hi hj
  exact⟨c,(hcell _).trans hc1,hc2.extG ext⟩
 ·obtain⟨l,h1,h2,ens,clock,h3,h4,h5⟩:=s.maps o g es hx
  exact⟨l,h1,h2,ens,clock,⟨(hne _ (hnb hx h1)).trans h3.1,h3.2⟩,h4,fun i hi=>⟨(h5 i hi).1.extG ext,(h5 i hi).2.extG ext⟩⟩
 ·obtain⟨l,h1,h2,h3⟩:=s.blks o g x hx
  exact⟨l,h1,h2,(hne _ (hnb hx h1)).trans h3⟩
theorem Pz.extG {n:Nat}{h h':Ae}{mu mu':Mu}{w w':World}(e:Aev n h mu w h' mu' w'){l:List AV}{cs:List Value}(k:Pz h mu w l cs):Pz h' mu' w' l cs:=⟨k.1,fun i hi=>(k.2 i hi).extG e⟩
theorem So.extG {n:Nat}{h h':Ae}{mu mu':Mu}{w w':World}(e:Aev n h mu w h' mu' w'){u:AU}{m:FrameMode}(k:So h mu w u m):So h' mu' w' u m:=by
 unfold So at k ⊢
 split at k
 ·trivial
 ·exact⟨k.1,k.2.1,k.2.2.extG e⟩
 ·exact k.elim
structure LpOk (f n:Nat)(params:Array Tmp)(assign body:Code)(r:Loop):Prop where
 ready:r.state=.ready
 pend:r.pending=none
 fn:r.fn=f
 size:r.tmps.size=n
 params:r.params=params
 assign:r.assign=assign
 body:r.body=body
end
end Go.Am
namespace Go.Am
open Go
set_option linter.unusedSimpArgs false
set_option linter.unusedVariables false
set_option linter.unusedSectionVars false
end Go.Am
namespace Go.Am
@[reducible] def un9 {α β γ δ ε ζ η θ ι ω:Type}(f:α→β→γ→δ→ε→ζ→η→θ→ι→ω):α×β×γ×δ×ε×ζ×η×θ×ι→ω | (x0,x1,x2,x3,x4,x5,x6,x7,x8)=>f x0 x1 x2 x3 x4 x5 x6 x7 x8
@[simp] theorem Awg {α β γ δ ε ζ η θ ι ω:Type}(f:α→β→γ→δ→ε→ζ→η→θ→ι→ω)(x0:α)(x1:β)(x2:γ)(x3:δ)(x4:ε)(x5:ζ)(x6:η)(x7:θ)(x8:ι):un9 f (x0,x1,x2,x3,x4,x5,x6,x7,x8)=f x0 x1 x2 x3 x4 x5 x6 x7 x8:=rfl
end Go.Am
namespace Go.Am
open Go
set_option linter.unusedVariables false
set_option linter.unusedSectionVars false
theorem Aus {P:Program}[GW P]{f:FuncId}{n:Nat}{d:FK}{α β γ:Type}{Q:Spec β}{k:List Item}{all ops:List Oper}{fr:Nat→AV}{ds:List AD}{h:Ae}{u:AU}{F:γ→R β}{m:R α}{rest:α→R γ}
  (hk:(∀ v,m≠.pan v)→WO P f n d Q k all ((m.bind rest).bind F) ops fr ds h u):WO P f n d Q k all ((m.np.bind rest).bind F) ops fr ds h u:=by
 cases m with
 | ok a=>exact hk (fun v hv=>by cases hv)
 | pan v=>exact fun hb=>absurd hb Q.bad
 | bad=>exact fun hb=>absurd hb Q.bad
end Go.Am
namespace Go.Am
open Go
set_option linter.unusedVariables false
set_option linter.unusedSectionVars false
theorem Aru {P:Program}{W:World}{name:String}{k:IntKind}{zs:List Int}{g:Nat}{t e:TypeId}{n:Nat}(hg:P.globalNamed name=some g)(hty:(P.globals[g]?).map (·.type)=some t)(ht:P.underlying t=some (.array n e))(he:P.underlying e=some (.int k))(hce:P.cellsOf e=1)(hct:P.cellsOf t=n)
  (h:Lib.VarReads P W name (Lib.tabData k zs)):Lib.TabIs P W name k zs:=by
 obtain⟨g',t',cs,fuel,p,hg',ht',hvar,hd⟩:=h
 obtain rfl:=Option.some.inj (hg.symm.trans hg')
 obtain rfl:=Option.some.inj (hty.symm.trans ht')
 unfold Lib.TabIs
 rw [hvar,← Lib.cells_of_tab ht he hce hct hd]
theorem Afm {P:Program}{W:World}{name u:String}{d:DataW Unit}{g:Nat}{t:TypeId}{ms:Array _}(hg:P.globalNamed name=some g)(hty:(P.globals[g]?).map (·.type)=some t)(ht:P.underlying t=some (.interface ms))
  (h:Lib.VarReads P W name (.iface u d)) : ∃ tp p,W.var? P name=some #[.iface tp p]:=by
 obtain⟨g',t',cs,fuel,p,hg',ht',hvar,hd⟩:=h
 obtain rfl:=Option.some.inj (hg.symm.trans hg')
 obtain rfl:=Option.some.inj (hty.symm.trans ht')
 cases fuel with
 | zero=>simp [DataW.trod] at hd
 | succ fuel=>
  obtain⟨cs⟩:=cs
  cases cs with
  | nil=>simp [DataW.trod,ht] at hd
  | cons v rest=>
   cases rest with
   | cons a b=>simp [DataW.trod,ht] at hd
   | nil=>
    cases v with
    | iface tp q=>exact⟨tp,q,hvar⟩
    | _=>simp [DataW.trod,ht] at hd
theorem Ati {P:Program}{W:World}{name:String}{g:Nat}{d:DataW Unit}(hg:P.globalNamed name=some g)(h:Lib.VarReads P W name d):g<W.heap.size:=by
 obtain⟨g',t',cs,fuel,p,hg',ht',hvar,hd⟩:=h
 obtain rfl:=Option.some.inj (hg.symm.trans hg')
 unfold World.var? at hvar
 rw [hg] at hvar
 rcases Nat.lt_or_ge g W.heap.size with h | h
 ·exact h
 ·simp [Array.getElem?_eq_none h] at hvar
theorem Abv {H:Type}{enc:TypeId×Value→H}{C:Checked}{os:Os}{f:FuncId}{fn:Func}{s:OpenSpec}{conds:List PathCond}{apart:Bool}{laid:List (String×DataW Unit)}(modest:Bool)(w0:World)(args:Array Value)(hos:w0.os=os)
  (hsh:(w0.forCall (fun _ _=>0) ⟨#[],args,[]⟩).Shaped C.prog)
  (hok:Input.okWideB C.prog (w0.forCall (fun _ _=>0) ⟨#[],args,[]⟩) f ⟨#[],args,[]⟩=true)
  (hrow:s.preRow enc C.prog fn conds apart laid (w0.forCall (fun _ _=>0) ⟨#[],args,[]⟩).memory args) :
  ∃ (w:World) (tape:Tape) (i:Input),w.os=os∧(w.forCall tape i).Shaped C.prog∧i.vars=[]∧Input.okWide C.prog (w.forCall tape i) .any w.heap.size f i ∧
   s.preRow enc C.prog fn conds apart laid (w.forCall tape i).memory i.args∧({ modest:=modest }:Assume).holds C.prog (lone (Frame.enter C.prog f i.args .normal) [] (w.forCall tape i)):=
 ⟨w0,fun _ _=>0,⟨#[],args,[]⟩,hos,hsh,(Input.okWide_of_okWideB (base:=0) hok).1,(Input.okWide_of_okWideB hok).2,hrow,by
  simp only [Assume.holds]
  exact⟨by simp,by simp,fun _=>Modest.zero,by simp,by simp⟩⟩
end Go.Am
namespace Go.Am
open Go
set_option linter.unusedVariables false
set_option linter.unusedSectionVars false
section
variable {P:Program} [GW P] {h:Ae}
theorem Auq {t:TypeId}{T:TI}{b c:Nat}{row:List AV}{v:AV}(hr:GW.row P b=some row)(hT:ti P t=some T)(hv:Ld row c T.size T.k.agg=some v):Pi P h t (.gptr ⟨b,c,none⟩)=some v:=by simp only [Pi,hT,hr,hv]
theorem Pt {t kt et:TypeId}{a b:Nat}{z:List AV}{K:TI}{ET:TI}{es:List (Ar×AV)}{s c:Ar}{q:Ar×AV}(hT:ti P t=some ⟨.map kt et,a,b,z⟩)(hK:ti P kt=some K)(hk:K.k=.str)(hE:ti P et=some ET)(hs:(s==c)=true)(hf:es.find? (fun p=>c==p.1)=some q) :
  Sb P h t (.mapc es) (.str s) true=some (.tup [q.2,.bool true]):=by
 obtain rfl:=eq_of_beq hs
 obtain⟨r,h1,h2⟩:=Xj (k:=s) es 0
 rw [hf] at h2
 obtain⟨j,v,rfl⟩ : ∃ j v,r=some (j,v):=by cases r with | none=>simp at h2 | some q=>exact⟨q.1,q.2,rfl⟩
 obtain rfl:v=q.2:=by simpa using h2
 simp only [Sb,hT,hK,hE,Abp,hk,Yg,if_true,h1]
theorem Ao5 {t kt et:TypeId}{a b:Nat}{z:List AV}{K:TI}{ET:TI}{es:List (Ar×AV)}{s:Ar}{v:AV}(hT:ti P t=some ⟨.map kt et,a,b,z⟩)(hK:ti P kt=some K)(hk:K.k=.str)(hE:ti P et=some ET)(hz:Ld ET.z 0 ET.size ET.k.agg=some v)(hf:es.find? (fun p=>s==p.1)=none) :
  Sb P h t (.mapc es) (.str s) true=some (.tup [v,.bool false]):=by
 obtain⟨r,h1,h2⟩:=Xj (k:=s) es 0
 rw [hf] at h2
 obtain rfl:r=none:=by simpa using h2
 simp only [Sb,hT,hK,hE,Abp,hk,Yg,if_true,h1,hz]
theorem T5 {es:List (Ar×AV)}{s c:Ar}{v:AV}(h:(s==c)=false)(r:es.find? (fun p=>s==p.1)=none):((c,v)::es).find? (fun p=>s==p.1)=none:=by rw [List.find?_cons]; simp only [h]; exact r
end
section
variable {P:Program} [GW P] {f:FuncId} {n:Nat} {γ:Type} {m:R γ} {u u':AU} {h0:Ae}
theorem Am1 {fn : Func} {c : Code} {args : List AV} {os0 : List Nat} {K : Nat} {xs : List (Option AO)} {ysf : γ → List (Option AO)} (N : Nat) (hf : P.funcs[f]? = some fn) (hb : fn.body = some c) (hn : fn.name ≠ "runtime.NumGoroutine") (hnt : fn.ntmps = n) (hl : Nat.ble args.length n = true)
  (hI0 : Ids h0 os0 K) (hx : xs.length = K) (hy : ∀ a, (ysf a).length = K)
  (hr : ∀ ids, (∀ j, Nat.blt j K = true → ix ids j = ix os0 j) → Ids h0 ids (K + N) → WR P f n true (Alm (fun a => hp h0 ids (ysf a ++ List.replicate N none)) u') m [.code c] (A2 (Z1 0 args)) [] (hp h0 ids (xs ++ List.replicate N none)) u) :
  (∃ a, m = .ok a) → Pq P f args u (hp h0 os0 xs) (Abj (fun a => hp h0 os0 (ysf a)) u' m) := by
 intro hm
 refine Ac0 hf hb hn hnt (by simpa using hl) ?_
 refine Acc N os0 fun os h1 h2 h3 h4 => ?_
 have hout : ∀ o ∈ os, o ∉ os0 := fun o ho => h4 o ho
 have hI : Ids h0 (os0 ++ os) (K + N) := by
  refine ⟨List.nodup_append.2 ⟨hI0.nodup, h2, fun a ha b hb hq => hout b hb (hq ▸ ha)⟩, fun o ho => ?_, by simp [hI0.len, h1]⟩
  rcases List.mem_append.1 ho with ho | ho
  ·exact hI0.fresh o ho
  ·have := h3 o ho
   rwa [Tv (hout o ho)] at this
 have e : ∀ zs : List (Option AO), zs.length = K → hp h0 (os0 ++ os) (zs ++ List.replicate N none) = hp h0 os0 zs := fun zs hz => by
  rw [Yc (by rw [hI0.len, hz]), U1 fun o ho => hI.fresh o (List.mem_append_right _ ho)]
 have := hr (os0 ++ os) (fun j hj => by
  have hj' : j < os0.length := by rw [hI0.len]; simpa using hj
  simp [ix, List.getD, List.getElem?_append_left hj']) hI hm
 rw [e xs hx] at this
 refine T3 (fun t => ?_) (Apk this ?_)
 ·rcases Ux args 0 t with h | ⟨_, h⟩
  ·exact .inl h
  ·exact .inr h
 ·rintro r h' u1 ⟨a, h1, h2, h3, h4⟩
  exact ⟨a, h1, h2, h3.trans (e _ (hy a)), h4⟩
end
def Ku (l:List (Ar×Ar×FuncId)):List (Ar×AV):=l.map fun x=>(x.1,.func (.func x.2.2) [] [])
def Z2 (l:List (Ar×Ar×FuncId)):DataW (List UInt8):=.map (l.map fun x=>(.string x.1,.held x.2.1))
def Auo (P:Program)(l:List (Ar×Ar×FuncId)):Bool:=l.all fun x => !x.2.1.isEmpty&&((List.range P.funcs.size).filter fun f=>(P.funcs[f]?).any (·.name.toUTF8.data.toList==x.2.1))==[x.2.2]
structure FMapAt (w:World)(m g:Nat)(es:List (Ar×AV)):Prop where
 ex : ∃ (b:Nat) (ens:Array MapEntry) (clock:Nat) (es2:List (Ar×AV)),w.cell? ⟨g,0,none⟩=some (.map (some b))∧b<m∧w.heap[b]? = some (.map ens clock)∧es2.Perm es∧es2.length=ens.size ∧
  ∀ i,i<es2.length→(ens.getD i default).key=.string ⟨(es2.getD i ([],.und)).1.toArray⟩ ∧ ∃ k,(es2.getD i ([],.und)).2=.func (.func k) [] []∧(ens.getD i default).val=.func (.func k) #[] #[]
 nd:(es.map (·.1)).Nodup
theorem FMapAt.keep {w w':World}{m g:Nat}{es:List (Ar×AV)}(k:FMapAt w m g es)(hg:g<m)(e : ∀ b,b<m→w'.heap[b]? = w.heap[b]?):FMapAt w' m g es:=by
 obtain⟨⟨b,ens,clock,es2,h1,h2,h3,h4,h5,h6⟩,hnd⟩:=k
 exact⟨⟨b,ens,clock,es2,by rw [cell?_of_heap (w:=w) (a:=⟨g,0,none⟩) (e g hg)]; exact h1,h2,by rw [e b h2]; exact h3,h4,h5,h6⟩,hnd⟩
theorem FMapAt.rv {w:World}{m g:Nat}{es:List (Ar×AV)}(k:FMapAt w m g es)(hm:m≤w.heap.size){mu:Mu}{M:Nat→Prop}(hM : ∀ b,M b→m≤b) : ∃ x,w.cell? ⟨g,0,none⟩=some x∧Rv w mu M (.mapc es) x:=by
 obtain⟨⟨b,ens,clock,es2,h1,h2,h3,h4,h5,h6⟩,hnd⟩:=k
 refine⟨_,h1,.mapc es es2 h4 hnd b ens clock h3 h5 (fun i hi=>(h6 i hi).1) (fun i hi=>?_) (fun hb=>by have:=hM b hb; omega) (by omega)⟩
 obtain⟨_,k,e1,e2⟩:=h6 i hi
 rw [e1,e2]
 exact .func _ [] [] [] [] rfl rfl (fun i hi=>by simp at hi) (fun i hi=>by simp at hi)
open Go.ChangeShapes Go.WideShapes Go.WideElems
theorem Amx {P:Program}{e:TypeId}{ps rs:Array TypeId}{va:Bool}{v c:Value}(he:P.underlying e=some (.func ps rs va))(hf:v.formed P e=true)(hc:v.cells.toList=[c]):v=c:=by
 cases v with
 | agg a=>simp [Value.formed,he] at hf
 | _=>simpa [Value.cells] using hc
theorem Arf {P:Program}{W:World}{name:String}{d:DataW Unit}{l:List (Ar×Ar×FuncId)}{g:Nat}{t k e:TypeId}{ps rs:Array TypeId}{va:Bool}(h:funcsAt P W name d)(hd:d.funcsOut=Z2 l)(hg:P.globalNamed name=some g)(hty:(P.globals[g]?).map (·.type)=some t)
  (ht:P.underlying t=some (.map k e)) (hk:P.underlying k=some .string) (he:P.underlying e=some (.func ps rs va)) (hok:Auo P l=true) (hnd:((Ku l).map (·.1)).Nodup):FMapAt W W.heap.size g (Ku l):=by
 obtain⟨g',t',cs,fuel,p,hg',ht',hvar,hr⟩:=h
 obtain rfl:=Option.some.inj (hg.symm.trans hg')
 obtain rfl:=Option.some.inj (hty.symm.trans ht')
 rw [hd] at hr
 rcases open_map ht hr with⟨_,hx⟩ | ⟨b,ens,clock,n,rfl,hcs,hb,_,F,hx⟩
 ·simp [Z2] at hx
 ·refine⟨?_,hnd⟩
  have hmap:Z2 l=.map ((ens.toList.map (rg P k (elemAt (funcToken P) P W 0 (fun _=>true) true n e))).foldr DataW.insert []):=congrArg Prod.fst hx
  have hperm:(ens.toList.map (rg P k (elemAt (funcToken P) P W 0 (fun _=>true) true n e))).Perm (l.map fun x=>(Lit.string x.1,DataW.held x.2.1)):=by
   have h1:=sorted_perm (ens.toList.map (rg P k (elemAt (funcToken P) P W 0 (fun _=>true) true n e)))
   unfold Z2 at hmap
   rw [← DataW.map.inj hmap] at h1
   exact h1.symm
  have hent : ∀ x ∈ ens.toList,∃ y ∈ l,x.key=.string ⟨y.1.toArray⟩∧x.val=.func (.func y.2.2) #[] #[]∧rg P k (elemAt (funcToken P) P W 0 (fun _=>true) true n e) x=(Lit.string y.1,DataW.held y.2.1):=by
   intro x hx
   have hm:=hperm.mem_iff.1 (List.mem_map.2 ⟨x,hx,rfl⟩)
   obtain⟨y,hy,hyx⟩:=List.mem_map.1 hm
   obtain⟨z,hz⟩:=F.reads x hx
   rw [rg_of hz] at hyx
   subst hyx
   refine⟨y,hy,?_,?_,by rw [rg_of hz]⟩
   ·have h1:=rd_key hz
    rw [keyOf_string hk] at h1
    unfold mapKey at h1
    rw [hk] at h1
    generalize x.key=kv at h1
    cases kv <;> simp at h1
    rename_i s
    obtain⟨_,h1⟩:=h1
    obtain⟨⟨sl⟩⟩:=s
    simp at h1
    rw [← h1]
   ·obtain⟨v,hv,hv2⟩:=rd_val hz
    have hyok:=List.all_eq_true.1 hok y hy
    simp only [Bool.and_eq_true,beq_iff_eq,Bool.not_eq_true'] at hyok
    obtain⟨v1,v2⟩:=v
    simp only at hv2
    unfold elemAt at hv
    split at hv
    ·cases fuel':n with
     | zero=>rw [fuel'] at hv; simp [DataW.trod] at hv
     | succ n'=>
      have hcells : ∃ v0,x.val.cells.toList=[v0]:=by
       have:=hv
       rw [fuel',DataW.trod_step] at this
       unfold DataW.trodStep at this
       rw [he] at this
       generalize x.val.cells.toList=cl at this
       match cl,this with
       | [v0],_=>exact⟨v0,rfl⟩
       | [],h=>simp at h
       | _::_::_,h=>simp at h
      obtain⟨v0,hv0⟩:=hcells
      rw [hv0] at hv
      obtain⟨y1,y2,y3⟩:=y
      simp only at hv2 hyok hv
      cases y2 with
      | nil=>simp at hyok
      | cons b0 r0=>
       rw [← hv2] at hv
       have hf:=func_of_trod he hyok.2 hv
       subst hf
       refine Amx he ?_ hv0
       assumption
    ·cases hv
  let θ:Lit×DataW (List UInt8)→Ar×AV:=fun p=>match p with
   | (.string s,.held nm)=>(s,match l.find? (fun y=>y.2.1==nm) with
    | some y=>.func (.func y.2.2) [] []
    | none=>.und)
   | _=>([],.und)
  have hθ : ∀ y ∈ l,θ (Lit.string y.1,DataW.held y.2.1)=(y.1,.func (.func y.2.2) [] []):=by
   intro y hy
   show(y.1,_)=_
   cases hq:l.find? (fun z=>z.2.1==y.2.1) with
   | none=>
    rw [List.find?_eq_none] at hq
    exact absurd (by simp) (hq y hy)
   | some z=>
    have hz1:=List.mem_of_find?_eq_some hq
    have hz2:z.2.1=y.2.1:=by simpa using List.find?_some hq
    have k1:=List.all_eq_true.1 hok y hy
    have k2:=List.all_eq_true.1 hok z hz1
    simp only [Bool.and_eq_true,beq_iff_eq] at k1 k2
    rw [hz2,k1.2] at k2
    have:y.2.2=z.2.2:=by simpa using k2.2
    simp only [this]
  refine⟨b,ens,clock,ens.toList.map fun x=>θ (rg P k (elemAt (funcToken P) P W 0 (fun _=>true) true n e) x),?_,?_,hb,?_,by simp,fun i hi=>?_⟩
  ·have:=World.var?_cell hg hvar 0
   rw [Array.eq_one_of_toList hcs] at this
   simpa using this
  ·rcases Nat.lt_or_ge b W.heap.size with h | h
   ·exact h
   ·simp [Array.getElem?_eq_none h] at hb
  ·have:=hperm.map θ
   rw [List.map_map,List.map_map] at this
   refine this.trans (List.Perm.of_eq (List.map_congr_left fun y hy=>hθ y hy))
  ·have hi':i<ens.toList.length:=by simpa using hi
   have hm:ens.toList[i] ∈ ens.toList:=List.getElem_mem hi'
   obtain⟨y,hy,e1,e2,e3⟩:=hent _ hm
   have g1:ens.getD i default=ens.toList[i]:=by
    rw [← U8,Fq (List.getElem?_eq_getElem hi')]
   have g2:(ens.toList.map fun x=>θ (rg P k (elemAt (funcToken P) P W 0 (fun _=>true) true n e) x)).getD i ([],.und)=(y.1,.func (.func y.2.2) [] []):=by
    rw [Fq (x:=θ (rg P k (elemAt (funcToken P) P W 0 (fun _=>true) true n e) ens.toList[i])) (by rw [List.getElem?_map,List.getElem?_eq_getElem hi',Option.map_some]),e3,hθ y hy]
   rw [g1,g2]
   exact⟨e1,_,rfl,e2⟩
end Go.Am
namespace Go.Am
open Go
set_option linter.unusedVariables false
set_option linter.unusedSectionVars false
set_option linter.unusedSimpArgs false
abbrev AV.q (ids:List Nat)(j g:Nat):AV:=.ptr (ix ids j) g 0 0
abbrev AV.I (n:Int):AV:=.int .i64 n
abbrev Sc.I (n:Int):Sc:=.int .i64 n
section
variable (P:Program) [GW P]
def Aj4:Op→Bool
 | .move _=>true
 | .assign _=>true
 | .pick _ _ _=>true
 | .build _ _=>true
 | .nilCheck _=>true
 | .binOp _ _ _ _ _=>true
 | .unOp _ _ _=>true
 | .makeInterface _ _=>true
 | .makeFunc _ _ _=>true
 | .fieldAddr _ _ _=>true
 | .field _ _ _=>true
 | .typeAssert _ _ _ _=>true
 | .extract _ _=>true
 | _=>false
def An5 (xs:List (Option AO))(fr:Nat→AV)(j:Nat)(op:Op):Option (AV×Option (Nat×Nat×Nat)):=
 match op with
 | .load t a=>match ev fr a with
  | .ptr o g r c=>match ti P t,xs[j]? with
   | some T,some (some (.rows g' st rs))=>match rs[r]? with
    | some row=>(Ld row c T.size T.k.agg).map fun v=>(v,some (o,g,g'))
    | none=>none
   | _,_=>none
  | .cp row c=>match ti P t with
   | some T=>(Ld row c T.size T.k.agg).map fun v=>(v,none)
   | none=>none
  | _=>none
 | op=>if Aj4 op then(E5 P fr hE op).map fun v=>(v,none) else none
def Qg (n:Nat)(all:List Oper)(xs:List (Option AO)):List Oper→List Nat→List (Nat×AV)→Option (List (Nat×AV)×List (Nat×Nat)×List (Nat×Nat))
 | [],_,l=>some (l,[],[])
 | o::ops,hs,l=>if Iz n o.dst then match Gn all (A2 l) o,o.dst with
   | some true,some t=>match An5 P xs (A2 l) (hs.headD 0) o.op with
    | some (v,none)=>Qg n all xs ops hs ((t,v)::l)
    | some (v,some (ob,g,g'))=>(Qg n all xs ops hs.tail ((t,v)::l)).map fun r=>(r.1,(ob,g)::r.2.1,(hs.headD 0,g')::r.2.2)
    | none=>none
   | some false,some t=>Qg n all xs ops hs ((t,.und)::l)
   | some false,none=>Qg n all xs ops hs l
   | _,_=>none
  else none
def Aks (ops:List Oper)(ks:List Nat)(l:List (Nat×AV)):Bool:=ops.all fun o=>match o.dst with
 | none=>true
 | some t=>ks.contains t || !(l.any fun p=>Nat.beq t p.1)
end
section
variable {P:Program} [GW P] {f:FuncId} {n:Nat} {d:FK} {β γ:Type} {Q:Spec β} {m:R β} {ds:List AD} {h:Ae} {u:AU} {k:List Item} {l:List (Nat×AV)} {F:γ→R β}
variable {all:List Oper} {h0:Ae} {ids:List Nat} {xs:List (Option AO)} {N:Nat}
theorem Aen {fr:Nat→AV}{j:Nat}{op:Op}{v:AV}{q:Option (Nat×Nat×Nat)}(hI:Ids h0 ids N)(hl:xs.length=N)(hx:An5 P xs fr j op=some (v,q))(hq : ∀ o g g',q=some (o,g,g')→o=ix ids j∧g=g'):E5 P fr (hp h0 ids xs) op=some v:=by
 unfold An5 at hx
 split at hx
 ·rename_i t a
  show Pi P _ t (ev fr a)=_
  split at hx
  ·rename_i o g r c ha
   rw [ha]
   split at hx
   ·rename_i T g' st rs hT hj
    split at hx
    ·rename_i row hr
     simp only [Option.map_eq_some_iff,Prod.mk.injEq] at hx
     obtain⟨v',h1,rfl,rfl⟩:=hx
     obtain⟨rfl,rfl⟩:=hq _ _ _ rfl
     exact Be hI hl hj hr hT h1
    ·cases hx
   ·cases hx
  ·rename_i row c ha
   rw [ha]
   split at hx
   ·rename_i T hT
    simp only [Option.map_eq_some_iff,Prod.mk.injEq] at hx
    obtain⟨v',h1,rfl,rfl⟩:=hx
    exact Cp hT h1
   ·cases hx
  ·cases hx
 split at hx
 ·rename_i hp
  simp only [Option.map_eq_some_iff,Prod.mk.injEq] at hx
  obtain⟨v',h1,rfl,rfl⟩:=hx
  revert h1
  cases op <;> first
   | exact id
   | (simp [Aj4] at hp)
 ·cases hx
theorem Abk {rest:List Oper} : ∀ {ops:List Oper} {hs:List Nat} {l l':List (Nat×AV)} {A B:List (Nat×Nat)},Qg P n all xs ops hs l=some (l',A,B)→A=B.map (fun q=>(ix ids q.1,q.2))→Ids h0 ids N→xs.length=N →
  WO P f n d Q k all m rest (A2 l') ds (hp h0 ids xs) u→WO P f n d Q k all m (ops++rest) (A2 l) ds (hp h0 ids xs) u
 | [],hs,l,l',A,B,hx,hA,hI,hl,hk=>by
  simp only [Qg,Option.some.injEq,Prod.mk.injEq] at hx
  obtain⟨rfl,rfl,rfl⟩:=hx
  exact hk
 | o::ops,hs,l,l',A,B,hx,hA,hI,hl,hk=>by
  unfold Qg at hx
  split at hx
  ·rename_i hd
   split at hx
   ·rename_i t hw ht
    rw [ht] at hd
    have step : ∀ {v:AV},E5 P (A2 l) (hp h0 ids xs) o.op=some v→WO P f n d Q k all m (ops++rest) (A2 ((t,v)::l)) ds (hp h0 ids xs) u→WO P f n d Q k all m (o::ops++rest) (A2 l) ds (hp h0 ids xs) u:=by
     intro v hv hk'
     refine Rp (by rw [ht]; exact hd) hw fun hb K U hK hU=>Afg (t:=ds) hv (hK _ _ _ _ ?_)
     rw [ht,J1]; exact hk'
    split at hx
    ·rename_i v hr
     exact step (Aen hI hl hr (fun _ _ _ h=>by cases h)) (Abk hx hA hI hl hk)
    ·rename_i v ob g g' hr
     simp only [Option.map_eq_some_iff,Prod.mk.injEq] at hx
     obtain⟨⟨l1,A1,B1⟩,hx,rfl,rfl,rfl⟩:=hx
     simp only [List.map_cons,List.cons.injEq,Prod.mk.injEq] at hA
     exact step (Aen hI hl hr (fun o2 g2 g2' h=>by cases h; exact hA.1)) (Abk hx hA.2 hI hl hk)
    ·cases hx
   ·rename_i t hw ht
    rw [ht] at hd
    exact Aj8 (by rw [ht]; exact hd) hw (by rw [ht,J1]; exact Abk hx hA hI hl hk)
   ·rename_i hw ht
    exact Aj8 (by rw [ht]; rfl) hw (by rw [ht]; exact Abk hx hA hI hl hk)
   ·cases hx
  ·cases hx
theorem Z0 {ops:List Oper}{ks:List Nat}{news:List (Nat×AV)} : ∀ {hs:List Nat} {l l':List (Nat×AV)} {A B:List (Nat×Nat)} {ops:List Oper},Qg P n all xs ops hs l=some (l',A,B) → ∀ t,(∀ o ∈ ops,o.dst≠some t)→A2 l' t=A2 l t
 | hs,l,l',A,B,[],hx,t,ho=>by
  simp only [Qg,Option.some.injEq,Prod.mk.injEq] at hx
  obtain⟨rfl,rfl,rfl⟩:=hx
  rfl
 | hs,l,l',A,B,o::ops,hx,t,ho=>by
  have ho' : ∀ o ∈ ops,o.dst≠some t:=fun q hq=>ho q (List.mem_cons_of_mem _ hq)
  have hne : ∀ {t':Nat} {v:AV},o.dst=some t'→A2 ((t',v)::l) t=A2 l t:=by
   intro t' v h
   have:t≠t':=fun e=>ho o (List.mem_cons_self ..) (e ▸ h)
   simp only [A2]
   have:Nat.beq t t'=false:=by
    cases hq:Nat.beq t t' with
    | false=>rfl
    | true=>exact absurd (Nat.eq_of_beq_eq_true hq) this
   rw [this]; rfl
  unfold Qg at hx
  split at hx
  ·split at hx
   ·rename_i t' hw ht
    split at hx
    ·rw [Z0 (ks:=ks) (news:=news) (ops:=ops) hx t ho',hne ht]
    ·simp only [Option.map_eq_some_iff,Prod.mk.injEq] at hx
     obtain⟨⟨l1,A1,B1⟩,hx,rfl,rfl,rfl⟩:=hx
     rw [Z0 (ks:=ks) (news:=news) (ops:=ops) hx t ho',hne ht]
    ·cases hx
   ·rename_i t' hw ht
    rw [Z0 (ks:=ks) (news:=news) (ops:=ops) hx t ho',hne ht]
   ·exact Z0 (ks:=ks) (news:=news) (ops:=ops) hx t ho'
   ·cases hx
  ·cases hx
theorem Avo {ops:List Oper}(K:Nat)(hs:List Nat)(news:List (Nat×AV))(hI:Ids h0 ids N)(hl:xs.length=N)
  (hc:(Qg P n all xs (ops.take K) hs l).map (fun r=>(news.map (fun p=>A2 r.1 p.1),r.2.1,Aks (ops.take K) (news.map (·.1)) l))=some (news.map (·.2),((Qg P n all xs (ops.take K) hs l).elim [] fun r=>r.2.2.map fun q=>(ix ids q.1,q.2)),true))
  (hk:WO P f n d Q k all m (ops.drop K) (A2 (news++l)) ds (hp h0 ids xs) u):WO P f n d Q k all m ops (A2 l) ds (hp h0 ids xs) u:=by
 cases hr:Qg P n all xs (ops.take K) hs l with
 | none=>rw [hr] at hc; cases hc
 | some r=>
  obtain⟨l',A,B⟩:=r
  rw [hr] at hc
  simp only [Option.map_some,Option.elim_some,Option.some.injEq,Prod.mk.injEq] at hc
  obtain⟨h1,h2,h3⟩:=hc
  have:=Abk (rest:=ops.drop K) hr h2 hI hl (f:=f) (d:=d) (Q:=Q) (k:=k) (m:=m) (ds:=ds) (u:=u) (fun hb i hi=>T3 (fun t=>?_) (hk hb i hi))
  ·rwa [List.take_append_drop] at this
  ·
   have key : ∀ (ns:List (Nat×AV)),ns.map (fun p=>A2 l' p.1)=ns.map (·.2)→(∀ s,s ∈ ns.map (·.1)→s ∈ news.map (·.1))→(∀ s,s ∈ news.map (·.1)→s=t→s ∈ ns.map (·.1))→A2 (ns++l) t=.any∨A2 (ns++l) t=A2 l' t:=by
    intro ns
    induction ns with
    | nil=>
     intro _ _ hsub
     simp only [List.nil_append]
     by_cases hin:l.any (fun p=>Nat.beq t p.1)=true
     ·right
      symm
      refine Z0 (ks:=[]) (news:=[]) (ops:=ops.take K) hr t fun o ho hd=>?_
      have:=List.all_eq_true.1 h3 o ho
      rw [hd] at this
      simp only [Bool.or_eq_true,Bool.not_eq_true',List.contains_iff_mem] at this
      rcases this with hc | hc
      ·exact absurd (hsub t hc rfl) (by simp)
      ·rw [hc] at hin; cases hin
     ·left
      have : ∀ l:List (Nat×AV),l.any (fun p=>Nat.beq t p.1)≠true→A2 l t=.any:=by
       intro l
       induction l with
       | nil=>intro _; rfl
       | cons p l ih=>
        intro hne
        simp only [List.any_cons] at hne
        simp only [A2]
        have h1:Nat.beq t p.1=false:=by cases hq:Nat.beq t p.1 with | false=>rfl | true=>exact absurd (by rw [hq]; rfl) hne
        rw [h1]
        exact ih (fun h=>hne (by rw [h,h1]; rfl))
      exact this l hin
    | cons p ns ih=>
     intro hv h4 h5
     simp only [List.map_cons,List.cons.injEq] at hv
     simp only [List.cons_append,A2]
     cases hq:Nat.beq t p.1 with
     | true=>
      right
      have:t=p.1:=Nat.eq_of_beq_eq_true hq
      subst this
      exact hv.1.symm
     | false=>
      refine ih hv.2 (fun s hs=>h4 s (by simp [hs])) (fun s hs e=>?_)
      rcases List.mem_cons.1 (h5 s hs e) with h | h
      ·subst e; rw [h] at hq; simp at hq
      ·exact h
   exact key news h1 (fun s hs=>hs) (fun s hs _=>hs)
theorem Ab {ops:List Oper}(K:Nat)(hs:List Nat)(news:List (Nat×AV))(hk:WO P f n d Q k all m (ops.drop K) (A2 (news++l)) ds (hp h0 ids xs) u)(hI:Ids h0 ids N:=by assumption)(hl:xs.length=N:=by rfl)
  (hc:(Qg P n all xs (ops.take K) hs l).map (fun r=>(news.map (fun p=>A2 r.1 p.1),r.2.1,Aks (ops.take K) (news.map (·.1)) l))=some (news.map (·.2),((Qg P n all xs (ops.take K) hs l).elim [] fun r=>r.2.2.map fun q=>(ix ids q.1,q.2)),true):=by kernel_rfl):WO P f n d Q k all m ops (A2 l) ds (hp h0 ids xs) u:=Avo K hs news hI hl hc hk
theorem A4 {ops:List Oper}{t:Nat}{b b':Bool}(hb:b=b')(ht:A2 l t=.bool b)(hk:WO P f n d Q k all m ops (A2 ((t,.bool b')::l)) ds h u):WO P f n d Q k all m ops (A2 l) ds h u:=by
 subst hb
 refine fun hV i hi=>T3 (fun s=>?_) (hk hV i hi)
 right
 simp only [A2]
 cases hq:Nat.beq s t with
 | true=>rw [Nat.eq_of_beq_eq_true hq,ht]; rfl
 | false=>rfl
theorem Aw {ops:List Oper}{fr:Nat→AV}(js:List Nat){zs ys:List (Option AO)}(hI:Ids h0 ids N)(hl:xs.length=N)(hk:Sx N js=true)(hz:js.length=zs.length)(hr:WO P f n d Q k all m ops fr ds (hp h0 ids ys) u)
  (e:Tq js zs xs=ys:=by first | (simp only [List.set_cons_zero,List.set_cons_succ,List.cons_append,List.nil_append,List.replicate_succ,List.replicate_zero,Tq,Xq,W0,AV.cells,AV.I,AV.q]; rfl) | rfl):WO P f n d Q k all m ops fr ds (hp (hp h0 ids (Uj js xs)) (Zp ids js) zs) u:=Arl js ys hI hl hk hz e hr
theorem Bo {todo:List Item}{l':List (Nat×AV)}(hr:WR P f n d Q m todo (A2 l') ds h u)(hx:FrIs l l':=by repeat (first | exact .nil | refine .cons rfl ?_)):WR P f n d Q m todo (A2 l) ds h u:=Ee l' hx hr
theorem Bk {ops:List Oper}{l':List (Nat×AV)}(hr:WO P f n d Q k all m ops (A2 l') ds h u)(hx:FrIs l l':=by repeat (first | exact .nil | refine .cons rfl ?_)):WO P f n d Q k all m ops (A2 l) ds h u:=Ch l' hx hr
theorem Aj {todo:List Item}{fr:Nat→AV}{ys:List (Option AO)}(hr:WR P f n d Q m todo fr ds (hp h0 ids ys) u)(e:xs=ys:=by first | (simp only [List.set_cons_zero,List.set_cons_succ,List.cons_append,List.nil_append,List.replicate_succ,List.replicate_zero,Tq,Xq,W0,AV.cells,AV.I,AV.q]; rfl) | rfl) :
  WR P f n d Q m todo fr ds (hp h0 ids xs) u:=e ▸ hr
end
section
variable {P:Program} [GW P] {fr:Nat→AV} {h:Ae} {all:List Oper} {pre:List (List Nat)} {pend:Tp} {ty:TypeId} {pos:String} {after:Array Edge} {i:Nat}
theorem Ano {j t jg tj:Nat}{want:Bool}{v:AV}{op:Op}(hj:(all[jg]?).bind (·.dst)=some tj)(ho:all[j]? = some ⟨some t,op,ty,pos,after,some (jg,want)⟩)(hg:fr tj=.bool want)(hv:E5 P fr h op=some v)(hr:M8 P all pre i h pend):M8 P all pre i h ((j,fr,v)::pend):=by
 refine⟨?_,hr⟩
 split
 ·trivial
 ·rw [ho]; simp only [aF,Co hj hg,hv]
end
theorem J {α:Sort _}{a:α}:a=a:=rfl
theorem FI {l l':List (Nat×AV)}(h:l'.map (fun p=>A2 l p.1)=l'.map (·.2)):FrIs l l':=by
 induction l' with
 | nil=>exact .nil
 | cons p r ih=>
  rw [List.map_cons,List.map_cons] at h
  injection h with h1 h2
  exact .cons h1 (ih h2)
end Go.Am
namespace Go.Am
open Go
set_option maxRecDepth 100000
set_option maxHeartbeats 4000000
set_option linter.unusedSimpArgs false
set_option linter.unusedVariables false
structure Span where
 From:Int
 To:Int
 deriving DecidableEq
def Cc (x:Span):List AV:=[(.int .i64 x.From),(.int .i64 x.To)]
theorem Aj6 (x:Span):E4 2 (Cc x):=Mg rfl rfl
structure Volume where
 Name:Ar
 Closed:(List Span)
 deriving DecidableEq
def As (x:Volume):List AV:=[(.str x.Name),(.sl 2 (List.map Cc x.Closed))]
theorem Ye (x:Volume):E4 2 (As x):=Mg rfl rfl
structure Sector where
 Name:Ar
 Names:(List Ar)
 Volumes:(List Int)
 Radar:Int
 Procedural:Int
 deriving DecidableEq
def A3 (x:Sector):List AV:=[(.str x.Name),(.sl 1 (List.map rS x.Names)),(.sl 1 (List.map (rI .i64) x.Volumes)),(.int .i64 x.Radar),(.int .i64 x.Procedural)]
theorem Rn (x:Sector):E4 5 (A3 x):=Mg rfl rfl
structure Config where
 Name:Ar
 Names:(List Ar)
 Sectors:(List Int)
 deriving DecidableEq
def Bf (x:Config):List AV:=[(.str x.Name),(.sl 1 (List.map rS x.Names)),(.sl 1 (List.map (rI .i64) x.Sectors))]
theorem Vg (x:Config):E4 3 (Bf x):=Mg rfl rfl
structure Segment where
 Name:Ar
 In:Ar
 Volume:Int
 Length:Int
 Open:(List Span)
 deriving DecidableEq
def A9 (x:Segment):List AV:=[(.str x.Name),(.str x.In),(.int .i64 x.Volume),(.int .i64 x.Length),(.sl 2 (List.map Cc x.Open))]
theorem Tz (x:Segment):E4 5 (A9 x):=Mg rfl rfl
structure Route where
 Name:Ar
 A:Ar
 B:Ar
 From:Int
 To:Int
 Names:(List Ar)
 Segments:(List Int)
 deriving DecidableEq
def Bp (x:Route):List AV:=[(.str x.Name),(.str x.A),(.str x.B),(.int .i64 x.From),(.int .i64 x.To),(.sl 1 (List.map rS x.Names)),(.sl 1 (List.map (rI .i64) x.Segments))]
theorem Xm (x:Route):E4 7 (Bp x):=Mg rfl rfl
structure Mode where
 Name:Ar
 Places:Int
 deriving DecidableEq
def Dv (x:Mode):List AV:=[(.str x.Name),(.int .i64 x.Places)]
theorem Akf (x:Mode):E4 2 (Dv x):=Mg rfl rfl
structure Airport where
 Name:Ar
 Modes:(List Mode)
 deriving DecidableEq
def A6 (x:Airport):List AV:=[(.str x.Name),(.sl 2 (List.map Dv x.Modes))]
theorem Ww (x:Airport):E4 2 (A6 x):=Mg rfl rfl
structure Class where
 Name:Ar
 Slow:Int
 Fast:Int
 Places:Int
 deriving DecidableEq
def Bx (x:Class):List AV:=[(.str x.Name),(.int .i64 x.Slow),(.int .i64 x.Fast),(.int .i64 x.Places)]
theorem Ade (x:Class):E4 4 (Bx x):=Mg rfl rfl
structure Rule where
 Kind:Int
 C:Ar
 A:Ar
 Class:Int
 Airport:Int
 N:Int
 Hours:Span
 deriving DecidableEq
def A7 (x:Rule):List AV:=[(.int .i64 x.Kind),(.str x.C),(.str x.A),(.int .i64 x.Class),(.int .i64 x.Airport),(.int .i64 x.N),(.int .i64 x.Hours.From),(.int .i64 x.Hours.To)]
theorem Se (x:Rule):E4 8 (A7 x):=Mg rfl rfl
structure Airspace where
 Volumes:(List Volume)
 Sectors:(List Sector)
 Configs:(List Config)
 Segments:(List Segment)
 Routes:(List Route)
 Airports:(List Airport)
 Classes:(List Class)
 Rules:(List Rule)
 deriving DecidableEq
def Av (x:Airspace):List AV:=[(.sl 2 (List.map As x.Volumes)),(.sl 5 (List.map A3 x.Sectors)),(.sl 3 (List.map Bf x.Configs)),(.sl 5 (List.map A9 x.Segments)),(.sl 7 (List.map Bp x.Routes)),(.sl 2 (List.map A6 x.Airports)),(.sl 4 (List.map Bx x.Classes)),(.sl 8 (List.map A7 x.Rules))]
structure Token where
 Kind:Int
 Text:Ar
 N:Int
 At:Int
 deriving DecidableEq
def Ac (x:Token):List AV:=[(.int .i64 x.Kind),(.str x.Text),(.int .i64 x.N),(.int .i64 x.At)]
theorem Qe (x:Token):E4 4 (Ac x):=Mg rfl rfl
structure T63 where
 fAt:Int
 fE:Int
 deriving DecidableEq
structure T67 where
 fL:(List Token)
 fEnd:Int
 fA:Airspace
 deriving DecidableEq
def Av1 (x:T67):List AV:=[(.sl 4 (List.map Ac x.fL)),(.int .i64 x.fEnd),(.sl 2 (List.map As x.fA.Volumes)),(.sl 5 (List.map A3 x.fA.Sectors)),(.sl 3 (List.map Bf x.fA.Configs)),(.sl 5 (List.map A9 x.fA.Segments)),(.sl 7 (List.map Bp x.fA.Routes)),(.sl 2 (List.map A6 x.fA.Airports)),(.sl 4 (List.map Bx x.fA.Classes)),(.sl 8 (List.map A7 x.fA.Rules))]
structure T69 where
 L:(List Token)
 N:Int
 End:Int
 E:Int
 At:Int
 deriving DecidableEq
structure T88 where
 fL:(List Token)
 fBad:Bool
 deriving DecidableEq
structure T119 where
 fSrc:Ar
 fAt:Int
 fL:(List Token)
 deriving DecidableEq
def O9 (x:T119):List AV:=[(.str x.fSrc),(.int .i64 x.fAt),(.sl 4 (List.map Ac x.fL))]
end Go.Am
namespace Go.Am
open Go
set_option maxRecDepth 100000
set_option maxHeartbeats 4000000
set_option linter.unusedSimpArgs false
set_option linter.unusedVariables false
noncomputable section
def strings_IndexByte (s:Ar)(c:Int):R Int:=.ok (Lib.indexByte s c.toNat.toUInt8)
def Lv (c:Int):R Int:=
 if(((decide (c≥97))&&(decide (c≤122)))||((decide (c≥65))&&(decide (c≤90)))) then
(.ok 2)
else
(if((decide (c≥48))&&(decide (c≤57))) then
(.ok 3)
else
(if(c==95) then
(.ok 5)
else
(if((((c==32)||(c==9))||(c==10))||(c==13)) then
(.ok 1)
else
((strings_IndexByte [123,125,40,41,59,44,61,35,47,60,33,45,46] c).bind fun r=>
 if r≥0 then
(.ok 4)
else
(.ok 0)))))
def Pj (s:T119):R Unit:=
 .pan ⟨113,.int .i64 s.fAt⟩
def G3 (v:Int)(j:Nat)(a:Int):R (Unit ⊕ Int):=
 if(v==a) then
(.ok (.inr ((j:Int))))
else
(.ok (.inl ()))
def P7 (s:List Int)(v:Int):R Int:=
 (each (fun j a=>fun _=>G3 v j a) 0 s ()).bind (Dz (fun _=>.ok (-1)) (fun r=>.ok r))
def Ma (s:List Int)(v:Int):R Bool:=
 (P7 s v).bind fun r=>
 .ok (decide (r≥0))
def Mt (s:T119)(some:List Int)(n:Int):R (Int ⊕ Int):=
 (if(decide (n<(s.fSrc.length:Int))) then(E0 s.fSrc n).bind fun a=>
 (Lv (a.toNat:Int)).bind fun r=>
 (Ma some r).bind fun r1=>
 R.ok r1 else R.ok false).bind (fun(b:Bool)=>if b then
(.ok (.inl (IntKind.wrap .i64 (n+1))))
else
(.ok (.inr (n))))
def M5 (s:T119)(n1:Int):R Ar:=
 if(0:Int)≤s.fAt∧s.fAt≤n1∧n1≤(s.fSrc.length:Int) then
 .ok (cut s.fSrc s.fAt n1) else .bad
def J4 (s:T119)(some:List Int):R Ar:=
 (loop (fun n=>Mt s some n) s.fAt).bind (fun n1=>M5 s n1)
def Qz (a1:UInt8):R (Unit ⊕ Bool):=
 (Lv (a1.toNat:Int)).bind fun c=>
 if(((c != 2)&&(c != 3))&&(c != 5)) then
(.ok (.inr (false)))
else
(.ok (.inl ()))
def Uz (s:Ar):R Bool:=
 (if((s==[])||(decide ((s.length:Int) > 32))) then R.ok true else(E0 s 0).bind fun a=>
 (Lv (a.toNat:Int)).bind fun r=>
 R.ok (r != 2)).bind (fun(b:Bool)=>if b then
(.ok false)
else
(if s.length≤Eo then
((each (fun _ a1=>fun _=>Qz a1) 0 s ()).bind (Dz (fun _=>.ok true) (fun r=>.ok r))) else .bad))
def Tb (t:Token):R Bool:=
 if(t.Kind==1) then
((Uz t.Text).bind fun r=>
 .ok (r&&(t.N==0)))
else
(if(t.Kind==2) then
(.ok (((t.Text==[])&&(decide (t.N≥0)))&&(decide (t.N≤1099511627776))))
else
(if(t.Kind==3) then
((if((t.Text.length:Int)==1) then(E0 t.Text 0).bind fun a=>
 (Lv (a.toNat:Int)).bind fun r1=>
 R.ok (r1==4) else R.ok false).bind (fun(b:Bool)=>.ok (b&&(t.N==0))))
else
(.ok false)))
def Pp (s:Ar):R (Int×Bool):=if s.length≤281474976710656 then(match Lib.atoiAll s with
 | .ok v=>.ok (v,false)
 | Lib.NumEnd.syntax=>.ok (0,true)
 | .range=>.ok (Lib.atoiSat s,true)) else .bad
def strconv_Itoa (n:Int):R Ar:=if -9223372036854775808≤n∧n≤9223372036854775807 then .ok (Lib.itoa n) else .bad
def It (s:Ar)(vprefix:Ar):R Bool:=
 (if(decide ((s.length:Int)≥(vprefix.length:Int))) then if(0:Int)≤(vprefix.length:Int)∧(vprefix.length:Int)≤(s.length:Int) then
 R.ok ((s.take (Int.toNat (vprefix.length:Int)))==vprefix) else .bad else R.ok false).bind (fun(b:Bool)=>.ok b)
def Nx (s:Ar)(vprefix:Ar):R Bool:=
 (It s vprefix).bind fun r=>
 .ok r
def L7 (s0_src:Ar)(s0_at:Int)(l:List Token):R Int:=
 (J4 ({ fSrc:=s0_src,fAt:=s0_at,fL:=l }:T119) [1]).bind fun r=>
 .ok (IntKind.wrap .i64 (s0_at+(r.length:Int)))
def G7 (text:Ar)(t:Token)(s0_src:Ar)(s0_at:Int)(l:List Token):R (List Token):=
 (Tb t).bind fun r=>
 if r then
(if(l.length+[({ Kind:=t.Kind,Text:=t.Text,N:=t.N,At:=s0_at }:Token)].length) * 40≤Eo then
 .ok (l++[({ Kind:=t.Kind,Text:=t.Text,N:=t.N,At:=s0_at }:Token)]) else .bad)
else
(.pan ⟨113,.int .i64 s0_at⟩)
def M7 (s0_src:Ar)(s0_at:Int)(l:List Token):R (Int×(List Token)):=
 (J4 ({ fSrc:=s0_src,fAt:=s0_at,fL:=l }:T119) [2,3,5]).bind fun t=>
 (G7 t ({ Kind:=1,Text:=t,N:=0,At:=0 }:Token) s0_src s0_at l).bind fun r=>
 .ok ((IntKind.wrap .i64 (s0_at+(t.length:Int))),r)
def Lc (s0_src:Ar)(s0_at:Int)(l:List Token):R (Int×(List Token)):=
 (J4 ({ fSrc:=s0_src,fAt:=s0_at,fL:=l }:T119) [3]).bind fun t=>
 (Pp t).bind fun r=>
 (if r.2 then R.ok true else(strconv_Itoa r.1).bind fun r1=>
 R.ok (!(r1==t))).bind (fun(b:Bool)=>if b then
(.pan ⟨113,.int .i64 s0_at⟩)
else
((G7 t ({ Kind:=2,Text:=[],N:=r.1,At:=0 }:Token) s0_src s0_at l).bind fun r2=>
 .ok ((IntKind.wrap .i64 (s0_at+(t.length:Int))),r2)))
def Mz (s0_src:Ar)(s0_at:Int)(l:List Token):R (Int×(List Token)):=
 if(0:Int)≤s0_at∧s0_at≤(s0_src.length:Int) then
 (Nx (s0_src.drop (Int.toNat s0_at)) [47,47]).bind fun r=>
 if r then
(if(0:Int)≤s0_at∧s0_at≤(s0_src.length:Int) then
 (strings_IndexByte (s0_src.drop (Int.toNat s0_at)) 10).bind fun n=>
 if n≥0 then
(.ok ((IntKind.wrap .i64 (s0_at+n)),l))
else
(.ok ((s0_src.length:Int),l)) else .bad)
else
(if(0:Int)≤s0_at∧s0_at≤(IntKind.wrap .i64 (s0_at+1))∧(IntKind.wrap .i64 (s0_at+1))≤(s0_src.length:Int) then
 (G7 (cut s0_src s0_at (IntKind.wrap .i64 (s0_at+1))) ({ Kind:=3,Text:=(cut s0_src s0_at (IntKind.wrap .i64 (s0_at+1))),N:=0,At:=0 }:Token) s0_src s0_at l).bind fun r1=>
 .ok ((IntKind.wrap .i64 (s0_at+((cut s0_src s0_at (IntKind.wrap .i64 (s0_at+1))).length:Int))),r1) else .bad) else .bad
def Ka (n:Int):R Int:=
 .ok n
def N7 (src:Ar)(fAt:Int)(l:List Token):R ((Int×(List Token)) ⊕ (Int×(List Token))):=
 if fAt<(src.length:Int) then
((E0 src fAt).bind fun a=>
 (Lv (a.toNat:Int)).bind fun r=>
 if r=0 then
((Pj ({ fSrc:=src,fAt:=fAt,fL:=l }:T119)).bind fun _=>
 .ok (.inl (fAt,l)))
else
(if r=1 then
((L7 src fAt l).bind fun r2=>
 .ok (.inl (r2,l)))
else
(if r=2 then
((M7 src fAt l).bind fun r3=>
 .ok (.inl (r3.1,r3.2)))
else
(if r=3 then
((Lc src fAt l).bind fun r4=>
 .ok (.inl (r4.1,r4.2)))
else
(if r=4 then
((Mz src fAt l).bind fun r5=>
 .ok (.inl (r5.1,r5.2)))
else
(if r=5 then
((Pj ({ fSrc:=src,fAt:=fAt,fL:=l }:T119)).bind fun _=>
 .ok (.inl (fAt,l)))
else
(.bad)))))))
else
(.ok (.inr ((fAt,l))))
def Wy (fAt3:Int)(l1:List Token):R ((List Token)×Int×Int):=
 .ok (l1,0,0)
def Yh (src:Ar):R ((List Token)×Int×Int):=
 if(src.length:Int) > 65536 then
(.ok ([],0,2))
else
((loop (C2 fun fAt l=>N7 src fAt l) (0,[])).bind (C2 fun fAt3 l1=>Wy fAt3 l1))
def Aco (src:Ar):R ((List Token)×Int×Int):=
 (Yh src).catch' (O4 113 .i64 (fun n=>(Ka n).bind fun p=>.ok ([],p,70)) (fun _=>.bad))
def M6 (r:T67)(e:Int):R Unit:=
 if(r.fL.length:Int) > 0 then
((E0 r.fL 0).bind fun a=>
 .pan ⟨64,.two .i64 .i64 a.At e⟩)
else
(.pan ⟨64,.two .i64 .i64 r.fEnd e⟩)
def Bl (e:Int)(s_l:List Token)(s_end:Int):R Unit:=
 if(s_l.length:Int) > 0 then
((E0 s_l 0).bind fun a=>
 .pan ⟨64,.two .i64 .i64 a.At e⟩)
else
(.pan ⟨64,.two .i64 .i64 s_end e⟩)
def Kv (a:Token):R Bool:=
 .ok true
def E6 (s_l:List Token):R Token:=
 (E0 s_l 0).bind fun a2=>
 if(0:Int)≤1∧1≤(s_l.length:Int) then
 .ok a2 else .bad
def Nb (kind:Int)(s_l:List Token)(s_end:Int):R Token:=
 (if((s_l.length:Int)==0) then R.ok true else(E0 s_l 0).bind fun a=>
 R.ok (a.Kind != kind)).bind (fun(b:Bool)=>(if b then R.ok true else(E0 s_l 0).bind fun a1=>
 (Kv a1).bind fun r=>
 R.ok (!r)).bind (fun(b1:Bool)=>if b1 then
((Bl 80 s_l s_end).bind fun _=>
 E6 s_l)
else
(E6 s_l)))
def Ca (s_l:List Token)(s_end:Int):R Ar:=
 (Nb 1 s_l s_end).bind fun r=>
 .ok r.Text
def Kq (t:Token)(b:Ar):R Bool:=
 .ok (t.Text==b)
def Et (s0_l:List Token):R Token:=
 (E0 s0_l 0).bind fun a2=>
 if(0:Int)≤1∧1≤(s0_l.length:Int) then
 .ok a2 else .bad
def L4 (kind:Int)(s0_l:List Token)(s0_end:Int)(s1:Ar):R Token:=
 (if((s0_l.length:Int)==0) then R.ok true else(E0 s0_l 0).bind fun a=>
 R.ok (a.Kind != kind)).bind (fun(b:Bool)=>(if b then R.ok true else(E0 s0_l 0).bind fun a1=>
 (Kq a1 s1).bind fun r=>
 R.ok (!r)).bind (fun(b1:Bool)=>if b1 then
((Bl 80 s0_l s0_end).bind fun _=>
 Et s0_l)
else
(Et s0_l)))
def Da (text:Ar)(s_l:List Token)(s_end:Int):R Unit:=
 (L4 1 s_l s_end text).bind fun r=>
 .ok ()
def Hw (t:Token)(b:Int)(c:Int):R Bool:=
 .ok ((decide (t.N≥b))&&(decide (t.N≤c)))
def Es (s0_l:List Token):R Token:=
 (E0 s0_l 0).bind fun a2=>
 if(0:Int)≤1∧1≤(s0_l.length:Int) then
 .ok a2 else .bad
def L1 (kind:Int)(s0_l:List Token)(s0_end:Int)(s1:Int)(s2:Int):R Token:=
 (if((s0_l.length:Int)==0) then R.ok true else(E0 s0_l 0).bind fun a=>
 R.ok (a.Kind != kind)).bind (fun(b:Bool)=>(if b then R.ok true else(E0 s0_l 0).bind fun a1=>
 (Hw a1 s1 s2).bind fun r=>
 R.ok (!r)).bind (fun(b1:Bool)=>if b1 then
((Bl 80 s0_l s0_end).bind fun _=>
 Es s0_l)
else
(Es s0_l)))
def Dq (least:Int)(most:Int)(s_l:List Token)(s_end:Int):R Int:=
 (L1 2 s_l s_end least most).bind fun r=>
 .ok r.N
def Ga (s1_l:List Token)(s1_end:Int):R Mode:=
 (Da [109,111,100,101] s1_l s1_end).bind fun _=>
 (Ca (s1_l.drop 1) s1_end).bind fun r1=>
 (Dq 0 64 ((s1_l.drop 1).drop 1) s1_end).bind fun r2=>
 .ok ({ Name:=r1,Places:=r2 }:Mode)
def Fy (kind:Int)(text:Ar)(s_l:List Token)(s_end:Int):R Bool:=
 (if(decide ((s_l.length:Int) > 0)) then(E0 s_l 0).bind fun a=>
 R.ok (a.Kind==kind) else R.ok false).bind (fun(b:Bool)=>(if b then(E0 s_l 0).bind fun a1=>
 R.ok (a1.Text==text) else R.ok false).bind (fun(b1:Bool)=>.ok b1))
def Kr (t:Token)(b:Ar):R Bool:=
 .ok (t.Text==b)
def Eu (s0_l:List Token):R Token:=
 (E0 s0_l 0).bind fun a2=>
 if(0:Int)≤1∧1≤(s0_l.length:Int) then
 .ok a2 else .bad
def L5 (kind:Int)(s0_l:List Token)(s0_end:Int)(s1:Ar):R Token:=
 (if((s0_l.length:Int)==0) then R.ok true else(E0 s0_l 0).bind fun a=>
 R.ok (a.Kind != kind)).bind (fun(b:Bool)=>(if b then R.ok true else(E0 s0_l 0).bind fun a1=>
 (Kr a1 s1).bind fun r=>
 R.ok (!r)).bind (fun(b1:Bool)=>if b1 then
((Bl 80 s0_l s0_end).bind fun _=>
 Eu s0_l)
else
(Eu s0_l)))
def Cf (text:Ar)(s_l:List Token)(s_end:Int):R Unit:=
 (L5 3 s_l s_end text).bind fun r=>
 .ok ()
def F7 (s:Ar)(s1_l:List Token)(s1_end:Int):R Class:=
 (Da [115,108,111,119] s1_l s1_end).bind fun _=>
 (Dq 1 64 (s1_l.drop 1) s1_end).bind fun r1=>
 (Da [102,97,115,116] ((s1_l.drop 1).drop 1) s1_end).bind fun _=>
 (Dq r1 64 (((s1_l.drop 1).drop 1).drop 1) s1_end).bind fun r3=>
 (Da [112,108,97,99,101,115] ((((s1_l.drop 1).drop 1).drop 1).drop 1) s1_end).bind fun _=>
 (Dq 1 8 (((((s1_l.drop 1).drop 1).drop 1).drop 1).drop 1) s1_end).bind fun r5=>
 .ok ({ Name:=s,Slow:=r1,Fast:=r3,Places:=r5 }:Class)
def Ig (s_l:List Token)(s_end:Int):R Span:=
 (Dq 0 1439 s_l s_end).bind fun r=>
 (Da [116,111] (s_l.drop 1) s_end).bind fun _=>
 (Dq (IntKind.wrap .i64 (r+1)) 1440 ((s_l.drop 1).drop 1) s_end).bind fun r2=>
 .ok ({ From:=r,To:=r2 }:Span)
def Lm (s0:Rule)(s2_l:List Token)(s2_end:Int):R Rule:=
 (Da [97,116] s2_l s2_end).bind fun _=>
 (Ca (s2_l.drop 1) s2_end).bind fun r1=>
 (Ig ((s2_l.drop 1).drop 1) s2_end).bind fun r2=>
 .ok ({ Kind:=s0.Kind,C:=s0.C,A:=r1,Class:=s0.Class,Airport:=s0.Airport,N:=s0.N,Hours:=r2 }:Rule)
def Gk (class1:Ar)(s0:Int)(s3_l:List Token)(s3_end:Int):R Rule:=
 (Lm ({ Kind:=s0,C:=class1,A:=[],Class:=0,Airport:=0,N:=0,Hours:=({ From:=0,To:=0 }:Span) }:Rule) s3_l s3_end).bind fun r=>
 .ok r
def Oh (a:Rule):R Unit:=
 .ok ()
def Hv (class1:Ar)(s0:Int):R Unit:=
 (Oh ({ Kind:=s0,C:=class1,A:=[],Class:=0,Airport:=0,N:=0,Hours:=({ From:=0,To:=0 }:Span) }:Rule)).bind fun _=>
 .ok ()
def Hg (t:Token):R Bool:=
 .ok ((decide (t.N≤60))&&((Int.tmod t.N 10)==0))
def Ev (s_l:List Token):R Token:=
 (E0 s_l 0).bind fun a2=>
 if(0:Int)≤1∧1≤(s_l.length:Int) then
 .ok a2 else .bad
def H0 (kind:Int)(s_l:List Token)(s_end:Int):R Token:=
 (if((s_l.length:Int)==0) then R.ok true else(E0 s_l 0).bind fun a=>
 R.ok (a.Kind != kind)).bind (fun(b:Bool)=>(if b then R.ok true else(E0 s_l 0).bind fun a1=>
 (Hg a1).bind fun r=>
 R.ok (!r)).bind (fun(b1:Bool)=>if b1 then
((Bl 80 s_l s_end).bind fun _=>
 Ev s_l)
else
(Ev s_l)))
def Ky (s0:Rule)(s2_l:List Token)(s2_end:Int):R Rule:=
 (H0 2 s2_l s2_end).bind fun r=>
 .ok ({ Kind:=s0.Kind,C:=s0.C,A:=s0.A,Class:=s0.Class,Airport:=s0.Airport,N:=r.N,Hours:=s0.Hours }:Rule)
def Gi (class1:Ar)(s0:Int)(s3_l:List Token)(s3_end:Int):R Rule:=
 (Ky ({ Kind:=s0,C:=class1,A:=[],Class:=0,Airport:=0,N:=0,Hours:=({ From:=0,To:=0 }:Span) }:Rule) s3_l s3_end).bind fun r=>
 .ok r
def Kz (s0:Rule)(s2_l:List Token)(s2_end:Int):R Rule:=
 (Dq 1 8 s2_l s2_end).bind fun r=>
 .ok ({ Kind:=s0.Kind,C:=s0.C,A:=s0.A,Class:=s0.Class,Airport:=s0.Airport,N:=r,Hours:=s0.Hours }:Rule)
def Gl (class1:Ar)(s0:Int)(s3_l:List Token)(s3_end:Int):R Rule:=
 (Kz ({ Kind:=s0,C:=class1,A:=[],Class:=0,Airport:=0,N:=0,Hours:=({ From:=0,To:=0 }:Span) }:Rule) s3_l s3_end).bind fun r=>
 .ok r
def Ia (s0_end:Int)(fL:List Token)(l1:List Mode)(r:Mode):R (((List Token)×(List Mode)) ⊕ ((List Mode)×(List Token))):=
 (Cf [44] (((fL.drop 1).drop 1).drop 1) s0_end).bind fun _=>
 .ok (.inl (((((fL.drop 1).drop 1).drop 1).drop 1),(l1++[r])))
def H8 (most:Int)(s0_end:Int)(fL:List Token)(l1:List Mode):R (((List Token)×(List Mode)) ⊕ ((List Mode)×(List Token))):=
 (Ga fL s0_end).bind fun r=>
 if(l1.length+[r].length) * 24≤Eo then
 (Fy 3 [44] (((fL.drop 1).drop 1).drop 1) s0_end).bind fun r1=>
 if r1 then
(if(((l1++[r]).length:Int)==most) then
((Bl 2 (((fL.drop 1).drop 1).drop 1) s0_end).bind fun _=>
 Ia s0_end fL l1 r)
else
(Ia s0_end fL l1 r))
else
(.ok (.inr (((l1++[r]),(((fL.drop 1).drop 1).drop 1))))) else .bad
def Hz (most:Int)(s0_l:List Token)(s0_end:Int)(l:List Volume):R ((List Mode)×(List Token)):=
 (loop (C2 fun fL l1=>H8 most s0_end fL l1) (s0_l,[])).bind (fun r=>.ok r)
def Fg (s:Ar)(s1_l:List Token)(s1_end:Int)(l:List Volume):R (Airport×(List Token)):=
 (Hz 16 s1_l s1_end l).bind fun r=>
 .ok (({ Name:=s,Modes:=r.1 }:Airport),r.2)
def Gq (s0_end:Int)(fL:List Token)(l1:List Ar)(r:Ar):R (((List Token)×(List Ar)) ⊕ ((List Ar)×(List Token))):=
 (Cf [44] (fL.drop 1) s0_end).bind fun _=>
 .ok (.inl (((fL.drop 1).drop 1),(l1++[r])))
def Gs (most:Int)(s0_end:Int)(fL:List Token)(l1:List Ar):R (((List Token)×(List Ar)) ⊕ ((List Ar)×(List Token))):=
 (Ca fL s0_end).bind fun r=>
 if(l1.length+[r].length) * 16≤Eo then
 (Fy 3 [44] (fL.drop 1) s0_end).bind fun r1=>
 if r1 then
(if(((l1++[r]).length:Int)==most) then
((Bl 2 (fL.drop 1) s0_end).bind fun _=>
 Gq s0_end fL l1 r)
else
(Gq s0_end fL l1 r))
else
(.ok (.inr (((l1++[r]),(fL.drop 1))))) else .bad
def En (most:Int)(s0_l:List Token)(s0_end:Int)(l:List Volume):R ((List Ar)×(List Token)):=
 (loop (C2 fun fL l1=>Gs most s0_end fL l1) (s0_l,[])).bind (fun r=>.ok r)
def Fb (s:Ar)(s1_l:List Token)(s1_end:Int)(l:List Volume):R (Config×(List Token)):=
 (Cf [61] s1_l s1_end).bind fun _=>
 (En 64 (s1_l.drop 1) s1_end l).bind fun r1=>
 .ok (({ Name:=s,Names:=r1.1,Sectors:=[] }:Config),r1.2)
def Ff (s:Ar)(s1_l:List Token)(s1_end:Int)(l:List Volume):R (Route×(List Token)):=
 (Da [102,114,111,109] s1_l s1_end).bind fun _=>
 (Ca (s1_l.drop 1) s1_end).bind fun r1=>
 (Da [116,111] ((s1_l.drop 1).drop 1) s1_end).bind fun _=>
 (Ca (((s1_l.drop 1).drop 1).drop 1) s1_end).bind fun r3=>
 (Da [118,105,97] ((((s1_l.drop 1).drop 1).drop 1).drop 1) s1_end).bind fun _=>
 (En 8 (((((s1_l.drop 1).drop 1).drop 1).drop 1).drop 1) s1_end l).bind fun r5=>
 .ok (({ Name:=s,A:=r1,B:=r3,From:=0,To:=0,Names:=r5.1,Segments:=[] }:Route),r5.2)
def Fj (s:Ar)(s1_l:List Token)(s1_end:Int)(l:List Volume):R (Sector×(List Token)):=
 (Cf [61] s1_l s1_end).bind fun _=>
 (En 64 (s1_l.drop 1) s1_end l).bind fun r1=>
 (Da [114,97,100,97,114] r1.2 s1_end).bind fun _=>
 (Dq 0 64 (r1.2.drop 1) s1_end).bind fun r3=>
 (Da [112,114,111,99,101,100,117,114,97,108] ((r1.2.drop 1).drop 1) s1_end).bind fun _=>
 (Dq 0 r3 (((r1.2.drop 1).drop 1).drop 1) s1_end).bind fun r5=>
 .ok (({ Name:=s,Names:=r1.1,Volumes:=[],Radar:=r3,Procedural:=r5 }:Sector),((((r1.2.drop 1).drop 1).drop 1).drop 1))
def Gv (s0_end:Int)(fL:List Token)(l1:List Span)(r:Span):R (((List Token)×(List Span)) ⊕ ((List Span)×(List Token))):=
 (Cf [44] (((fL.drop 1).drop 1).drop 1) s0_end).bind fun _=>
 .ok (.inl (((((fL.drop 1).drop 1).drop 1).drop 1),(l1++[r])))
def Gy (most:Int)(s0_end:Int)(fL:List Token)(l1:List Span):R (((List Token)×(List Span)) ⊕ ((List Span)×(List Token))):=
 (Ig fL s0_end).bind fun r=>
 if(l1.length+[r].length) * 16≤Eo then
 (Fy 3 [44] (((fL.drop 1).drop 1).drop 1) s0_end).bind fun r1=>
 if r1 then
(if(((l1++[r]).length:Int)==most) then
((Bl 2 (((fL.drop 1).drop 1).drop 1) s0_end).bind fun _=>
 Gv s0_end fL l1 r)
else
(Gv s0_end fL l1 r))
else
(.ok (.inr (((l1++[r]),(((fL.drop 1).drop 1).drop 1))))) else .bad
def Fd (most:Int)(s0_l:List Token)(s0_end:Int)(l:List Volume):R ((List Span)×(List Token)):=
 (loop (C2 fun fL l1=>Gy most s0_end fL l1) (s0_l,[])).bind (fun r=>.ok r)
def Hl (text:Ar)(s0_l:List Token)(s0_end:Int)(l:List Volume):R ((List Span)×(List Token)):=
 (Fy 1 text s0_l s0_end).bind fun r=>
 if r then
((Da text s0_l s0_end).bind fun _=>
 (Fd 16 (s0_l.drop 1) s0_end l).bind fun r2=>
 .ok (r2.1,r2.2))
else
(.ok ([],s0_l))
def Fe (s:Ar)(s1_l:List Token)(s1_end:Int)(l:List Volume):R (Segment×(List Token)):=
 (Da [105,110] s1_l s1_end).bind fun _=>
 (Ca (s1_l.drop 1) s1_end).bind fun r1=>
 (Da [108,101,110,103,116,104] ((s1_l.drop 1).drop 1) s1_end).bind fun _=>
 (Dq 1 4096 (((s1_l.drop 1).drop 1).drop 1) s1_end).bind fun r3=>
 (Hl [111,112,101,110] ((((s1_l.drop 1).drop 1).drop 1).drop 1) s1_end l).bind fun r4=>
 .ok (({ Name:=s,In:=r1,Volume:=0,Length:=r3,Open:=r4.1 }:Segment),r4.2)
def Fc (s:Ar)(s1_l:List Token)(s1_end:Int)(l:List Volume):R (Volume×(List Token)):=
 (Hl [99,108,111,115,101,100] s1_l s1_end l).bind fun r=>
 .ok (({ Name:=s,Closed:=r.1 }:Volume),r.2)
def Ip (s0_l:List Token)(s0_end:Int)(l:List Volume):R ((List Token)×(List Volume)):=
 if(0:Int)≤1∧1≤(s0_l.length:Int) then
 (Ca (s0_l.drop 1) s0_end).bind fun r1=>
 (Fc r1 ((s0_l.drop 1).drop 1) s0_end l).bind fun r2=>
 (Cf [59] r2.2 s0_end).bind fun _=>
 if(l.length+[r2.1].length) * 40≤Eo then
 .ok ((r2.2.drop 1),(l++[r2.1])) else .bad else .bad
def Id (most:Int)(s0_l:List Token)(s0_end:Int)(l:List Volume):R ((List Token)×(List Volume)):=
 if((l.length:Int)==most) then
((Bl 2 s0_l s0_end).bind fun _=>
 Ip s0_l s0_end l)
else
(Ip s0_l s0_end l)
def Jn (s0_l:List Token)(s0_end:Int)(l:List Volume):R ((List Token)×(List Volume)):=
 (Id 64 s0_l s0_end l).bind fun r=>
 .ok (r.1,r.2)
def Ik (s0_l:List Token)(s0_end:Int)(l:List Volume)(l1:List Sector):R ((List Token)×(List Sector)):=
 if(0:Int)≤1∧1≤(s0_l.length:Int) then
 (Ca (s0_l.drop 1) s0_end).bind fun r1=>
 (Fj r1 ((s0_l.drop 1).drop 1) s0_end l).bind fun r2=>
 (Cf [59] r2.2 s0_end).bind fun _=>
 if(l1.length+[r2.1].length) * 80≤Eo then
 .ok ((r2.2.drop 1),(l1++[r2.1])) else .bad else .bad
def Ic (most:Int)(s0_l:List Token)(s0_end:Int)(l:List Volume)(l1:List Sector):R ((List Token)×(List Sector)):=
 if((l1.length:Int)==most) then
((Bl 2 s0_l s0_end).bind fun _=>
 Ik s0_l s0_end l l1)
else
(Ik s0_l s0_end l l1)
def Jz (s0_l:List Token)(s0_end:Int)(l:List Volume)(l1:List Sector):R ((List Token)×(List Sector)):=
 (Ic 64 s0_l s0_end l l1).bind fun r=>
 .ok (r.1,r.2)
def Im (s0_l:List Token)(s0_end:Int)(l:List Volume)(l1:List Config):R ((List Token)×(List Config)):=
 if(0:Int)≤1∧1≤(s0_l.length:Int) then
 (Ca (s0_l.drop 1) s0_end).bind fun r1=>
 (Fb r1 ((s0_l.drop 1).drop 1) s0_end l).bind fun r2=>
 (Cf [59] r2.2 s0_end).bind fun _=>
 if(l1.length+[r2.1].length) * 64≤Eo then
 .ok ((r2.2.drop 1),(l1++[r2.1])) else .bad else .bad
def Ie (most:Int)(s0_l:List Token)(s0_end:Int)(l:List Volume)(l1:List Config):R ((List Token)×(List Config)):=
 if((l1.length:Int)==most) then
((Bl 2 s0_l s0_end).bind fun _=>
 Im s0_l s0_end l l1)
else
(Im s0_l s0_end l l1)
def J0 (s0_l:List Token)(s0_end:Int)(l:List Volume)(l1:List Config):R ((List Token)×(List Config)):=
 (Ie 32 s0_l s0_end l l1).bind fun r=>
 .ok (r.1,r.2)
def H4 (s0_l:List Token)(s0_end:Int)(l:List Volume)(l1:List Segment):R ((List Token)×(List Segment)):=
 if(0:Int)≤1∧1≤(s0_l.length:Int) then
 (Ca (s0_l.drop 1) s0_end).bind fun r1=>
 (Fe r1 ((s0_l.drop 1).drop 1) s0_end l).bind fun r2=>
 (Cf [59] r2.2 s0_end).bind fun _=>
 if(l1.length+[r2.1].length) * 72≤Eo then
 .ok ((r2.2.drop 1),(l1++[r2.1])) else .bad else .bad
def Hx (most:Int)(s0_l:List Token)(s0_end:Int)(l:List Volume)(l1:List Segment):R ((List Token)×(List Segment)):=
 if((l1.length:Int)==most) then
((Bl 2 s0_l s0_end).bind fun _=>
 H4 s0_l s0_end l l1)
else
(H4 s0_l s0_end l l1)
def Jy (s0_l:List Token)(s0_end:Int)(l:List Volume)(l1:List Segment):R ((List Token)×(List Segment)):=
 (Hx 128 s0_l s0_end l l1).bind fun r=>
 .ok (r.1,r.2)
def I6 (s0_l:List Token)(s0_end:Int)(l:List Volume)(l1:List Route):R ((List Token)×(List Route)):=
 if(0:Int)≤1∧1≤(s0_l.length:Int) then
 (Ca (s0_l.drop 1) s0_end).bind fun r1=>
 (Ff r1 ((s0_l.drop 1).drop 1) s0_end l).bind fun r2=>
 (Cf [59] r2.2 s0_end).bind fun _=>
 if(l1.length+[r2.1].length) * 112≤Eo then
 .ok ((r2.2.drop 1),(l1++[r2.1])) else .bad else .bad
def Iy (most:Int)(s0_l:List Token)(s0_end:Int)(l:List Volume)(l1:List Route):R ((List Token)×(List Route)):=
 if((l1.length:Int)==most) then
((Bl 2 s0_l s0_end).bind fun _=>
 I6 s0_l s0_end l l1)
else
(I6 s0_l s0_end l l1)
def Jv (s0_l:List Token)(s0_end:Int)(l:List Volume)(l1:List Route):R ((List Token)×(List Route)):=
 (Iy 64 s0_l s0_end l l1).bind fun r=>
 .ok (r.1,r.2)
def H3 (s0_l:List Token)(s0_end:Int)(l:List Volume)(l1:List Airport):R ((List Token)×(List Airport)):=
 if(0:Int)≤1∧1≤(s0_l.length:Int) then
 (Ca (s0_l.drop 1) s0_end).bind fun r1=>
 (Fg r1 ((s0_l.drop 1).drop 1) s0_end l).bind fun r2=>
 (Cf [59] r2.2 s0_end).bind fun _=>
 if(l1.length+[r2.1].length) * 40≤Eo then
 .ok ((r2.2.drop 1),(l1++[r2.1])) else .bad else .bad
def Hy (most:Int)(s0_l:List Token)(s0_end:Int)(l:List Volume)(l1:List Airport):R ((List Token)×(List Airport)):=
 if((l1.length:Int)==most) then
((Bl 2 s0_l s0_end).bind fun _=>
 H3 s0_l s0_end l l1)
else
(H3 s0_l s0_end l l1)
def Jm (s0_l:List Token)(s0_end:Int)(l:List Volume)(l1:List Airport):R ((List Token)×(List Airport)):=
 (Hy 16 s0_l s0_end l l1).bind fun r=>
 .ok (r.1,r.2)
def I5 (s0_l:List Token)(s0_end:Int)(l:List Class):R (List Class):=
 if(0:Int)≤1∧1≤(s0_l.length:Int) then
 (Ca (s0_l.drop 1) s0_end).bind fun r1=>
 (F7 r1 ((s0_l.drop 1).drop 1) s0_end).bind fun r2=>
 (Cf [59] ((((((((s0_l.drop 1).drop 1).drop 1).drop 1).drop 1).drop 1).drop 1).drop 1) s0_end).bind fun _=>
 if(l.length+[r2].length) * 40≤Eo then
 .ok (l++[r2]) else .bad else .bad
def Iv (most:Int)(s0_l:List Token)(s0_end:Int)(l:List Class):R (List Class):=
 if((l.length:Int)==most) then
((Bl 2 s0_l s0_end).bind fun _=>
 I5 s0_l s0_end l)
else
(I5 s0_l s0_end l)
def Jw (s0_l:List Token)(s0_end:Int)(l:List Class):R (List Class):=
 (Iv 8 s0_l s0_end l).bind fun r=>
 .ok r
def Jx (s0_l:List Token)(s0_end:Int)(l:List Rule)(s2:Int):R (List Rule):=
 if(0:Int)≤1∧1≤(s0_l.length:Int) then
 (Ca (s0_l.drop 1) s0_end).bind fun r1=>
 (Gk r1 s2 ((s0_l.drop 1).drop 1) s0_end).bind fun r2=>
 (Cf [59] (((((((s0_l.drop 1).drop 1).drop 1).drop 1).drop 1).drop 1).drop 1) s0_end).bind fun _=>
 if(l.length+[r2].length) * 80≤Eo then
 .ok (l++[r2]) else .bad else .bad
def Jb (most:Int)(s0_l:List Token)(s0_end:Int)(l:List Rule)(s2:Int):R (List Rule):=
 if((l.length:Int)==most) then
((Bl 2 s0_l s0_end).bind fun _=>
 Jx s0_l s0_end l s2)
else
(Jx s0_l s0_end l s2)
def La (kind:Int)(s0_l:List Token)(s0_end:Int)(l:List Rule):R (List Rule):=
 (Jb 64 s0_l s0_end l kind).bind fun r=>
 .ok r
def Js (s0_l:List Token)(s0_end:Int)(l:List Rule):R (List Rule):=
 (La 1 s0_l s0_end l).bind fun r=>
 .ok r
def Jq (s0_l:List Token)(s0_end:Int)(l:List Rule)(s2:Int):R (List Rule):=
 if(0:Int)≤1∧1≤(s0_l.length:Int) then
 (Ca (s0_l.drop 1) s0_end).bind fun r1=>
 (Hv r1 s2).bind fun _=>
 (Cf [59] ((s0_l.drop 1).drop 1) s0_end).bind fun _=>
 if(l.length+[({ Kind:=s2,C:=r1,A:=[],Class:=0,Airport:=0,N:=0,Hours:=({ From:=0,To:=0 }:Span) }:Rule)].length) * 80≤Eo then
 .ok (l++[({ Kind:=s2,C:=r1,A:=[],Class:=0,Airport:=0,N:=0,Hours:=({ From:=0,To:=0 }:Span) }:Rule)]) else .bad else .bad
def Ja (most:Int)(s0_l:List Token)(s0_end:Int)(l:List Rule)(s2:Int):R (List Rule):=
 if((l.length:Int)==most) then
((Bl 2 s0_l s0_end).bind fun _=>
 Jq s0_l s0_end l s2)
else
(Jq s0_l s0_end l s2)
def K6 (kind:Int)(s0_l:List Token)(s0_end:Int)(l:List Rule):R (List Rule):=
 (Ja 64 s0_l s0_end l kind).bind fun r=>
 .ok r
def Jt (s0_l:List Token)(s0_end:Int)(l:List Rule):R (List Rule):=
 (K6 2 s0_l s0_end l).bind fun r=>
 .ok r
def Ju (s0_l:List Token)(s0_end:Int)(l:List Rule)(s2:Int):R (List Rule):=
 if(0:Int)≤1∧1≤(s0_l.length:Int) then
 (Ca (s0_l.drop 1) s0_end).bind fun r1=>
 (Gi r1 s2 ((s0_l.drop 1).drop 1) s0_end).bind fun r2=>
 (Cf [59] (((s0_l.drop 1).drop 1).drop 1) s0_end).bind fun _=>
 if(l.length+[r2].length) * 80≤Eo then
 .ok (l++[r2]) else .bad else .bad
def Jl (most:Int)(s0_l:List Token)(s0_end:Int)(l:List Rule)(s2:Int):R (List Rule):=
 if((l.length:Int)==most) then
((Bl 2 s0_l s0_end).bind fun _=>
 Ju s0_l s0_end l s2)
else
(Ju s0_l s0_end l s2)
def K7 (kind:Int)(s0_l:List Token)(s0_end:Int)(l:List Rule):R (List Rule):=
 (Jl 64 s0_l s0_end l kind).bind fun r=>
 .ok r
def I4 (s0_l:List Token)(s0_end:Int)(l:List Rule):R (List Rule):=
 (K7 4 s0_l s0_end l).bind fun r=>
 .ok r
def Jp (s0_l:List Token)(s0_end:Int)(l:List Rule)(s2:Int):R (List Rule):=
 if(0:Int)≤1∧1≤(s0_l.length:Int) then
 (Ca (s0_l.drop 1) s0_end).bind fun r1=>
 (Gl r1 s2 ((s0_l.drop 1).drop 1) s0_end).bind fun r2=>
 (Cf [59] (((s0_l.drop 1).drop 1).drop 1) s0_end).bind fun _=>
 if(l.length+[r2].length) * 80≤Eo then
 .ok (l++[r2]) else .bad else .bad
def Jg (most:Int)(s0_l:List Token)(s0_end:Int)(l:List Rule)(s2:Int):R (List Rule):=
 if((l.length:Int)==most) then
((Bl 2 s0_l s0_end).bind fun _=>
 Jp s0_l s0_end l s2)
else
(Jp s0_l s0_end l s2)
def Lb (kind:Int)(s0_l:List Token)(s0_end:Int)(l:List Rule):R (List Rule):=
 (Jg 64 s0_l s0_end l kind).bind fun r=>
 .ok r
def I0 (s0_l:List Token)(s0_end:Int)(l:List Rule):R (List Rule):=
 (Lb 3 s0_l s0_end l).bind fun r=>
 .ok r
def Fa (s0_l:List Token)(s0_end:Int)(l:List Volume)(l1:List Sector)(l2:List Config)(l3:List Segment)(l4:List Route)(l5:List Airport)(l6:List Class)(l7:List Rule):R ((List Token)×(List Volume)×(List Sector)×(List Config)×(List Segment)×(List Route)×(List Airport)×(List Class)×(List Rule)):=
 (M6 ({ fL:=s0_l,fEnd:=s0_end,fA:=({ Volumes:=l,Sectors:=l1,Configs:=l2,Segments:=l3,Routes:=l4,Airports:=l5,Classes:=l6,Rules:=l7 }:Airspace) }:T67) 80).bind fun _=>
 .ok (s0_l,l,l1,l2,l3,l4,l5,l6,l7)
def Ge (s0_l:List Token)(s0_end:Int)(l:List Volume)(l1:List Sector)(l2:List Config)(l3:List Segment)(l4:List Route)(l5:List Airport)(l6:List Class)(l7:List Rule):R ((List Token)×(List Volume)×(List Sector)×(List Config)×(List Segment)×(List Route)×(List Airport)×(List Class)×(List Rule)):=
 (E0 s0_l 0).bind fun a=>
 if(a.Kind==1) then
(if(a.Text==[97,105,114,112,111,114,116]) then
((Jm s0_l s0_end l l5).bind fun r=>
 .ok (r.1,l,l1,l2,l3,l4,r.2,l6,l7))
else
(if(a.Text==[99,108,97,115,115]) then
((Jw s0_l s0_end l6).bind fun r1=>
 .ok ((((((((((s0_l.drop 1).drop 1).drop 1).drop 1).drop 1).drop 1).drop 1).drop 1).drop 1),l,l1,l2,l3,l4,l5,r1,l7))
else
(if(a.Text==[99,111,110,102,105,103]) then
((J0 s0_l s0_end l l2).bind fun r2=>
 .ok (r2.1,l,l1,r2.2,l3,l4,l5,l6,l7))
else
(if(a.Text==[99,117,114,102,101,119]) then
((Js s0_l s0_end l7).bind fun r3=>
 .ok (((((((((s0_l.drop 1).drop 1).drop 1).drop 1).drop 1).drop 1).drop 1).drop 1),l,l1,l2,l3,l4,l5,l6,r3))
else
(if(a.Text==[101,120,101,109,112,116]) then
((Jt s0_l s0_end l7).bind fun r4=>
 .ok ((((s0_l.drop 1).drop 1).drop 1),l,l1,l2,l3,l4,l5,l6,r4))
else
(if(a.Text==[108,111,110,103,101,115,116]) then
((I4 s0_l s0_end l7).bind fun r5=>
 .ok (((((s0_l.drop 1).drop 1).drop 1).drop 1),l,l1,l2,l3,l4,l5,l6,r5))
else
(if(a.Text==[114,111,117,116,101]) then
((Jv s0_l s0_end l l4).bind fun r6=>
 .ok (r6.1,l,l1,l2,l3,r6.2,l5,l6,l7))
else
(if(a.Text==[115,101,99,116,111,114]) then
((Jz s0_l s0_end l l1).bind fun r7=>
 .ok (r7.1,l,r7.2,l2,l3,l4,l5,l6,l7))
else
(if(a.Text==[115,101,103,109,101,110,116]) then
((Jy s0_l s0_end l l3).bind fun r8=>
 .ok (r8.1,l,l1,l2,r8.2,l4,l5,l6,l7))
else
(if(a.Text==[118,111,108,117,109,101]) then
((Jn s0_l s0_end l).bind fun r9=>
 .ok (r9.1,r9.2,l1,l2,l3,l4,l5,l6,l7))
else
(if(a.Text==[119,101,105,103,104,116]) then
((I0 s0_l s0_end l7).bind fun r10=>
 .ok (((((s0_l.drop 1).drop 1).drop 1).drop 1),l,l1,l2,l3,l4,l5,l6,r10))
else
(Fa s0_l s0_end l l1 l2 l3 l4 l5 l6 l7))))))))))))
else
(Fa s0_l s0_end l l1 l2 l3 l4 l5 l6 l7)
def G1 (n:Int)(n2:Int):R (Int×Int):=
 .ok (n,n2)
def J9 (src:Ar)(fL:List Token)(l:List Airport)(l1:List Class)(l2:List Config)(l3:List Rule)(l4:List Route)(l5:List Sector)(l6:List Segment)(l7:List Volume):R (((List Token)×(List Airport)×(List Class)×(List Config)×(List Rule)×(List Route)×(List Sector)×(List Segment)×(List Volume)) ⊕ ((List Token)×(List Airport)×(List Class)×(List Config)×(List Rule)×(List Route)×(List Sector)×(List Segment)×(List Volume))):=
 if(fL.length:Int) > 0 then
((Ge fL (src.length:Int) l7 l5 l2 l6 l4 l l1 l3).bind fun r1=>
 .ok (.inl (r1.1,r1.2.2.2.2.2.2.1,r1.2.2.2.2.2.2.2.1,r1.2.2.2.1,r1.2.2.2.2.2.2.2.2,r1.2.2.2.2.2.1,r1.2.2.1,r1.2.2.2.2.1,r1.2.1)))
else
(.ok (.inr ((fL,l,l1,l2,l3,l4,l5,l6,l7))))
def Q6 (fL3:List Token)(l8:List Airport)(l9:List Class)(l10:List Config)(l11:List Rule)(l12:List Route)(l13:List Sector)(l14:List Segment)(l15:List Volume):R (Airspace×Int×Int):=
 .ok (({ Volumes:=l15,Sectors:=l13,Configs:=l10,Segments:=l14,Routes:=l12,Airports:=l8,Classes:=l9,Rules:=l11 }:Airspace),0,0)
def R3 (src:Ar):R (Airspace×Int×Int):=
 ((Aco src).np).bind fun r=>
 if(r.2.2 != 0) then
(.ok (({ Volumes:=[],Sectors:=[],Configs:=[],Segments:=[],Routes:=[],Airports:=[],Classes:=[],Rules:=[] }:Airspace),r.2.1,r.2.2))
else
((loop (un9 fun fL l l1 l2 l3 l4 l5 l6 l7=>J9 src fL l l1 l2 l3 l4 l5 l6 l7) (r.1,[],[],[],[],[],[],[],[])).bind (un9 fun fL3 l8 l9 l10 l11 l12 l13 l14 l15=>Q6 fL3 l8 l9 l10 l11 l12 l13 l14 l15))
def I1 (src:Ar):R (Airspace×Int×Int):=
 (R3 src).catch' (O2 64 .i64 .i64 (fun n n2=>(G1 n n2).bind fun p=>.ok (({ Volumes:=[],Sectors:=[],Configs:=[],Segments:=[],Routes:=[],Airports:=[],Classes:=[],Rules:=[] }:Airspace),p.1,p.2)) (fun _=>.bad))
def F9 (ok:Bool)(t:Token)(s0_bad:Bool)(l:List Token):R (List Token):=
 if(l.length+[t].length) * 40≤Eo then
 .ok (l++[t]) else .bad
def Cm (s:Ar)(s0_bad:Bool)(l:List Token):R (Bool×(List Token)):=
 (Uz s).bind fun r=>
 (F9 r ({ Kind:=1,Text:=s,N:=0,At:=0 }:Token) s0_bad l).bind fun r1=>
 .ok ((s0_bad||(!r)),r1)
def E8 (a:Ar)(fBad:Bool)(l2:List Token):R (Bool×(List Token)):=
 (F9 true ({ Kind:=1,Text:=a,N:=0,At:=0 }:Token) fBad l2).bind fun r=>
 .ok ((fBad||(!true)),r)
def Bq (l:List Ar)(s0_bad:Bool)(l1:List Token):R (Bool×(List Token)):=
 (Ek (fun _ a=>C2 fun fBad l2=>E8 a fBad l2) 0 l (s0_bad,l1)).bind ((C2 fun fBad l2=>.ok (fBad,l2)))
def E7 (a:Ar)(fBad:Bool)(l2:List Token):R (Bool×(List Token)):=
 (F9 true ({ Kind:=3,Text:=a,N:=0,At:=0 }:Token) fBad l2).bind fun r=>
 .ok ((fBad||(!true)),r)
def Cb (l:List Ar)(s0_bad:Bool)(l1:List Token):R (Bool×(List Token)):=
 (Ek (fun _ a=>C2 fun fBad l2=>E7 a fBad l2) 0 l (s0_bad,l1)).bind ((C2 fun fBad l2=>.ok (fBad,l2)))
def Cg (n:Int)(least:Int)(most:Int)(s0_bad:Bool)(l:List Token):R (List Token):=
 (F9 ((decide (n≥least))&&(decide (n≤most))) ({ Kind:=2,Text:=[],N:=n,At:=0 }:Token) s0_bad l).bind fun r=>
 .ok r
def Hj (s:Span)(s0_bad:Bool)(l:List Token):R (Bool×(List Token)):=
 (Cg s.From 0 1439 s0_bad l).bind fun r=>
 (Bq [[116,111]] (s0_bad||(!((decide (s.From≥0))&&(decide (s.From≤1439))))) r).bind fun r1=>
 (Cg s.To (IntKind.wrap .i64 (s.From+1)) 1440 r1.1 r1.2).bind fun r2=>
 .ok ((r1.1||(!((decide (s.To≥(IntKind.wrap .i64 (s.From+1))))&&(decide (s.To≤1440))))),r2)
def Kk (a:Span)(fBad1:Bool)(l3:List Token):R (Bool×(List Token)):=
 (Hj a fBad1 l3).bind fun r1=>
 .ok (r1.1,r1.2)
def Kh (j:Nat)(a:Span)(fBad:Bool)(l2:List Token):R (Bool×(List Token)):=
 if(j:Int) > 0 then
((Cb [[44]] fBad l2).bind fun r=>
 Kk a r.1 r.2)
else
(Kk a fBad l2)
def Jo (l:List Span)(most:Int)(s0_bad:Bool)(l1:List Token):R (Bool×(List Token)):=
 (Ek (fun j a=>C2 fun fBad l2=>Kh j a fBad l2) 0 l (((s0_bad||((l.length:Int)==0))||(decide ((l.length:Int) > most))),l1)).bind ((C2 fun fBad l2=>.ok (fBad,l2)))
def Hf (text:Ar)(l:List Span)(s0_bad:Bool)(l1:List Token):R (Bool×(List Token)):=
 if(l.length:Int) > 0 then
((Bq [text] s0_bad l1).bind fun r=>
 (Jo l 16 r.1 r.2).bind fun r1=>
 .ok (r1.1,r1.2))
else
(.ok (s0_bad,l1))
def Nw (a:Volume)(s1_bad:Bool)(l:List Token):R (Bool×(List Token)):=
 (Cm a.Name s1_bad l).bind fun r=>
 (Hf [99,108,111,115,101,100] a.Closed r.1 r.2).bind fun r1=>
 .ok (r1.1,r1.2)
def Ht (a:Volume)(fBad1:Bool)(l2:List Token):R (Bool×(List Token)):=
 (Nw a fBad1 l2).bind fun r1=>
 (Cb [[59]] r1.1 r1.2).bind fun r2=>
 .ok (r2.1,r2.2)
def Gf (text:Ar)(a:Volume)(fBad:Bool)(l1:List Token):R (Bool×(List Token)):=
 if(text==[]) then
(Ht a fBad l1)
else
((Bq [text] fBad l1).bind fun r=>
 Ht a r.1 r.2)
def G9 (text:Ar)(l:List Volume)(most:Int)(s0_bad:Bool):R (Bool×(List Token)):=
 (Ek (fun _ a=>C2 fun fBad l1=>Gf text a fBad l1) 0 l ((s0_bad||(decide ((l.length:Int) > most))),[])).bind ((C2 fun fBad l1=>.ok (fBad,l1)))
def J5 (a:Ar)(fBad1:Bool)(l3:List Token):R (Bool×(List Token)):=
 (Cm a fBad1 l3).bind fun r1=>
 .ok (r1.1,r1.2)
def J6 (j:Nat)(a:Ar)(fBad:Bool)(l2:List Token):R (Bool×(List Token)):=
 if(j:Int) > 0 then
((Cb [[44]] fBad l2).bind fun r=>
 J5 a r.1 r.2)
else
(J5 a fBad l2)
def F1 (l:List Ar)(most:Int)(s0_bad:Bool)(l1:List Token):R (Bool×(List Token)):=
 (Ek (fun j a=>C2 fun fBad l2=>J6 j a fBad l2) 0 l (((s0_bad||((l.length:Int)==0))||(decide ((l.length:Int) > most))),l1)).bind ((C2 fun fBad l2=>.ok (fBad,l2)))
def Nt (a:Sector)(s1_bad:Bool)(l:List Token):R (Bool×(List Token)):=
 (Cm a.Name s1_bad l).bind fun r=>
 (Cb [[61]] r.1 r.2).bind fun r1=>
 (F1 a.Names 64 r1.1 r1.2).bind fun r2=>
 (Bq [[114,97,100,97,114]] r2.1 r2.2).bind fun r3=>
 (Cg a.Radar 0 64 r3.1 r3.2).bind fun r4=>
 (Bq [[112,114,111,99,101,100,117,114,97,108]] (r3.1||(!((decide (a.Radar≥0))&&(decide (a.Radar≤64))))) r4).bind fun r5=>
 (Cg a.Procedural 0 a.Radar r5.1 r5.2).bind fun r6=>
 .ok ((r5.1||(!((decide (a.Procedural≥0))&&(decide (a.Procedural≤a.Radar))))),r6)
def Hp (a:Sector)(fBad1:Bool)(l3:List Token):R (Bool×(List Token)):=
 (Nt a fBad1 l3).bind fun r1=>
 (Cb [[59]] r1.1 r1.2).bind fun r2=>
 .ok (r2.1,r2.2)
def Hq (text:Ar)(a:Sector)(fBad:Bool)(l2:List Token):R (Bool×(List Token)):=
 if(text==[]) then
(Hp a fBad l2)
else
((Bq [text] fBad l2).bind fun r=>
 Hp a r.1 r.2)
def F3 (text:Ar)(l:List Sector)(most:Int)(s0_bad:Bool)(l1:List Token):R (Bool×(List Token)):=
 (Ek (fun _ a=>C2 fun fBad l2=>Hq text a fBad l2) 0 l ((s0_bad||(decide ((l.length:Int) > most))),l1)).bind ((C2 fun fBad l2=>.ok (fBad,l2)))
def Nu (a:Config)(s1_bad:Bool)(l:List Token):R (Bool×(List Token)):=
 (Cm a.Name s1_bad l).bind fun r=>
 (Cb [[61]] r.1 r.2).bind fun r1=>
 (F1 a.Names 64 r1.1 r1.2).bind fun r2=>
 .ok (r2.1,r2.2)
def Hr (a:Config)(fBad1:Bool)(l3:List Token):R (Bool×(List Token)):=
 (Nu a fBad1 l3).bind fun r1=>
 (Cb [[59]] r1.1 r1.2).bind fun r2=>
 .ok (r2.1,r2.2)
def Hu (text:Ar)(a:Config)(fBad:Bool)(l2:List Token):R (Bool×(List Token)):=
 if(text==[]) then
(Hr a fBad l2)
else
((Bq [text] fBad l2).bind fun r=>
 Hr a r.1 r.2)
def F5 (text:Ar)(l:List Config)(most:Int)(s0_bad:Bool)(l1:List Token):R (Bool×(List Token)):=
 (Ek (fun _ a=>C2 fun fBad l2=>Hu text a fBad l2) 0 l ((s0_bad||(decide ((l.length:Int) > most))),l1)).bind ((C2 fun fBad l2=>.ok (fBad,l2)))
def Nr (a:Segment)(s1_bad:Bool)(l:List Token):R (Bool×(List Token)):=
 (Cm a.Name s1_bad l).bind fun r=>
 (Bq [[105,110]] r.1 r.2).bind fun r1=>
 (Cm a.In r1.1 r1.2).bind fun r2=>
 (Bq [[108,101,110,103,116,104]] r2.1 r2.2).bind fun r3=>
 (Cg a.Length 1 4096 r3.1 r3.2).bind fun r4=>
 (Hf [111,112,101,110] a.Open (r3.1||(!((decide (a.Length≥1))&&(decide (a.Length≤4096))))) r4).bind fun r5=>
 .ok (r5.1,r5.2)
def Ha (a:Segment)(fBad1:Bool)(l3:List Token):R (Bool×(List Token)):=
 (Nr a fBad1 l3).bind fun r1=>
 (Cb [[59]] r1.1 r1.2).bind fun r2=>
 .ok (r2.1,r2.2)
def Hk (text:Ar)(a:Segment)(fBad:Bool)(l2:List Token):R (Bool×(List Token)):=
 if(text==[]) then
(Ha a fBad l2)
else
((Bq [text] fBad l2).bind fun r=>
 Ha a r.1 r.2)
def Fx (text:Ar)(l:List Segment)(most:Int)(s0_bad:Bool)(l1:List Token):R (Bool×(List Token)):=
 (Ek (fun _ a=>C2 fun fBad l2=>Hk text a fBad l2) 0 l ((s0_bad||(decide ((l.length:Int) > most))),l1)).bind ((C2 fun fBad l2=>.ok (fBad,l2)))
def Nz (a:Route)(s1_bad:Bool)(l:List Token):R (Bool×(List Token)):=
 (Cm a.Name s1_bad l).bind fun r=>
 (Bq [[102,114,111,109]] r.1 r.2).bind fun r1=>
 (Cm a.A r1.1 r1.2).bind fun r2=>
 (Bq [[116,111]] r2.1 r2.2).bind fun r3=>
 (Cm a.B r3.1 r3.2).bind fun r4=>
 (Bq [[118,105,97]] r4.1 r4.2).bind fun r5=>
 (F1 a.Names 8 r5.1 r5.2).bind fun r6=>
 .ok (r6.1,r6.2)
def H7 (a:Route)(fBad1:Bool)(l3:List Token):R (Bool×(List Token)):=
 (Nz a fBad1 l3).bind fun r1=>
 (Cb [[59]] r1.1 r1.2).bind fun r2=>
 .ok (r2.1,r2.2)
def H2 (text:Ar)(a:Route)(fBad:Bool)(l2:List Token):R (Bool×(List Token)):=
 if(text==[]) then
(H7 a fBad l2)
else
((Bq [text] fBad l2).bind fun r=>
 H7 a r.1 r.2)
def Gj (text:Ar)(l:List Route)(most:Int)(s0_bad:Bool)(l1:List Token):R (Bool×(List Token)):=
 (Ek (fun _ a=>C2 fun fBad l2=>H2 text a fBad l2) 0 l ((s0_bad||(decide ((l.length:Int) > most))),l1)).bind ((C2 fun fBad l2=>.ok (fBad,l2)))
def Jc (m:Mode)(s1_bad:Bool)(l:List Token):R (Bool×(List Token)):=
 (Bq [[109,111,100,101]] s1_bad l).bind fun r=>
 (Cm m.Name r.1 r.2).bind fun r1=>
 (Cg m.Places 0 64 r1.1 r1.2).bind fun r2=>
 .ok ((r1.1||(!((decide (m.Places≥0))&&(decide (m.Places≤64))))),r2)
def L0 (a:Mode)(fBad1:Bool)(l3:List Token):R (Bool×(List Token)):=
 (Jc a fBad1 l3).bind fun r1=>
 .ok (r1.1,r1.2)
def L3 (j:Nat)(a:Mode)(fBad:Bool)(l2:List Token):R (Bool×(List Token)):=
 if(j:Int) > 0 then
((Cb [[44]] fBad l2).bind fun r=>
 L0 a r.1 r.2)
else
(L0 a fBad l2)
def Lo (l:List Mode)(most:Int)(s0_bad:Bool)(l1:List Token):R (Bool×(List Token)):=
 (Ek (fun j a=>C2 fun fBad l2=>L3 j a fBad l2) 0 l (((s0_bad||((l.length:Int)==0))||(decide ((l.length:Int) > most))),l1)).bind ((C2 fun fBad l2=>.ok (fBad,l2)))
def Nv (a:Airport)(s1_bad:Bool)(l:List Token):R (Bool×(List Token)):=
 (Cm a.Name s1_bad l).bind fun r=>
 (Lo a.Modes 16 r.1 r.2).bind fun r1=>
 .ok (r1.1,r1.2)
def Hb (a:Airport)(fBad1:Bool)(l3:List Token):R (Bool×(List Token)):=
 (Nv a fBad1 l3).bind fun r1=>
 (Cb [[59]] r1.1 r1.2).bind fun r2=>
 .ok (r2.1,r2.2)
def Hh (text:Ar)(a:Airport)(fBad:Bool)(l2:List Token):R (Bool×(List Token)):=
 if(text==[]) then
(Hb a fBad l2)
else
((Bq [text] fBad l2).bind fun r=>
 Hb a r.1 r.2)
def Ft (text:Ar)(l:List Airport)(most:Int)(s0_bad:Bool)(l1:List Token):R (Bool×(List Token)):=
 (Ek (fun _ a=>C2 fun fBad l2=>Hh text a fBad l2) 0 l ((s0_bad||(decide ((l.length:Int) > most))),l1)).bind ((C2 fun fBad l2=>.ok (fBad,l2)))
def Ns (a:Class)(s1_bad:Bool)(l:List Token):R (Bool×(List Token)):=
 (Cm a.Name s1_bad l).bind fun r=>
 (Bq [[115,108,111,119]] r.1 r.2).bind fun r1=>
 (Cg a.Slow 1 64 r1.1 r1.2).bind fun r2=>
 (Bq [[102,97,115,116]] (r1.1||(!((decide (a.Slow≥1))&&(decide (a.Slow≤64))))) r2).bind fun r3=>
 (Cg a.Fast a.Slow 64 r3.1 r3.2).bind fun r4=>
 (Bq [[112,108,97,99,101,115]] (r3.1||(!((decide (a.Fast≥a.Slow))&&(decide (a.Fast≤64))))) r4).bind fun r5=>
 (Cg a.Places 1 8 r5.1 r5.2).bind fun r6=>
 .ok ((r5.1||(!((decide (a.Places≥1))&&(decide (a.Places≤8))))),r6)
def H9 (a:Class)(fBad1:Bool)(l3:List Token):R (Bool×(List Token)):=
 (Ns a fBad1 l3).bind fun r1=>
 (Cb [[59]] r1.1 r1.2).bind fun r2=>
 .ok (r2.1,r2.2)
def H5 (text:Ar)(a:Class)(fBad:Bool)(l2:List Token):R (Bool×(List Token)):=
 if(text==[]) then
(H9 a fBad l2)
else
((Bq [text] fBad l2).bind fun r=>
 H9 a r.1 r.2)
def Gh (text:Ar)(l:List Class)(most:Int)(s0_bad:Bool)(l1:List Token):R (Bool×(List Token)):=
 (Ek (fun _ a=>C2 fun fBad l2=>H5 text a fBad l2) 0 l ((s0_bad||(decide ((l.length:Int) > most))),l1)).bind ((C2 fun fBad l2=>.ok (fBad,l2)))
def Fl (text:Ar)(s1_bad:Bool)(l:List Token)(s3:Rule):R (Bool×(List Token)):=
 (Bq [text] s1_bad l).bind fun r=>
 (Cm s3.C r.1 r.2).bind fun r1=>
 .ok (r1.1,r1.2)
def Dj (b:Rule)(fBad:Bool)(l1:List Token)(o:Rule):R (Bool×(List Token)):=
 if fBad then
(.ok (true,l1))
else
(.ok ((!((b.Kind==o.Kind)&&((b.C==o.C)&&((b.A==o.A)&&((0==o.Class)&&((0==o.Airport)&&((b.N==o.N)&&((b.Hours.From==o.Hours.From)&&(b.Hours.To==o.Hours.To))))))))),l1))
def Je (b:Rule)(s0_bad:Bool)(l:List Token):R (Bool×(List Token)):=
 if(b.Kind==1) then
((Fl [99,117,114,102,101,119] s0_bad l b).bind fun r=>
 (Bq [[97,116]] r.1 r.2).bind fun r1=>
 (Cm b.A r1.1 r1.2).bind fun r2=>
 (Hj b.Hours r2.1 r2.2).bind fun r3=>
 Dj b r3.1 r3.2 ({ Kind:=b.Kind,C:=b.C,A:=b.A,Class:=0,Airport:=0,N:=0,Hours:=b.Hours }:Rule))
else
(if(b.Kind==2) then
((Fl [101,120,101,109,112,116] s0_bad l b).bind fun r4=>
 Dj b r4.1 r4.2 ({ Kind:=b.Kind,C:=b.C,A:=[],Class:=0,Airport:=0,N:=0,Hours:=({ From:=0,To:=0 }:Span) }:Rule))
else
(if(b.Kind==3) then
((Fl [119,101,105,103,104,116] s0_bad l b).bind fun r5=>
 (Cg b.N 1 8 r5.1 r5.2).bind fun r6=>
 Dj b (r5.1||(!((decide (b.N≥1))&&(decide (b.N≤8))))) r6 ({ Kind:=b.Kind,C:=b.C,A:=[],Class:=0,Airport:=0,N:=b.N,Hours:=({ From:=0,To:=0 }:Span) }:Rule))
else
(if(b.Kind==4) then
((Fl [108,111,110,103,101,115,116] s0_bad l b).bind fun r7=>
 (Cg b.N 0 60 r7.1 r7.2).bind fun r8=>
 if(r7.1||(!((decide (b.N≥0))&&(decide (b.N≤60))))) then
(Dj b true r8 ({ Kind:=b.Kind,C:=b.C,A:=[],Class:=0,Airport:=0,N:=b.N,Hours:=({ From:=0,To:=0 }:Span) }:Rule))
else
(Dj b ((Int.tmod b.N 10) != 0) r8 ({ Kind:=b.Kind,C:=b.C,A:=[],Class:=0,Airport:=0,N:=b.N,Hours:=({ From:=0,To:=0 }:Span) }:Rule)))
else
(Dj b true l ({ Kind:=b.Kind,C:=b.C,A:=[],Class:=0,Airport:=0,N:=0,Hours:=({ From:=0,To:=0 }:Span) }:Rule)))))
def J7 (a:Rule)(fBad1:Bool)(l3:List Token):R (Bool×(List Token)):=
 (Je a fBad1 l3).bind fun r1=>
 (Cb [[59]] r1.1 r1.2).bind fun r2=>
 .ok (r2.1,r2.2)
def Hs (text:Ar)(a:Rule)(fBad:Bool)(l2:List Token):R (Bool×(List Token)):=
 if(text==[]) then
(J7 a fBad l2)
else
((Bq [text] fBad l2).bind fun r=>
 J7 a r.1 r.2)
def F2 (text:Ar)(l:List Rule)(most:Int)(s0_bad:Bool)(l1:List Token):R (Bool×(List Token)):=
 (Ek (fun _ a=>C2 fun fBad l2=>Hs text a fBad l2) 0 l ((s0_bad||(decide ((l.length:Int) > most))),l1)).bind ((C2 fun fBad l2=>.ok (fBad,l2)))
def strings_Join (l:List Ar)(sep:Ar):R Ar:=if(Lib.join l sep).length≤140737488355328 then .ok (Lib.join l sep) else .bad
def Q0 (j:Nat)(a:Token)(words:List Ar):R ((List Ar) ⊕ (Ar×Int)):=
 (Tb a).bind fun r=>
 if r then
(if(a.Kind==2) then
((strconv_Itoa a.N).bind fun r1=>
 (E0 words (j:Int)).bind fun a1=>
 .ok (.inl (words.set (j:Int).toNat r1)))
else
((E0 words (j:Int)).bind fun a2=>
 .ok (.inl (words.set (j:Int).toNat a.Text))))
else
(.ok (.inr (([],70))))
def Rh (l:List Token):R (Ar×Int):=
 if(0:Int)≤(l.length:Int)∧((l.length:Int):Int)≤(l.length:Int)∧(Int.toNat (l.length:Int)) * 16≤Eo then
 (each (fun j a=>fun words=>Q0 j a words) 0 l (List.replicate (Int.toNat (l.length:Int)) [])).bind (Dz (fun words=>(strings_Join words [32]).bind fun src=>
 .ok (src,0)) (fun r=>.ok r)) else .bad
def Ll (a:Airspace):R (Ar×Int):=
 (G9 [118,111,108,117,109,101] a.Volumes 64 false).bind fun r=>
 (F3 [115,101,99,116,111,114] a.Sectors 64 r.1 r.2).bind fun r1=>
 (F5 [99,111,110,102,105,103] a.Configs 32 r1.1 r1.2).bind fun r2=>
 (Fx [115,101,103,109,101,110,116] a.Segments 128 r2.1 r2.2).bind fun r3=>
 (Gj [114,111,117,116,101] a.Routes 64 r3.1 r3.2).bind fun r4=>
 (Ft [97,105,114,112,111,114,116] a.Airports 16 r4.1 r4.2).bind fun r5=>
 (Gh [99,108,97,115,115] a.Classes 8 r5.1 r5.2).bind fun r6=>
 (F2 [] a.Rules 64 r6.1 r6.2).bind fun r7=>
 if r7.1 then
(.ok ([],80))
else
((Rh r7.2).bind fun r8=>
 .ok (r8.1,r8.2))
def M4 (b:List Span)(j:Nat)(a1:Span):R (Unit ⊕ Bool):=
 (E0 b (j:Int)).bind fun a2=>
 if((a1.From==a2.From)&&(a1.To==a2.To)) then
(.ok (.inl ()))
else
(.ok (.inr (false)))
def Ni (a:List Span)(b:List Span):R Bool:=
 if((a.length:Int) != (b.length:Int)) then
(.ok false)
else
((each (fun j a1=>fun _=>M4 b j a1) 0 a ()).bind (Dz (fun _=>.ok true) (fun r=>.ok r)))
def Ms (b:List Ar)(j:Nat)(a1:Ar):R (Unit ⊕ Bool):=
 (E0 b (j:Int)).bind fun a2=>
 if(a1==a2) then
(.ok (.inl ()))
else
(.ok (.inr (false)))
def K5 (a:List Ar)(b:List Ar):R Bool:=
 if((a.length:Int) != (b.length:Int)) then
(.ok false)
else
((each (fun j a1=>fun _=>Ms b j a1) 0 a ()).bind (Dz (fun _=>.ok true) (fun r=>.ok r)))
def N0 (b:List Int)(j:Nat)(a1:Int):R (Unit ⊕ Bool):=
 (E0 b (j:Int)).bind fun a2=>
 if(a1 != a2) then
(.ok (.inr (false)))
else
(.ok (.inl ()))
def If (a:List Int)(b:List Int):R Bool:=
 if((a.length:Int) != (b.length:Int)) then
(.ok false)
else
((each (fun j a1=>fun _=>N0 b j a1) 0 a ()).bind (Dz (fun _=>.ok true) (fun r=>.ok r)))
def Qt (x1:Bool):R (Unit ⊕ Bool):=
 if x1 then
(.ok (.inr (false)))
else
(.ok (.inl ()))
def Qq (b:Airspace)(j:Nat)(a1:Volume):R (Unit ⊕ Bool):=
 (E0 b.Volumes (j:Int)).bind fun a2=>
 if(!(a1.Name==a2.Name)) then
(Qt true)
else
((Ni a1.Closed a2.Closed).bind fun r=>
 Qt (!r))
def Ov (b:Airspace)(j1:Nat)(a3:Sector):R (Unit ⊕ Bool):=
 (E0 b.Sectors (j1:Int)).bind fun a4=>
 (if(!(a3.Name==a4.Name)) then R.ok true else(K5 a3.Names a4.Names).bind fun r1=>
 R.ok (!r1)).bind (fun(b1:Bool)=>(if b1 then R.ok true else(If a3.Volumes a4.Volumes).bind fun r2=>
 R.ok (!r2)).bind (fun(b2:Bool)=>if((b2||(a3.Radar != a4.Radar))||(a3.Procedural != a4.Procedural)) then
(.ok (.inr (false)))
else
(.ok (.inl ()))))
def Nm (b:Airspace)(j2:Nat)(a5:Config):R (Unit ⊕ Bool):=
 (E0 b.Configs (j2:Int)).bind fun a6=>
 (if(!(a5.Name==a6.Name)) then R.ok true else(K5 a5.Names a6.Names).bind fun r3=>
 R.ok (!r3)).bind (fun(b3:Bool)=>(if b3 then R.ok true else(If a5.Sectors a6.Sectors).bind fun r4=>
 R.ok (!r4)).bind (fun(b4:Bool)=>if b4 then
(.ok (.inr (false)))
else
(.ok (.inl ()))))
def Ls (b:Airspace)(j3:Nat)(a7:Segment):R (Unit ⊕ Bool):=
 (E0 b.Segments (j3:Int)).bind fun a8=>
 (if((((!(a7.Name==a8.Name))||(!(a7.In==a8.In)))||(a7.Volume != a8.Volume))||(a7.Length != a8.Length)) then R.ok true else(Ni a7.Open a8.Open).bind fun r5=>
 R.ok (!r5)).bind (fun(b5:Bool)=>if b5 then
(.ok (.inr (false)))
else
(.ok (.inl ())))
def Kj (b:Airspace)(j4:Nat)(a9:Route):R (Unit ⊕ Bool):=
 (E0 b.Routes (j4:Int)).bind fun a10=>
 (if(((((!(a9.Name==a10.Name))||(!(a9.A==a10.A)))||(!(a9.B==a10.B)))||(a9.From != a10.From))||(a9.To != a10.To)) then R.ok true else(K5 a9.Names a10.Names).bind fun r6=>
 R.ok (!r6)).bind (fun(b6:Bool)=>(if b6 then R.ok true else(If a9.Segments a10.Segments).bind fun r7=>
 R.ok (!r7)).bind (fun(b7:Bool)=>if b7 then
(.ok (.inr (false)))
else
(.ok (.inl ()))))
def Qi (a12:Airport)(j6:Nat)(a13:Mode):R (Unit ⊕ Bool):=
 (E0 a12.Modes (j6:Int)).bind fun a14=>
 if((a13.Name==a14.Name)&&(a13.Places==a14.Places)) then
(.ok (.inl ()))
else
(.ok (.inr (false)))
def I7 (b:Airspace)(j5:Nat)(a11:Airport):R (Unit ⊕ Bool):=
 (E0 b.Airports (j5:Int)).bind fun a12=>
 if((!(a11.Name==a12.Name))||((a11.Modes.length:Int) != (a12.Modes.length:Int))) then
(.ok (.inr (false)))
else
((each (fun j6 a13=>fun _=>Qi a12 j6 a13) 0 a11.Modes ()).bind (Dz (fun _=>.ok (.inl ())) (fun r=>.ok (.inr (r)))))
def H6 (b:Airspace)(j7:Nat)(a15:Class):R (Unit ⊕ Bool):=
 (E0 b.Classes (j7:Int)).bind fun a16=>
 if((a15.Name==a16.Name)&&((a15.Slow==a16.Slow)&&((a15.Fast==a16.Fast)&&(a15.Places==a16.Places)))) then
(.ok (.inl ()))
else
(.ok (.inr (false)))
def G8 (b:Airspace)(j8:Nat)(a17:Rule):R (Unit ⊕ Bool):=
 (E0 b.Rules (j8:Int)).bind fun a18=>
 if((a17.Kind==a18.Kind)&&((a17.C==a18.C)&&((a17.A==a18.A)&&((a17.Class==a18.Class)&&((a17.Airport==a18.Airport)&&((a17.N==a18.N)&&((a17.Hours.From==a18.Hours.From)&&(a17.Hours.To==a18.Hours.To)))))))) then
(.ok (.inl ()))
else
(.ok (.inr (false)))
def N4 (a:Airspace)(b:Airspace):R Bool:=
 if(((((((((a.Volumes.length:Int) != (b.Volumes.length:Int))||((a.Sectors.length:Int) != (b.Sectors.length:Int)))||((a.Configs.length:Int) != (b.Configs.length:Int)))||((a.Segments.length:Int) != (b.Segments.length:Int)))||((a.Routes.length:Int) != (b.Routes.length:Int)))||((a.Airports.length:Int) != (b.Airports.length:Int)))||((a.Classes.length:Int) != (b.Classes.length:Int)))||((a.Rules.length:Int) != (b.Rules.length:Int))) then
(.ok false)
else
((each (fun j a1=>fun _=>Qq b j a1) 0 a.Volumes ()).bind (Dz (fun _=>(each (fun j1 a3=>fun _=>Ov b j1 a3) 0 a.Sectors ()).bind (Dz (fun _=>(each (fun j2 a5=>fun _=>Nm b j2 a5) 0 a.Configs ()).bind (Dz (fun _=>(each (fun j3 a7=>fun _=>Ls b j3 a7) 0 a.Segments ()).bind (Dz (fun _=>(each (fun j4 a9=>fun _=>Kj b j4 a9) 0 a.Routes ()).bind (Dz (fun _=>(each (fun j5 a11=>fun _=>I7 b j5 a11) 0 a.Airports ()).bind (Dz (fun _=>(each (fun j7 a15=>fun _=>H6 b j7 a15) 0 a.Classes ()).bind (Dz (fun _=>(each (fun j8 a17=>fun _=>G8 b j8 a17) 0 a.Rules ()).bind (Dz (fun _=>.ok true) (fun r=>.ok r))) (fun r=>.ok r))) (fun r=>.ok r))) (fun r=>.ok r))) (fun r=>.ok r))) (fun r=>.ok r))) (fun r=>.ok r))) (fun r=>.ok r)))
def N6 (s2:List Span)(j:Nat)(a:Span):R (Unit ⊕ Bool):=
 (E0 s2 (j:Int)).bind fun a1=>
 if((a.From==a1.From)&&(a.To==a1.To)) then
(.ok (.inl ()))
else
(.ok (.inr (false)))
def Pm (s1:List Span)(s2:List Span):R Bool:=
 if((s1.length:Int) != (s2.length:Int)) then
(.ok false)
else
((each (fun j a=>fun _=>N6 s2 j a) 0 s1 ()).bind (Dz (fun _=>.ok true) (fun r=>.ok r)))
def U7 (a:Volume)(y:Volume):R Bool:=
 (if(a.Name==y.Name) then(Pm a.Closed y.Closed).bind fun r=>
 R.ok r else R.ok false).bind (fun(b:Bool)=>.ok b)
def Ea (s2:List Volume)(j:Nat)(a:Volume):R (Unit ⊕ Bool):=
 (E0 s2 (j:Int)).bind fun a1=>
 (U7 a a1).bind fun r=>
 if r then
(.ok (.inl ()))
else
(.ok (.inr (false)))
def Fk (s1:List Volume)(s2:List Volume):R Bool:=
 if((s1.length:Int) != (s2.length:Int)) then
(.ok false)
else
((each (fun j a=>fun _=>Ea s2 j a) 0 s1 ()).bind (Dz (fun _=>.ok true) (fun r=>.ok r)))
def Mo (s2:List Ar)(j:Nat)(a:Ar):R (Unit ⊕ Bool):=
 (E0 s2 (j:Int)).bind fun a1=>
 if(a==a1) then
(.ok (.inl ()))
else
(.ok (.inr (false)))
def Mb (s1:List Ar)(s2:List Ar):R Bool:=
 if((s1.length:Int) != (s2.length:Int)) then
(.ok false)
else
((each (fun j a=>fun _=>Mo s2 j a) 0 s1 ()).bind (Dz (fun _=>.ok true) (fun r=>.ok r)))
def Ol (s2:List Int)(j:Nat)(a:Int):R (Unit ⊕ Bool):=
 (E0 s2 (j:Int)).bind fun a1=>
 if(a != a1) then
(.ok (.inr (false)))
else
(.ok (.inl ()))
def I3 (s1:List Int)(s2:List Int):R Bool:=
 if((s1.length:Int) != (s2.length:Int)) then
(.ok false)
else
((each (fun j a=>fun _=>Ol s2 j a) 0 s1 ()).bind (Dz (fun _=>.ok true) (fun r=>.ok r)))
def U3 (a:Sector)(y:Sector):R Bool:=
 (if(a.Name==y.Name) then(Mb a.Names y.Names).bind fun r=>
 R.ok r else R.ok false).bind (fun(b:Bool)=>(if b then(I3 a.Volumes y.Volumes).bind fun r1=>
 R.ok r1 else R.ok false).bind (fun(b1:Bool)=>.ok ((b1&&(a.Radar==y.Radar))&&(a.Procedural==y.Procedural))))
def D9 (s2:List Sector)(j:Nat)(a:Sector):R (Unit ⊕ Bool):=
 (E0 s2 (j:Int)).bind fun a1=>
 (U3 a a1).bind fun r=>
 if r then
(.ok (.inl ()))
else
(.ok (.inr (false)))
def Fh (s1:List Sector)(s2:List Sector):R Bool:=
 if((s1.length:Int) != (s2.length:Int)) then
(.ok false)
else
((each (fun j a=>fun _=>D9 s2 j a) 0 s1 ()).bind (Dz (fun _=>.ok true) (fun r=>.ok r)))
def Uu (a:Config)(y:Config):R Bool:=
 (if(a.Name==y.Name) then(Mb a.Names y.Names).bind fun r=>
 R.ok r else R.ok false).bind (fun(b:Bool)=>(if b then(I3 a.Sectors y.Sectors).bind fun r1=>
 R.ok r1 else R.ok false).bind (fun(b1:Bool)=>.ok b1))
def D8 (s2:List Config)(j:Nat)(a:Config):R (Unit ⊕ Bool):=
 (E0 s2 (j:Int)).bind fun a1=>
 (Uu a a1).bind fun r=>
 if r then
(.ok (.inl ()))
else
(.ok (.inr (false)))
def Eg (s1:List Config)(s2:List Config):R Bool:=
 if((s1.length:Int) != (s2.length:Int)) then
(.ok false)
else
((each (fun j a=>fun _=>D8 s2 j a) 0 s1 ()).bind (Dz (fun _=>.ok true) (fun r=>.ok r)))
def U0 (a:Segment)(y:Segment):R Bool:=
 (if((((a.Name==y.Name)&&(a.In==y.In))&&(a.Volume==y.Volume))&&(a.Length==y.Length)) then(Pm a.Open y.Open).bind fun r=>
 R.ok r else R.ok false).bind (fun(b:Bool)=>.ok b)
def Dw (s2:List Segment)(j:Nat)(a:Segment):R (Unit ⊕ Bool):=
 (E0 s2 (j:Int)).bind fun a1=>
 (U0 a a1).bind fun r=>
 if r then
(.ok (.inl ()))
else
(.ok (.inr (false)))
def Dg (s1:List Segment)(s2:List Segment):R Bool:=
 if((s1.length:Int) != (s2.length:Int)) then
(.ok false)
else
((each (fun j a=>fun _=>Dw s2 j a) 0 s1 ()).bind (Dz (fun _=>.ok true) (fun r=>.ok r)))
def U4 (a:Route)(y:Route):R Bool:=
 (if(((((a.Name==y.Name)&&(a.A==y.A))&&(a.B==y.B))&&(a.From==y.From))&&(a.To==y.To)) then(Mb a.Names y.Names).bind fun r=>
 R.ok r else R.ok false).bind (fun(b:Bool)=>(if b then(I3 a.Segments y.Segments).bind fun r1=>
 R.ok r1 else R.ok false).bind (fun(b1:Bool)=>.ok b1))
def Ef (s2:List Route)(j:Nat)(a:Route):R (Unit ⊕ Bool):=
 (E0 s2 (j:Int)).bind fun a1=>
 (U4 a a1).bind fun r=>
 if r then
(.ok (.inl ()))
else
(.ok (.inr (false)))
def C8 (s1:List Route)(s2:List Route):R Bool:=
 if((s1.length:Int) != (s2.length:Int)) then
(.ok false)
else
((each (fun j a=>fun _=>Ef s2 j a) 0 s1 ()).bind (Dz (fun _=>.ok true) (fun r=>.ok r)))
def N3 (s2:List Mode)(j:Nat)(a:Mode):R (Unit ⊕ Bool):=
 (E0 s2 (j:Int)).bind fun a1=>
 if((a.Name==a1.Name)&&(a.Places==a1.Places)) then
(.ok (.inl ()))
else
(.ok (.inr (false)))
def Sj (s1:List Mode)(s2:List Mode):R Bool:=
 if((s1.length:Int) != (s2.length:Int)) then
(.ok false)
else
((each (fun j a=>fun _=>N3 s2 j a) 0 s1 ()).bind (Dz (fun _=>.ok true) (fun r=>.ok r)))
def Um (a:Airport)(y:Airport):R Bool:=
 (if(a.Name==y.Name) then(Sj a.Modes y.Modes).bind fun r=>
 R.ok r else R.ok false).bind (fun(b:Bool)=>.ok b)
def Dx (s2:List Airport)(j:Nat)(a:Airport):R (Unit ⊕ Bool):=
 (E0 s2 (j:Int)).bind fun a1=>
 (Um a a1).bind fun r=>
 if r then
(.ok (.inl ()))
else
(.ok (.inr (false)))
def Cl (s1:List Airport)(s2:List Airport):R Bool:=
 if((s1.length:Int) != (s2.length:Int)) then
(.ok false)
else
((each (fun j a=>fun _=>Dx s2 j a) 0 s1 ()).bind (Dz (fun _=>.ok true) (fun r=>.ok r)))
def Nh (s2:List Class)(j:Nat)(a:Class):R (Unit ⊕ Bool):=
 (E0 s2 (j:Int)).bind fun a1=>
 if((a.Name==a1.Name)&&((a.Slow==a1.Slow)&&((a.Fast==a1.Fast)&&(a.Places==a1.Places)))) then
(.ok (.inl ()))
else
(.ok (.inr (false)))
def Ho (s1:List Class)(s2:List Class):R Bool:=
 if((s1.length:Int) != (s2.length:Int)) then
(.ok false)
else
((each (fun j a=>fun _=>Nh s2 j a) 0 s1 ()).bind (Dz (fun _=>.ok true) (fun r=>.ok r)))
def N5 (s2:List Rule)(j:Nat)(a:Rule):R (Unit ⊕ Bool):=
 (E0 s2 (j:Int)).bind fun a1=>
 if((a.Kind==a1.Kind)&&((a.C==a1.C)&&((a.A==a1.A)&&((a.Class==a1.Class)&&((a.Airport==a1.Airport)&&((a.N==a1.N)&&((a.Hours.From==a1.Hours.From)&&(a.Hours.To==a1.Hours.To)))))))) then
(.ok (.inl ()))
else
(.ok (.inr (false)))
def G6 (s1:List Rule)(s2:List Rule):R Bool:=
 if((s1.length:Int) != (s2.length:Int)) then
(.ok false)
else
((each (fun j a=>fun _=>N5 s2 j a) 0 s1 ()).bind (Dz (fun _=>.ok true) (fun r=>.ok r)))
def Pe (a:Airspace)(b:Airspace):R Bool:=
 (Fk a.Volumes b.Volumes).bind fun r=>
 (if r then(Fh a.Sectors b.Sectors).bind fun r1=>
 R.ok r1 else R.ok false).bind (fun(b1:Bool)=>(if b1 then(Eg a.Configs b.Configs).bind fun r2=>
 R.ok r2 else R.ok false).bind (fun(b2:Bool)=>(if b2 then(Dg a.Segments b.Segments).bind fun r3=>
 R.ok r3 else R.ok false).bind (fun(b3:Bool)=>(if b3 then(C8 a.Routes b.Routes).bind fun r4=>
 R.ok r4 else R.ok false).bind (fun(b4:Bool)=>(if b4 then(Cl a.Airports b.Airports).bind fun r5=>
 R.ok r5 else R.ok false).bind (fun(b5:Bool)=>(if b5 then(Ho a.Classes b.Classes).bind fun r6=>
 R.ok r6 else R.ok false).bind (fun(b6:Bool)=>(if b6 then(G6 a.Rules b.Rules).bind fun r7=>
 R.ok r7 else R.ok false).bind (fun(b7:Bool)=>.ok b7)))))))
def Tw:R Bool:=
 (I1 []).bind fun r=>
 (I1 [118,111,108,117,109,101,32,97,32,99,108,111,115,101,100,32,54,48,32,116,111,32,54,48,59]).bind fun r1=>
 (I1 [101,120,101,109,112,116,32,104,101,97,118,121]).bind fun r2=>
 (I1 [108,111,110,103,101,115,116,32,104,101,97,118,121,32,51,53,59]).bind fun r3=>
 (Ll ({ Volumes:=[],Sectors:=[],Configs:=[],Segments:=[],Routes:=[],Airports:=[({ Name:=[120],Modes:=[] }:Airport)],Classes:=[],Rules:=[] }:Airspace)).bind fun r4=>
 (Ll ({ Volumes:=[({ Name:=[97],Closed:=[] }:Volume)],Sectors:=[],Configs:=[],Segments:=[],Routes:=[],Airports:=[],Classes:=[],Rules:=[] }:Airspace)).bind fun r5=>
 (I1 [99,117,114,102,101,119,32,104,101,97,118,121,32,97,116,32,120,32,48,32,116,111,32,51,48,48,59,32,115,101,99,116,111,114,32,115,32,61,32,97,44,32,98,32,114,97,100,97,114,32,57,32,112,114,111,99,101,100,117,114,97,108,32,52,59]).bind fun r6=>
 (Ll ({ Volumes:=[],Sectors:=[({ Name:=[115],Names:=[[97],[98]],Volumes:=[0,1],Radar:=9,Procedural:=4 }:Sector)],Configs:=[],Segments:=[],Routes:=[],Airports:=[],Classes:=[],Rules:=[({ Kind:=1,C:=[104,101,97,118,121],A:=[120],Class:=0,Airport:=0,N:=0,Hours:=({ From:=0,To:=300 }:Span) }:Rule)] }:Airspace)).bind fun r7=>
 if(((((((((((((r.2.2 != 0)||(r1.2.2 != 80))||(r2.2.2 != 80))||(r3.2.2 != 80))||(r4.2 != 80))||(r5.2 != 0))||(r6.2.2 != 0))||(r7.2 != 0))||(r.2.1 != 0))||(r1.2.1 != 22))||(r2.2.1 != 12))||(r3.2.1 != 14))||(r6.2.1 != 0)) then
(.ok false)
else
((N4 r.1 ({ Volumes:=[],Sectors:=[],Configs:=[],Segments:=[],Routes:=[],Airports:=[],Classes:=[],Rules:=[] }:Airspace)).bind fun r8=>
 (if(r8&&(r5.1==[118,111,108,117,109,101,32,97,32,59])) then(N4 r6.1 ({ Volumes:=[],Sectors:=[({ Name:=[115],Names:=[[97],[98]],Volumes:=[],Radar:=9,Procedural:=4 }:Sector)],Configs:=[],Segments:=[],Routes:=[],Airports:=[],Classes:=[],Rules:=[({ Kind:=1,C:=[104,101,97,118,121],A:=[120],Class:=0,Airport:=0,N:=0,Hours:=({ From:=0,To:=300 }:Span) }:Rule)] }:Airspace)).bind fun r9=>
 R.ok r9 else R.ok false).bind (fun(b:Bool)=>(if(b&&(r7.1==[115,101,99,116,111,114,32,115,32,61,32,97,32,44,32,98,32,114,97,100,97,114,32,57,32,112,114,111,99,101,100,117,114,97,108,32,52,32,59,32,99,117,114,102,101,119,32,104,101,97,118,121,32,97,116,32,120,32,48,32,116,111,32,51,48,48,32,59])) then(Pe r6.1 ({ Volumes:=[],Sectors:=[({ Name:=[115],Names:=[[97],[98]],Volumes:=[],Radar:=9,Procedural:=4 }:Sector)],Configs:=[],Segments:=[],Routes:=[],Airports:=[],Classes:=[],Rules:=[({ Kind:=1,C:=[104,101,97,118,121],A:=[120],Class:=0,Airport:=0,N:=0,Hours:=({ From:=0,To:=300 }:Span) }:Rule)] }:Airspace)).bind fun r10=>
 R.ok r10 else R.ok false).bind (fun(b1:Bool)=>(if b1 then(Pe r6.1 ({ Volumes:=[],Sectors:=[({ Name:=[115],Names:=[[97],[98]],Volumes:=[0,1],Radar:=9,Procedural:=4 }:Sector)],Configs:=[],Segments:=[],Routes:=[],Airports:=[],Classes:=[],Rules:=[({ Kind:=1,C:=[104,101,97,118,121],A:=[120],Class:=0,Airport:=0,N:=0,Hours:=({ From:=0,To:=300 }:Span) }:Rule)] }:Airspace)).bind fun r11=>
 R.ok (!r11) else R.ok false).bind (fun(b2:Bool)=>.ok b2))))
def L8 (a1:Sector)(l:List Sector):R (List Sector):=
 if(l.length+[({ Name:=a1.Name,Names:=a1.Names,Volumes:=[],Radar:=a1.Radar,Procedural:=a1.Procedural }:Sector)].length) * 80≤Eo then
 .ok (l++[({ Name:=a1.Name,Names:=a1.Names,Volumes:=[],Radar:=a1.Radar,Procedural:=a1.Procedural }:Sector)]) else .bad
def Kb (a2:Config)(l1:List Config):R (List Config):=
 if(l1.length+[({ Name:=a2.Name,Names:=a2.Names,Sectors:=[] }:Config)].length) * 64≤Eo then
 .ok (l1++[({ Name:=a2.Name,Names:=a2.Names,Sectors:=[] }:Config)]) else .bad
def Ij (a3:Segment)(l2:List Segment):R (List Segment):=
 if(l2.length+[({ Name:=a3.Name,In:=a3.In,Volume:=0,Length:=a3.Length,Open:=a3.Open }:Segment)].length) * 72≤Eo then
 .ok (l2++[({ Name:=a3.Name,In:=a3.In,Volume:=0,Length:=a3.Length,Open:=a3.Open }:Segment)]) else .bad
def G2 (a4:Route)(l3:List Route):R (List Route):=
 if(l3.length+[({ Name:=a4.Name,A:=a4.A,B:=a4.B,From:=0,To:=0,Names:=a4.Names,Segments:=[] }:Route)].length) * 112≤Eo then
 .ok (l3++[({ Name:=a4.Name,A:=a4.A,B:=a4.B,From:=0,To:=0,Names:=a4.Names,Segments:=[] }:Route)]) else .bad
def F8 (a5:Rule)(l4:List Rule):R (List Rule):=
 if(l4.length+[({ Kind:=a5.Kind,C:=a5.C,A:=a5.A,Class:=0,Airport:=0,N:=a5.N,Hours:=a5.Hours }:Rule)].length) * 80≤Eo then
 .ok (l4++[({ Kind:=a5.Kind,C:=a5.C,A:=a5.A,Class:=0,Airport:=0,N:=a5.N,Hours:=a5.Hours }:Rule)]) else .bad
def Of (a:Airspace):R Airspace:=
 (Ek (fun _ a1=>fun l=>L8 a1 l) 0 a.Sectors []).bind ((fun l=>(Ek (fun _ a2=>fun l1=>Kb a2 l1) 0 a.Configs []).bind ((fun l1=>(Ek (fun _ a3=>fun l2=>Ij a3 l2) 0 a.Segments []).bind ((fun l2=>(Ek (fun _ a4=>fun l3=>G2 a4 l3) 0 a.Routes []).bind ((fun l3=>(Ek (fun _ a5=>fun l4=>F8 a5 l4) 0 a.Rules []).bind ((fun l4=>.ok ({ Volumes:=a.Volumes,Sectors:=l,Configs:=l1,Segments:=l2,Routes:=l3,Airports:=a.Airports,Classes:=a.Classes,Rules:=l4 }:Airspace)))))))))))
def Jf (r1:(Airspace×Int×Int))(r3:(Ar×Int))(x:Bool):R Bool:=
 if x then
(.ok false)
else
((I1 r3.1).bind fun r6=>
 (if(decide ((r3.1.length:Int) > 65536)) then R.ok true else(if(r6.2.2==0) then(N4 r6.1 r1.1).bind fun r7=>
 R.ok r7 else R.ok false).bind (fun(b1:Bool)=>R.ok b1)).bind (fun(b:Bool)=>.ok b))
def Pk (src:Ar):R Bool:=
 (Tw).bind fun r=>
 if r then
(if(src.length:Int) > 4000 then
(.ok true)
else
((I1 src).bind fun r1=>
 if(r1.2.2 != 0) then
((N4 r1.1 ({ Volumes:=[],Sectors:=[],Configs:=[],Segments:=[],Routes:=[],Airports:=[],Classes:=[],Rules:=[] }:Airspace)).bind fun r2=>
 .ok r2)
else
((Ll r1.1).bind fun r3=>
 if(r1.2.1 != 0) then
(Jf r1 r3 true)
else
(if(r3.2 != 0) then
(Jf r1 r3 true)
else
((Of r1.1).bind fun r4=>
 (N4 r1.1 r4).bind fun r5=>
 Jf r1 r3 (!r5))))))
else
(.ok false)
end
end Go.Am
namespace Go.Am
open Go
set_option linter.unusedVariables false
def Oz:Prop := ∀ (a0:Ar) (_:Ah9.good a0),Ah9.bulk a0≤1048576→Pk a0=.ok true
end Go.Am
namespace Go.Am
open Go
set_option linter.unusedVariables false
set_option linter.unusedSimpArgs false
def Lg (c:UInt8):Bool:=c==32||c==9||c==10||c==13
def Ox (c:UInt8):Bool:=(decide (97≤c)&&decide (c≤122))||(decide (65≤c)&&decide (c≤90))
def Ex (c:UInt8):Bool:=decide (48≤c)&&decide (c≤57)
def Ir (c:UInt8):Bool:=Ox c||Ex c||c==95
def Sr (c:UInt8):Bool:=[(123:UInt8),125,40,41,59,44,61,35,47,60,33,45,46].contains c
def Ix (c:UInt8):Int:=if Ox c then 2 else if Ex c then 3 else if c==95 then 5 else if Lg c then 1 else if Sr c then 4 else 0
theorem Rr {p:UInt8→Prop}(h : ∀ n:Fin 256,p (UInt8.ofNat n.val))(c:UInt8):p c:=by
 have h1:=h ⟨c.toNat,c.toNat_lt⟩
 have e:UInt8.ofNat c.toNat=c:=by simp
 simpa [e] using h1
theorem Abw (c:UInt8):Lv (c.toNat:Int)=.ok (Ix c):=Rr (p:=fun c=>Lv (c.toNat:Int)=.ok (Ix c)) (by decide +kernel) c
theorem Api (c:UInt8):(Ix c==1)=Lg c:=Rr (p:=fun c=>(Ix c==1)=Lg c) (by decide +kernel) c
theorem Alk (c:UInt8):(Ix c==2)=Ox c:=Rr (p:=fun c=>(Ix c==2)=Ox c) (by decide +kernel) c
theorem Ant (c:UInt8):(Ix c==3)=Ex c:=Rr (p:=fun c=>(Ix c==3)=Ex c) (by decide +kernel) c
theorem Anv (c:UInt8):(Ix c==4)=Sr c:=Rr (p:=fun c=>(Ix c==4)=Sr c) (by decide +kernel) c
theorem Asx (c:UInt8):(Ix c==2||Ix c==3||Ix c==5)=Ir c:=Rr (p:=fun c=>(Ix c==2||Ix c==3||Ix c==5)=Ir c) (by decide +kernel) c
theorem Avw (c:UInt8):Ix c=0∨Ix c=1∨Ix c=2∨Ix c=3∨Ix c=4∨Ix c=5:=Rr (p:=fun c=>Ix c=0∨Ix c=1∨Ix c=2∨Ix c=3∨Ix c=4∨Ix c=5) (by decide +kernel) c
theorem Ahm {c:UInt8}(h:Ox c=true):Ir c=true:=by simp [Ir,h]
theorem Aua {c:UInt8}(h:Ox c=true):Lg c=false:=by
 revert h; exact Rr (p:=fun c=>Ox c=true→Lg c=false) (by decide +kernel) c
theorem Atn {c:UInt8}(h:Ex c=true):Lg c=false∧Ox c=false:=by
 revert h; exact Rr (p:=fun c=>Ex c=true→Lg c=false∧Ox c=false) (by decide +kernel) c
theorem Aqv {c:UInt8}(h:Sr c=true):Lg c=false∧Ox c=false∧Ex c=false:=by
 revert h; exact Rr (p:=fun c=>Sr c=true→Lg c=false∧Ox c=false∧Ex c=false) (by decide +kernel) c
theorem Aiy {c:UInt8}(h:Lg c=true):Ir c=false∧Ex c=false∧c≠47:=by
 revert h; exact Rr (p:=fun c=>Lg c=true→Ir c=false∧Ex c=false∧c≠47) (by decide +kernel) c
theorem Akk {src:Ar}{q:UInt8→Bool}{body:Int→R (Int ⊕ Int)}(hb : ∀ n:Nat,n≤src.length→body (n:Int)=match src[n]? with | some c=>if q c then .ok (.inl ((n+1:Nat):Int)) else .ok (.inr (n:Int)) | none=>.ok (.inr (n:Int))) :
  ∀ (k p:Nat),p≤src.length→src.length - p=k→loop body (p:Int)=.ok (((p+((src.drop p).takeWhile q).length:Nat)):Int)
 | k,p,hp,hk=>by
  rw [Uy,hb p hp]
  by_cases hl:p<src.length
  ·have e:src.drop p=src[p]::src.drop (p+1):=List.drop_eq_getElem_cons hl
   rw [List.getElem?_eq_getElem hl,e,List.takeWhile_cons]
   simp only
   cases hq:q src[p]
   ·simp
   ·simp only [if_true,R.ok_bind]
    cases k with
    | zero=>omega
    | succ k=>
     rw [Akk hb k (p+1) hl (by omega)]
     simp only [List.length_cons]
     congr 2
     omega
  ·have e:src[p]? = none:=List.getElem?_eq_none (by omega)
   have e2:src.drop p=[]:=List.drop_eq_nil_of_le (by omega)
   rw [e,e2]; simp
theorem Acn {α:Type}(q:α→Bool) : ∀ l:List α,l.take (l.takeWhile q).length=l.takeWhile q
 | []=>rfl
 | a::l=>by
  rw [List.takeWhile_cons]
  cases q a
  ·rfl
  ·simp [Acn q l]
theorem Tt {α:Type}(q:α→Bool) : ∀ l:List α,(l.takeWhile q).length≤l.length
 | []=>Nat.le_refl _
 | a::l=>by
  rw [List.takeWhile_cons]
  cases q a
  ·simp
  ·simpa using Tt q l
theorem At6 {src:Ar}{p:Nat}(q:UInt8→Bool):cut src (p:Int) ((p+((src.drop p).takeWhile q).length:Nat):Int)=(src.drop p).takeWhile q:=by
 unfold cut
 simp only [Int.toNat_natCast]
 rw [show p+((src.drop p).takeWhile q).length - p=((src.drop p).takeWhile q).length by omega,Acn]
theorem Akg {src:Ar}{n:Nat}{c:UInt8}(h:src[n]? = some c):E0 src (n:Int)=.ok c:=Aci h
theorem Afs (v:Int) : ∀ (l:List Int) (k:Nat),∃ j:Nat,each (fun j a=>fun _=>G3 v j a) k l ()=.ok (if l.contains v then .inr (j:Int) else .inl ())
 | [],k=>⟨0,rfl⟩
 | a::l,k=>by
  rw [Vk]
  by_cases h:v=a
  ·subst h; exact⟨k,by simp [G3]⟩
  ·have h1:(v==a)=false:=by simpa using h
   obtain⟨j,hj⟩:=Afs v l (k+1)
   refine⟨j,?_⟩
   rw [show G3 v k a=.ok (.inl ()) by unfold G3; rw [h1]; rfl,R.ok_bind,List.contains_cons,h1]
   exact hj
theorem Ahg (l:List Int)(v:Int):Ma l v=.ok (l.contains v):=by
 unfold Ma P7
 obtain⟨j,hj⟩:=Afs v l 0
 rw [hj]
 cases h:l.contains v
 ·simp only [Bool.false_eq_true,if_false,R.ok_bind]; rfl
 ·simp only [if_true,R.ok_bind]
  simp
theorem Aub (src:Ar)(p:Nat)(l:List Token)(some:List Int)(hp:p≤src.length)(hs:src.length≤65536) :
  J4 ({ fSrc:=src,fAt:=p,fL:=l }:T119) some=.ok ((src.drop p).takeWhile fun c=>some.contains (Ix c)):=by
 unfold J4
 rw [Akk (src:=src) (q:=fun c=>some.contains (Ix c)) (k:=src.length - p) (p:=p) (fun n hn=>?_) hp rfl]
 ·simp only [R.ok_bind]
  unfold M5
  have hle:=Tt (fun c=>some.contains (Ix c)) (src.drop p)
  rw [List.length_drop] at hle
  dsimp only
  rw [if_pos ⟨by omega,by omega,by omega⟩]
  simp only [At6]
 ·unfold Mt
  by_cases hl:n<src.length
  ·have hi:(n:Int)<src.length:=by omega
   rw [List.getElem?_eq_getElem hl]
   simp only [hi,decide_true,if_true]
   rw [Akg (List.getElem?_eq_getElem hl)]
   simp only [R.ok_bind,Abw,Ahg]
   cases some.contains (Ix src[n])
   ·rfl
   ·simp only [if_true]
    rw [Xx (by omega) (by omega)]
    rfl
  ·have hi:¬ ((n:Int)<src.length):=by omega
   rw [List.getElem?_eq_none (by omega)]
   simp only [hi,decide_false,Bool.false_eq_true,if_false,R.ok_bind]
def Dd (s:Ar):Bool:=match s with | []=>false | c::w=>Ox c&&w.all Ir&&decide (w.length+1≤32)
theorem Age {α:Type}{b:Nat→α→Unit→R (Unit ⊕ Bool)}{p:α→Bool}(hb : ∀ j a,b j a ()=if p a then .ok (.inl ()) else .ok (.inr false)) : ∀ (l:List α) (k:Nat),each b k l ()=.ok (if l.all p then .inl () else .inr false)
 | [],k=>rfl
 | a::l,k=>by
  rw [Vk,hb]
  cases h:p a
  ·simp [h]
  ·simp [h,Age hb l (k+1)]
theorem An0 (c:UInt8):(((Ix c != 2)&&(Ix c != 3))&&(Ix c != 5)) = !Ir c:=by
 rw [← Asx]; simp [bne,Bool.not_or]
theorem Aj5 (s:Ar):Uz s=.ok (Dd s):=by
 unfold Uz Dd
 cases s with
 | nil=>rfl
 | cons c w=>
  simp only [show((c::w:Ar)==[])=false from rfl,Bool.false_or]
  by_cases h:w.length+1≤32
  ·have h1:¬ (((c::w).length:Int) > 32):=by simp only [List.length_cons]; omega
   have h2:(c::w).length≤Eo:=by simp only [List.length_cons,Eo]; omega
   simp only [h1,decide_false,Bool.false_eq_true,if_false,Ap5,R.ok_bind,Abw,h2,if_true,h,decide_true,Bool.and_true]
   cases hc:Ox c
   ·rw [show(Ix c != 2)=true by rw [bne,Alk,hc]; rfl]; simp
   ·rw [show(Ix c != 2)=false by rw [bne,Alk,hc]; rfl]
    simp only [Bool.false_eq_true,if_false,Bool.true_and]
    rw [Age (p:=Ir) (fun j a=>by unfold Qz; simp only [Abw,R.ok_bind,An0]; cases Ir a <;> rfl)]
    simp only [R.ok_bind,List.all_cons,Ahm hc,Bool.true_and]
    cases w.all Ir <;> rfl
  ·have h1:((c::w).length:Int) > 32:=by simp only [List.length_cons]; omega
   simp only [h1,decide_true,if_true,R.ok_bind,h,decide_false,Bool.and_false]
end Go.Am
namespace Go.Am
open Go
set_option linter.unusedVariables false
set_option linter.unusedSimpArgs false
def T4 (a:Nat)(s:Ar):Nat:=s.foldl (fun a c=>a * 10+(c.toNat - 48)) a
theorem Aa0 (a:Nat):T4 a []=a:=rfl
theorem N9 (a:Nat)(c:UInt8)(s:Ar):T4 a (c::s)=T4 (a * 10+(c.toNat - 48)) s:=by unfold T4; rw [List.foldl_cons]
theorem Adj : ∀ (s t:Ar) (a:Nat),T4 a (s++t)=T4 (T4 a s) t
 | [],t,a=>rfl
 | c::s,t,a=>by rw [List.cons_append,N9,N9,Adj s t]
theorem Ae9 : ∀ (s:Ar) (a:Nat),a≤T4 a s
 | [],a=>Nat.le_refl _
 | c::s,a=>by
  have:=Ae9 s (a * 10+(c.toNat - 48))
  rw [N9]; omega
def val (s:Ar):Nat:=T4 0 s
def W6 (s:Ar):Bool:=decide (s.length=1)||decide (s.head? ≠ some 48)
def Tg (s:Ar):Bool:=W6 s&&decide (val s≤1099511627776)
theorem Ut {c:UInt8}:Ex c=true↔48≤c.toNat∧c.toNat≤57:=by
 unfold Ex
 simp only [Bool.and_eq_true,decide_eq_true_eq,UInt8.le_iff_toNat_le]
 rfl
theorem Amz (n:Nat)(h:n<10):Ex (UInt8.ofNat (48+n))=true∧(UInt8.ofNat (48+n)).toNat=48+n:=by
 have e:(UInt8.ofNat (48+n)).toNat=48+n:=by rw [UInt8.toNat_ofNat']; omega
 exact⟨Ut.2 (by omega),e⟩
theorem Ag9 {c:UInt8}(h:Ex c=true):UInt8.ofNat (48+(c.toNat - 48))=c:=by
 have:=Ut.1 h
 rw [show 48+(c.toNat - 48)=c.toNat by omega]; simp
theorem Aj1 (u:Nat):(Lib.decDigits u).all Ex=true∧val (Lib.decDigits u)=u∧Lib.decDigits u≠[]∧W6 (Lib.decDigits u)=true∧(1≤u→(Lib.decDigits u).head? ≠ some 48):=by
 induction u using Nat.strongRecOn with
 | _ u ih=>
  by_cases h:u<10
  ·rw [Lib.decDigits_one h]
   obtain⟨h1,h2⟩:=Amz u h
   refine⟨by rw [List.all_cons,h1]; rfl,by unfold val; rw [N9,Aa0,h2]; omega,by simp,by simp [W6],fun hu e=>?_⟩
   simp only [List.head?_cons,Option.some.injEq] at e
   rw [e] at h2
   have:(48:UInt8).toNat=48:=rfl
   omega
  ·rw [Lib.decDigits,dif_neg h]
   obtain⟨a1,a2,a3,a4,a5⟩:=ih (u / 10) (by omega)
   obtain⟨h1,h2⟩:=Amz (u % 10) (by omega)
   have hd:(Lib.decDigits (u / 10)++[UInt8.ofNat (48+u % 10)]).head? = (Lib.decDigits (u / 10)).head? := by
    cases hq:Lib.decDigits (u / 10) with
    | nil=>exact absurd hq a3
    | cons c w=>rfl
   refine⟨by rw [List.all_append,a1,List.all_cons,h1]; rfl,?_,by simp,?_,fun hu=>by rw [hd]; exact a5 (by omega)⟩
   ·unfold val at a2 ⊢
    rw [Adj,a2,N9,Aa0,h2]; omega
   ·have:=a5 (by omega)
    unfold W6
    rw [hd]
    simp [this]
theorem Amk : ∀ (s:Ar),s≠[]→s.all Ex=true→W6 s=true→Lib.decDigits (val s)=s:=by
 suffices H : ∀ (n:Nat) (s:Ar),s.length=n→s≠[]→s.all Ex=true→W6 s=true→Lib.decDigits (val s)=s from fun s=>H _ s rfl
 intro n
 induction n with
 | zero=>intro s h1 h2; exact absurd (List.length_eq_zero_iff.1 h1) h2
 | succ n ih=>
  intro s h1 h2 h3 h4
  obtain⟨w,c,rfl⟩ : ∃ w c,s=w++[c]:=⟨s.dropLast,s.getLast h2,(List.dropLast_concat_getLast h2).symm⟩
  rw [List.all_append,Bool.and_eq_true] at h3
  obtain⟨h3,h5⟩:=h3
  have h5:Ex c=true:=by simpa using h5
  have hc:=Ut.1 h5
  have hv:val (w++[c])=val w * 10+(c.toNat - 48):=by unfold val; rw [Adj,N9,Aa0]
  by_cases hw:w=[]
  ·subst hw
   have h0:val []=0:=rfl
   rw [hv,h0,Lib.decDigits_one (by omega)]
   simp only [Nat.zero_mul,Nat.zero_add,List.nil_append]
   rw [Ag9 h5]
  ·obtain⟨d,w',rfl⟩ : ∃ d w',w=d::w':=by cases w with | nil=>exact absurd rfl hw | cons d w'=>exact⟨d,w',rfl⟩
   have hp:d≠48:=by
    intro e; subst e
    simp [W6] at h4
   have hd:Ex d=true:=by simp at h3; exact h3.1
   have hd':=Ut.1 hd
   have h1v:1≤val (d::w'):=by
    have:=Ae9 w' (0 * 10+(d.toNat - 48))
    have h6:d.toNat≠48:=fun e=>hp (UInt8.toNat_inj.1 (by rw [e]; rfl))
    unfold val
    rw [N9]
    omega
   have e0:T4 0 (d::w')=val (d::w'):=rfl
   rw [hv,Lib.decDigits,dif_neg (by omega)]
   have e1:(val (d::w') * 10+(c.toNat - 48)) / 10=val (d::w'):=by omega
   have e2:(val (d::w') * 10+(c.toNat - 48)) % 10=c.toNat - 48:=by omega
   rw [e1,e2,Ag9 h5,ih (d::w') (by simpa using h1) hw h3 (by simp [W6,hp])]
theorem Ahx : ∀ (s:Ar) (a:Nat),s.all Ex=true→T4 a s<18446744073709551616→Lib.parseUint10 a s=.ok (T4 a s)
 | [],a,_,_=>rfl
 | c::s,a,h,hv=>by
  have h:Ex c=true∧s.all Ex=true:=by simpa using h
  have hc:=Ut.1 h.1
  have hv':T4 (a * 10+(c.toNat - 48)) s<18446744073709551616:=by rw [← N9]; exact hv
  have:=Ae9 s (a * 10+(c.toNat - 48))
  rw [Lib.parseUint10,if_pos hc,if_neg (by omega),if_neg (by omega),Ahx s _ h.2 hv',N9]
theorem Agg : ∀ (s:Ar) (a:Nat),a<18446744073709551616→s.all Ex=true→18446744073709551616≤T4 a s→Lib.parseUint10 a s=.range
 | [],a,ha,_,hv=>by exfalso; rw [Aa0] at hv; omega
 | c::s,a,ha,h,hv=>by
  have h:Ex c=true∧s.all Ex=true:=by simpa using h
  have hc:=Ut.1 h.1
  rw [Lib.parseUint10,if_pos hc]
  split
  ·rfl
  ·split
   ·rfl
   ·exact Agg s _ (by omega) h.2 (by rw [← N9]; exact hv)
theorem Apl {s:Ar}(hs:s≠[])(h:s.all Ex=true):Lib.atoiAll s=if 9223372036854775808≤val s then .range else .ok (val s:Int):=by
 cases s with
 | nil=>exact absurd rfl hs
 | cons c s=>
  have hc:Ex c=true:=by simp at h; exact h.1
  have hc:=Ut.1 hc
  rw [Lib.atoiAll_plain c s (by omega) (by omega),Lib.parseMag,if_neg (by simp)]
  by_cases hv:val (c::s)<18446744073709551616
  ·rw [Ahx _ _ h hv]; rfl
  ·rw [Agg _ _ (by omega) h (Nat.le_of_not_lt hv),if_pos (by omega)]; rfl
end Go.Am
namespace Go.Am
open Go
set_option linter.unusedVariables false
set_option linter.unusedSimpArgs false
def tk (c:UInt8)(s:Ar):Option (Option Token×Nat):=
 if Lg c then some (none,0)
 else if Ox c then
  if(s.takeWhile Ir).length+1≤32 then some (some ⟨1,c::s.takeWhile Ir,0,0⟩,(s.takeWhile Ir).length) else none
 else if Ex c then
  if Tg (c::s.takeWhile Ex) then some (some ⟨2,[],val (c::s.takeWhile Ex),0⟩,(s.takeWhile Ex).length) else none
 else if Sr c then
  if c=47∧s.head? = some 47 then some (none,(s.takeWhile (· != 10)).length)
  else some (some ⟨3,[c],0,0⟩,0)
 else none
def at' (p:Nat)(t:Token):Token:={ t with At:=p }
inductive Lx where
 | ok (l:List Token)
 | wrong (e:Nat)
 deriving DecidableEq
def Lx.add (o:Option Token)(p:Nat):Lx→Lx
 | .ok l=>.ok ((o.map (at' p)).toList++l)
 | .wrong e=>.wrong e
def Adl:Nat→Ar→Nat→Lx
 | _,[],_=>.ok []
 | 0,_::_,_=>.ok []
 | n+1,c::s,p=>match tk c s with
  | none=>.wrong p
  | some (o,k)=>(Adl n (s.drop k) (p+1+k)).add o p
def Mi (s:Ar)(p:Nat):Lx:=Adl s.length s p
theorem Aii : ∀ (n m:Nat) (s:Ar) (p:Nat),s.length≤n→s.length≤m→Adl n s p=Adl m s p
 | 0,0,s,p,_,_=>rfl
 | 0,m+1,s,p,h,_=>by
  have:s=[]:=List.length_eq_zero_iff.1 (by omega)
  subst this; rfl
 | n+1,0,s,p,_,h=>by
  have:s=[]:=List.length_eq_zero_iff.1 (by omega)
  subst this; rfl
 | n+1,m+1,[],p,_,_=>rfl
 | n+1,m+1,c::s,p,h1,h2=>by
  simp only [List.length_cons] at h1 h2
  rw [Adl,Adl]
  cases tk c s with
  | none=>rfl
  | some x=>
   obtain⟨o,k⟩:=x
   simp only
   rw [Aii n m (s.drop k) _ (by rw [List.length_drop]; omega) (by rw [List.length_drop]; omega)]
theorem Ac9 (p:Nat):Mi [] p=.ok []:=rfl
theorem Vf (c:UInt8)(s:Ar)(p:Nat):Mi (c::s) p=match tk c s with
  | none=>.wrong p
  | some (o,k)=>(Mi (s.drop k) (p+1+k)).add o p:=by
 unfold Mi
 rw [List.length_cons,Adl]
 cases tk c s with
 | none=>rfl
 | some x=>
  obtain⟨o,k⟩:=x
  simp only
  rw [Aii s.length (s.drop k).length (s.drop k) _ (by rw [List.length_drop]; omega) (Nat.le_refl _)]
@[simp] theorem Lx.add_none (p:Nat)(x:Lx):x.add none p=x:=by cases x <;> rfl
theorem Ave {c:UInt8}(s:Ar)(h:Lg c=true):tk c s=some (none,0):=by unfold tk; rw [if_pos h]
theorem Ap3 {c:UInt8}{s:Ar}{o:Option Token}{k:Nat}(ht:tk c s=some (o,k)):k≤s.length:=by
 have h1:=Tt Ir s
 have h2:=Tt Ex s
 have h3:=Tt (· != 10) s
 unfold tk at ht
 repeat' split at ht
 all_goals first | (cases ht; done) | (cases ht; assumption) | (cases ht; exact Nat.zero_le _)
theorem Ac8 : ∀ (w s:Ar) (p:Nat),w.all Lg=true→Mi (w++s) p=Mi s (p+w.length)
 | [],s,p,_=>rfl
 | c::w,s,p,h=>by
  have h:Lg c=true∧w.all Lg=true:=by simpa using h
  rw [List.cons_append,Vf,Ave _ h.1]
  simp only [List.drop_zero,Lx.add_none]
  rw [Ac8 w s _ h.2,List.length_cons]
  congr 1; omega
def out:Lx→List Token×Int×Int
 | .ok l=>(l,0,0)
 | .wrong e=>([],(e:Int),70)
def Hi (s:Ar):List Token×Int×Int:=if s.length≤65536 then out (Mi s 0) else([],0,2)
theorem Zj {α:Type}(q:α→Bool) : ∀ l:List α,(l.takeWhile q).all q=true
 | []=>rfl
 | a::l=>by
  rw [List.takeWhile_cons]
  cases h:q a
  ·rfl
  ·rw [if_pos rfl,List.all_cons,h,Zj q l]; rfl
theorem Ake {α:Type}(q:α→Bool)(l:List α):l.drop (l.takeWhile q).length=l.dropWhile q:=by
 induction l with
 | nil=>rfl
 | cons a l ih=>
  rw [List.takeWhile_cons,List.dropWhile_cons]
  cases q a
  ·rfl
  ·simpa using ih
theorem Ark {src:Ar}{p:Nat}{c:UInt8}{s:Ar}(h:src.drop p=c::s):cut src (p:Int) ((p+1:Nat):Int)=[c]:=by
 unfold cut
 simp only [Int.toNat_natCast]
 rw [h,show p+1 - p=1 by omega]; rfl
theorem Aft {src:Ar}{p:Nat}{c:UInt8}{s:Ar}(h:src.drop p=c::s)(k:Nat):s.drop k=src.drop (p+1+k):=by
 have:src.drop (p+1)=s:=by rw [← List.drop_drop,h]; rfl
 rw [← this,List.drop_drop]
theorem Aqh {src:Ar}{p:Nat}{c:UInt8}{s:Ar}(h:src.drop p=c::s):src[p]? = some c:=by
 have:=List.getElem?_drop (xs:=src) (i:=p) (j:=0)
 rw [h] at this
 simpa using this.symm
theorem Ah2 {src:Ar}{p:Nat}{c:UInt8}{s:Ar}(h:src.drop p=c::s):p+1+s.length=src.length:=by
 have:=congrArg List.length h
 rw [List.length_drop,List.length_cons] at this
 omega
theorem Ah4 {c:UInt8}{w:Ar}(hc:Ox c=true)(hw:w.all Ir=true):Dd (c::w)=decide (w.length+1≤32):=by
 simp [Dd,hc,hw]
end Go.Am
namespace Go.Am
open Go
set_option linter.unusedVariables false
set_option linter.unusedSimpArgs false
theorem Ahj (c:UInt8) : ∀ (l:Ar),Lib.indexByte l c=if(l.takeWhile (· != c)).length=l.length then -1 else((l.takeWhile (· != c)).length:Int)
 | []=>rfl
 | a::l=>by
  have ih:=Ahj c l
  have hle:=Tt (· != c) l
  rw [Lib.indexByte,List.takeWhile_cons]
  by_cases h:a=c
  ·subst h; simp
  ·have h1:(a != c)=true:=bne_iff_ne.2 h
   have h2:(a==c)=false:=by simpa using h
   rw [ih,h1]
   simp only [h2,Bool.false_eq_true,if_false,if_true,List.length_cons,Nat.add_right_cancel_iff]
   by_cases hq:(l.takeWhile (· != c)).length=l.length
   ·simp [hq]
   ·simp only [hq,if_false]
    have:¬ (((l.takeWhile (· != c)).length:Int)<0):=by omega
    simp [this]
    try omega
theorem Aff {α:Type}[BEq α][LawfulBEq α][DecidableEq α](a b:α):(a==b)=decide (a=b):=by
 by_cases h:a=b <;> simp [h]
def Uw:Ar→Bool
 | [c]=>Sr c
 | _=>false
def Cw (t:Token):Bool:=if t.Kind==1 then Dd t.Text&&(t.N==0) else if t.Kind==2 then(t.Text==[])&&decide (t.N≥0)&&decide (t.N≤1099511627776) else if t.Kind==3 then Uw t.Text&&(t.N==0) else false
theorem Avn (s:Ar):((s.length:Int)==1)=(s.length==1):=by
 rw [Aff,Aff,decide_eq_decide]; omega
theorem Avh (s:Ar){f:Int→R Bool}(hf : ∀ c:UInt8,f (c.toNat:Int)=.ok (Sr c)):(if((s.length:Int)==1) then(E0 s 0).bind fun a=>f (a.toNat:Int) else R.ok false)=.ok (Uw s):=by
 rw [Avn]
 match s with
 | []=>rfl
 | [c]=>simp only [List.length_singleton,beq_self_eq_true,if_true,Ap5,R.ok_bind,hf]; rfl
 | c::d::w=>simp [Uw]
theorem Aix (t:Token):Tb t=.ok (Cw t):=by
 unfold Tb Cw
 rw [show(fun a:UInt8=>(Lv (a.toNat:Int)).bind fun r1=>R.ok (r1==4))=fun a:UInt8=>(fun n:Int=>(Lv n).bind fun r1=>R.ok (r1==4)) (a.toNat:Int) from rfl,
  Avh (f:=fun n:Int=>(Lv n).bind fun r1=>R.ok (r1==4)) t.Text (fun c=>by simp only [Abw,R.ok_bind,Anv])]
 simp only [Aj5,R.ok_bind]
 split
 ·rfl
 ·split
  ·rfl
  ·split <;> rfl
theorem Agw (text:Ar)(t:Token)(src:Ar)(p:Nat)(l:List Token)(hl:(l.length+1) * 40≤Eo) :
  G7 text t src p l=if Cw t then .ok (l++[at' p t]) else .pan ⟨113,.int .i64 p⟩:=by
 unfold G7
 rw [Aix,R.ok_bind]
 simp only [List.length_singleton]
 rw [if_pos hl]
 rfl
theorem Aih (n:Nat):Lib.itoa (n:Int)=Lib.decDigits n:=Lib.itoa_nonneg n
theorem Apm {α:Type}{p q:α→Bool}(h : ∀ a,p a=q a)(l:List α):l.takeWhile p=l.takeWhile q:=by rw [show p=q from funext h]
theorem Ae1 {some:List Int}{q:UInt8→Bool}(h : ∀ c,some.contains (Ix c)=q c){src:Ar}{p:Nat}{l:List Token}(hp:p≤src.length)(hs:src.length≤65536) :
  J4 ({ fSrc:=src,fAt:=p,fL:=l }:T119) some=.ok ((src.drop p).takeWhile q):=by rw [Aub src p l some hp hs,Apm h]
def Ae2 (p:Nat)(pre:List Token)(c:UInt8)(s:Ar):R ((Int×(List Token)) ⊕ (Int×(List Token))):=
 if Lg c then .ok (.inl (((p+1+(s.takeWhile Lg).length:Nat):Int),pre))
 else match tk c s with
  | none=>.pan ⟨113,.int .i64 p⟩
  | some (o,k)=>.ok (.inl (((p+1+k:Nat):Int),pre++(o.map (at' p)).toList))
theorem Adz {c:UInt8}{v:Int}(h:(Ix c==v)=true):Ix c=v:=eq_of_beq h
theorem Ank (s:Ar):Nx s [47,47]=.ok (decide (s.take 2=[47,47])):=by
 unfold Nx It
 by_cases h:2≤s.length
 ·have h1:(s.length:Int)≥(([47,47]:Ar).length:Int):=by simp; omega
  simp only [h1,decide_true,if_true]
  rw [if_pos ⟨by simp,trivial⟩]
  simp only [R.ok_bind]
  rw [Aff]
  rfl
 ·have h1:¬ ((s.length:Int)≥(([47,47]:Ar).length:Int)):=by simp; omega
  simp only [h1,decide_false,Bool.false_eq_true,if_false,R.ok_bind]
  rw [decide_eq_false]
  intro e
  have:=congrArg List.length e
  simp at this
  omega
theorem Amr (src:Ar)(hs:src.length≤65536)(p:Nat)(pre:List Token)(c:UInt8)(s:Ar)(h:src.drop p=c::s)(hl:pre.length≤p) :
  N7 src (p:Int) pre=Ae2 p pre c s:=by
 have hlen:=Ah2 h
 have hat:=Aqh h
 have hlim:(pre.length+1) * 40≤Eo:=by simp only [Eo]; omega
 unfold N7 Ae2
 rw [if_pos (by omega),Akg hat]
 simp only [R.ok_bind,Abw]
 have wr : ∀ k:Nat,k≤s.length→IntKind.wrap .i64 ((p:Int)+((k+1:Nat):Int))=((p+1+k:Nat):Int):=by
  intro k hk; rw [Xx (by omega) (by omega)]; omega
 cases hsp:Lg c
 ·simp only [Bool.false_eq_true,if_false]
  unfold tk
  simp only [hsp,Bool.false_eq_true,if_false]
  cases hle:Ox c
  ·simp only [Bool.false_eq_true,if_false]
   cases hfi:Ex c
   ·simp only [Bool.false_eq_true,if_false]
    cases hsi:Sr c
    ·have h1:Ix c≠1:=fun e=>by rw [← Api,e] at hsp; cases hsp
     have h2:Ix c≠2:=fun e=>by rw [← Alk,e] at hle; cases hle
     have h3:Ix c≠3:=fun e=>by rw [← Ant,e] at hfi; cases hfi
     have h4:Ix c≠4:=fun e=>by rw [← Anv,e] at hsi; cases hsi
     rcases Avw c with e | e | e | e | e | e
     ·rw [e]; rfl
     ·exact absurd e h1
     ·exact absurd e h2
     ·exact absurd e h3
     ·exact absurd e h4
     ·rw [e]; rfl
    ·have hc:Ix c=4:=Adz (by rw [Anv,hsi])
     rw [hc]
     simp only [show ¬ ((4:Int)=0) by decide,show ¬ ((4:Int)=1) by decide,show ¬ ((4:Int)=2) by decide,show ¬ ((4:Int)=3) by decide,if_false,if_true]
     unfold Mz
     rw [if_pos ⟨by omega,by omega⟩]
     simp only [Int.toNat_natCast]
     rw [Ank,R.ok_bind,h]
     have e2:(decide ((c::s).take 2=[47,47]))=decide (c=47∧s.head? = some 47):=by
      cases s with
      | nil=>simp
      | cons d w=>simp
     rw [e2]
     by_cases hcom:c=47∧s.head? = some 47
     ·simp only [hcom,and_self,decide_true,if_true]
      obtain⟨rfl,hhd⟩:=hcom
      rw [if_pos ⟨by omega,by omega⟩]
      unfold strings_IndexByte
      rw [show((10:Int).toNat.toUInt8)=10 from rfl,Ahj,List.takeWhile_cons,show((47:UInt8) != 10)=true by decide,if_pos rfl]
      have hle:=Tt (· != 10) s
      simp only [List.length_cons,Nat.add_right_cancel_iff,R.ok_bind]
      by_cases hall:(s.takeWhile (· != 10)).length=s.length
      ·rw [if_pos hall,if_neg (by omega)]
       simp only [R.ok_bind,hall]
       rw [hlen]; simp
      ·rw [if_neg hall,if_pos (by omega),wr _ hle]
       simp
     ·simp only [hcom,decide_false,Bool.false_eq_true,if_false]
      have hw1:IntKind.wrap .i64 ((p:Int)+1)=((p+1:Nat):Int):=by rw [Xx (by omega) (by omega)]; rfl
      rw [hw1,Ark h,if_pos ⟨by omega,by omega,by omega⟩,Agw _ _ _ _ _ hlim]
      have hv:Cw ({ Kind:=3,Text:=[c],N:=0,At:=0 }:Token)=true:=by
       show Uw [c]&&true=true
       simp [Uw,hsi]
      rw [hv]
      simp only [if_true,R.ok_bind]
      have:=wr 0 (Nat.zero_le _)
      simp only [List.length_singleton]
      rw [show((1:Nat):Int)=((0+1:Nat):Int) from rfl,this]
      rfl
   ·have hc:Ix c=3:=Adz (by rw [Ant,hfi])
    rw [hc]
    simp only [show ¬ ((3:Int)=0) by decide,show ¬ ((3:Int)=1) by decide,show ¬ ((3:Int)=2) by decide,if_false,if_true]
    unfold Lc
    rw [Ae1 (q:=Ex) (fun c=>by rw [← Ant]; simp only [List.contains_cons,List.contains_nil,Bool.or_false]) (by omega) hs,h,List.takeWhile_cons,hfi,if_pos rfl]
    have hall:(c::s.takeWhile Ex).all Ex=true:=by rw [List.all_cons,hfi,Zj]; rfl
    have hle:=Tt Ex s
    simp only [R.ok_bind]
    unfold Pp
    rw [if_pos (by simp only [List.length_cons]; omega),Apl (by simp) hall]
    generalize hg:c::s.takeWhile Ex=g
    have hg1:g≠[]:=by rw [← hg]; simp
    rw [hg] at hall
    have hgl:g.length=(s.takeWhile Ex).length+1:=by rw [← hg]; rfl
    by_cases hbig:9223372036854775808≤val g
    ·rw [if_pos hbig]
     have:Tg g=false:=by unfold Tg; rw [decide_eq_false (by omega:¬ val g≤1099511627776),Bool.and_false]
     rw [this]
     rfl
    ·rw [if_neg hbig]
     simp only [R.ok_bind,Bool.false_eq_true,if_false]
     unfold strconv_Itoa
     rw [if_pos ⟨by omega,by omega⟩,Aih]
     simp only [R.ok_bind]
     have hdd:=Aj1 (val g)
     by_cases hpl:W6 g=true
     ·rw [Amk g hg1 hall hpl]
      simp only [beq_self_eq_true,Bool.not_true,Bool.false_eq_true,if_false]
      rw [Agw _ _ _ _ _ hlim]
      have hv:Cw ({ Kind:=2,Text:=[],N:=(val g:Int),At:=0 }:Token)=Tg g:=by
       unfold Tg; rw [hpl]
       simp only [Cw]
       rw [if_neg (by decide),if_pos (by decide),decide_eq_true (by omega:(val g:Int)≥0),Bool.true_and]
       show(true&&decide ((val g:Int)≤1099511627776))=_
       rw [Bool.true_and,decide_eq_decide]
       omega
      rw [hv]
      cases Tg g
      ·rfl
      ·simp only [if_true,R.ok_bind]
       rw [hgl,wr _ hle]
       rfl
     ·have hne:(Lib.decDigits (val g)==g)=false:=by
       rw [beq_eq_false_iff_ne]; intro e; rw [e] at hdd; exact hpl hdd.2.2.2.1
      rw [hne]
      have:Tg g=false:=by unfold Tg; rw [Bool.eq_false_iff.2 hpl,Bool.false_and]
      rw [this]
      rfl
  ·have hc:Ix c=2:=Adz (by rw [Alk,hle])
   rw [hc]
   simp only [show ¬ ((2:Int)=0) by decide,show ¬ ((2:Int)=1) by decide,if_false,if_true]
   unfold M7
   rw [Ae1 (q:=Ir) (fun c=>by rw [← Asx]; simp only [List.contains_cons,List.contains_nil,Bool.or_false,Bool.or_assoc]) (by omega) hs,h,List.takeWhile_cons,Ahm hle,if_pos rfl]
   simp only [R.ok_bind]
   rw [Agw _ _ _ _ _ hlim]
   have hv:Cw ({ Kind:=1,Text:=c::s.takeWhile Ir,N:=0,At:=0 }:Token)=decide ((s.takeWhile Ir).length+1≤32):=by
    show(Dd (c::s.takeWhile Ir)&&true)=_
    rw [Bool.and_true]
    exact Ah4 hle (Zj _ _)
   rw [hv]
   have hle':=Tt Ir s
   by_cases hn:(s.takeWhile Ir).length+1≤32
   ·simp only [hn,decide_true,if_true,R.ok_bind,List.length_cons]
    rw [wr _ hle']
    rfl
   ·simp only [hn,decide_false,Bool.false_eq_true,if_false,R.pan_bind]
 ·have hc:Ix c=1:=Adz (by rw [Api,hsp])
  rw [hc]
  simp only [show ¬ ((1:Int)=0) by decide,if_false,if_true]
  unfold L7
  rw [Ae1 (q:=Lg) (fun c=>by rw [← Api]; simp only [List.contains_cons,List.contains_nil,Bool.or_false]) (by omega) hs,h,List.takeWhile_cons,hsp,if_pos rfl]
  simp only [R.ok_bind,List.length_cons]
  rw [wr _ (Tt Lg s)]
def Aei (n:Nat)(pre:List Token):Lx→R (Int×List Token)
 | .ok l=>.ok ((n:Int),pre++l)
 | .wrong e=>.pan ⟨113,.int .i64 (e:Int)⟩
theorem Aoi (src:Ar)(hs:src.length≤65536) : ∀ (n p:Nat) (pre:List Token),src.length - p≤n→p≤src.length→pre.length≤p →
  loop (C2 fun fAt l=>N7 src fAt l) ((p:Int),pre)=Aei src.length pre (Mi (src.drop p) p):=by
 have hend : ∀ (p:Nat) (pre:List Token),src.drop p=[]→p≤src.length→loop (C2 fun fAt l=>N7 src fAt l) ((p:Int),pre)=Aei src.length pre (Mi (src.drop p) p):=by
  intro p pre e hp
  have:src.length≤p:=by have:=congrArg List.length e; rw [List.length_drop] at this; simp at this; omega
  rw [Uy,e,Ac9]
  simp only [C2]
  unfold N7
  rw [if_neg (by omega)]
  simp only [R.ok_bind,Aei,List.append_nil]
  rw [show p=src.length by omega]
 intro n
 induction n with
 | zero=>intro p pre hn hp hl; exact hend p pre (List.drop_eq_nil_of_le (by omega)) hp
 | succ n ih=>
  intro p pre hn hp hl
  cases hd:src.drop p with
  | nil=>rw [← hd]; exact hend p pre hd hp
  | cons c s=>
   rw [Uy]
   simp only [C2]
   rw [Amr src hs p pre c s hd hl]
   have hlen:=Ah2 hd
   unfold Ae2
   cases hsp:Lg c
   ·simp only [Bool.false_eq_true,if_false]
    rw [Vf]
    cases ht:tk c s with
    | none=>rfl
    | some x=>
     obtain⟨o,k⟩:=x
     have hk:k≤s.length:=Ap3 ht
     have hol:(o.map (at' p)).toList.length≤1:=by cases o <;> simp
     have:=ih (p+1+k) (pre++(o.map (at' p)).toList) (by omega) (by omega) (by rw [List.length_append]; omega)
     simp only [R.ok_bind]
     rw [← Aft hd k] at this
     refine this.trans ?_
     cases Mi (s.drop k) (p+1+k) <;> simp [Aei,Lx.add]
   ·simp only [if_true,R.ok_bind]
    have hle:=Tt Lg s
    have:=ih (p+1+(s.takeWhile Lg).length) pre (by omega) (by omega) (by omega)
    rw [← Aft hd] at this
    refine this.trans ?_
    congr 1
    have e:=Ac8 (c::s.takeWhile Lg) (s.drop (s.takeWhile Lg).length) p (by rw [List.all_cons,hsp,Zj]; rfl)
    rw [Ake,List.cons_append,List.takeWhile_append_dropWhile,List.length_cons] at e
    rw [e,Ake]
    congr 1
    omega
theorem Aue (s:Ar):Aco s=.ok (Hi s):=by
 unfold Aco Yh Hi
 by_cases h:s.length≤65536
 ·rw [if_neg (by omega),if_pos h,show((0:Int),([]:List Token))=(((0:Nat):Int),[]) from rfl,Aoi s h s.length 0 [] (by omega) (by omega) (by simp)]
  simp only [List.drop_zero]
  cases Mi s 0 <;> rfl
 ·rw [if_pos (by omega),if_neg h]
  rfl
end Go.Am
namespace Go.Am
open Go
set_option linter.unusedVariables false
set_option linter.unusedSimpArgs false
abbrev PR (α:Type):=Except (List Token×Int) (α×List Token)
abbrev Rd (α:Type):=List Token→PR α
namespace Rd
variable {α β:Type}
def bind (p:Rd α)(f:α→Rd β):Rd β:=fun l=>match p l with
 | .error x=>.error x
 | .ok (a,r)=>f a r
def pure (a:α):Rd α:=fun l=>.ok (a,l)
def fail (e:Int):Rd α:=fun l=>.error (l,e)
end Rd
def Oq (q:Token→Bool):Rd Token
 | []=>.error ([],80)
 | t::r=>if q t then .ok (t,r) else .error (t::r,80)
def Lh (k:Int)(w:Ar)(t:Token):Bool:=t.Kind==k&&t.Text==w
def P0 (k:Int)(w:Ar):Rd Bool
 | []=>.ok (false,[])
 | t::r=>.ok (Lh k w t,t::r)
def Ac7 (lo hi st:Int)(t:Token):Bool:=t.Kind==2&&(decide (lo≤t.N)&&(decide (t.N≤hi)&&(Int.tmod t.N st==0)))
def Mq:Rd Ar:=(Oq fun t=>t.Kind==1).bind fun t=>.pure t.Text
def Lt (k:Int)(w:Ar):Rd Unit:=(Oq (Lh k w)).bind fun _=>.pure ()
def Nn (lo hi st:Int):Rd Int:=(Oq (Ac7 lo hi st)).bind fun t=>.pure t.N
def O5:Rd Span:=(Nn 0 1439 1).bind fun a=>(Lt 1 [116,111]).bind fun _=>(Nn (a+1) 1440 1).bind fun b=>.pure ⟨a,b⟩
def Em {α:Type}(p:Rd α):Nat→List α→Rd (List α)
 | n,acc=>p.bind fun a=>(P0 3 [44]).bind fun b=>if b then(match n with
  | 0=>.fail 2
  | n+1=>(Lt 3 [44]).bind fun _=>Em p n (acc++[a])) else .pure (acc++[a])
def Afe (E:Int):List Token→Int
 | []=>E
 | t::_=>t.At
def run {α:Type}(E:Int):PR α→R (α×List Token)
 | .ok x=>.ok x
 | .error (l,e)=>.pan ⟨64,.two .i64 .i64 (Afe E l) e⟩
theorem Ai1 {α:Type}(E:Int)(x:α×List Token):run E (.ok x:PR α)=.ok x:=rfl
def M9 {α:Type}(E:Int)(k:Nat)(l:List Token)(x:R α)(p:Rd α):Prop:=(x=(run E (p l)).bind fun y=>.ok y.1) ∧ ∀ a r,p l=.ok (a,r)→r=l.drop k
section
variable {α β:Type} {E:Int} {k:Nat} {l:List Token} {p:Rd α}
theorem Kc {x:R α}{H:α→R (β×List Token)}{f:α→Rd β}(hx:M9 E k l x p)(h : ∀ a,p l=.ok (a,l.drop k)→H a=run E (f a (l.drop k))):x.bind H=run E (p.bind f l):=by
 obtain⟨rfl,h2⟩:=hx
 unfold Rd.bind
 cases hp:p l with
 | error x=>rfl
 | ok y=>
  obtain⟨a,r⟩:=y
  have:=h2 a r hp
  subst this
  exact h a hp
theorem S3 {x:R (α×List Token)}{H:α×List Token→R (β×List Token)}{f:α→Rd β}(hx:x=run E (p l))(h : ∀ a r,p l=.ok (a,r)→H (a,r)=run E (f a r)):x.bind H=run E (p.bind f l):=by
 subst hx
 unfold Rd.bind
 cases hp:p l with
 | error x=>rfl
 | ok y=>exact h _ _ hp
theorem Nf {m n:Nat}{x:R α}{H:α→R β}{f:α→Rd β}{l':List Token}(hn:n=k+m)(hl:l'=l.drop k)(hx:M9 E k l x p)(h : ∀ a,p l=.ok (a,l')→M9 E m l' (H a) (f a)):M9 E n l (x.bind H) (p.bind f):=by
 subst hl hn
 obtain⟨rfl,h2⟩:=hx
 unfold M9 Rd.bind
 cases hp:p l with
 | error x=>exact⟨rfl,fun _ _ h=>nomatch h⟩
 | ok y=>
  obtain⟨a,r⟩:=y
  have:=h2 a r hp
  subst this
  obtain⟨h3,h4⟩:=h a hp
  refine⟨h3,fun b r hr=>?_⟩
  rw [h4 b r hr,List.drop_drop]
theorem Sg (a:α):M9 E 0 l (.ok a) (Rd.pure a):=⟨rfl,fun _ _ h=>by cases h; rfl⟩
end
theorem Kn (e:Int)(l:List Token)(E:Int):Bl e l E=.pan ⟨64,.two .i64 .i64 (Afe E l) e⟩:=by
 unfold Bl
 cases l with
 | nil=>rfl
 | cons t l=>rw [if_pos (by simp only [List.length_cons]; omega)]; rfl
theorem Aka (r:T67)(e:Int):M6 r e=.pan ⟨64,.two .i64 .i64 (Afe r.fEnd r.fL) e⟩:=by
 unfold M6
 cases h:r.fL with
 | nil=>rfl
 | cons t l=>rw [if_pos (by simp only [List.length_cons]; omega)]; rfl
theorem Zo (kind:Int)(q:Token→Bool)(l:List Token)(E:Int)(j:R Token)(hj:j=((E0 l 0).bind fun a2=>if(0:Int)≤1∧1≤(l.length:Int) then .ok a2 else .bad))  (c:Token→R Bool)(hc : ∀ t,c t=.ok (q t)) :
  ((if((l.length:Int)==0) then R.ok true else(E0 l 0).bind fun a=>R.ok (a.Kind != kind)).bind (fun(b:Bool)=>(if b then R.ok true else(E0 l 0).bind fun a1=>(c a1).bind fun r=>R.ok (!r)).bind (fun(b1:Bool)=>if b1 then((Bl 80 l E).bind fun _=>j) else j)))
   = (run E (Oq (fun t=>t.Kind==kind&&q t) l)).bind fun y=>.ok y.1:=by
 subst hj
 cases l with
 | nil=>rfl
 | cons t l=>
  have e:E0 (t::l) 0=.ok t:=rfl
  have e0:(((t::l).length:Int)==0)=false:=by simp only [List.length_cons,beq_eq_false_iff_ne]; omega
  have e1:(0:Int)≤1∧1≤((t::l).length:Int):=by simp only [List.length_cons]; omega
  simp only [e,e0,R.ok_bind,hc,Kn,Oq,if_pos e1,Bool.false_eq_true,if_false]
  by_cases hk:t.Kind=kind
  ·have h1:(t.Kind==kind)=true:=by simp [hk]
   have h2:(t.Kind != kind)=false:=by simp [hk]
   simp only [h1,h2,Bool.false_eq_true,if_false,R.ok_bind,Bool.true_and]
   cases q t <;> rfl
  ·have h1:(t.Kind==kind)=false:=by simp [hk]
   have h2:(t.Kind != kind)=true:=by simp [hk]
   simp only [h1,h2,if_true,R.ok_bind,Bool.false_and]
   rfl
theorem Al6 {q:Token→Bool}{l:List Token}{a:Token}{r:List Token}(h:Oq q l=.ok (a,r)):r=l.drop 1:=by
 cases l with
 | nil=>cases h
 | cons t l=>
  simp only [Oq] at h
  split at h
  ·cases h; rfl
  ·cases h
theorem Ab1 {α:Type}{E:Int}{l:List Token}{q:Token→Bool}{x:R Token}(f:Token→α)(hx:x=(run E (Oq q l)).bind fun y=>.ok y.1):M9 E 1 l (x.bind fun r=>.ok (f r)) ((Oq q).bind fun t=>.pure (f t)):=by
 subst hx
 unfold M9 Rd.bind
 cases h:Oq q l with
 | error x=>exact⟨rfl,fun _ _ h=>nomatch h⟩
 | ok y=>exact⟨rfl,fun a r h'=>by cases h'; exact Al6 h⟩
theorem Ta (E:Int)(l:List Token):M9 E 1 l (Ca l E) Mq:=by
 have:=Ab1 (E:=E) (l:=l) (fun t=>t.Text) (Zo 1 (fun _=>true) l E _ rfl Kv (fun _=>rfl))
 simp only [Bool.and_true] at this
 exact this
theorem Nc (E:Int)(w:Ar)(l:List Token):M9 E 1 l (Da w l E) (Lt 1 w):=
 Ab1 (E:=E) (l:=l) (fun _=>()) (Zo 1 (fun t=>t.Text==w) l E _ rfl (fun t=>Kq t w) (fun _=>rfl))
theorem Zy (E:Int)(w:Ar)(l:List Token):M9 E 1 l (Cf w l E) (Lt 3 w):=
 Ab1 (E:=E) (l:=l) (fun _=>()) (Zo 3 (fun t=>t.Text==w) l E _ rfl (fun t=>Kr t w) (fun _=>rfl))
theorem Au1 (n:Int):(Int.tmod n 1==0)=true:=by simp
theorem Oa (E lo hi:Int)(l:List Token):M9 E 1 l (Dq lo hi l E) (Nn lo hi 1):=by
 have:=Ab1 (E:=E) (l:=l) (fun t=>t.N) (Zo 2 (fun t=>decide (lo≤t.N)&&(decide (t.N≤hi)&&(Int.tmod t.N 1==0))) l E _ rfl (fun t=>Hw t lo hi) (fun t=>by simp only [Hw,Au1,Bool.and_true]))
 exact this
theorem Ak0 (k:Int)(w:Ar)(l:List Token)(E:Int):Fy k w l E=.ok (match l with | []=>false | t::_=>Lh k w t):=by
 unfold Fy
 cases l with
 | nil=>rfl
 | cons t l=>
  have e:E0 (t::l) 0=.ok t:=rfl
  have e0:decide (((t::l).length:Int) > 0)=true:=by simp only [List.length_cons,decide_eq_true_eq]; omega
  simp only [e,e0,R.ok_bind,if_true,Lh]
  cases t.Kind==k <;> rfl
theorem Aeu {q:Token→Bool}{l:List Token}{a:Token}{r:List Token}(h:Oq q l=.ok (a,r)):l=a::r∧q a=true:=by
 cases l with
 | nil=>cases h
 | cons t l=>
  simp only [Oq] at h
  split at h
  ·rename_i hq; cases h; exact⟨rfl,hq⟩
  ·cases h
theorem Acg {α β:Type}{p:Rd α}{f:α→Rd β}{l:List Token}{b:β}{r:List Token}(h:p.bind f l=.ok (b,r)) : ∃ a m,p l=.ok (a,m)∧f a m=.ok (b,r):=by
 unfold Rd.bind at h
 cases hp:p l with
 | error x=>rw [hp] at h; cases h
 | ok y=>rw [hp] at h; exact⟨y.1,y.2,rfl,h⟩
theorem Ask {lo hi st:Int}{l:List Token}{a:Int}{r:List Token}(h:Nn lo hi st l=.ok (a,r)) : ∃ t,l=t::r∧t.Kind=2∧t.N=a∧lo≤a∧a≤hi∧Int.tmod a st=0:=by
 obtain⟨t,m,h1,h2⟩:=Acg h
 cases h2
 obtain⟨rfl,hq⟩:=Aeu h1
 simp only [Ac7,Bool.and_eq_true,decide_eq_true_eq,beq_iff_eq] at hq
 exact⟨t,rfl,hq.1,rfl,hq.2.1,hq.2.2.1,hq.2.2.2⟩
theorem Aha (E:Int)(l:List Token):M9 E 3 l (Ig l E) O5:=by
 refine Nf (m:=2) rfl rfl (Oa E 0 1439 l) fun a ha=>?_
 refine Nf (m:=1) rfl rfl (Nc E _ _) fun _ _=>?_
 have e:IntKind.wrap .i64 (a+1)=a+1:=by
  obtain⟨t,_,_,_,h1,h2,_⟩:=Ask ha
  exact Xx (by omega) (by omega)
 rw [e]
 exact Nf (m:=0) rfl rfl (Oa E (a+1) 1440 _) fun b _=>Sg _
end Go.Am
namespace Go.Am
open Go
set_option linter.unusedVariables false
set_option linter.unusedSimpArgs false
def Rw (w:Ar):Rd (List Span):=(P0 1 w).bind fun b=>if b then(Lt 1 w).bind fun _=>Em O5 15 [] else .pure []
def Sn:Rd Mode:=(Lt 1 [109,111,100,101]).bind fun _=>Mq.bind fun n=>(Nn 0 64 1).bind fun k=>.pure { Name:=n,Places:=k }
def Y1 (s:Ar):Rd Volume:=(Rw [99,108,111,115,101,100]).bind fun c=>.pure { Name:=s,Closed:=c }
def Y7 (s:Ar):Rd Sector:=(Lt 3 [61]).bind fun _=>(Em Mq 63 []).bind fun ns=>(Lt 1 [114,97,100,97,114]).bind fun _=>(Nn 0 64 1).bind fun a=>
 (Lt 1 [112,114,111,99,101,100,117,114,97,108]).bind fun _=>(Nn 0 a 1).bind fun b=>.pure { Name:=s,Names:=ns,Volumes:=[],Radar:=a,Procedural:=b }
def Ym (s:Ar):Rd Config:=(Lt 3 [61]).bind fun _=>(Em Mq 63 []).bind fun ns=>.pure { Name:=s,Names:=ns,Sectors:=[] }
def Yy (s:Ar):Rd Segment:=(Lt 1 [105,110]).bind fun _=>Mq.bind fun v=>(Lt 1 [108,101,110,103,116,104]).bind fun _=>(Nn 1 4096 1).bind fun k=>
 (Rw [111,112,101,110]).bind fun o=>.pure { Name:=s,In:=v,Volume:=0,Length:=k,Open:=o }
def Yp (s:Ar):Rd Route:=(Lt 1 [102,114,111,109]).bind fun _=>Mq.bind fun a=>(Lt 1 [116,111]).bind fun _=>Mq.bind fun b=>(Lt 1 [118,105,97]).bind fun _=>
 (Em Mq 7 []).bind fun ns=>.pure { Name:=s,A:=a,B:=b,From:=0,To:=0,Names:=ns,Segments:=[] }
def Yv (s:Ar):Rd Airport:=(Em Sn 15 []).bind fun ms=>.pure { Name:=s,Modes:=ms }
def Y8 (s:Ar):Rd Class:=(Lt 1 [115,108,111,119]).bind fun _=>(Nn 1 64 1).bind fun a=>(Lt 1 [102,97,115,116]).bind fun _=>(Nn a 64 1).bind fun b=>
 (Lt 1 [112,108,97,99,101,115]).bind fun _=>(Nn 1 8 1).bind fun c=>.pure { Name:=s,Slow:=a,Fast:=b,Places:=c }
def D6 (k:Int)(c a:Ar)(n:Int)(h:Span):Rule:={ Kind:=k,C:=c,A:=a,Class:=0,Airport:=0,N:=n,Hours:=h }
def Aar (s:Ar):Rd Rule:=(Lt 1 [97,116]).bind fun _=>Mq.bind fun a=>O5.bind fun h=>.pure (D6 1 s a 0 h)
def Aa3 (s:Ar):Rd Rule:=.pure (D6 2 s [] 0 ⟨0,0⟩)
def Aap (s:Ar):Rd Rule:=(Nn 1 8 1).bind fun n=>.pure (D6 3 s [] n ⟨0,0⟩)
def Y3 (s:Ar):Rd Rule:=(Nn 0 60 10).bind fun n=>.pure (D6 4 s [] n ⟨0,0⟩)
def E9 {α:Type}(p:Ar→Rd α):Rd α:=Mq.bind fun n=>(p n).bind fun x=>(Lt 3 [59]).bind fun _=>.pure x
section
variable {α:Type} {E:Int}
theorem Ab3 {k sz most:Nat}{G:List Token→R α}{p:Rd α}(hG : ∀ l,M9 E k l (G l) p){b:List Token×List α→R ((List Token×List α) ⊕ (List α×List Token))}
  (hb : ∀ fL l1,b (fL,l1)=(G fL).bind fun r=>if(l1.length+1) * sz≤Eo then(Fy 3 [44] (fL.drop k) E).bind fun r1=>if r1 then(if(((l1++[r]).length:Int)==most) then .pan ⟨64,.two .i64 .i64 (Afe E (fL.drop k)) 2⟩ else(Cf [44] (fL.drop k) E).bind fun _=>.ok (.inl ((fL.drop k).drop 1,l1++[r]))) else .ok (.inr (l1++[r],fL.drop k)) else .bad)
  (hs:most * sz≤Eo) : ∀ (n:Nat) (l:List Token) (acc:List α),acc.length+n+1=most→loop b (l,acc)=run E (Em p n acc l):=by
 intro n
 induction n with
 | zero=>
  intro l acc hn
  rw [Uy,hb,Em]
  obtain⟨h1,h2⟩:=hG l
  rw [h1]
  unfold Rd.bind
  cases hp:p l with
  | error x=>rfl
  | ok y=>
   obtain⟨a,r⟩:=y
   have:=h2 a r hp; subst this
   have e1:(acc.length+1) * sz≤Eo:=Nat.le_trans (Nat.mul_le_mul_right _ (by omega)) hs
   have e2:(((acc++[a]).length:Int)==most)=true:=by simp; omega
   simp only [Ai1,R.ok_bind,if_pos e1,Ak0,e2,if_true]
   cases l.drop k with
   | nil=>rfl
   | cons t r=>
    cases h:Lh 3 [44] t <;> simp only [P0,h,Bool.false_eq_true,if_false,if_true,R.ok_bind,R.pan_bind] <;> rfl
 | succ n ih=>
  intro l acc hn
  rw [Uy,hb,Em]
  obtain⟨h1,h2⟩:=hG l
  rw [h1]
  unfold Rd.bind
  cases hp:p l with
  | error x=>rfl
  | ok y=>
   obtain⟨a,r⟩:=y
   have:=h2 a r hp; subst this
   have e1:(acc.length+1) * sz≤Eo:=Nat.le_trans (Nat.mul_le_mul_right _ (by omega)) hs
   have e2:(((acc++[a]).length:Int)==most)=false:=by simp; omega
   simp only [Ai1,R.ok_bind,if_pos e1,Ak0,e2,Bool.false_eq_true,if_false]
   have e3:=(Zy E [44] (l.drop k)).1
   cases hd:l.drop k with
   | nil=>rfl
   | cons t r=>
    cases h:Lh 3 [44] t
    ·simp only [P0,h,Bool.false_eq_true,if_false,R.ok_bind]; rfl
    ·rw [hd] at e3
     have e4:Lt 3 [44] (t::r)=.ok ((),r):=by simp only [Lt,Rd.bind,Oq,h,if_true]; rfl
     simp only [P0,h,if_true,e3,e4,Ai1,R.ok_bind,List.drop_one,List.tail_cons]
     exact ih r (acc++[a]) (by simp; omega)
end
theorem Aib (E:Int)(l:List Token)(v:List Volume):Fd 16 l E v=run E (Em O5 15 [] l):=by
 unfold Fd
 rw [Ab3 (k:=3) (sz:=16) (most:=16) (G:=fun l=>Ig l E) (p:=O5) (Aha E) (fun fL l1=>?_) (by decide) 15 l [] rfl,R.bind_ok]
 simp only [C2,Gy,Gv,Kn,R.pan_bind,List.length_singleton,List.drop_drop]
 all_goals rfl
theorem Arm (E:Int)(l:List Token):M9 E 3 l (Ga l E) Sn:=
 Nf (m:=2) rfl rfl (Nc E _ l) fun _ _=>Nf (m:=1) rfl rfl (Ta E _) fun _ _=>Nf (m:=0) rfl rfl (Oa E 0 64 _) fun _ _=>Sg _
theorem Ajb (E:Int)(l:List Token)(v:List Volume):Hz 16 l E v=run E (Em Sn 15 [] l):=by
 unfold Hz
 rw [Ab3 (k:=3) (sz:=24) (most:=16) (G:=fun l=>Ga l E) (p:=Sn) (Arm E) (fun fL l1=>?_) (by decide) 15 l [] rfl,R.bind_ok]
 simp only [C2,H8,Ia,Kn,R.pan_bind,List.length_singleton,List.drop_drop]
 all_goals rfl
theorem Yz (E:Int)(m:Nat)(hm:(m+1) * 16≤Eo)(l:List Token)(v:List Volume):En ((m+1:Nat):Int) l E v=run E (Em Mq m [] l):=by
 unfold En
 rw [Ab3 (k:=1) (sz:=16) (most:=m+1) (G:=fun l=>Ca l E) (p:=Mq) (Ta E) (fun fL l1=>?_) hm m l [] (by simp),R.bind_ok]
 simp only [C2,Gs,Gq,Kn,R.pan_bind,List.length_singleton,List.drop_drop]
 all_goals rfl
end Go.Am
namespace Go.Am
open Go
set_option linter.unusedVariables false
set_option linter.unusedSimpArgs false
def O1 (w:Ar)(A:Airspace):Option (Bool×Rd Airspace):=
 if w==[97,105,114,112,111,114,116] then some (decide (16≤A.Airports.length),(E9 Yv).bind fun x=>.pure { A with Airports:=A.Airports++[x] }) else
 if w==[99,108,97,115,115] then some (decide (8≤A.Classes.length),(E9 Y8).bind fun x=>.pure { A with Classes:=A.Classes++[x] }) else
 if w==[99,111,110,102,105,103] then some (decide (32≤A.Configs.length),(E9 Ym).bind fun x=>.pure { A with Configs:=A.Configs++[x] }) else
 if w==[99,117,114,102,101,119] then some (decide (64≤A.Rules.length),(E9 Aar).bind fun x=>.pure { A with Rules:=A.Rules++[x] }) else
 if w==[101,120,101,109,112,116] then some (decide (64≤A.Rules.length),(E9 Aa3).bind fun x=>.pure { A with Rules:=A.Rules++[x] }) else
 if w==[108,111,110,103,101,115,116] then some (decide (64≤A.Rules.length),(E9 Y3).bind fun x=>.pure { A with Rules:=A.Rules++[x] }) else
 if w==[114,111,117,116,101] then some (decide (64≤A.Routes.length),(E9 Yp).bind fun x=>.pure { A with Routes:=A.Routes++[x] }) else
 if w==[115,101,99,116,111,114] then some (decide (64≤A.Sectors.length),(E9 Y7).bind fun x=>.pure { A with Sectors:=A.Sectors++[x] }) else
 if w==[115,101,103,109,101,110,116] then some (decide (128≤A.Segments.length),(E9 Yy).bind fun x=>.pure { A with Segments:=A.Segments++[x] }) else
 if w==[118,111,108,117,109,101] then some (decide (64≤A.Volumes.length),(E9 Y1).bind fun x=>.pure { A with Volumes:=A.Volumes++[x] }) else
 if w==[119,101,105,103,104,116] then some (decide (64≤A.Rules.length),(E9 Aap).bind fun x=>.pure { A with Rules:=A.Rules++[x] }) else
 none
def J8 (A:Airspace):Rd Airspace
 | []=>.error ([],80)
 | t::r=>if t.Kind==1 then(match O1 t.Text A with
  | none=>.error (t::r,80)
  | some (f,p)=>if f then .error (t::r,2) else p r) else .error (t::r,80)
theorem Ail (w:Ar)(E:Int)(l:List Token)(v:List Volume):Hl w l E v=run E (Rw w l):=by
 unfold Hl Rw
 rw [Ak0]
 cases l with
 | nil=>rfl
 | cons t r=>
  show(if Lh 1 w t=true then _ else _)=run E ((if Lh 1 w t=true then(Lt 1 w).bind fun _=>Em O5 15 [] else .pure []) (t::r))
  split
  ·refine Kc (Nc E w _) fun _ _=>?_
   rw [show(Fd 16 (List.drop 1 (t::r)) E v)=run E (Em O5 15 [] (List.drop 1 (t::r))) from Aib E _ v]
   cases Em O5 15 [] (List.drop 1 (t::r)) <;> rfl
  ·rfl
theorem Asr (s:Ar)(E:Int)(l:List Token)(v:List Volume):Fc s l E v=run E (Y1 s l):=by
 unfold Fc Y1
 exact S3 (Ail _ E l v) fun a r _=>rfl
theorem Asz (s:Ar)(E:Int)(l:List Token)(v:List Volume):Fj s l E v=run E (Y7 s l):=by
 unfold Fj Y7
 refine Kc (Zy E _ l) fun _ _=>S3 (Yz E 63 (by decide) _ v) fun ns r _=>?_
 exact Kc (Nc E _ r) fun _ _=>Kc (Oa E 0 64 _) fun a _=>Kc (Nc E _ _) fun _ _=>Kc (Oa E 0 a _) fun b _=>rfl
theorem Atf (s:Ar)(E:Int)(l:List Token)(v:List Volume):Fb s l E v=run E (Ym s l):=by
 unfold Fb Ym
 exact Kc (Zy E _ l) fun _ _=>S3 (Yz E 63 (by decide) _ v) fun ns r _=>rfl
theorem Auf (s:Ar)(E:Int)(l:List Token)(v:List Volume):Fe s l E v=run E (Yy s l):=by
 unfold Fe Yy
 refine Kc (Nc E _ l) fun _ _=>Kc (Ta E _) fun a _=>Kc (Nc E _ _) fun _ _=>Kc (Oa E 1 4096 _) fun b _=>?_
 exact S3 (Ail _ E _ v) fun o r _=>rfl
theorem Asv (s:Ar)(E:Int)(l:List Token)(v:List Volume):Ff s l E v=run E (Yp s l):=by
 unfold Ff Yp
 refine Kc (Nc E _ l) fun _ _=>Kc (Ta E _) fun a _=>Kc (Nc E _ _) fun _ _=>Kc (Ta E _) fun b _=>Kc (Nc E _ _) fun _ _=>?_
 exact S3 (Yz E 7 (by decide) _ v) fun o r _=>rfl
theorem Atu (s:Ar)(E:Int)(l:List Token)(v:List Volume):Fg s l E v=run E (Yv s l):=by
 unfold Fg Yv
 exact S3 (Ajb E l v) fun ms r _=>rfl
theorem Amq (s:Ar)(E:Int)(l:List Token):M9 E 6 l (F7 s l E) (Y8 s):=
 Nf (m:=5) rfl rfl (Nc E _ l) fun _ _=>Nf (m:=4) rfl rfl (Oa E 1 64 _) fun a _=>Nf (m:=3) rfl rfl (Nc E _ _) fun _ _=>Nf (m:=2) rfl rfl (Oa E a 64 _) fun b _=>
  Nf (m:=1) rfl rfl (Nc E _ _) fun _ _=>Nf (m:=0) rfl rfl (Oa E 1 8 _) fun b _=>Sg _
theorem Aex {α:Type}{E:Int}{k:Nat}{l:List Token}{x:R α}{p:Rd α}(h:M9 E k l x p):M9 E k l (x.bind fun r=>.ok r) p:=by rw [R.bind_ok]; exact h
theorem Al2 (s:Ar)(E:Int)(l:List Token):M9 E 5 l (Gk s 1 l E) (Aar s):=
 Aex<|Nf (m:=4) rfl rfl (Nc E _ l) fun _ _=>Nf (m:=3) rfl rfl (Ta E _) fun a _=>Nf (m:=0) rfl rfl (Aha E _) fun h _=>Sg _
theorem Alx (s:Ar)(E:Int)(l:List Token):M9 E 1 l (Gl s 3 l E) (Aap s):=
 Aex<|Nf (m:=0) rfl rfl (Oa E 1 8 l) fun _ _=>Sg _
theorem Aml (s:Ar)(E:Int)(l:List Token)(hl : ∀ t ∈ l,0≤t.N):M9 E 1 l (Gi s 4 l E) (Y3 s):=by
 have hn:M9 E 1 l ((H0 2 l E).bind fun r=>.ok r.N) (Nn 0 60 10):=by
  have h:=Ab1 (E:=E) (l:=l) (fun t=>t.N) (Zo 2 (fun t=>decide (t.N≤60)&&(Int.tmod t.N 10==0)) l E _ rfl Hg (fun _=>rfl))
  have e:((Oq fun t=>t.Kind==2&&(decide (t.N≤60)&&(Int.tmod t.N 10==0))).bind fun t=>Rd.pure t.N) l=Nn 0 60 10 l:=by
   unfold Nn Rd.bind
   cases l with
   | nil=>rfl
   | cons t l=>
    have h0:decide (0≤t.N)=true:=decide_eq_true (hl t (List.mem_cons_self ..))
    simp only [Oq,Ac7,h0,Bool.true_and]
  unfold M9 at h ⊢
  rw [e] at h
  exact h
 have:M9 E (1+0) l (((H0 2 l E).bind fun r=>.ok r.N).bind fun n=>.ok (D6 4 s [] n ⟨0,0⟩)) (Y3 s):=Nf rfl rfl hn fun _ _=>Sg _
 rw [R.bind_assoc] at this
 exact Aex this
section
variable {α β:Type} {E:Int}
theorem Xc {item:Ar→List Token→R (α×List Token)}{p:Ar→Rd α}(hi : ∀ s l,item s l=run E (p s l))(acc:List α)(sz:Nat)(h:(acc.length+1) * sz≤Eo)(l:List Token) :
  ((Ca l E).bind fun r1=>(item r1 (l.drop 1)).bind fun r2=>(Cf [59] r2.2 E).bind fun _=>if(acc.length+[r2.1].length) * sz≤Eo then R.ok ((r2.2.drop 1),acc++[r2.1]) else .bad)=(run E (E9 p l)).bind fun x=>.ok (x.2,acc++[x.1]):=by
 have e:((Ca l E).bind fun r1=>(item r1 (l.drop 1)).bind fun r2=>(Cf [59] r2.2 E).bind fun _=>R.ok (r2.1,r2.2.drop 1))=run E (E9 p l):=
  Kc (Ta E l) fun a _=>S3 (hi a _) fun x r _=>Kc (Zy E _ r) fun _ _=>rfl
 rw [← e]
 simp only [R.bind_assoc,R.ok_bind,List.length_singleton,if_pos h]
theorem Sk {k:Nat}{item:Ar→R α}{p:Ar→Rd α}(acc:List α)(sz:Nat)(h:(acc.length+1) * sz≤Eo)(l:List Token)(hi : ∀ s,M9 E k (l.drop 1) (item s) (p s)) :
  ((Ca l E).bind fun r1=>(item r1).bind fun r2=>(Cf [59] ((l.drop 1).drop k) E).bind fun _=>if(acc.length+[r2].length) * sz≤Eo then R.ok (acc++[r2]) else .bad)=((run E (E9 p l)).bind fun x=>.ok (acc++[x.1])) ∧ ∀ x r,E9 p l=.ok (x,r)→r=l.drop (k+2):=by
 have e:M9 E (k+2) l ((Ca l E).bind fun r1=>(item r1).bind fun r2=>(Cf [59] ((l.drop 1).drop k) E).bind fun _=>R.ok r2) (E9 p):=
  Nf (m:=k+1) (by omega) rfl (Ta E l) fun a _=>Nf (m:=1) rfl rfl (hi a) fun x _=>Nf (m:=0) rfl rfl (Zy E _ _) fun _ _=>Sg _
 refine⟨?_,e.2⟩
 have e1:=congrArg (fun z=>R.bind z fun x=>R.ok (acc++[x])) e.1
 simp only [R.bind_assoc,R.ok_bind] at e1
 rw [← e1]
 simp only [List.length_singleton,if_pos h]
end
end Go.Am
namespace Go.Am
open Go
set_option linter.unusedVariables false
set_option linter.unusedSimpArgs false
theorem Aq4 (E:Int)(t:Token)(r:List Token)(v:List Volume)(acc:List Airport)(h:acc.length≤16):Jm (t::r) E v acc=if 16≤acc.length then .pan ⟨64,.two .i64 .i64 t.At 2⟩ else(run E (E9 Yv r)).bind fun x=>.ok (x.2,acc++[x.1]):=by
 show(Hy 16 (t::r) E v acc).bind (fun r=>.ok r)=_
 rw [R.bind_ok]
 unfold Hy H3
 by_cases hf:16≤acc.length
 ·have e:((acc.length:Int)==16)=true:=by rw [beq_iff_eq]; omega
  rw [if_pos hf]
  simp only [e,if_true,Kn,R.pan_bind]
  rfl
 ·have e:((acc.length:Int)==16)=false:=by rw [beq_eq_false_iff_ne]; omega
  have e1:(0:Int)≤1∧1≤((t::r).length:Int):=by simp only [List.length_cons]; omega
  rw [if_neg hf]
  simp only [e,Bool.false_eq_true,if_false,if_pos e1]
  exact Xc (E:=E) (item:=fun s l=>Fg s l E v) (fun s l=>Atu s E l v) acc 40 (by unfold Eo; omega) r
theorem Asi (E:Int)(t:Token)(r:List Token)(acc:List Class)(h:acc.length≤8):Jw (t::r) E acc=if 8≤acc.length then .pan ⟨64,.two .i64 .i64 t.At 2⟩ else(run E (E9 Y8 r)).bind fun x=>.ok (acc++[x.1]):=by
 show(Iv 8 (t::r) E acc).bind (fun r=>.ok r)=_
 rw [R.bind_ok]
 unfold Iv I5
 by_cases hf:8≤acc.length
 ·have e:((acc.length:Int)==8)=true:=by rw [beq_iff_eq]; omega
  rw [if_pos hf]
  simp only [e,if_true,Kn,R.pan_bind]
  rfl
 ·have e:((acc.length:Int)==8)=false:=by rw [beq_eq_false_iff_ne]; omega
  have e1:(0:Int)≤1∧1≤((t::r).length:Int):=by simp only [List.length_cons]; omega
  rw [if_neg hf]
  simp only [e,Bool.false_eq_true,if_false,if_pos e1]
  have q:=(Sk (E:=E) (k:=6) (item:=fun s=>F7 s (r.drop 1) E) acc 40 (by unfold Eo; omega) r (fun s=>Amq s E _)).1
  have ee:Int.toNat 1=1:=rfl
  simp only [ee,List.drop_drop,Nat.reduceAdd] at q ⊢
  exact q
theorem Aqs (E:Int)(t:Token)(r:List Token)(v:List Volume)(acc:List Config)(h:acc.length≤32):J0 (t::r) E v acc=if 32≤acc.length then .pan ⟨64,.two .i64 .i64 t.At 2⟩ else(run E (E9 Ym r)).bind fun x=>.ok (x.2,acc++[x.1]):=by
 show(Ie 32 (t::r) E v acc).bind (fun r=>.ok r)=_
 rw [R.bind_ok]
 unfold Ie Im
 by_cases hf:32≤acc.length
 ·have e:((acc.length:Int)==32)=true:=by rw [beq_iff_eq]; omega
  rw [if_pos hf]
  simp only [e,if_true,Kn,R.pan_bind]
  rfl
 ·have e:((acc.length:Int)==32)=false:=by rw [beq_eq_false_iff_ne]; omega
  have e1:(0:Int)≤1∧1≤((t::r).length:Int):=by simp only [List.length_cons]; omega
  rw [if_neg hf]
  simp only [e,Bool.false_eq_true,if_false,if_pos e1]
  exact Xc (E:=E) (item:=fun s l=>Fb s l E v) (fun s l=>Atf s E l v) acc 64 (by unfold Eo; omega) r
theorem Aqo (E:Int)(t:Token)(r:List Token)(acc:List Rule)(h:acc.length≤64):Js (t::r) E acc=if 64≤acc.length then .pan ⟨64,.two .i64 .i64 t.At 2⟩ else(run E (E9 Aar r)).bind fun x=>.ok (acc++[x.1]):=by
 show((Jb 64 (t::r) E acc 1).bind (fun r=>.ok r)).bind (fun r=>.ok r)=_
 rw [R.bind_ok,R.bind_ok]
 unfold Jb Jx
 by_cases hf:64≤acc.length
 ·have e:((acc.length:Int)==64)=true:=by rw [beq_iff_eq]; omega
  rw [if_pos hf]
  simp only [e,if_true,Kn,R.pan_bind]
  rfl
 ·have e:((acc.length:Int)==64)=false:=by rw [beq_eq_false_iff_ne]; omega
  have e1:(0:Int)≤1∧1≤((t::r).length:Int):=by simp only [List.length_cons]; omega
  rw [if_neg hf]
  simp only [e,Bool.false_eq_true,if_false,if_pos e1]
  have q:=(Sk (E:=E) (k:=5) (item:=fun s=>Gk s 1 (r.drop 1) E) acc 80 (by unfold Eo; omega) r (fun s=>Al2 s E _)).1
  have ee:Int.toNat 1=1:=rfl
  simp only [ee,List.drop_drop,Nat.reduceAdd] at q ⊢
  exact q
theorem Ar4 (E:Int)(t:Token)(r:List Token)(acc:List Rule)(h:acc.length≤64):Jt (t::r) E acc=if 64≤acc.length then .pan ⟨64,.two .i64 .i64 t.At 2⟩ else(run E (E9 Aa3 r)).bind fun x=>.ok (acc++[x.1]):=by
 show((Ja 64 (t::r) E acc 2).bind (fun r=>.ok r)).bind (fun r=>.ok r)=_
 rw [R.bind_ok,R.bind_ok]
 unfold Ja Jq
 by_cases hf:64≤acc.length
 ·have e:((acc.length:Int)==64)=true:=by rw [beq_iff_eq]; omega
  rw [if_pos hf]
  simp only [e,if_true,Kn,R.pan_bind]
  rfl
 ·have e:((acc.length:Int)==64)=false:=by rw [beq_eq_false_iff_ne]; omega
  have e1:(0:Int)≤1∧1≤((t::r).length:Int):=by simp only [List.length_cons]; omega
  rw [if_neg hf]
  simp only [e,Bool.false_eq_true,if_false,if_pos e1]
  exact(Sk (E:=E) (k:=0) (item:=fun s=>(Hv s 2).bind fun _=>.ok (D6 2 s [] 0 ⟨0,0⟩)) acc 80 (by unfold Eo; omega) r (fun s=>Sg _)).1
theorem Aqg (E:Int)(t:Token)(r:List Token)(hl : ∀ x ∈ r,0≤x.N)(acc:List Rule)(h:acc.length≤64):I4 (t::r) E acc=if 64≤acc.length then .pan ⟨64,.two .i64 .i64 t.At 2⟩ else(run E (E9 Y3 r)).bind fun x=>.ok (acc++[x.1]):=by
 show((Jl 64 (t::r) E acc 4).bind (fun r=>.ok r)).bind (fun r=>.ok r)=_
 rw [R.bind_ok,R.bind_ok]
 unfold Jl Ju
 by_cases hf:64≤acc.length
 ·have e:((acc.length:Int)==64)=true:=by rw [beq_iff_eq]; omega
  rw [if_pos hf]
  simp only [e,if_true,Kn,R.pan_bind]
  rfl
 ·have e:((acc.length:Int)==64)=false:=by rw [beq_eq_false_iff_ne]; omega
  have e1:(0:Int)≤1∧1≤((t::r).length:Int):=by simp only [List.length_cons]; omega
  rw [if_neg hf]
  simp only [e,Bool.false_eq_true,if_false,if_pos e1]
  have q:=(Sk (E:=E) (k:=1) (item:=fun s=>Gi s 4 (r.drop 1) E) acc 80 (by unfold Eo; omega) r (fun s=>Aml s E _ (fun x hx=>hl x (List.mem_of_mem_drop hx)))).1
  have ee:Int.toNat 1=1:=rfl
  simp only [ee,List.drop_drop,Nat.reduceAdd] at q ⊢
  exact q
theorem Arq (E:Int)(t:Token)(r:List Token)(v:List Volume)(acc:List Route)(h:acc.length≤64):Jv (t::r) E v acc=if 64≤acc.length then .pan ⟨64,.two .i64 .i64 t.At 2⟩ else(run E (E9 Yp r)).bind fun x=>.ok (x.2,acc++[x.1]):=by
 show(Iy 64 (t::r) E v acc).bind (fun r=>.ok r)=_
 rw [R.bind_ok]
 unfold Iy I6
 by_cases hf:64≤acc.length
 ·have e:((acc.length:Int)==64)=true:=by rw [beq_iff_eq]; omega
  rw [if_pos hf]
  simp only [e,if_true,Kn,R.pan_bind]
  rfl
 ·have e:((acc.length:Int)==64)=false:=by rw [beq_eq_false_iff_ne]; omega
  have e1:(0:Int)≤1∧1≤((t::r).length:Int):=by simp only [List.length_cons]; omega
  rw [if_neg hf]
  simp only [e,Bool.false_eq_true,if_false,if_pos e1]
  exact Xc (E:=E) (item:=fun s l=>Ff s l E v) (fun s l=>Asv s E l v) acc 112 (by unfold Eo; omega) r
theorem Asc (E:Int)(t:Token)(r:List Token)(v:List Volume)(acc:List Sector)(h:acc.length≤64):Jz (t::r) E v acc=if 64≤acc.length then .pan ⟨64,.two .i64 .i64 t.At 2⟩ else(run E (E9 Y7 r)).bind fun x=>.ok (x.2,acc++[x.1]):=by
 show(Ic 64 (t::r) E v acc).bind (fun r=>.ok r)=_
 rw [R.bind_ok]
 unfold Ic Ik
 by_cases hf:64≤acc.length
 ·have e:((acc.length:Int)==64)=true:=by rw [beq_iff_eq]; omega
  rw [if_pos hf]
  simp only [e,if_true,Kn,R.pan_bind]
  rfl
 ·have e:((acc.length:Int)==64)=false:=by rw [beq_eq_false_iff_ne]; omega
  have e1:(0:Int)≤1∧1≤((t::r).length:Int):=by simp only [List.length_cons]; omega
  rw [if_neg hf]
  simp only [e,Bool.false_eq_true,if_false,if_pos e1]
  exact Xc (E:=E) (item:=fun s l=>Fj s l E v) (fun s l=>Asz s E l v) acc 80 (by unfold Eo; omega) r
theorem Aqr (E:Int)(t:Token)(r:List Token)(v:List Volume)(acc:List Segment)(h:acc.length≤128):Jy (t::r) E v acc=if 128≤acc.length then .pan ⟨64,.two .i64 .i64 t.At 2⟩ else(run E (E9 Yy r)).bind fun x=>.ok (x.2,acc++[x.1]):=by
 show(Hx 128 (t::r) E v acc).bind (fun r=>.ok r)=_
 rw [R.bind_ok]
 unfold Hx H4
 by_cases hf:128≤acc.length
 ·have e:((acc.length:Int)==128)=true:=by rw [beq_iff_eq]; omega
  rw [if_pos hf]
  simp only [e,if_true,Kn,R.pan_bind]
  rfl
 ·have e:((acc.length:Int)==128)=false:=by rw [beq_eq_false_iff_ne]; omega
  have e1:(0:Int)≤1∧1≤((t::r).length:Int):=by simp only [List.length_cons]; omega
  rw [if_neg hf]
  simp only [e,Bool.false_eq_true,if_false,if_pos e1]
  exact Xc (E:=E) (item:=fun s l=>Fe s l E v) (fun s l=>Auf s E l v) acc 72 (by unfold Eo; omega) r
theorem Ar0 (E:Int)(t:Token)(r:List Token)(acc:List Volume)(h:acc.length≤64):Jn (t::r) E acc=if 64≤acc.length then .pan ⟨64,.two .i64 .i64 t.At 2⟩ else(run E (E9 Y1 r)).bind fun x=>.ok (x.2,acc++[x.1]):=by
 show(Id 64 (t::r) E acc).bind (fun r=>.ok r)=_
 rw [R.bind_ok]
 unfold Id Ip
 by_cases hf:64≤acc.length
 ·have e:((acc.length:Int)==64)=true:=by rw [beq_iff_eq]; omega
  rw [if_pos hf]
  simp only [e,if_true,Kn,R.pan_bind]
  rfl
 ·have e:((acc.length:Int)==64)=false:=by rw [beq_eq_false_iff_ne]; omega
  have e1:(0:Int)≤1∧1≤((t::r).length:Int):=by simp only [List.length_cons]; omega
  rw [if_neg hf]
  simp only [e,Bool.false_eq_true,if_false,if_pos e1]
  exact Xc (E:=E) (item:=fun s l=>Fc s l E acc) (fun s l=>Asr s E l acc) acc 40 (by unfold Eo; omega) r
theorem Arb (E:Int)(t:Token)(r:List Token)(acc:List Rule)(h:acc.length≤64):I0 (t::r) E acc=if 64≤acc.length then .pan ⟨64,.two .i64 .i64 t.At 2⟩ else(run E (E9 Aap r)).bind fun x=>.ok (acc++[x.1]):=by
 show((Jg 64 (t::r) E acc 3).bind (fun r=>.ok r)).bind (fun r=>.ok r)=_
 rw [R.bind_ok,R.bind_ok]
 unfold Jg Jp
 by_cases hf:64≤acc.length
 ·have e:((acc.length:Int)==64)=true:=by rw [beq_iff_eq]; omega
  rw [if_pos hf]
  simp only [e,if_true,Kn,R.pan_bind]
  rfl
 ·have e:((acc.length:Int)==64)=false:=by rw [beq_eq_false_iff_ne]; omega
  have e1:(0:Int)≤1∧1≤((t::r).length:Int):=by simp only [List.length_cons]; omega
  rw [if_neg hf]
  simp only [e,Bool.false_eq_true,if_false,if_pos e1]
  have q:=(Sk (E:=E) (k:=1) (item:=fun s=>Gl s 3 (r.drop 1) E) acc 80 (by unfold Eo; omega) r (fun s=>Alx s E _)).1
  have ee:Int.toNat 1=1:=rfl
  simp only [ee,List.drop_drop,Nat.reduceAdd] at q ⊢
  exact q
end Go.Am
namespace Go.Am
open Go
set_option linter.unusedVariables false
set_option linter.unusedSimpArgs false
def tup (x:Airspace×List Token):List Token×List Volume×List Sector×List Config×List Segment×List Route×List Airport×List Class×List Rule:=
 (x.2,x.1.Volumes,x.1.Sectors,x.1.Configs,x.1.Segments,x.1.Routes,x.1.Airports,x.1.Classes,x.1.Rules)
def U5 (A:Airspace):Prop:=A.Volumes.length≤64∧A.Sectors.length≤64∧A.Configs.length≤32∧A.Segments.length≤128∧A.Routes.length≤64∧A.Airports.length≤16∧A.Classes.length≤8∧A.Rules.length≤64
section
variable {α β:Type} {E:Int} {t:Token} {r:List Token} {acc:List α} {c:Prop} [Decidable c] {p:Ar→Rd α} {upd:α→Airspace}
theorem Uq {x:R (List Token×List α)}{F:List Token×List α→R (List Token×List Volume×List Sector×List Config×List Segment×List Route×List Airport×List Class×List Rule)}
  (hx:x=if c then .pan ⟨64,.two .i64 .i64 t.At 2⟩ else(run E (E9 p r)).bind fun y=>.ok (y.2,acc++[y.1])) (hF : ∀ y l,F (l,acc++[y])=.ok (tup (upd y,l))) :
  x.bind F=(run E (if decide c=true then .error (t::r,2) else((E9 p).bind fun y=>.pure (upd y)) r)).bind fun z=>.ok (tup z):=by
 subst hx
 by_cases hc:c
 ·rw [if_pos hc,if_pos (decide_eq_true hc)]; rfl
 ·rw [if_neg hc,if_neg (by simpa using hc)]
  unfold Rd.bind
  cases E9 p r with
  | error e=>rfl
  | ok y=>exact hF _ _
theorem Zl {m:Nat}{x:R (List α)}{F:List α→R (List Token×List Volume×List Sector×List Config×List Segment×List Route×List Airport×List Class×List Rule)}
  (hx:x=if c then .pan ⟨64,.two .i64 .i64 t.At 2⟩ else(run E (E9 p r)).bind fun y=>.ok (acc++[y.1])) (hr : ∀ y q,E9 p r=.ok (y,q)→q=r.drop m) (hF : ∀ y,F (acc++[y])=.ok (tup (upd y,r.drop m))) :
  x.bind F=(run E (if decide c=true then .error (t::r,2) else((E9 p).bind fun y=>.pure (upd y)) r)).bind fun z=>.ok (tup z):=by
 subst hx
 by_cases hc:c
 ·rw [if_pos hc,if_pos (decide_eq_true hc)]; rfl
 ·rw [if_neg hc,if_neg (by simpa using hc)]
  unfold Rd.bind
  cases h:E9 p r with
  | error e=>rfl
  | ok y=>
   obtain⟨y,q⟩:=y
   have:=hr y q h
   subst this
   exact hF _
end
theorem Ao3 (r:List Token) : ∀ x q,E9 Y8 r=.ok (x,q)→q=r.drop 8:=
 (Sk (E:=0) (k:=6) (item:=fun s=>F7 s (r.drop 1) 0) ([]:List Class) 80 (by decide) r (fun s=>Amq s 0 _)).2
theorem Apt (r:List Token) : ∀ x q,E9 Aar r=.ok (x,q)→q=r.drop 7:=
 (Sk (E:=0) (k:=5) (item:=fun s=>Gk s 1 (r.drop 1) 0) ([]:List Rule) 80 (by decide) r (fun s=>Al2 s 0 _)).2
theorem Aob (r:List Token) : ∀ x q,E9 Aa3 r=.ok (x,q)→q=r.drop 2:=
 (Sk (E:=0) (k:=0) (item:=fun s=>(Hv s 2).bind fun _=>.ok (D6 2 s [] 0 ⟨0,0⟩)) ([]:List Rule) 80 (by decide) r (fun s=>Sg _)).2
theorem Aoe (r:List Token)(hl : ∀ x ∈ r,0≤x.N) : ∀ x q,E9 Y3 r=.ok (x,q)→q=r.drop 3:=
 (Sk (E:=0) (k:=1) (item:=fun s=>Gi s 4 (r.drop 1) 0) ([]:List Rule) 80 (by decide) r (fun s=>Aml s 0 _ (fun x hx=>hl x (List.mem_of_mem_drop hx)))).2
theorem Ao9 (r:List Token) : ∀ x q,E9 Aap r=.ok (x,q)→q=r.drop 3:=
 (Sk (E:=0) (k:=1) (item:=fun s=>Gl s 3 (r.drop 1) 0) ([]:List Rule) 80 (by decide) r (fun s=>Alx s 0 _)).2
theorem Arn (E:Int)(A:Airspace)(hA:U5 A)(t:Token)(r:List Token)(hl : ∀ x ∈ r,0≤x.N):Ge (t::r) E A.Volumes A.Sectors A.Configs A.Segments A.Routes A.Airports A.Classes A.Rules=(run E (J8 A (t::r))).bind fun x=>.ok (tup x):=by
 obtain⟨hVolumes,hSectors,hConfigs,hSegments,hRoutes,hAirports,hClasses,hRules⟩:=hA
 have e:E0 (t::r) 0=.ok t:=rfl
 have e1:J8 A (t::r)=(if(t.Kind==1)=true then(match O1 t.Text A with | none=>.error (t::r,80) | some (f,p)=>if f=true then .error (t::r,2) else p r) else .error (t::r,80)):=rfl
 rw [e1]
 unfold Ge O1
 rw [e,R.ok_bind]
 by_cases hk:(t.Kind==1)=true
 ·rw [if_pos hk,if_pos hk]
  by_cases hair:(t.Text==[97,105,114,112,111,114,116])=true
  ·rw [if_pos hair,if_pos hair]
   exact Uq (upd:=fun x=>{ A with Airports:=A.Airports++[x] }) (Aq4 E t r A.Volumes A.Airports hAirports) (fun _ _=>rfl)
  rw [if_neg hair,if_neg hair]
  by_cases hcla:(t.Text==[99,108,97,115,115])=true
  ·rw [if_pos hcla,if_pos hcla]
   exact Zl (upd:=fun x=>{ A with Classes:=A.Classes++[x] }) (Asi E t r A.Classes hClasses) (Ao3 r) (fun _=>by simp only [show Int.toNat 1=1 from rfl,List.drop_drop,Nat.reduceAdd]; rfl)
  rw [if_neg hcla,if_neg hcla]
  by_cases hcon:(t.Text==[99,111,110,102,105,103])=true
  ·rw [if_pos hcon,if_pos hcon]
   exact Uq (upd:=fun x=>{ A with Configs:=A.Configs++[x] }) (Aqs E t r A.Volumes A.Configs hConfigs) (fun _ _=>rfl)
  rw [if_neg hcon,if_neg hcon]
  by_cases hcur:(t.Text==[99,117,114,102,101,119])=true
  ·rw [if_pos hcur,if_pos hcur]
   exact Zl (upd:=fun x=>{ A with Rules:=A.Rules++[x] }) (Aqo E t r A.Rules hRules) (Apt r) (fun _=>by simp only [show Int.toNat 1=1 from rfl,List.drop_drop,Nat.reduceAdd]; rfl)
  rw [if_neg hcur,if_neg hcur]
  by_cases hexe:(t.Text==[101,120,101,109,112,116])=true
  ·rw [if_pos hexe,if_pos hexe]
   exact Zl (upd:=fun x=>{ A with Rules:=A.Rules++[x] }) (Ar4 E t r A.Rules hRules) (Aob r) (fun _=>by simp only [show Int.toNat 1=1 from rfl,List.drop_drop,Nat.reduceAdd]; rfl)
  rw [if_neg hexe,if_neg hexe]
  by_cases hlon:(t.Text==[108,111,110,103,101,115,116])=true
  ·rw [if_pos hlon,if_pos hlon]
   exact Zl (upd:=fun x=>{ A with Rules:=A.Rules++[x] }) (Aqg E t r hl A.Rules hRules) (Aoe r hl) (fun _=>by simp only [show Int.toNat 1=1 from rfl,List.drop_drop,Nat.reduceAdd]; rfl)
  rw [if_neg hlon,if_neg hlon]
  by_cases hrou:(t.Text==[114,111,117,116,101])=true
  ·rw [if_pos hrou,if_pos hrou]
   exact Uq (upd:=fun x=>{ A with Routes:=A.Routes++[x] }) (Arq E t r A.Volumes A.Routes hRoutes) (fun _ _=>rfl)
  rw [if_neg hrou,if_neg hrou]
  by_cases hsec:(t.Text==[115,101,99,116,111,114])=true
  ·rw [if_pos hsec,if_pos hsec]
   exact Uq (upd:=fun x=>{ A with Sectors:=A.Sectors++[x] }) (Asc E t r A.Volumes A.Sectors hSectors) (fun _ _=>rfl)
  rw [if_neg hsec,if_neg hsec]
  by_cases hseg:(t.Text==[115,101,103,109,101,110,116])=true
  ·rw [if_pos hseg,if_pos hseg]
   exact Uq (upd:=fun x=>{ A with Segments:=A.Segments++[x] }) (Aqr E t r A.Volumes A.Segments hSegments) (fun _ _=>rfl)
  rw [if_neg hseg,if_neg hseg]
  by_cases hvol:(t.Text==[118,111,108,117,109,101])=true
  ·rw [if_pos hvol,if_pos hvol]
   exact Uq (upd:=fun x=>{ A with Volumes:=A.Volumes++[x] }) (Ar0 E t r A.Volumes hVolumes) (fun _ _=>rfl)
  rw [if_neg hvol,if_neg hvol]
  by_cases hwei:(t.Text==[119,101,105,103,104,116])=true
  ·rw [if_pos hwei,if_pos hwei]
   exact Zl (upd:=fun x=>{ A with Rules:=A.Rules++[x] }) (Arb E t r A.Rules hRules) (Ao9 r) (fun _=>by simp only [show Int.toNat 1=1 from rfl,List.drop_drop,Nat.reduceAdd]; rfl)
  rw [if_neg hwei,if_neg hwei]
  unfold Fa
  rw [Aka]; rfl
 ·rw [if_neg hk,if_neg hk]
  unfold Fa
  rw [Aka]; rfl
end Go.Am
namespace Go.Am
open Go
set_option linter.unusedVariables false
set_option linter.unusedSimpArgs false
def Km {α:Type}(p:Rd α):Prop := ∀ l a q,p l=.ok (a,q)→q <:+ l
section
variable {α β:Type}
theorem Ck {p:Rd α}{f:α→Rd β}(hp:Km p)(hf : ∀ a,Km (f a)):Km (p.bind f):=fun l b q h=>by
 obtain⟨a,m,h1,h2⟩:=Acg h
 exact(hf a m b q h2).trans (hp l a m h1)
theorem F4 (a:α):Km (Rd.pure a):=fun l b q h=>by cases h; exact List.suffix_refl _
theorem Ao6 (e:Int):Km (Rd.fail e:Rd α):=fun l b q h=>nomatch h
theorem Ach (q:Token→Bool):Km (Oq q):=fun l a r h=>by
 obtain⟨rfl,_⟩:=Aeu h
 exact List.suffix_cons _ _
theorem Aid (k:Int)(w:Ar):Km (P0 k w):=fun l a r h=>by
 cases l with
 | nil=>cases h; exact List.suffix_refl _
 | cons t l=>cases h; exact List.suffix_refl _
theorem Qc:Km Mq:=Ck (Ach _) fun _=>F4 _
theorem L6 (k:Int)(w:Ar):Km (Lt k w):=Ck (Ach _) fun _=>F4 _
theorem Pw (a b c:Int):Km (Nn a b c):=Ck (Ach _) fun _=>F4 _
theorem Afz:Km O5:=Ck (Pw _ _ _) fun _=>Ck (L6 _ _) fun _=>Ck (Pw _ _ _) fun _=>F4 _
theorem R5 {p:Rd α}(hp:Km p) : ∀ (n:Nat) (acc:List α),Km (Em p n acc)
 | 0,acc=>by
  rw [Em]
  refine Ck hp fun a=>Ck (Aid _ _) fun b=>?_
  cases b
  ·exact F4 _
  ·exact Ao6 _
 | n+1,acc=>by
  rw [Em]
  refine Ck hp fun a=>Ck (Aid _ _) fun b=>?_
  cases b
  ·exact F4 _
  ·exact Ck (L6 _ _) fun _=>R5 hp n _
theorem Af8 (w:Ar):Km (Rw w):=Ck (Aid _ _) fun b=>by
 cases b
 ·exact F4 _
 ·exact Ck (L6 _ _) fun _=>R5 Afz _ _
theorem Apa:Km Sn:=Ck (L6 _ _) fun _=>Ck Qc fun _=>Ck (Pw _ _ _) fun _=>F4 _
theorem Aqc (s:Ar):Km (Y1 s):=Ck (Af8 _) fun _=>F4 _
theorem Aq1 (s:Ar):Km (Y7 s):=Ck (L6 _ _) fun _=>Ck (R5 Qc _ _) fun _=>Ck (L6 _ _) fun _=>Ck (Pw _ _ _) fun _=>Ck (L6 _ _) fun _=>Ck (Pw _ _ _) fun _=>F4 _
theorem Aq5 (s:Ar):Km (Ym s):=Ck (L6 _ _) fun _=>Ck (R5 Qc _ _) fun _=>F4 _
theorem Arv (s:Ar):Km (Yy s):=Ck (L6 _ _) fun _=>Ck Qc fun _=>Ck (L6 _ _) fun _=>Ck (Pw _ _ _) fun _=>Ck (Af8 _) fun _=>F4 _
theorem Arx (s:Ar):Km (Yp s):=Ck (L6 _ _) fun _=>Ck Qc fun _=>Ck (L6 _ _) fun _=>Ck Qc fun _=>Ck (L6 _ _) fun _=>Ck (R5 Qc _ _) fun _=>F4 _
theorem Ars (s:Ar):Km (Yv s):=Ck (R5 Apa _ _) fun _=>F4 _
theorem Aq6 (s:Ar):Km (Y8 s):=Ck (L6 _ _) fun _=>Ck (Pw _ _ _) fun _=>Ck (L6 _ _) fun _=>Ck (Pw _ _ _) fun _=>Ck (L6 _ _) fun _=>Ck (Pw _ _ _) fun _=>F4 _
theorem Aqu (s:Ar):Km (Aar s):=Ck (L6 _ _) fun _=>Ck Qc fun _=>Ck Afz fun _=>F4 _
theorem Arp (s:Ar):Km (Aa3 s):=F4 _
theorem Ari (s:Ar):Km (Aap s):=Ck (Pw _ _ _) fun _=>F4 _
theorem Aqb (s:Ar):Km (Y3 s):=Ck (Pw _ _ _) fun _=>F4 _
theorem Ar6 {p:Ar→Rd α}(hp : ∀ s,Km (p s)):Km (E9 p):=Ck Qc fun s=>Ck (hp s) fun _=>Ck (L6 _ _) fun _=>F4 _
end
theorem C4 {c:Prop}[Decidable c]{α:Type}{a b:Option α}{y:α}(h:(if c then a else b)=some y):a=some y∨b=some y:=by
 by_cases hc:c
 ·rw [if_pos hc] at h; exact .inl h
 ·rw [if_neg hc] at h; exact .inr h
theorem Aro {w:Ar}{A:Airspace}{f:Bool}{p:Rd Airspace}(h:O1 w A=some (f,p)):Km p∧(U5 A→f=false → ∀ l B q,p l=.ok (B,q)→U5 B):=by
 unfold O1 at h
 refine(C4 h).elim (fun h=>?_) (fun h=>(C4 h).elim (fun h=>?_) (fun h=>(C4 h).elim (fun h=>?_) (fun h=>(C4 h).elim (fun h=>?_) (fun h=>(C4 h).elim (fun h=>?_) (fun h=>(C4 h).elim (fun h=>?_) (fun h=>(C4 h).elim (fun h=>?_) (fun h=>(C4 h).elim (fun h=>?_) (fun h=>(C4 h).elim (fun h=>?_) (fun h=>(C4 h).elim (fun h=>?_) (fun h=>(C4 h).elim (fun h=>?_) (fun h=>nomatch h)))))))))))
 all_goals
  cases h
  refine⟨Ck (Ar6 (by first | exact Ars | exact Aq6 | exact Aq5 | exact Aqu | exact Arp | exact Aqb | exact Arx | exact Aq1 | exact Arv | exact Aqc | exact Ari)) fun _=>F4 _,fun hF hf l B q hB=>?_⟩
  obtain⟨x,m,_,h2⟩:=Acg hB
  cases h2
  obtain⟨h1,h2,h3,h4,h5,h6,h7,h8⟩:=hF
  have hf:=of_decide_eq_false hf
  refine⟨?_,?_,?_,?_,?_,?_,?_,?_⟩ <;> first | assumption | (simp only [List.length_append,List.length_singleton]; omega)
theorem Ag0 {A:Airspace}{t:Token}{r:List Token}{B:Airspace}{q:List Token}(hA:U5 A)(h:J8 A (t::r)=.ok (B,q)):U5 B∧q <:+ r:=by
 simp only [J8] at h
 split at h
 ·cases hi:O1 t.Text A with
  | none=>rw [hi] at h; cases h
  | some x=>
   obtain⟨f,p⟩:=x
   rw [hi] at h
   simp only at h
   cases f
   ·obtain⟨h1,h2⟩:=Aro hi
    exact⟨h2 hA rfl r B q h,h1 r B q h⟩
   ·cases h
 ·cases h
def Oo:Nat→Airspace→List Token→Except (List Token×Int) Airspace
 | _,A,[]=>.ok A
 | 0,A,t::r=>.error (t::r,0)
 | n+1,A,t::r=>match J8 A (t::r) with
  | .error e=>.error e
  | .ok (B,q)=>Oo n B q
def Qr:Airspace:={ Volumes:=[],Sectors:=[],Configs:=[],Segments:=[],Routes:=[],Airports:=[],Classes:=[],Rules:=[] }
def Pa (l:List Token):Except (List Token×Int) Airspace:=Oo l.length Qr l
def ps (A:Airspace)(l:List Token):=(l,A.Airports,A.Classes,A.Configs,A.Rules,A.Routes,A.Sectors,A.Segments,A.Volumes)
theorem Ala (src:Ar) : ∀ (n:Nat) (A:Airspace) (l:List Token),l.length≤n→U5 A→(∀ x ∈ l,0≤x.N) →
  loop (un9 fun fL l l1 l2 l3 l4 l5 l6 l7=>J9 src fL l l1 l2 l3 l4 l5 l6 l7) (ps A l)=match Oo n A l with
   | .ok B=>.ok (ps B [])
   | .error (q,e)=>.pan ⟨64,.two .i64 .i64 (Afe (src.length:Int) q) e⟩:=by
 intro n
 induction n with
 | zero=>
  intro A l hl hA hN
  have:l=[]:=List.length_eq_zero_iff.1 (by omega)
  subst this
  rw [Uy]; rfl
 | succ n ih=>
  intro A l hl hA hN
  rw [Uy]
  cases l with
  | nil=>rfl
  | cons t r=>
   have e1:((t::r).length:Int) > 0:=by simp only [List.length_cons]; omega
   have hb:(un9 fun fL l l1 l2 l3 l4 l5 l6 l7=>J9 src fL l l1 l2 l3 l4 l5 l6 l7) (ps A (t::r))=(run (src.length:Int) (J8 A (t::r))).bind fun x=>.ok (.inl (ps x.1 x.2)):=by
    show J9 src (t::r) A.Airports A.Classes A.Configs A.Rules A.Routes A.Sectors A.Segments A.Volumes=_
    unfold J9
    rw [if_pos e1,Arn _ A hA t r fun x hx=>hN x (List.mem_cons_of_mem _ hx),R.bind_assoc]
    rfl
   rw [hb,Oo]
   cases hd:J8 A (t::r) with
   | error e=>rfl
   | ok y=>
    obtain⟨B,q⟩:=y
    obtain⟨hB,hq⟩:=Ag0 hA hd
    exact ih B q (by have:=hq.length_le; simp only [List.length_cons] at hl; omega) hB fun x hx=>hN x (List.mem_cons_of_mem _ (hq.subset hx))
def Att (E:Int):Except (List Token×Int) Airspace→Airspace×Int×Int
 | .ok A=>(A,0,0)
 | .error (q,e)=>(Qr,Afe E q,e)
def K8 (s:Ar):Airspace×Int×Int:=if(Hi s).2.2=0 then Att (s.length:Int) (Pa (Hi s).1) else(Qr,(Hi s).2.1,(Hi s).2.2)
theorem Ans {s:Ar}(hN : ∀ x ∈ (Hi s).1,0≤x.N):I1 s=.ok (K8 s):=by
 unfold I1 R3 K8
 rw [Aue,show(R.ok (Hi s)).np=R.ok (Hi s) from rfl,R.ok_bind]
 by_cases h:(Hi s).2.2=0
 ·rw [if_pos h,show((Hi s).2.2 != 0)=false by rw [h]; rfl]
  have:=Ala s _ Qr (Hi s).1 (Nat.le_refl _) ⟨by decide,by decide,by decide,by decide,by decide,by decide,by decide,by decide⟩ hN
  simp only [Bool.false_eq_true,if_false]
  rw [show((Hi s).1,([]:List Airport),([]:List Class),([]:List Config),([]:List Rule),([]:List Route),([]:List Sector),([]:List Segment),([]:List Volume))=ps Qr (Hi s).1 from rfl,this]
  unfold Pa
  cases Oo (Hi s).1.length Qr (Hi s).1 with
  | ok B=>rfl
  | error x=>rfl
 ·rw [if_neg h,if_pos (by simpa using h)]; rfl
end Go.Am
namespace Go.Am
open Go
set_option linter.unusedVariables false
set_option linter.unusedSimpArgs false
section
variable {E:Int} {L:List Token} (hL:L.length≤65536)
theorem Qb {α:Type}(q:Token→Bool)(f:Token→α)(t:Token)(r:List Token):((Oq q).bind fun t=>.pure (f t)) (t::r)=if q t=true then .ok (f t,r) else .error (t::r,80):=by
 by_cases h:q t=true
 ·rw [if_pos h]; simp only [Rd.bind,Oq,h,if_true]; rfl
 ·rw [if_neg h]; simp only [Rd.bind,Oq,h]; rfl
theorem Adq (k:Int)(w:Ar)(t:Token)(r:List Token):Lt k w (t::r)=if Lh k w t=true then .ok ((),r) else .error (t::r,80):=Qb _ _ t r
theorem Alj (t:Token)(r:List Token):Mq (t::r)=if(t.Kind==1)=true then .ok (t.Text,r) else .error (t::r,80):=Qb _ _ t r
theorem Af7 (lo hi st:Int)(t:Token)(r:List Token):Nn lo hi st (t::r)=if Ac7 lo hi st t=true then .ok (t.N,r) else .error (t::r,80):=Qb _ _ t r
include hL
omit hL
include hL
end
end Go.Am
namespace Go.Am
open Go
set_option linter.unusedVariables false
set_option linter.unusedSimpArgs false
end Go.Am
namespace Go.Am
open Go
set_option linter.unusedVariables false
set_option linter.unusedSimpArgs false
set_option linter.unusedSectionVars false
end Go.Am
namespace Go.Am
open Go
set_option linter.unusedVariables false
set_option linter.unusedSimpArgs false
theorem Ara:U5 Qr:=⟨by decide,by decide,by decide,by decide,by decide,by decide,by decide,by decide⟩
end Go.Am
namespace Go.Am
open Go
set_option linter.unusedVariables false
set_option linter.unusedSimpArgs false
theorem Avv {c:UInt8}{s:Ar}{t:Token}{k:Nat}(h:tk c s=some (some t,k)):0≤t.N:=by
 unfold tk at h
 repeat' split at h
 all_goals first
  | (simp only [Option.some.injEq,Prod.mk.injEq,reduceCtorEq,false_and] at h; done)
  | (simp only [Option.some.injEq,Prod.mk.injEq] at h; obtain⟨rfl,_⟩:=h; simp; done)
  | (exfalso; exact nomatch h)
theorem Agi : ∀ (n:Nat) (s:Ar) (p:Nat) (l:List Token),s.length≤n→Mi s p=.ok l→l.length≤s.length ∧ ∀ t ∈ l,0≤t.N
 | n,[],p,l,_,h=>by rw [Ac9] at h; cases h; exact⟨Nat.le_refl _,fun _ h=>nomatch h⟩
 | 0,_::_,_,_,hn,_=>by simp at hn
 | n+1,c::s,p,l,hn,h=>by
  rw [Vf] at h
  cases ht:tk c s with
  | none=>rw [ht] at h; cases h
  | some x=>
   obtain⟨o,k⟩:=x
   rw [ht] at h
   simp only at h
   cases hr:Mi (s.drop k) (p+1+k) with
   | wrong e=>rw [hr] at h; cases h
   | ok l'=>
    rw [hr] at h
    simp only [List.length_cons] at hn
    obtain⟨h1,h2⟩:=Agi n (s.drop k) (p+1+k) l' (by rw [List.length_drop]; omega) hr
    cases h
    rw [List.length_drop] at h1
    cases o with
    | none=>exact⟨by simp; omega,h2⟩
    | some t=>
     refine⟨by simp; omega,fun u hu=>?_⟩
     rcases List.mem_cons.1 hu with rfl | hu
     ·show 0≤t.N
      exact Avv ht
     ·exact h2 u hu
theorem Ajk (s:Ar):(Hi s).1.length≤65536∧(Hi s).1.length≤s.length ∧ ∀ t ∈ (Hi s).1,0≤t.N:=by
 unfold Hi
 split
 ·cases h:Mi s 0 with
  | wrong e=>exact⟨Nat.zero_le _,Nat.zero_le _,fun _ h=>nomatch h⟩
  | ok l=>
   obtain⟨h1,h2⟩:=Agi _ s 0 l (Nat.le_refl _) h
   exact⟨Nat.le_trans h1 ‹_›,h1,h2⟩
 ·exact⟨Nat.zero_le _,Nat.zero_le _,fun _ h=>nomatch h⟩
theorem Adk (s:Ar):I1 s=.ok (K8 s):=Ans (Ajk s).2.2
theorem Kx {α β:Type}(body:Nat→α→Unit→R (Unit ⊕ β))(L:List α)(h : ∀ j a,L[j]? = some a→body j a ()=.ok (.inl ())) : ∀ (l:List α) (k:Nat),L.drop k=l→each body k l ()=.ok (.inl ())
 | [],k,_=>rfl
 | a::l,k,e=>by
  rw [each,h k a (by have:=congrArg (·[0]?) e; simpa using this),R.ok_bind]
  exact Kx body L h l (k+1) (by have:=congrArg List.tail e; simpa using this)
theorem Qm {α:Type}{L:List α}{j:Nat}{a:α}(h:L[j]? = some a):E0 L (j:Int)=.ok a:=by
 unfold E0
 rw [if_pos (by omega)]
 simp only [Int.toNat_natCast,h]
theorem Aer (l:List Span):Ni l l=.ok true:=by
 unfold Ni
 rw [if_neg (by simp),Kx _ l (fun j a h=>by simp only [M4,Qm h,R.ok_bind,beq_self_eq_true,Bool.and_self,if_true]) l 0 rfl]; rfl
theorem Aan (l:List Ar):K5 l l=.ok true:=by
 unfold K5
 rw [if_neg (by simp),Kx _ l (fun j a h=>by simp only [Ms,Qm h,R.ok_bind,beq_self_eq_true,if_true]) l 0 rfl]; rfl
theorem Abu (l:List Int):If l l=.ok true:=by
 unfold If
 rw [if_neg (by simp),Kx _ l (fun j a h=>by simp only [N0,Qm h,R.ok_bind,bne_self_eq_false,Bool.false_eq_true,if_false]) l 0 rfl]; rfl
theorem Yt (a:Airspace):N4 a a=.ok true:=by
 unfold N4
 rw [if_neg (by simp)]
 rw [Kx _ a.Volumes (fun j x h=>by simp only [Qq,Qm h,R.ok_bind,beq_self_eq_true,Bool.not_true,Bool.false_eq_true,if_false,Aer,Qt]) a.Volumes 0 rfl]
 simp only [R.ok_bind,Dz]
 rw [Kx _ a.Sectors (fun j x h=>by simp only [Ov,Qm h,R.ok_bind,beq_self_eq_true,bne_self_eq_false,Bool.or_self,Bool.not_true,Bool.false_eq_true,if_false,Aan,Abu]) a.Sectors 0 rfl]
 simp only [R.ok_bind,Dz]
 rw [Kx _ a.Configs (fun j x h=>by simp only [Nm,Qm h,R.ok_bind,beq_self_eq_true,bne_self_eq_false,Bool.or_self,Bool.not_true,Bool.false_eq_true,if_false,Aan,Abu]) a.Configs 0 rfl]
 simp only [R.ok_bind,Dz]
 rw [Kx _ a.Segments (fun j x h=>by simp only [Ls,Qm h,R.ok_bind,beq_self_eq_true,bne_self_eq_false,Bool.or_self,Bool.not_true,Bool.false_eq_true,if_false,Aer]) a.Segments 0 rfl]
 simp only [R.ok_bind,Dz]
 rw [Kx _ a.Routes (fun j x h=>by simp only [Kj,Qm h,R.ok_bind,beq_self_eq_true,bne_self_eq_false,Bool.or_self,Bool.not_true,Bool.false_eq_true,if_false,Aan,Abu]) a.Routes 0 rfl]
 simp only [R.ok_bind,Dz]
 rw [Kx _ a.Airports (fun j x h=>by
  simp only [I7,Qm h,R.ok_bind,beq_self_eq_true,bne_self_eq_false,Bool.or_self,Bool.not_true,Bool.false_eq_true,if_false]
  rw [Kx _ x.Modes (fun j y h=>by simp only [Qi,Qm h,R.ok_bind,beq_self_eq_true,Bool.and_self,if_true]) x.Modes 0 rfl]; rfl) a.Airports 0 rfl]
 simp only [R.ok_bind,Dz]
 rw [Kx _ a.Classes (fun j x h=>by simp only [H6,Qm h,R.ok_bind,beq_self_eq_true,Bool.and_self,if_true]) a.Classes 0 rfl]
 simp only [R.ok_bind,Dz]
 rw [Kx _ a.Rules (fun j x h=>by simp only [G8,Qm h,R.ok_bind,beq_self_eq_true,Bool.and_self,if_true]) a.Rules 0 rfl]
 simp only [R.ok_bind,Dz]
set_option maxRecDepth 100000 in
theorem Aop : Tw = .ok true := by
 unfold Tw
 simp only [Adk, R.ok_bind]
 decide +kernel
end Go.Am
namespace Go.Am
open Go
set_option linter.unusedVariables false
set_option linter.unusedSimpArgs false
def S1 (t:Token):Token:={ t with At:=0 }
def Avd {α:Type}:PR α→PR α
 | .ok (a,r)=>.ok (a,r.map S1)
 | .error (r,e)=>.error (r.map S1,e)
def K0 {α:Type}(p:Rd α):Prop := ∀ l,p (l.map S1)=Avd (p l)
section
variable {α β:Type}
theorem Cr {p:Rd α}{f:α→Rd β}(hp:K0 p)(hf : ∀ a,K0 (f a)):K0 (p.bind f):=fun l=>by
 unfold Rd.bind
 rw [hp l]
 cases h:p l with
 | error x=>rfl
 | ok y=>exact hf y.1 y.2
theorem Ih (a:α):K0 (Rd.pure a):=fun l=>rfl
theorem Apq (e:Int):K0 (Rd.fail e:Rd α):=fun l=>rfl
theorem Afd {q:Token→Bool}{f:Token→α}(hq : ∀ t,q (S1 t)=q t)(hf : ∀ t,f (S1 t)=f t):K0 ((Oq q).bind fun t=>.pure (f t)):=fun l=>by
 cases l with
 | nil=>rfl
 | cons t l=>
  rw [List.map_cons,Qb,Qb,hq,hf]
  split <;> rfl
theorem Ahi (k:Int)(w:Ar):K0 (P0 k w):=fun l=>by cases l <;> rfl
theorem Qd:K0 Mq:=Afd (fun _=>rfl) fun _=>rfl
theorem L9 (k:Int)(w:Ar):K0 (Lt k w):=Afd (fun _=>rfl) fun _=>rfl
theorem Ps (a b c:Int):K0 (Nn a b c):=Afd (fun _=>rfl) fun _=>rfl
theorem Afy:K0 O5:=Cr (Ps _ _ _) fun _=>Cr (L9 _ _) fun _=>Cr (Ps _ _ _) fun _=>Ih _
theorem Sf {p:Rd α}(hp:K0 p) : ∀ (n:Nat) (acc:List α),K0 (Em p n acc)
 | 0,acc=>by
  rw [Em]
  refine Cr hp fun a=>Cr (Ahi _ _) fun b=>?_
  cases b
  ·exact Ih _
  ·exact Apq _
 | n+1,acc=>by
  rw [Em]
  refine Cr hp fun a=>Cr (Ahi _ _) fun b=>?_
  cases b
  ·exact Ih _
  ·exact Cr (L9 _ _) fun _=>Sf hp n _
theorem Af3 (w:Ar):K0 (Rw w):=Cr (Ahi _ _) fun b=>by
 cases b
 ·exact Ih _
 ·exact Cr (L9 _ _) fun _=>Sf Afy _ _
theorem Aow:K0 Sn:=Cr (L9 _ _) fun _=>Cr Qd fun _=>Cr (Ps _ _ _) fun _=>Ih _
theorem Aq7 (s:Ar):K0 (Y1 s):=Cr (Af3 _) fun _=>Ih _
theorem Asd (s:Ar):K0 (Y7 s):=Cr (L9 _ _) fun _=>Cr (Sf Qd _ _) fun _=>Cr (L9 _ _) fun _=>Cr (Ps _ _ _) fun _=>Cr (L9 _ _) fun _=>Cr (Ps _ _ _) fun _=>Ih _
theorem Ar1 (s:Ar):K0 (Ym s):=Cr (L9 _ _) fun _=>Cr (Sf Qd _ _) fun _=>Ih _
theorem Ar2 (s:Ar):K0 (Yy s):=Cr (L9 _ _) fun _=>Cr Qd fun _=>Cr (L9 _ _) fun _=>Cr (Ps _ _ _) fun _=>Cr (Af3 _) fun _=>Ih _
theorem Art (s:Ar):K0 (Yp s):=Cr (L9 _ _) fun _=>Cr Qd fun _=>Cr (L9 _ _) fun _=>Cr Qd fun _=>Cr (L9 _ _) fun _=>Cr (Sf Qd _ _) fun _=>Ih _
theorem Ar8 (s:Ar):K0 (Yv s):=Cr (Sf Aow _ _) fun _=>Ih _
theorem Aqm (s:Ar):K0 (Y8 s):=Cr (L9 _ _) fun _=>Cr (Ps _ _ _) fun _=>Cr (L9 _ _) fun _=>Cr (Ps _ _ _) fun _=>Cr (L9 _ _) fun _=>Cr (Ps _ _ _) fun _=>Ih _
theorem Aq3 (s:Ar):K0 (Aar s):=Cr (L9 _ _) fun _=>Cr Qd fun _=>Cr Afy fun _=>Ih _
theorem Asf (s:Ar):K0 (Aa3 s):=Ih _
theorem Aqa (s:Ar):K0 (Aap s):=Cr (Ps _ _ _) fun _=>Ih _
theorem Are (s:Ar):K0 (Y3 s):=Cr (Ps _ _ _) fun _=>Ih _
theorem Arc {p:Ar→Rd α}(hp : ∀ s,K0 (p s)):K0 (E9 p):=Cr Qd fun s=>Cr (hp s) fun _=>Cr (L9 _ _) fun _=>Ih _
end
theorem Anu {w:Ar}{A:Airspace}{f:Bool}{p:Rd Airspace}(h:O1 w A=some (f,p)):K0 p:=by
 unfold O1 at h
 refine(C4 h).elim (fun h=>?_) (fun h=>(C4 h).elim (fun h=>?_) (fun h=>(C4 h).elim (fun h=>?_) (fun h=>(C4 h).elim (fun h=>?_) (fun h=>(C4 h).elim (fun h=>?_) (fun h=>(C4 h).elim (fun h=>?_) (fun h=>(C4 h).elim (fun h=>?_) (fun h=>(C4 h).elim (fun h=>?_) (fun h=>(C4 h).elim (fun h=>?_) (fun h=>(C4 h).elim (fun h=>?_) (fun h=>(C4 h).elim (fun h=>?_) (fun h=>nomatch h)))))))))))
 all_goals
  cases h
  exact Cr (Arc (by first | exact Ar8 | exact Aqm | exact Ar1 | exact Aq3 | exact Asf | exact Are | exact Art | exact Asd | exact Ar2 | exact Aq7 | exact Aqa)) fun _=>Ih _
theorem Aok (A:Airspace):K0 (J8 A):=fun l=>by
 cases l with
 | nil=>rfl
 | cons t l=>
  show J8 A (S1 t::l.map S1)=_
  simp only [J8,show(S1 t).Kind=t.Kind from rfl,show(S1 t).Text=t.Text from rfl]
  split
  ·cases h:O1 t.Text A with
   | none=>rfl
   | some x=>
    obtain⟨f,p⟩:=x
    cases f
    ·exact Anu h l
    ·rfl
  ·rfl
def Alb:Except (List Token×Int) Airspace→Except (List Token×Int) Airspace
 | .ok a=>.ok a
 | .error (r,e)=>.error (r.map S1,e)
theorem Akt : ∀ (n:Nat) (A:Airspace) (l:List Token),Oo n A (l.map S1)=Alb (Oo n A l)
 | 0,A,[]=>rfl
 | _+1,A,[]=>rfl
 | 0,A,t::r=>rfl
 | n+1,A,t::r=>by
  have h:=Aok A (t::r)
  rw [List.map_cons] at h ⊢
  rw [Oo,Oo,h]
  cases hd:J8 A (t::r) with
  | error e=>rfl
  | ok y=>exact Akt n y.1 y.2
theorem Afo (l:List Token):Pa (l.map S1)=Alb (Pa l):=by
 unfold Pa
 rw [List.length_map]
 exact Akt _ _ _
end Go.Am
namespace Go.Am
open Go
set_option linter.unusedVariables false
set_option linter.unusedSimpArgs false
def Ag3 {α β:Type}(q:α→β→Bool):List α→List β→Bool
 | [],[]=>true
 | a::l,b::m=>q a b&&Ag3 q l m
 | _,_=>false
def key (a b:Token):Bool:=(a.Kind==b.Kind)&&(a.Text==b.Text)&&(a.N==b.N)
def same (a b:List Token):Bool:=Ag3 key a b
def equal (a b:List Token):Bool:=same a b&&Ag3 (fun x y:Token=>x.At==y.At) a b
def Fv (t:Token):Ar:=if t.Kind==2 then Lib.decDigits t.N.toNat else t.Text
def Afh (l:List Token):Ar×Int:=if l.all Cw then(Lib.join (l.map Fv) [32],0) else([],70)
theorem Abs {t:Token}(h:Cw t=true)(hk:(t.Kind==2)=true):t.Text=[]∧0≤t.N∧t.N≤1099511627776:=by
 unfold Cw at h
 have:t.Kind=2:=eq_of_beq hk
 rw [this] at h
 rw [if_neg (by decide),if_pos (by decide)] at h
 simp at h
 exact⟨h.1.1,h.1.2,h.2⟩
theorem Apo {n:Int}(h:0≤n):Lib.itoa n=Lib.decDigits n.toNat:=by
 have:=Aih n.toNat
 rwa [show((n.toNat:Nat):Int)=n by omega] at this
theorem Afv : ∀ (l:List Token) (pre:List Ar) (k:Nat),pre.length=k→(∀ t ∈ l,t.N≤9223372036854775807) →
  each (fun j a=>fun words=>Q0 j a words) k l (pre++List.replicate l.length [])=.ok (if l.all Cw then .inl (pre++l.map Fv) else .inr ([],70))
 | [],pre,k,_,_=>by simp
 | t::l,pre,k,hk,hn=>by
  rw [Vk]
  unfold Q0
  rw [Aix,R.ok_bind,List.all_cons]
  cases hv:Cw t
  ·rfl
  ·simp only [if_true,Bool.true_and]
   have e:(pre++List.replicate (t::l).length ([]:Ar))[k]? = some []:=by
    rw [List.getElem?_append_right (by omega),hk]; simp
   have e2 : ∀ w:Ar,(pre++List.replicate (t::l).length ([]:Ar)).set (k:Int).toNat w=(pre++[w])++List.replicate l.length []:=by
    intro w
    rw [Int.toNat_natCast,List.set_append_right _ _ (by omega),hk,List.length_cons,List.replicate_succ]
    simp
   have ih:=fun w=>Afv l (pre++[w]) (k+1) (by simp [hk]) (fun t ht=>hn t (List.mem_cons_of_mem _ ht))
   cases hkd:(t.Kind==2)
   ·simp only [Bool.false_eq_true,if_false,Aci e,R.ok_bind]
    rw [e2]
    refine(ih _).trans ?_
    simp [Fv,hkd]
   ·obtain⟨_,h1,h2⟩:=Abs hv hkd
    simp only [if_true]
    unfold strconv_Itoa
    rw [if_pos ⟨by omega,by omega⟩,Apo h1]
    simp only [Aci e,R.ok_bind]
    rw [e2]
    refine(ih _).trans ?_
    simp [Fv,hkd]
def Apy (l:List Token):Prop:=l.length≤1048576∧(Lib.join (l.map Fv) [32]).length≤140737488355328 ∧ ∀ t ∈ l,t.N≤9223372036854775807
theorem Aq2 (l:List Token)(h:Apy l):Rh l=.ok (Afh l):=by
 unfold Rh Afh
 obtain⟨h1,h2,h3⟩:=h
 rw [if_pos ⟨by omega,by omega,by simp only [Int.toNat_natCast,Eo]; omega⟩,Int.toNat_natCast]
 have:=Afv l [] 0 rfl h3
 rw [List.nil_append,List.nil_append] at this
 rw [this]
 cases l.all Cw
 ·rfl
 ·simp only [if_true,R.ok_bind]
  unfold strings_Join
  simp only [Dz]
  rw [if_pos h2]
  rfl
end Go.Am
namespace Go.Am
open Go
set_option linter.unusedVariables false
set_option linter.unusedSimpArgs false
def Z9 (l:List Token):Nat:=(l.map fun t=>t.Text.length).sum
theorem Apz : ∀ (k u:Nat),u<10 ^ (k+1)→Lib.nDigits u≤k+1
 | 0,u,h=>by rw [Lib.nDigits_small (by simpa using h)]; exact Nat.le_refl _
 | k+1,u,h=>by
  by_cases h1:u<10
  ·rw [Lib.nDigits_small h1]; omega
  ·rw [Lib.nDigits_big h1]
   have:=Apz k (u / 10) (by rw [Nat.pow_succ] at h; omega)
   omega
theorem An6 {t:Token}(h:t.N≤9223372036854775807):(Fv t).length≤t.Text.length+20:=by
 unfold Fv
 split
 ·rw [Lib.decDigits_length]
  have:=Apz 19 t.N.toNat (by rw [show(10:Nat) ^ (19+1)=100000000000000000000 from rfl]; omega)
  omega
 ·omega
theorem Agy (sep:Ar) : ∀ l:List Ar,(Lib.joinTail sep l).length=sep.length * l.length+(l.map List.length).sum
 | []=>by simp [Lib.joinTail]
 | a::l=>by
  have ih:=Agy sep l
  have e:Lib.joinTail sep (a::l)=sep++a++Lib.joinTail sep l:=by simp [Lib.joinTail]
  rw [e,List.length_append,List.length_append,ih,List.map_cons,List.sum_cons,List.length_cons,Nat.mul_add]
  omega
theorem Asa (l:List Ar):(Lib.join l [32]).length≤l.length+(l.map List.length).sum:=by
 cases l with
 | nil=>simp [Lib.join_nil]
 | cons a l=>
  have e1:([32]:Ar).length=1:=rfl
  have e2:(a::l).length=l.length+1:=rfl
  rw [Lib.join_cons,List.length_append,Agy,List.map_cons,List.sum_cons,e1]
  omega
theorem Af1 : ∀ (l:List Token),(∀ t ∈ l,t.N≤9223372036854775807)→((l.map Fv).map List.length).sum≤Z9 l+20 * l.length
 | [],_=>by simp [Z9]
 | t::l,h=>by
  have ih:=Af1 l fun t ht=>h t (List.mem_cons_of_mem _ ht)
  have:=An6 (h t (List.mem_cons_self ..))
  unfold Z9 at ih ⊢
  simp only [List.map_cons,List.sum_cons,List.length_cons]
  omega
theorem Ago (l:List Token)(h : ∀ t ∈ l,t.N≤9223372036854775807):(Lib.join (l.map Fv) [32]).length≤Z9 l+21 * l.length:=by
 have h1:=Asa (l.map Fv)
 have h2:=Af1 l h
 rw [List.length_map] at h1
 omega
end Go.Am
namespace Go.Am
open Go
set_option linter.unusedVariables false
set_option linter.unusedSimpArgs false
theorem Ae3 {α:Type}{q:α→Bool}{d:α}(hd:q d=false)(m:List α) : ∀ s:List α,(s++d::m).takeWhile q=s.takeWhile q
 | []=>by rw [List.nil_append,List.takeWhile_cons,hd]; rfl
 | a::s=>by
  rw [List.cons_append,List.takeWhile_cons,List.takeWhile_cons,Ae3 hd m s]
theorem Aoh {α:Type}{s m:List α}{k:Nat}(h:k≤s.length):(s++m).drop k=s.drop k++m:=by
 rw [List.drop_append_of_le_length h]
def Lx.pre (l:List Token):Lx→Lx
 | .ok r=>.ok (l++r)
 | .wrong e=>.wrong e
def Lx.seq (x:Lx)(y:Lx):Lx:=match x with
 | .ok l=>y.pre l
 | .wrong e=>.wrong e
theorem As1 (l:List Token):out (.ok l)=(l,0,0):=rfl
theorem Amj (e:Nat):out (.wrong e)=([],(e:Int),70):=rfl
theorem Abx {s:Ar}(h:s.length≤65536):Hi s=out (Mi s 0):=by unfold Hi; rw [if_pos h]
theorem Aeq {q:UInt8→Bool} : ∀ (w:Ar),w.all q=true→w.takeWhile q=w
 | [],_=>rfl
 | a::w,h=>by
  have h:q a=true∧w.all q=true:=by simpa using h
  rw [List.takeWhile_cons,h.1,if_pos rfl,Aeq w h.2]
end Go.Am
namespace Go.Am
open Go
set_option linter.unusedVariables false
set_option linter.unusedSimpArgs false
theorem Apv {t:Token}(hv:Cw t=true) : ∃ c w,Fv t=c::w ∧ ∀ m:Ar,(m=[] ∨ ∃ d m',m=d::m'∧Lg d=true) → ∃ u,tk c (w++m)=some (some u,w.length)∧key t u=true:=by
 unfold Cw at hv
 by_cases h1:(t.Kind==1)=true
 ·rw [if_pos h1] at hv
  have hk:t.Kind=1:=eq_of_beq h1
  have hsp:Fv t=t.Text:=by unfold Fv; rw [hk]; rfl
  rw [hsp]
  rw [Bool.and_eq_true] at hv
  obtain⟨hn,h0⟩:=hv
  have h0:t.N=0:=eq_of_beq h0
  cases hT:t.Text with
  | nil=>rw [hT] at hn; cases hn
  | cons c w=>
   rw [hT] at hn
   have hn':Ox c=true∧w.all Ir=true∧w.length+1≤32:=by
    simp [Dd] at hn
    simpa [and_assoc] using hn
   refine⟨c,w,rfl,fun m hm=>?_⟩
   have e:(w++m).takeWhile Ir=w:=by
    rcases hm with rfl | ⟨d,m',rfl,hd⟩
    ·rw [List.append_nil]; exact Aeq w hn'.2.1
    ·rw [Ae3 (Aiy hd).1,Aeq w hn'.2.1]
   refine⟨⟨1,c::w,0,0⟩,?_,by simp [key,hk,hT,h0]⟩
   unfold tk
   rw [Aua hn'.1,hn'.1,e]
   simp only [Bool.false_eq_true,if_false,if_true,hn'.2.2]
 ·rw [if_neg h1] at hv
  by_cases h2:(t.Kind==2)=true
  ·rw [if_pos h2] at hv
   have hk:t.Kind=2:=eq_of_beq h2
   have hvv:Cw t=true:=by unfold Cw; rw [if_neg h1,if_pos h2]; exact hv
   obtain⟨hT,h3,h4⟩:=Abs hvv h2
   have hsp:Fv t=Lib.decDigits t.N.toNat:=by unfold Fv; rw [if_pos h2]
   obtain⟨d1,d2,d3,d4,_⟩:=Aj1 t.N.toNat
   rw [hsp]
   cases hD:Lib.decDigits t.N.toNat with
   | nil=>exact absurd hD d3
   | cons c w=>
    rw [hD] at d1 d2 d4
    have d1':Ex c=true∧w.all Ex=true:=by simpa using d1
    refine⟨c,w,rfl,fun m hm=>?_⟩
    have e:(w++m).takeWhile Ex=w:=by
     rcases hm with rfl | ⟨d,m',rfl,hd⟩
     ·rw [List.append_nil]; exact Aeq w d1'.2
     ·rw [Ae3 (Aiy hd).2.1,Aeq w d1'.2]
    refine⟨⟨2,[],val (c::w),0⟩,?_,?_⟩
    ·unfold tk
     have:=Atn d1'.1
     rw [this.1,this.2,d1'.1,e]
     have hok:Tg (c::w)=true:=by unfold Tg; rw [d4,d2,decide_eq_true (by omega)]; rfl
     simp only [Bool.false_eq_true,if_false,if_true,hok]
    ·rw [d2]
     simp [key,hk,hT]
     omega
  ·rw [if_neg h2] at hv
   by_cases h3:(t.Kind==3)=true
   ·rw [if_pos h3,Bool.and_eq_true] at hv
    have hk:t.Kind=3:=eq_of_beq h3
    have hsp:Fv t=t.Text:=by unfold Fv; rw [if_neg h2]
    have h0:t.N=0:=eq_of_beq hv.2
    rw [hsp]
    match hT:t.Text,hv.1 with
    | [c],hc=>
     rw [hT] at hv
     have hc:Sr c=true:=hv.1
     refine⟨c,[],rfl,fun m hm=>?_⟩
     refine⟨⟨3,[c],0,0⟩,?_,by simp [key,hk,hT,h0]⟩
     have hh:¬ (c=47∧m.head? = some 47):=by
      rcases hm with rfl | ⟨d,m',rfl,hd⟩
      ·simp
      ·have:=(Aiy hd).2.2
       simp [this]
     obtain⟨q1,q2,q3⟩:=Aqv hc
     unfold tk
     rw [q1,q2,q3,hc,List.nil_append]
     simp only [Bool.false_eq_true,if_false,if_true,hh]
     rfl
   ·rw [if_neg h3] at hv; cases hv
def Gap (g:Ar):Prop := ∀ (m:Ar) (p:Nat),Mi (g++m) p=Mi m (p+g.length)
theorem Arj {g:Ar}(h:g.all Lg=true):Gap g:=fun m p=>Ac8 g m p h
theorem Aij {t:Token}(hv:Cw t=true){m:Ar}(hm:m=[] ∨ ∃ d m',m=d::m'∧Lg d=true)(p:Nat) : ∃ u,Mi (Fv t++m) p=(Mi m (p+(Fv t).length)).add (some u) p∧key t u=true:=by
 obtain⟨c,w,hs,h⟩:=Apv hv
 obtain⟨u,h1,h2⟩:=h m hm
 refine⟨u,?_,h2⟩
 rw [hs,List.cons_append,Vf,h1]
 simp only
 rw [Aoh (Nat.le_refl _),List.drop_length,List.nil_append,List.length_cons]
 congr 2
 omega
theorem Afr : ∀ (l:List Token) (p:Nat),l.all Cw=true → ∃ r,Mi (Lib.joinTail [32] (l.map Fv)) p=.ok r∧same l r=true
 | [],p,_=>⟨[],rfl,rfl⟩
 | t::l,p,h=>by
  have h:Cw t=true∧l.all Cw=true:=by simpa using h
  have e:Lib.joinTail [32] ((t::l).map Fv)=[32]++(Fv t++Lib.joinTail [32] (l.map Fv)):=by simp [Lib.joinTail]
  obtain⟨u,h1,h2⟩:=Aij (m:=Lib.joinTail [32] (l.map Fv)) h.1 (by cases l with
   | nil=>exact .inl rfl
   | cons a l=>exact .inr ⟨32,Fv a++Lib.joinTail [32] (l.map Fv),by simp [Lib.joinTail],rfl⟩) (p+1)
  obtain⟨r,h3,h4⟩:=Afr l (p+1+(Fv t).length) h.2
  rw [e,Arj (g:=[32]) (by rfl)]
  refine⟨at' (p+1) u::r,?_,?_⟩
  ·show Mi _ (p+1)=_
   rw [h1,h3]; rfl
  ·show(key t u&&Ag3 key l r)=true
   rw [h2]; exact h4
theorem Ams {l:List Token}(h:l.all Cw=true)(p:Nat) : ∃ r,Mi (Lib.join (l.map Fv) [32]) p=.ok r∧same l r=true:=by
 cases l with
 | nil=>exact⟨[],rfl,rfl⟩
 | cons t l=>
  have h:Cw t=true∧l.all Cw=true:=by simpa using h
  obtain⟨u,h1,h2⟩:=Aij (m:=Lib.joinTail [32] (l.map Fv)) h.1 (by cases l with
   | nil=>exact .inl rfl
   | cons a l=>exact .inr ⟨32,Fv a++Lib.joinTail [32] (l.map Fv),by simp [Lib.joinTail],rfl⟩) p
  obtain⟨r,h3,h4⟩:=Afr l (p+(Fv t).length) h.2
  refine⟨at' p u::r,?_,?_⟩
  ·rw [List.map_cons,Lib.join_cons,h1,h3]; rfl
  ·show(key t u&&Ag3 key l r)=true
   rw [h2]; exact h4
theorem Avc {c:UInt8}{s:Ar}{t:Token}{k:Nat}(h:tk c s=some (some t,k)):Cw t=true∧Fv t=c::s.take k:=by
 unfold tk at h
 split at h
 ·cases h
 ·split at h
  ·split at h
   ·rename_i hle hn
    cases h
    refine⟨?_,?_⟩
    ·show(Dd _&&true)=true
     rw [Bool.and_true,Ah4 hle (Zj _ _)]; exact decide_eq_true hn
    ·rw [Acn]; rfl
   ·cases h
  ·split at h
   ·split at h
    ·rename_i _ hfi hn
     cases h
     have hall:(c::s.takeWhile Ex).all Ex=true:=by rw [List.all_cons,hfi,Zj]; rfl
     unfold Tg at hn
     rw [Bool.and_eq_true] at hn
     have hn2:val (c::s.takeWhile Ex)≤1099511627776:=of_decide_eq_true hn.2
     refine⟨?_,?_⟩
     ·unfold Cw
      dsimp only
      rw [if_neg (by decide),if_pos (by decide)]
      simp
      omega
     ·rw [Acn]
      unfold Fv
      dsimp only
      rw [if_pos (by decide)]
      exact Amk _ (by simp) hall hn.1
    ·cases h
   ·split at h
    ·split at h
     ·cases h
     ·rename_i hsi _
      cases h
      refine⟨?_,rfl⟩
      show(Uw [c]&&true)=true
      rw [Bool.and_true]; exact hsi
    ·cases h
theorem Aiz (p:Nat)(t:Token):Cw (at' p t)=Cw t∧Fv (at' p t)=Fv t:=⟨rfl,rfl⟩
def Aly (l:List Token):Nat:=((l.map Fv).map List.length).sum
theorem Ajz : ∀ (n:Nat) (s:Ar) (p:Nat) (l:List Token),s.length≤n→Mi s p=.ok l→l.all Cw=true∧Aly l≤s.length
 | n,[],p,l,_,h=>by rw [Ac9] at h; cases h; exact⟨rfl,Nat.le_refl _⟩
 | 0,_::_,p,l,h,_=>by simp at h
 | n+1,c::s,p,l,hn,h=>by
  rw [Vf] at h
  cases ht:tk c s with
  | none=>rw [ht] at h; cases h
  | some x=>
   obtain⟨o,k⟩:=x
   have hk:=Ap3 ht
   rw [ht] at h
   simp only at h
   cases hr:Mi (s.drop k) (p+1+k) with
   | wrong e=>rw [hr] at h; cases h
   | ok r=>
    rw [hr] at h
    simp only [Lx.add,Lx.ok.injEq] at h
    subst h
    obtain⟨h1,h2⟩:=Ajz n (s.drop k) _ r (by rw [List.length_drop]; simp at hn; omega) hr
    rw [List.length_drop] at h2
    cases o with
    | none=>exact⟨h1,by simp; omega⟩
    | some u=>
     obtain⟨h3,h4⟩:=Avc ht
     refine⟨by show(at' p u::r).all Cw=true; rw [List.all_cons,(Aiz p u).1,h3,h1]; rfl,?_⟩
     have e:(Fv u).length=k+1:=by rw [h4,List.length_cons,List.length_take]; omega
     unfold Aly at h2 ⊢
     simp only [Option.map_some,Option.toList_some,List.cons_append,List.nil_append,List.map_cons,List.sum_cons,(Aiz p u).2,e,List.length_cons]
     omega
theorem Aqk {l:List Token}(h:l.all Cw=true) : ∀ t ∈ l,t.N≤9223372036854775807:=by
 intro t ht
 have hv:Cw t=true:=List.all_eq_true.1 h t ht
 by_cases h2:(t.Kind==2)=true
 ·have:=Abs hv h2; omega
 ·unfold Cw at hv
  rw [if_neg h2] at hv
  split at hv
  ·rw [Bool.and_eq_true] at hv; have:t.N=0:=eq_of_beq hv.2; omega
  ·split at hv
   ·rw [Bool.and_eq_true] at hv; have:t.N=0:=eq_of_beq hv.2; omega
   ·cases hv
end Go.Am
namespace Go.Am
open Go
set_option linter.unusedVariables false
set_option linter.unusedSimpArgs false
end Go.Am
namespace Go.Am
open Go
set_option linter.unusedVariables false
set_option linter.unusedSimpArgs false
theorem Afx : ∀ (l r:List Token),same l r=true→l.map S1=r.map S1
 | [],[],_=>rfl
 | [],_::_,h=>by cases h
 | _::_,[],h=>by cases h
 | a::l,b::r,h=>by
  have h:(key a b&&same l r)=true:=h
  rw [Bool.and_eq_true] at h
  obtain⟨h1,h2⟩:=h
  unfold key at h1
  simp only [Bool.and_eq_true,beq_iff_eq] at h1
  obtain⟨⟨h3,h4⟩,h5⟩:=h1
  rw [List.map_cons,List.map_cons,Afx l r h2]
  unfold S1
  rw [h3,h4,h5]
theorem Ac3 {s:Ar}{l:List Token}(hs:s.length≤65536)(h:Mi s 0=.ok l):K8 s=Att (s.length:Int) (Pa l):=by
 unfold K8
 rw [Abx hs,h,As1]
 rfl
theorem Ag7 {s:Ar}(h:(Hi s).2.2≠0):K8 s=(Qr,(Hi s).2.1,(Hi s).2.2):=by
 unfold K8
 rw [if_neg h]
end Go.Am
namespace Go.Am
open Go
set_option linter.unusedVariables false
set_option linter.unusedSimpArgs false
structure Fine {α:Type}(p:Rd α):Prop where
 sub:Km p
 err : ∀ l q e,p l=.error (q,e)→q <:+ l∧(e=80∨e=2∧q≠[])
 loc : ∀ c m a,p (c++m)=.ok (a,m) → ∀ m1 q,m=m1++q→p (c++m1)=.ok (a,m1)
 cut : ∀ c q e,p (c++q)=.error (q,e)→(∃ a,p c=.ok (a,[]))∨p c=.error ([],80)
 nil:(∃ a,p []=.ok (a,[]))∨p []=.error ([],80)
section
variable {α β:Type}
theorem Ag6 {α:Type}{c m:List α}(h:c++m=m):c=[]:=by
 have:=congrArg List.length h
 rw [List.length_append] at this
 exact List.length_eq_zero_iff.1 (by omega)
theorem G4 (a:α):Fine (Rd.pure a) where
 sub:=F4 a
 err:=fun _ _ _ h=>nomatch h
 loc:=fun c m b h m1 q e=>by
  have h1:c++m=m:=by injection h with h; injection h
  have h2:a=b:=by injection h with h; injection h
  rw [Ag6 h1,h2]; rfl
 cut:=fun _ _ _ h=>nomatch h
 nil:=.inl ⟨a,rfl⟩
theorem Cq {p:Rd α}{f:α→Rd β}(hp:Fine p)(hf : ∀ a,Fine (f a)):Fine (p.bind f) where
 sub:=Ck hp.sub fun a=>(hf a).sub
 err:=fun l q e h=>by
  unfold Rd.bind at h
  cases h1:p l with
  | error x=>rw [h1] at h; cases h; exact hp.err l q e h1
  | ok y=>
   rw [h1] at h
   obtain⟨h2,h3⟩:=(hf y.1).err y.2 q e h
   exact⟨h2.trans (hp.sub l y.1 y.2 h1),h3⟩
 loc:=fun c m b h m1 q e=>by
  obtain⟨a,k,h1,h2⟩:=Acg h
  obtain⟨d,hd⟩:=(hf a).sub k b m h2
  obtain⟨c',hc⟩:=hp.sub (c++m) a k h1
  have hk:c=c'++d:=by
   rw [← hd,← List.append_assoc] at hc
   exact(List.append_cancel_right hc).symm
  subst hk
  rw [← hd,List.append_assoc] at h1
  have h3:=hp.loc c' (d++m) a h1 (d++m1) q (by rw [e,List.append_assoc])
  rw [← hd] at h2
  have h4:=(hf a).loc d m b h2 m1 q e
  unfold Rd.bind
  rw [List.append_assoc,h3]
  exact h4
 cut:=fun c q e h=>by
  unfold Rd.bind at h ⊢
  cases h1:p (c++q) with
  | error x=>
   rw [h1] at h
   cases h
   rcases hp.cut c q e h1 with⟨a,ha⟩ | ha
   ·rw [ha]; exact(hf a).nil
   ·rw [ha]; exact .inr rfl
  | ok y=>
   obtain⟨a,k⟩:=y
   rw [h1] at h
   obtain⟨d,hd⟩:=((hf a).err k q e h).1
   obtain⟨c',hc⟩:=hp.sub (c++q) a k h1
   have hk:c=c'++d:=by
    rw [← hd,← List.append_assoc] at hc
    exact(List.append_cancel_right hc).symm
   subst hk
   rw [← hd,List.append_assoc] at h1
   have h3:=hp.loc c' (d++q) a h1 d q rfl
   rw [h3]
   rw [← hd] at h
   exact(hf a).cut d q e h
 nil:=by
  unfold Rd.bind
  rcases hp.nil with⟨a,ha⟩ | ha
  ·rw [ha]; exact(hf a).nil
  ·rw [ha]; exact .inr rfl
theorem Add {q:Token→Bool}{f:Token→α}:Fine ((Oq q).bind fun t=>.pure (f t)) where
 sub:=Ck (Ach _) fun _=>F4 _
 err:=fun l r e h=>by
  cases l with
  | nil=>cases h; exact⟨List.suffix_refl _,.inl rfl⟩
  | cons t l=>
   rw [Qb] at h
   split at h
   ·cases h
   ·cases h; exact⟨List.suffix_refl _,.inl rfl⟩
 loc:=fun c m a h m1 r e=>by
  cases c with
  | nil=>
   cases m with
   | nil=>cases h
   | cons t m=>
    rw [List.nil_append,Qb] at h
    split at h
    ·injection h with h; injection h with _ h
     exact absurd (congrArg List.length h) (by simp)
    ·cases h
  | cons t c=>
   rw [List.cons_append,Qb] at h ⊢
   split at h
   ·rename_i hq
    injection h with h; injection h with h1 h2
    rw [if_pos hq,Ag6 h2,h1]; rfl
   ·cases h
 cut:=fun c r e h=>by
  cases c with
  | nil=>exact .inr rfl
  | cons t c=>
   rw [List.cons_append,Qb] at h
   split at h
   ·cases h
   ·injection h with h; injection h with h _
    have:=congrArg List.length h
    simp at this
    omega
 nil:=.inr rfl
theorem Ahf {k:Int}{w:Ar}{p1 p2:Rd α}(h1:Fine p1)(h2:Fine p2):Fine ((P0 k w).bind fun b=>if b=true then(Lt k w).bind fun _=>p1 else p2):=by
 have eN:((P0 k w).bind fun b=>if b=true then(Lt k w).bind fun _=>p1 else p2) []=p2 []:=rfl
 have eY : ∀ t l,Lh k w t=true→((P0 k w).bind fun b=>if b=true then(Lt k w).bind fun _=>p1 else p2) (t::l)=p1 l:=fun t l ht=>by
  simp only [Rd.bind,P0,ht,if_true]; rw [Adq,if_pos ht]
 have eF : ∀ t l,¬ Lh k w t=true→((P0 k w).bind fun b=>if b=true then(Lt k w).bind fun _=>p1 else p2) (t::l)=p2 (t::l):=fun t l ht=>by
  simp only [Rd.bind,P0,ht,if_false,Bool.false_eq_true]
 refine⟨fun l a q h=>?_,fun l q e h=>?_,fun c m a h m1 q e=>?_,fun c q e h=>?_,?_⟩
 ·cases l with
  | nil=>rw [eN] at h; exact h2.sub _ _ _ h
  | cons t l=>
   by_cases ht:Lh k w t=true
   ·rw [eY t l ht] at h; exact(h1.sub _ _ _ h).trans (List.suffix_cons _ _)
   ·rw [eF t l ht] at h; exact h2.sub _ _ _ h
 ·cases l with
  | nil=>rw [eN] at h; exact h2.err _ _ _ h
  | cons t l=>
   by_cases ht:Lh k w t=true
   ·rw [eY t l ht] at h; exact⟨((h1.err _ _ _ h).1).trans (List.suffix_cons _ _),(h1.err _ _ _ h).2⟩
   ·rw [eF t l ht] at h; exact h2.err _ _ _ h
 ·cases c with
  | nil=>
   rw [List.nil_append] at h ⊢
   cases m with
   | nil=>
    obtain⟨rfl,rfl⟩:=List.append_eq_nil_iff.1 e.symm
    exact h
   | cons t m=>
    by_cases ht:Lh k w t=true
    ·rw [eY t m ht] at h
     have:=(h1.sub _ _ _ h).length_le
     simp at this
     omega
    ·rw [eF t m ht] at h
     have h3:=h2.loc [] (t::m) a h m1 q e
     cases m1 with
     | nil=>rw [eN]; exact h3
     | cons u m1=>
      have:t=u:=by injection e
      subst this
      rw [eF t m1 ht]; exact h3
  | cons t c=>
   rw [List.cons_append] at h ⊢
   by_cases ht:Lh k w t=true
   ·rw [eY _ _ ht] at h ⊢
    exact h1.loc c m a h m1 q e
   ·rw [eF _ _ ht] at h ⊢
    exact h2.loc (t::c) m a h m1 q e
 ·cases c with
  | nil=>rw [eN]; exact h2.nil
  | cons t c=>
   rw [List.cons_append] at h
   by_cases ht:Lh k w t=true
   ·rw [eY _ _ ht] at h ⊢
    exact h1.cut c q e h
   ·rw [eF _ _ ht] at h ⊢
    exact h2.cut (t::c) q e h
 ·rw [eN]; exact h2.nil
end
end Go.Am
namespace Go.Am
open Go
set_option linter.unusedVariables false
set_option linter.unusedSimpArgs false
section
variable {α β:Type}
theorem Anc {k:Int}{w:Ar}{p2:Rd α}(h2:Fine p2):Fine ((P0 k w).bind fun b=>if b=true then .fail 2 else p2):=by
 have eN:((P0 k w).bind fun b=>if b=true then(.fail 2:Rd α) else p2) []=p2 []:=rfl
 have eY : ∀ t l,Lh k w t=true→((P0 k w).bind fun b=>if b=true then(.fail 2:Rd α) else p2) (t::l)=.error (t::l,2):=fun t l ht=>by
  simp only [Rd.bind,P0,ht,if_true]; rfl
 have eF : ∀ t l,¬ Lh k w t=true→((P0 k w).bind fun b=>if b=true then(.fail 2:Rd α) else p2) (t::l)=p2 (t::l):=fun t l ht=>by
  simp only [Rd.bind,P0,ht,if_false,Bool.false_eq_true]
 refine⟨fun l a q h=>?_,fun l q e h=>?_,fun c m a h m1 q e=>?_,fun c q e h=>?_,?_⟩
 ·cases l with
  | nil=>rw [eN] at h; exact h2.sub _ _ _ h
  | cons t l=>
   by_cases ht:Lh k w t=true
   ·rw [eY t l ht] at h; cases h
   ·rw [eF t l ht] at h; exact h2.sub _ _ _ h
 ·cases l with
  | nil=>rw [eN] at h; exact h2.err _ _ _ h
  | cons t l=>
   by_cases ht:Lh k w t=true
   ·rw [eY t l ht] at h; cases h; exact⟨List.suffix_refl _,.inr ⟨rfl,by simp⟩⟩
   ·rw [eF t l ht] at h; exact h2.err _ _ _ h
 ·cases c with
  | nil=>
   rw [List.nil_append] at h ⊢
   cases m with
   | nil=>
    obtain⟨rfl,rfl⟩:=List.append_eq_nil_iff.1 e.symm
    exact h
   | cons t m=>
    by_cases ht:Lh k w t=true
    ·rw [eY t m ht] at h; cases h
    ·rw [eF t m ht] at h
     have h3:=h2.loc [] (t::m) a h m1 q e
     cases m1 with
     | nil=>rw [eN]; exact h3
     | cons u m1=>
      have:t=u:=by injection e
      subst this
      rw [eF t m1 ht]; exact h3
  | cons t c=>
   rw [List.cons_append] at h ⊢
   by_cases ht:Lh k w t=true
   ·rw [eY _ _ ht] at h; cases h
   ·rw [eF _ _ ht] at h ⊢
    exact h2.loc (t::c) m a h m1 q e
 ·cases c with
  | nil=>rw [eN]; exact h2.nil
  | cons t c=>
   rw [List.cons_append] at h
   by_cases ht:Lh k w t=true
   ·rw [eY _ _ ht] at h
    injection h with h; injection h with h _
    have:=congrArg List.length h
    simp at this
    omega
   ·rw [eF _ _ ht] at h ⊢
    exact h2.cut (t::c) q e h
 ·rw [eN]; exact h2.nil
theorem O8:Fine Mq:=Add
theorem Lp (k:Int)(w:Ar):Fine (Lt k w):=Add
theorem Og (a b c:Int):Fine (Nn a b c):=Add
theorem Ad1:Fine O5:=Cq (Og _ _ _) fun _=>Cq (Lp _ _) fun _=>Cq (Og _ _ _) fun _=>G4 _
theorem Qy {p:Rd α}(hp:Fine p) : ∀ (n:Nat) (acc:List α),Fine (Em p n acc)
 | 0,acc=>by
  rw [Em]
  exact Cq hp fun a=>Anc (G4 _)
 | n+1,acc=>by
  rw [Em]
  exact Cq hp fun a=>Ahf (Qy hp n _) (G4 _)
theorem Ad7 (w:Ar):Fine (Rw w):=Ahf (Qy Ad1 _ _) (G4 _)
theorem Al0:Fine Sn:=Cq (Lp _ _) fun _=>Cq O8 fun _=>Cq (Og _ _ _) fun _=>G4 _
theorem Anr (s:Ar):Fine (Y1 s):=Cq (Ad7 _) fun _=>G4 _
theorem Aot (s:Ar):Fine (Y7 s):=Cq (Lp _ _) fun _=>Cq (Qy O8 _ _) fun _=>Cq (Lp _ _) fun _=>Cq (Og _ _ _) fun _=>Cq (Lp _ _) fun _=>Cq (Og _ _ _) fun _=>G4 _
theorem Anq (s:Ar):Fine (Ym s):=Cq (Lp _ _) fun _=>Cq (Qy O8 _ _) fun _=>G4 _
theorem An4 (s:Ar):Fine (Yy s):=Cq (Lp _ _) fun _=>Cq O8 fun _=>Cq (Lp _ _) fun _=>Cq (Og _ _ _) fun _=>Cq (Ad7 _) fun _=>G4 _
theorem Ape (s:Ar):Fine (Yp s):=Cq (Lp _ _) fun _=>Cq O8 fun _=>Cq (Lp _ _) fun _=>Cq O8 fun _=>Cq (Lp _ _) fun _=>Cq (Qy O8 _ _) fun _=>G4 _
theorem Aon (s:Ar):Fine (Yv s):=Cq (Qy Al0 _ _) fun _=>G4 _
theorem An8 (s:Ar):Fine (Y8 s):=Cq (Lp _ _) fun _=>Cq (Og _ _ _) fun _=>Cq (Lp _ _) fun _=>Cq (Og _ _ _) fun _=>Cq (Lp _ _) fun _=>Cq (Og _ _ _) fun _=>G4 _
theorem Anx (s:Ar):Fine (Aar s):=Cq (Lp _ _) fun _=>Cq O8 fun _=>Cq Ad1 fun _=>G4 _
theorem Aps (s:Ar):Fine (Aa3 s):=G4 _
theorem Apr (s:Ar):Fine (Aap s):=Cq (Og _ _ _) fun _=>G4 _
theorem Aoo (s:Ar):Fine (Y3 s):=Cq (Og _ _ _) fun _=>G4 _
theorem An1 {p:Ar→Rd α}(hp : ∀ s,Fine (p s)):Fine (E9 p):=Cq O8 fun s=>Cq (hp s) fun _=>Cq (Lp _ _) fun _=>G4 _
end
theorem Ami {w:Ar}{A:Airspace}{f:Bool}{p:Rd Airspace}(h:O1 w A=some (f,p)):Fine p:=by
 unfold O1 at h
 refine(C4 h).elim (fun h=>?_) (fun h=>(C4 h).elim (fun h=>?_) (fun h=>(C4 h).elim (fun h=>?_) (fun h=>(C4 h).elim (fun h=>?_) (fun h=>(C4 h).elim (fun h=>?_) (fun h=>(C4 h).elim (fun h=>?_) (fun h=>(C4 h).elim (fun h=>?_) (fun h=>(C4 h).elim (fun h=>?_) (fun h=>(C4 h).elim (fun h=>?_) (fun h=>(C4 h).elim (fun h=>?_) (fun h=>(C4 h).elim (fun h=>?_) (fun h=>nomatch h)))))))))))
 all_goals
  cases h
  exact Cq (An1 (by first | exact Aon | exact An8 | exact Anq | exact Anx | exact Aps | exact Aoo | exact Ape | exact Aot | exact An4 | exact Anr | exact Apr)) fun _=>G4 _
theorem Anz (A:Airspace)(t:Token):(∃ e,(e=80∨e=2) ∧ ∀ r,J8 A (t::r)=.error (t::r,e)) ∨ ∃ p,Fine p ∧ ∀ r,J8 A (t::r)=p r:=by
 by_cases hk:(t.Kind==1)=true
 ·cases h:O1 t.Text A with
  | none=>exact .inl ⟨80,.inl rfl,fun r=>by simp only [J8,hk,if_true,h]⟩
  | some x=>
   obtain⟨f,p⟩:=x
   cases f
   ·exact .inr ⟨p,Ami h,fun r=>by simp only [J8,hk,if_true,h]; rfl⟩
   ·exact .inl ⟨2,.inr rfl,fun r=>by simp only [J8,hk,if_true,h]⟩
 ·exact .inl ⟨80,.inl rfl,fun r=>by simp only [J8,hk]; rfl⟩
theorem Aju : ∀ (n:Nat) (A:Airspace) (l q:List Token) (e:Int),l.length≤n→Oo n A l=.error (q,e)→q <:+ l∧(e=80∨e=2∧q≠[])
 | n,A,[],q,e,_,h=>by rw [Oo.eq_1] at h; cases h
 | 0,A,t::r,q,e,hn,h=>by simp at hn
 | n+1,A,t::r,q,e,hn,h=>by
  rw [Oo] at h
  rcases Anz A t with⟨e',he,hd⟩ | ⟨p,hp,hd⟩
  ·rw [hd r] at h
   cases h
   exact⟨List.suffix_refl _,he.imp id fun h=>⟨h,by simp⟩⟩
  ·rw [hd r] at h
   cases h1:p r with
   | error x=>
    rw [h1] at h; cases h
    obtain⟨h2,h3⟩:=hp.err r q e h1
    exact⟨h2.trans (List.suffix_cons _ _),h3⟩
   | ok y=>
    rw [h1] at h
    have h2:=hp.sub r y.1 y.2 h1
    have:=h2.length_le
    simp only [List.length_cons] at hn
    obtain⟨h3,h4⟩:=Aju n y.1 y.2 q e (by omega) h
    exact⟨(h3.trans h2).trans (List.suffix_cons _ _),h4⟩
end Go.Am
namespace Go.Am
open Go
set_option linter.unusedVariables false
set_option linter.unusedSimpArgs false
end Go.Am
namespace Go.Am
open Go
set_option linter.unusedVariables false
set_option linter.unusedSimpArgs false
end Go.Am
namespace Go.Am
open Go
set_option linter.unusedVariables false
set_option linter.unusedSimpArgs false
theorem Amw {C:Airspace}{t:Token}{r:List Token}{B:Airspace}{q:List Token}(h:J8 C (t::r)=.ok (B,q)):(t.Kind==1)=true ∧ ∃ p,O1 t.Text C=some (false,p)∧p r=.ok (B,q):=by
 simp only [J8] at h
 split at h
 ·rename_i hk
  cases hi:O1 t.Text C with
  | none=>rw [hi] at h; cases h
  | some x=>
   obtain⟨f,p⟩:=x
   rw [hi] at h
   simp only at h
   cases f
   ·exact⟨hk,p,rfl,h⟩
   ·cases h
 ·cases h
end Go.Am
namespace Go.Am
open Go
set_option linter.unusedVariables false
set_option linter.unusedSimpArgs false
structure RExt {α:Type}(p:Rd α):Prop where
 sub:Km p
 ext : ∀ c t m a,p (c++t::m)=.ok (a,t::m) → ∀ m',p (c++t::m')=.ok (a,t::m')
end Go.Am
namespace Go.Am
open Go
set_option linter.unusedVariables false
set_option linter.unusedSimpArgs false
end Go.Am
namespace Go.Am
open Go
set_option linter.unusedVariables false
set_option linter.unusedSimpArgs false
theorem Aic : ∀ (n:Nat) (A:Airspace) (l:List Token) (B:Airspace),U5 A→Oo n A l=.ok B→U5 B
 | n,A,[],B,hA,h=>by rw [Oo.eq_1] at h; cases h; exact hA
 | 0,A,t::r,B,hA,h=>by cases h
 | n+1,A,t::r,B,hA,h=>by
  rw [Oo] at h
  cases hd:J8 A (t::r) with
  | error e=>rw [hd] at h; cases h
  | ok y=>
   obtain⟨C,k⟩:=y
   rw [hd] at h
   exact Aic n C k B (Ag0 hA hd).1 h
instance (A:Airspace):Decidable (U5 A):=by unfold U5; exact inferInstance
theorem All {s:Ar}(h:(K8 s).2.2=0)(hs:s.length≤65536) : ∃ l A,Mi s 0=.ok l∧Pa l=.ok A∧K8 s=(A,0,0):=by
 by_cases he:(Hi s).2.2=0
 ·cases hl:Mi s 0 with
  | wrong e=>rw [Abx hs,hl,Amj] at he; exact absurd he (by simp)
  | ok l=>
   have e1:=Ac3 hs hl
   cases hp:Pa l with
   | ok A=>exact⟨l,A,rfl,hp,by rw [e1,hp]; rfl⟩
   | error x=>
    obtain⟨q,e⟩:=x
    rw [e1,hp] at h
    obtain⟨_,h2⟩:=Aju l.length Qr l q e (Nat.le_refl _) hp
    have h:e=0:=h
    rcases h2 with h2 | ⟨h2,_⟩ <;> omega
 ·rw [Ag7 he] at h; exact absurd h he
end Go.Am
namespace Go.Am
open Go
set_option linter.unusedVariables false
set_option linter.unusedSimpArgs false
def Dp (s:Ar):Token:=⟨1,s,0,0⟩
def Kf (s:Ar):Token:=⟨3,s,0,0⟩
def Nq (n:Int):Token:=⟨2,[],n,0⟩
def Lu (n lo hi:Int):Bool:=decide (n≥lo)&&decide (n≤hi)
def Wr (f:Bool→List Token→R (Bool×List Token))(B:Bool)(T:List Token):Prop := ∀ b l,l.length+T.length≤1000000000000→f b l=.ok (b||B,l++T)
theorem Ags (ok:Bool)(t:Token)(b:Bool)(l:List Token)(h:l.length+1≤1000000000000):F9 ok t b l=.ok (l++[t]):=by
 unfold F9
 rw [if_pos (by rw [List.length_singleton]; unfold Eo; omega)]
theorem O7 (s:Ar):Wr (Cm s) (!Dd s) [Dp s]:=fun b l h=>by
 unfold Cm
 rw [Aj5,R.ok_bind,Ags _ _ _ _ h]; rfl
theorem Aj3 (ws:List Ar):Wr (Bq ws) false (ws.map Dp):=by
 have : ∀ (ws:List Ar) (k:Nat) (b:Bool) (l:List Token),l.length+ws.length≤1000000000000→Ek (fun _ a=>C2 fun fBad l2=>E8 a fBad l2) k ws (b,l)=.ok (b,l++ws.map Dp):=by
  intro ws
  induction ws with
  | nil=>intro k b l _; rw [Rz]; simp
  | cons w ws ih=>
   intro k b l h
   simp only [List.length_cons] at h
   rw [Q1]
   show(E8 w b l).bind _=_
   have hb:E8 w b l=.ok (b,l++[Dp w]):=by
    unfold E8
    rw [Ags _ _ _ _ (by omega),R.ok_bind]
    simp [Dp]
   rw [hb,R.ok_bind,ih _ _ _ (by simp; omega)]
   simp
 intro b l h
 unfold Bq
 rw [this ws 0 b l (by simpa using h),Bool.or_false]; rfl
theorem Aqx (ws:List Ar):Wr (Cb ws) false (ws.map Kf):=by
 have : ∀ (ws:List Ar) (k:Nat) (b:Bool) (l:List Token),l.length+ws.length≤1000000000000→Ek (fun _ a=>C2 fun fBad l2=>E7 a fBad l2) k ws (b,l)=.ok (b,l++ws.map Kf):=by
  intro ws
  induction ws with
  | nil=>intro k b l _; rw [Rz]; simp
  | cons w ws ih=>
   intro k b l h
   simp only [List.length_cons] at h
   rw [Q1]
   show(E7 w b l).bind _=_
   have hb:E7 w b l=.ok (b,l++[Kf w]):=by
    unfold E7
    rw [Ags _ _ _ _ (by omega),R.ok_bind]
    simp [Kf]
   rw [hb,R.ok_bind,ih _ _ _ (by simp; omega)]
   simp
 intro b l h
 unfold Cb
 rw [this ws 0 b l (by simpa using h),Bool.or_false]; rfl
theorem Air (n lo hi:Int)(b:Bool)(l:List Token)(h:l.length+1≤1000000000000):Cg n lo hi b l=.ok (l++[Nq n]):=by
 unfold Cg
 rw [Ags _ _ _ _ h]; rfl
theorem Dl {f g:Bool→List Token→R (Bool×List Token)}{B:Bool}{T:List Token}(hf:Wr f B T){B':Bool}{T':List Token}(hg:Wr g B' T') :
  Wr (fun b l=>(f b l).bind fun r=>g r.1 r.2) (B||B') (T++T'):=fun b l h=>by
 rw [List.length_append] at h
 show(f b l).bind _=_
 rw [hf b l (by omega),R.ok_bind,hg (b||B) (l++T) (by rw [List.length_append]; omega),List.append_assoc,Bool.or_assoc]
theorem Xo {n lo hi:Int}{g:Bool→List Token→R (Bool×List Token)}{B':Bool}{T':List Token}(hg:Wr g B' T') :
  Wr (fun b l=>(Cg n lo hi b l).bind fun r=>g (b||(!((decide (n≥lo))&&(decide (n≤hi))))) r) (!Lu n lo hi||B') ([Nq n]++T'):=fun b l h=>by
 rw [List.length_append] at h
 show(Cg n lo hi b l).bind _=_
 rw [Air n lo hi b l (by simp at h; omega),R.ok_bind,hg _ _ (by rw [List.length_append]; omega),List.append_assoc,Bool.or_assoc]; rfl
theorem Yd {n lo hi:Int}:Wr (fun b l=>(Cg n lo hi b l).bind fun r=>.ok (b||(!((decide (n≥lo))&&(decide (n≤hi)))),r)) (!Lu n lo hi) [Nq n]:=fun b l h=>by
 show(Cg n lo hi b l).bind _=_
 rw [Air n lo hi b l h,R.ok_bind]; rfl
theorem Wu {f:Bool→List Token→R (Bool×List Token)}{B:Bool}{T:List Token}(hf:Wr f B T):Wr (fun b l=>(f b l).bind fun r=>.ok (r.1,r.2)) B T:=fun b l h=>by
 show(f b l).bind _=_
 rw [hf b l h]; rfl
def Un (s:Span):List Token:=[Nq s.From,Dp [116,111],Nq s.To]
def S2 (s:Span):Bool := !Lu s.From 0 1439 || !Lu s.To (IntKind.wrap .i64 (s.From+1)) 1440
theorem Ajv (s:Span):Wr (Hj s) (S2 s) (Un s):=by
 have:=Xo (n:=s.From) (lo:=0) (hi:=1439) (Dl (Aj3 [[116,111]]) (Yd (n:=s.To) (lo:=IntKind.wrap .i64 (s.From+1)) (hi:=1440)))
 simp only [Bool.false_or] at this
 exact this
end Go.Am
namespace Go.Am
open Go
set_option linter.unusedVariables false
set_option linter.unusedSimpArgs false
def Tu {α:Type}(g:α→List Token)(l:List α):List Token:=l.flatMap fun b=>Kf [44]::g b
def Ib {α:Type}(g:α→List Token):List α→List Token
 | []=>[]
 | a::l=>g a++Tu g l
def Kw {α:Type}(B:α→Bool)(most:Nat)(l:List α):Bool:=l.isEmpty||decide (most<l.length)||l.any B
section
variable {α:Type} {item:α→Bool→List Token→R (Bool×List Token)} {B:α→Bool} {g:α→List Token} {body:Nat→α→Bool→List Token→R (Bool×List Token)}
theorem Aby (s:Ar):Wr (Cb [s]) false [Kf s]:=Aqx [s]
theorem Oi (s:Ar):Wr (Bq [s]) false [Dp s]:=Aj3 [s]
theorem Amb (hb : ∀ j a b l,body j a b l=if(j:Int) > 0 then(Cb [[44]] b l).bind fun r=>(item a r.1 r.2).bind fun r1=>.ok (r1.1,r1.2) else(item a b l).bind fun r1=>.ok (r1.1,r1.2))(hi : ∀ a,Wr (item a) (B a) (g a)) :
  ∀ (l:List α) (k:Nat) (b:Bool) (o:List Token),0<k→o.length+(Tu g l).length≤1000000000000→Ek (fun j a=>C2 fun fBad l2=>body j a fBad l2) k l (b,o)=.ok (b||l.any B,o++Tu g l)
 | [],k,b,o,_,_=>by rw [Rz]; simp [Tu]
 | a::l,k,b,o,hk,h=>by
  have e:Tu g (a::l)=(Kf [44]::g a)++Tu g l:=rfl
  rw [e,List.length_append,List.length_cons] at h
  rw [Q1]
  show(body k a b o).bind _=_
  rw [hb,if_pos (by omega),Aby [44] b o (by simp; omega)]
  simp only [R.ok_bind]
  rw [hi a (b||false) (o++[Kf [44]]) (by simp; omega)]
  simp only [R.ok_bind]
  rw [Amb hb hi l (k+1) _ _ (by omega) (by simp; omega),e]
  simp [Bool.or_assoc]
theorem Alq (hb : ∀ j a b l,body j a b l=if(j:Int) > 0 then(Cb [[44]] b l).bind fun r=>(item a r.1 r.2).bind fun r1=>.ok (r1.1,r1.2) else(item a b l).bind fun r1=>.ok (r1.1,r1.2))(hi : ∀ a,Wr (item a) (B a) (g a))(l:List α)(most:Nat)(mostI:Int)(hm:mostI=most) :
  Wr (fun b l1=>(Ek (fun j a=>C2 fun fBad l2=>body j a fBad l2) 0 l (((b||((l.length:Int)==0))||(decide ((l.length:Int) > mostI))),l1)).bind ((C2 fun fBad l2=>.ok (fBad,l2)))) (Kw B most l) (Ib g l):=by
 intro b o h
 subst hm
 cases l with
 | nil=>simp [Rz,Kw,Ib]
 | cons a l=>
  have e:Ib g (a::l)=g a++Tu g l:=rfl
  rw [e,List.length_append] at h
  show(Ek _ 0 (a::l) _).bind _=_
  rw [Q1]
  show((body 0 a _ o).bind _).bind _=_
  rw [hb,if_neg (by omega),hi a _ o (by omega)]
  simp only [R.ok_bind]
  rw [Amb hb hi l 1 _ _ (by omega) (by simp; omega),e]
  have e1:(((a::l).length:Int)==0)=false:=by simp only [List.length_cons,beq_eq_false_iff_ne]; omega
  have e2:decide (((a::l).length:Int) > (most:Int))=decide (most<(a::l).length):=by rw [decide_eq_decide]; omega
  rw [e1,e2]
  simp [Kw,Bool.or_assoc]
def E3 (w:Ar)(T:List Token):List Token:=Dp w::(T++[Kf [59]])
theorem Td {d:α→List Token}{body:α→Bool→List Token→R (Bool×List Token)}(hi : ∀ a,Wr (body a) (B a) (d a))(l:List α)(most:Nat)(mostI:Int)(hm:mostI=most) :
  Wr (fun b l1=>(Ek (fun _ a=>C2 fun fBad l2=>body a fBad l2) 0 l ((b||(decide ((l.length:Int) > mostI))),l1)).bind ((C2 fun fBad l2=>.ok (fBad,l2)))) (decide (most<l.length)||l.any B) (l.flatMap d):=by
 have : ∀ (l:List α) (k:Nat) (b:Bool) (o:List Token),o.length+(l.flatMap d).length≤1000000000000→Ek (fun _ a=>C2 fun fBad l2=>body a fBad l2) k l (b,o)=.ok (b||l.any B,o++l.flatMap d):=by
  intro l
  induction l with
  | nil=>intro k b o _; rw [Rz]; simp
  | cons a l ih=>
   intro k b o h
   rw [List.flatMap_cons,List.length_append] at h
   rw [Q1]
   show(body a b o).bind _=_
   rw [hi a b o (by omega)]
   simp only [R.ok_bind]
   rw [ih _ _ _ (by simp at h ⊢; omega)]
   simp [Bool.or_assoc]
 intro b o h
 subst hm
 have e2:decide ((l.length:Int) > (most:Int))=decide (most<l.length):=by rw [decide_eq_decide]; omega
 show(Ek _ 0 l _).bind _=_
 rw [this l 0 _ o h,e2]
 simp [Bool.or_assoc]
theorem Xz {it:Bool→List Token→R (Bool×List Token)}{Bi:Bool}{T:List Token}(w:Ar)(hw:w≠[])(hi:Wr it Bi T){j1:Bool→List Token→R (Bool×List Token)}
  (hj : ∀ b l,j1 b l=(it b l).bind fun r1=>(Cb [[59]] r1.1 r1.2).bind fun r2=>.ok (r2.1,r2.2)) :
  Wr (fun b l=>if(w==[]) then j1 b l else(Bq [w] b l).bind fun r=>j1 r.1 r.2) Bi (E3 w T):=by
 have h1:Wr j1 Bi (T++[Kf [59]]):=by
  have:=Dl hi (Wu (Aby [59]))
  rw [Bool.or_false] at this
  intro b l h
  rw [hj]
  exact this b l h
 have h2:=Dl (Oi w) h1
 rw [Bool.false_or] at h2
 intro b l h
 have e:(w==[])=false:=by simpa using hw
 simp only [e,Bool.false_eq_true,if_false]
 exact h2 b l h
end
def P6 (w:Ar)(l:List Span):List Token:=if l.isEmpty then [] else Dp w::Ib Un l
def Np (l:List Span):Bool := !l.isEmpty&&Kw S2 16 l
theorem Ard (l:List Span):Wr (Jo l 16) (Kw S2 16 l) (Ib Un l):=
 Alq (item:=Hj) (fun _ _ _ _=>rfl) Ajv l 16 16 rfl
theorem Afb (l:List Ar)(most:Nat)(mostI:Int)(hm:mostI=most):Wr (F1 l mostI) (Kw (fun s => !Dd s) most l) (Ib (fun s=>[Dp s]) l):=
 Alq (item:=Cm) (fun _ _ _ _=>rfl) O7 l most mostI hm
theorem Akl (w:Ar)(l:List Span):Wr (Hf w l) (Np l) (P6 w l):=by
 intro b o h
 unfold Hf
 cases l with
 | nil=>simp [Np,P6]
 | cons a l=>
  rw [if_pos (by simp only [List.length_cons]; omega)]
  have:=Dl (Oi w) (Wu (Ard (a::l)))
  exact this b o h
def Afk (m:Mode):List Token:=[Dp [109,111,100,101]]++([Dp m.Name]++[Nq m.Places])
def Aab (m:Mode):Bool := !Dd m.Name || !Lu m.Places 0 64
theorem As4 (m:Mode):Wr (Jc m) (Aab m) (Afk m):=by
 have:=Dl (Oi [109,111,100,101]) (Dl (O7 m.Name) (Yd (n:=m.Places) (lo:=0) (hi:=64)))
 simp only [Bool.false_or] at this
 exact this
theorem Aqw (l:List Mode):Wr (Lo l 16) (Kw Aab 16 l) (Ib Afk l):=
 Alq (item:=Jc) (fun _ _ _ _=>rfl) As4 l 16 16 rfl
def Tx (a:Volume):List Token:=[Dp a.Name]++P6 [99,108,111,115,101,100] a.Closed
def Qk (a:Volume):Bool := !Dd a.Name||Np a.Closed
theorem Au3 (a:Volume):Wr (Nw a) (Qk a) (Tx a):=Dl (O7 _) (Wu (Akl _ _))
abbrev Xn (l:List Ar):List Token:=Ib (fun s=>[Dp s]) l
abbrev Vd (most:Nat)(l:List Ar):Bool:=Kw (fun s => !Dd s) most l
def T6 (a:Sector):List Token:=[Dp a.Name]++([Kf [61]]++(Xn a.Names++([Dp [114,97,100,97,114]]++([Nq a.Radar]++([Dp [112,114,111,99,101,100,117,114,97,108]]++[Nq a.Procedural])))))
def Qn (a:Sector):Bool := !Dd a.Name||(Vd 64 a.Names||(!Lu a.Radar 0 64 || !Lu a.Procedural 0 a.Radar))
theorem Au7 (a:Sector):Wr (Nt a) (Qn a) (T6 a):=by
 have:=Dl (O7 a.Name) (Dl (Aby [61]) (Dl (Afb a.Names 64 64 rfl) (Dl (Oi [114,97,100,97,114]) (Xo (n:=a.Radar) (lo:=0) (hi:=64) (Dl (Oi [112,114,111,99,101,100,117,114,97,108]) (Yd (n:=a.Procedural) (lo:=0) (hi:=a.Radar)))))))
 simp only [Bool.false_or] at this
 exact this
def Ti (a:Config):List Token:=[Dp a.Name]++([Kf [61]]++Xn a.Names)
def Qu (a:Config):Bool := !Dd a.Name||Vd 64 a.Names
theorem Au5 (a:Config):Wr (Nu a) (Qu a) (Ti a):=by
 have:=Dl (O7 a.Name) (Dl (Aby [61]) (Wu (Afb a.Names 64 64 rfl)))
 simp only [Bool.false_or] at this
 exact this
def Tl (a:Segment):List Token:=[Dp a.Name]++([Dp [105,110]]++([Dp a.In]++([Dp [108,101,110,103,116,104]]++([Nq a.Length]++P6 [111,112,101,110] a.Open))))
def Qh (a:Segment):Bool := !Dd a.Name||(!Dd a.In||(!Lu a.Length 1 4096||Np a.Open))
theorem Au4 (a:Segment):Wr (Nr a) (Qh a) (Tl a):=by
 have:=Dl (O7 a.Name) (Dl (Oi [105,110]) (Dl (O7 a.In) (Dl (Oi [108,101,110,103,116,104]) (Xo (n:=a.Length) (lo:=1) (hi:=4096) (Wu (Akl [111,112,101,110] a.Open))))))
 simp only [Bool.false_or] at this
 exact this
def Th (a:Route):List Token:=[Dp a.Name]++([Dp [102,114,111,109]]++([Dp a.A]++([Dp [116,111]]++([Dp a.B]++([Dp [118,105,97]]++Xn a.Names)))))
def Ql (a:Route):Bool := !Dd a.Name||(!Dd a.A||(!Dd a.B||Vd 8 a.Names))
theorem Avi (a:Route):Wr (Nz a) (Ql a) (Th a):=by
 have:=Dl (O7 a.Name) (Dl (Oi [102,114,111,109]) (Dl (O7 a.A) (Dl (Oi [116,111]) (Dl (O7 a.B) (Dl (Oi [118,105,97]) (Wu (Afb a.Names 8 8 rfl)))))))
 simp only [Bool.false_or] at this
 exact this
def T8 (a:Airport):List Token:=[Dp a.Name]++Ib Afk a.Modes
def Qj (a:Airport):Bool := !Dd a.Name||Kw Aab 16 a.Modes
theorem Avg (a:Airport):Wr (Nv a) (Qj a) (T8 a):=Dl (O7 _) (Wu (Aqw _))
def Tk (a:Class):List Token:=[Dp a.Name]++([Dp [115,108,111,119]]++([Nq a.Slow]++([Dp [102,97,115,116]]++([Nq a.Fast]++([Dp [112,108,97,99,101,115]]++[Nq a.Places])))))
def Re (a:Class):Bool := !Dd a.Name||(!Lu a.Slow 1 64||(!Lu a.Fast a.Slow 64 || !Lu a.Places 1 8))
theorem Auy (a:Class):Wr (Ns a) (Re a) (Tk a):=by
 have:=Dl (O7 a.Name) (Dl (Oi [115,108,111,119]) (Xo (n:=a.Slow) (lo:=1) (hi:=64) (Dl (Oi [102,97,115,116]) (Xo (n:=a.Fast) (lo:=a.Slow) (hi:=64) (Dl (Oi [112,108,97,99,101,115]) (Yd (n:=a.Places) (lo:=1) (hi:=8)))))))
 simp only [Bool.false_or] at this
 exact this
end Go.Am
namespace Go.Am
open Go
set_option linter.unusedVariables false
set_option linter.unusedSimpArgs false
def N8 (b o:Rule):Bool:=(b.Kind==o.Kind)&&((b.C==o.C)&&((b.A==o.A)&&((0==o.Class)&&((0==o.Airport)&&((b.N==o.N)&&((b.Hours.From==o.Hours.From)&&(b.Hours.To==o.Hours.To)))))))
theorem Ab6 (b o:Rule):Wr (fun f l=>Dj b f l o) (!N8 b o) []:=fun f l h=>by
 show Dj b f l o=_
 unfold Dj
 rw [List.append_nil]
 cases f <;> rfl
theorem Aep (w:Ar)(b:Rule):Wr (fun f l=>Fl w f l b) (!Dd b.C) ([Dp w]++[Dp b.C]):=by
 have:=Dl (Oi w) (Wu (O7 b.C))
 simp only [Bool.false_or] at this
 exact this
def Ak2:Ar:=[99,117,114,102,101,119]
def Aln:Ar:=[101,120,101,109,112,116]
def Akx:Ar:=[119,101,105,103,104,116]
def Alw:Ar:=[108,111,110,103,101,115,116]
def Nk (b:Rule):List Token:=
 if b.Kind=1 then [Dp [97,116]]++([Dp b.A]++Un b.Hours) else if b.Kind=2 then [] else [Nq b.N]
def Ob (b:Rule):Ar:=if b.Kind=1 then Ak2 else if b.Kind=2 then Aln else if b.Kind=3 then Akx else Alw
def Ks (b:Rule):List Token:=if b.Kind=1∨b.Kind=2∨b.Kind=3∨b.Kind=4 then [Dp (Ob b)]++([Dp b.C]++Nk b) else []
def Ln (b:Rule):Bool:=
 if b.Kind=1 then !Dd b.C||(!Dd b.A||(S2 b.Hours || !N8 b (D6 b.Kind b.C b.A 0 b.Hours)))
 else if b.Kind=2 then !Dd b.C || !N8 b (D6 b.Kind b.C [] 0 ⟨0,0⟩)
 else if b.Kind=3 then !Dd b.C||(!Lu b.N 1 8 || !N8 b (D6 b.Kind b.C [] b.N ⟨0,0⟩))
 else if b.Kind=4 then !Dd b.C||(!Lu b.N 0 60||(((Int.tmod b.N 10) != 0) || !N8 b (D6 b.Kind b.C [] b.N ⟨0,0⟩)))
 else true
theorem As9 (b:Rule):Wr (Je b) (Ln b) (Ks b):=by
 intro f l h
 unfold Je
 by_cases h1:b.Kind=1
 ·have e:Ks b=[Dp Ak2]++([Dp b.C]++([Dp [97,116]]++([Dp b.A]++Un b.Hours))):=by simp [Ks,Ob,Nk,h1]
  have e2:Ln b=(!Dd b.C||(!Dd b.A||(S2 b.Hours || !N8 b (D6 b.Kind b.C b.A 0 b.Hours)))):=by simp [Ln,h1]
  rw [if_pos (by simp [h1]),e2]
  rw [e] at h ⊢
  have:=Dl (Aep Ak2 b) (Dl (Oi [97,116]) (Dl (O7 b.A) (Dl (Ajv b.Hours) (Ab6 b (D6 b.Kind b.C b.A 0 b.Hours)))))
  simp only [Bool.false_or,List.append_nil,List.append_assoc] at this
  exact this f l h
 rw [if_neg (by simp [h1])]
 by_cases h2:b.Kind=2
 ·have e:Ks b=[Dp Aln]++[Dp b.C]:=by simp [Ks,Ob,Nk,h2]
  have e2:Ln b=(!Dd b.C || !N8 b (D6 b.Kind b.C [] 0 ⟨0,0⟩)):=by simp [Ln,h2]
  rw [if_pos (by simp [h2]),e2]
  rw [e] at h ⊢
  have:=Dl (Aep Aln b) (Ab6 b (D6 b.Kind b.C [] 0 ⟨0,0⟩))
  simp only [Bool.false_or,List.append_nil,List.append_assoc] at this
  exact this f l h
 rw [if_neg (by simp [h2])]
 by_cases h3:b.Kind=3
 ·have e:Ks b=[Dp Akx]++([Dp b.C]++[Nq b.N]):=by simp [Ks,Ob,Nk,h3]
  have e2:Ln b=(!Dd b.C||(!Lu b.N 1 8 || !N8 b (D6 b.Kind b.C [] b.N ⟨0,0⟩))):=by simp [Ln,h3]
  rw [if_pos (by simp [h3]),e2]
  rw [e] at h ⊢
  have:=Dl (Aep Akx b) (Xo (n:=b.N) (lo:=1) (hi:=8) (Ab6 b (D6 b.Kind b.C [] b.N ⟨0,0⟩)))
  simp only [Bool.false_or,List.append_nil,List.append_assoc] at this
  exact this f l h
 rw [if_neg (by simp [h3])]
 by_cases h4:b.Kind=4
 ·have e:Ks b=[Dp Alw]++([Dp b.C]++[Nq b.N]):=by simp [Ks,Ob,Nk,h4]
  have e2:Ln b=(!Dd b.C||(!Lu b.N 0 60||(((Int.tmod b.N 10) != 0) || !N8 b (D6 b.Kind b.C [] b.N ⟨0,0⟩)))):=by simp [Ln,h4]
  rw [if_pos (by simp [h4]),e2]
  rw [e] at h ⊢
  have hj:Wr (fun f l=>if f then Dj b true l (D6 b.Kind b.C [] b.N ⟨0,0⟩) else Dj b ((Int.tmod b.N 10) != 0) l (D6 b.Kind b.C [] b.N ⟨0,0⟩)) (((Int.tmod b.N 10) != 0) || !N8 b (D6 b.Kind b.C [] b.N ⟨0,0⟩)) []:=by
   intro f l h
   cases f
   ·simp only [Bool.false_eq_true,if_false]
    exact Ab6 b _ _ l h
   ·simp only [if_true]
    exact Ab6 b _ true l h
  have:=Dl (Aep Alw b) (Xo (n:=b.N) (lo:=0) (hi:=60) hj)
  simp only [Bool.false_or,List.append_nil,List.append_assoc] at this
  exact this f l h
 ·rw [if_neg (by simp [h4])]
  have e:Ks b=[]:=by simp [Ks,h1,h2,h3,h4]
  have e2:Ln b=true:=by simp [Ln,h1,h2,h3,h4]
  rw [e,e2,List.append_nil,Bool.or_true]
  rfl
def Y0:Ar:=[118,111,108,117,109,101]
def Ys:Ar:=[115,101,99,116,111,114]
def Yw:Ar:=[99,111,110,102,105,103]
def Yn:Ar:=[115,101,103,109,101,110,116]
def Zd:Ar:=[114,111,117,116,101]
def Yr:Ar:=[97,105,114,112,111,114,116]
def Y5:Ar:=[99,108,97,115,115]
def Rk (b:Rule):List Token:=Ks b++[Kf [59]]
def Sh (a:Airspace):List Token:=
 a.Volumes.flatMap (fun x=>E3 Y0 (Tx x))++(a.Sectors.flatMap (fun x=>E3 Ys (T6 x))++(a.Configs.flatMap (fun x=>E3 Yw (Ti x))++(a.Segments.flatMap (fun x=>E3 Yn (Tl x)) ++
 (a.Routes.flatMap (fun x=>E3 Zd (Th x))++(a.Airports.flatMap (fun x=>E3 Yr (T8 x))++(a.Classes.flatMap (fun x=>E3 Y5 (Tk x))++a.Rules.flatMap Rk))))))
def Ahq (a:Airspace):Bool:=
 (decide (64<a.Volumes.length)||a.Volumes.any Qk)||((decide (64<a.Sectors.length)||a.Sectors.any Qn)||((decide (32<a.Configs.length)||a.Configs.any Qu)||((decide (128<a.Segments.length)||a.Segments.any Qh) ||
 ((decide (64<a.Routes.length)||a.Routes.any Ql)||((decide (16<a.Airports.length)||a.Airports.any Qj)||((decide (8<a.Classes.length)||a.Classes.any Re)||(decide (64<a.Rules.length)||a.Rules.any Ln)))))))
theorem Aug (l:List Volume):Wr (fun b l1=>(Ek (fun _ a=>C2 fun fBad l2=>Gf Y0 a fBad l2) 0 l ((b||(decide ((l.length:Int) > 64))),l1)).bind ((C2 fun fBad l2=>.ok (fBad,l2)))) (decide (64<l.length)||l.any Qk) (l.flatMap fun x=>E3 Y0 (Tx x)):=
 Td (d:=fun x=>E3 Y0 (Tx x)) (body:=Gf Y0) (fun a=>Xz Y0 (by decide) (Au3 a) (j1:=Ht a) fun _ _=>rfl) l 64 64 rfl
theorem Atc (l:List Sector):Wr (F3 Ys l 64) (decide (64<l.length)||l.any Qn) (l.flatMap fun x=>E3 Ys (T6 x)):=
 Td (d:=fun x=>E3 Ys (T6 x)) (body:=Hq Ys) (fun a=>Xz Ys (by decide) (Au7 a) (j1:=Hp a) fun _ _=>rfl) l 64 64 rfl
theorem Ata (l:List Config):Wr (F5 Yw l 32) (decide (32<l.length)||l.any Qu) (l.flatMap fun x=>E3 Yw (Ti x)):=
 Td (d:=fun x=>E3 Yw (Ti x)) (body:=Hu Yw) (fun a=>Xz Yw (by decide) (Au5 a) (j1:=Hr a) fun _ _=>rfl) l 32 32 rfl
theorem As2 (l:List Segment):Wr (Fx Yn l 128) (decide (128<l.length)||l.any Qh) (l.flatMap fun x=>E3 Yn (Tl x)):=
 Td (d:=fun x=>E3 Yn (Tl x)) (body:=Hk Yn) (fun a=>Xz Yn (by decide) (Au4 a) (j1:=Ha a) fun _ _=>rfl) l 128 128 rfl
theorem At7 (l:List Route):Wr (Gj Zd l 64) (decide (64<l.length)||l.any Ql) (l.flatMap fun x=>E3 Zd (Th x)):=
 Td (d:=fun x=>E3 Zd (Th x)) (body:=H2 Zd) (fun a=>Xz Zd (by decide) (Avi a) (j1:=H7 a) fun _ _=>rfl) l 64 64 rfl
theorem At4 (l:List Airport):Wr (Ft Yr l 16) (decide (16<l.length)||l.any Qj) (l.flatMap fun x=>E3 Yr (T8 x)):=
 Td (d:=fun x=>E3 Yr (T8 x)) (body:=Hh Yr) (fun a=>Xz Yr (by decide) (Avg a) (j1:=Hb a) fun _ _=>rfl) l 16 16 rfl
theorem Asl (l:List Class):Wr (Gh Y5 l 8) (decide (8<l.length)||l.any Re) (l.flatMap fun x=>E3 Y5 (Tk x)):=
 Td (d:=fun x=>E3 Y5 (Tk x)) (body:=H5 Y5) (fun a=>Xz Y5 (by decide) (Auy a) (j1:=H9 a) fun _ _=>rfl) l 8 8 rfl
theorem Asu (l:List Rule):Wr (F2 [] l 64) (decide (64<l.length)||l.any Ln) (l.flatMap Rk):=
 Td (d:=Rk) (body:=Hs []) (fun a b l h=>by
  have:=Dl (As9 a) (Wu (Aby [59]))
  rw [Bool.or_false] at this
  exact this b l h) l 64 64 rfl
theorem Asj (a:Airspace)(h:(Sh a).length≤1000000000000):Ll a=if Ahq a then .ok ([],80) else Rh (Sh a):=by
 have:=Dl (Aug a.Volumes) (Dl (Atc a.Sectors) (Dl (Ata a.Configs) (Dl (As2 a.Segments) (Dl (At7 a.Routes) (Dl (At4 a.Airports) (Dl (Asl a.Classes) (Asu a.Rules)))))))
 have:=this false [] (by simpa [Sh] using h)
 have e:Ll a=((G9 Y0 a.Volumes 64 false).bind fun r=>(F3 Ys a.Sectors 64 r.1 r.2).bind fun r1=>(F5 Yw a.Configs 32 r1.1 r1.2).bind fun r2=>
   (Fx Yn a.Segments 128 r2.1 r2.2).bind fun r3=>(Gj Zd a.Routes 64 r3.1 r3.2).bind fun r4=>(Ft Yr a.Airports 16 r4.1 r4.2).bind fun r5=>(Gh Y5 a.Classes 8 r5.1 r5.2).bind fun r6=>
   F2 [] a.Rules 64 r6.1 r6.2).bind fun r7=>if r7.1 then .ok ([],80) else(Rh r7.2).bind fun r8=>.ok (r8.1,r8.2):=by
  simp only [R.bind_assoc]; rfl
 rw [e]
 have this:((G9 Y0 a.Volumes 64 false).bind fun r=>(F3 Ys a.Sectors 64 r.1 r.2).bind fun r1=>(F5 Yw a.Configs 32 r1.1 r1.2).bind fun r2=>
   (Fx Yn a.Segments 128 r2.1 r2.2).bind fun r3=>(Gj Zd a.Routes 64 r3.1 r3.2).bind fun r4=>(Ft Yr a.Airports 16 r4.1 r4.2).bind fun r5=>(Gh Y5 a.Classes 8 r5.1 r5.2).bind fun r6=>
   F2 [] a.Rules 64 r6.1 r6.2)=.ok (Ahq a,Sh a):=this
 rw [this]
 simp only [R.ok_bind]
 cases Ahq a
 ·simp only [Bool.false_eq_true,if_false]
  cases Rh (Sh a) <;> rfl
 ·rfl
end Go.Am
namespace Go.Am
open Go
set_option linter.unusedVariables false
set_option linter.unusedSimpArgs false
section
variable {α:Type} {g:α→List Token} {c:Nat}
theorem Pf {d:α→List Token} : ∀ (l:List α),(∀ a ∈ l,(d a).length≤c)→(l.flatMap d).length≤l.length * c
 | [],_=>by simp
 | a::l,h=>by
  have:=Pf l fun x hx=>h x (List.mem_cons_of_mem _ hx)
  have h1:=h a (List.mem_cons_self ..)
  rw [List.flatMap_cons,List.length_append,List.length_cons,Nat.succ_mul]
  omega
theorem Aas (h : ∀ a,(g a).length≤c) : ∀ (l:List α),(Ib g l).length≤l.length * (c+1)
 | []=>by simp [Ib]
 | a::l=>by
  have:(Tu g l).length≤l.length * (c+1):=Pf l fun x _=>by simp; exact h x
  have h1:=h a
  show(g a++Tu g l).length≤_
  rw [List.length_append,List.length_cons,Nat.succ_mul]
  omega
end
structure Mid (K:Nat)(a:Airspace):Prop where
 vol : ∀ x ∈ a.Volumes,x.Closed.length≤K
 sec : ∀ x ∈ a.Sectors,x.Names.length≤K
 con : ∀ x ∈ a.Configs,x.Names.length≤K
 seg : ∀ x ∈ a.Segments,x.Open.length≤K
 rou : ∀ x ∈ a.Routes,x.Names.length≤K
 air : ∀ x ∈ a.Airports,x.Modes.length≤K
theorem Apf (s:Span):(Un s).length≤3:=Nat.le_refl _
theorem Aoz (s:Mode):(Afk s).length≤3:=Nat.le_refl _
theorem Agf (w:Ar)(l:List Span){K:Nat}(h:l.length≤K):(P6 w l).length≤1+K * 4:=by
 unfold P6
 have:=Aas Apf l
 split
 ·simp
 ·simp only [List.length_cons]; omega
theorem Afa (l:List Ar){K:Nat}(h:l.length≤K):(Xn l).length≤K * 2:=by
 have:=Aas (g:=fun s:Ar=>[Dp s]) (c:=1) (fun _=>Nat.le_refl _) l
 unfold Xn; omega
theorem Aov {K:Nat}{a:Airspace}(h:Mid K a):(Sh a).length≤(a.Volumes.length+a.Sectors.length+a.Configs.length+a.Segments.length+a.Routes.length+a.Airports.length+a.Classes.length+a.Rules.length) * (K * 4+10):=by
 have h1:=Pf (d:=fun x=>E3 Y0 (Tx x)) (c:=K * 4+10) a.Volumes fun x hx=>by
  have:=Agf [99,108,111,115,101,100] x.Closed (h.vol x hx)
  simp only [E3,Tx,List.length_cons,List.length_append,List.length_singleton]; simp; omega
 have h2:=Pf (d:=fun x=>E3 Ys (T6 x)) (c:=K * 4+10) a.Sectors fun x hx=>by
  have:=Afa x.Names (h.sec x hx)
  simp only [E3,T6,List.length_cons,List.length_append,List.length_singleton]; simp; omega
 have h3:=Pf (d:=fun x=>E3 Yw (Ti x)) (c:=K * 4+10) a.Configs fun x hx=>by
  have:=Afa x.Names (h.con x hx)
  simp only [E3,Ti,List.length_cons,List.length_append,List.length_singleton]; simp; omega
 have h4:=Pf (d:=fun x=>E3 Yn (Tl x)) (c:=K * 4+10) a.Segments fun x hx=>by
  have:=Agf [111,112,101,110] x.Open (h.seg x hx)
  simp only [E3,Tl,List.length_cons,List.length_append,List.length_singleton]; simp; omega
 have h5:=Pf (d:=fun x=>E3 Zd (Th x)) (c:=K * 4+10) a.Routes fun x hx=>by
  have:=Afa x.Names (h.rou x hx)
  simp only [E3,Th,List.length_cons,List.length_append,List.length_singleton]; simp; omega
 have h6:=Pf (d:=fun x=>E3 Yr (T8 x)) (c:=K * 4+10) a.Airports fun x hx=>by
  have:=Aas Aoz x.Modes
  have:=h.air x hx
  simp only [E3,T8,List.length_cons,List.length_append,List.length_singleton]; simp; omega
 have h7:=Pf (d:=fun x=>E3 Y5 (Tk x)) (c:=K * 4+10) a.Classes fun x hx=>by
  simp only [E3,Tk,List.length_cons,List.length_append,List.length_singleton]; simp
 have h8:=Pf (d:=Rk) (c:=K * 4+10) a.Rules fun x hx=>by
  simp only [Rk,Ks,List.length_append,List.length_singleton]
  split
  ·unfold Nk; split
   ·simp [Un]
   ·split <;> simp
  ·simp
 simp only [Sh,List.length_append,Nat.add_mul]
 omega
abbrev Vt (T:List Token):Prop:=T.all Cw=true
theorem De {T U:List Token}(h:Vt T)(k:Vt U):Vt (T++U):=by unfold Vt; rw [List.all_append,h,k]; rfl
theorem Rb {s:Ar}(h:(!Dd s)=false):Vt [Dp s]:=by
 have h:Dd s=true:=by simpa using h
 simp [Vt,Cw,Dp,h]
theorem Xw {n lo hi:Int}(h:(!Lu n lo hi)=false)(h1:0≤lo)(h2:hi≤1099511627776):Vt [Nq n]:=by
 have h:Lu n lo hi=true:=by simpa using h
 simp only [Lu,Bool.and_eq_true,decide_eq_true_eq] at h
 simp [Vt,Cw,Nq]; omega
theorem Qx {α:Type}{d:α→List Token} : ∀ (l:List α),(∀ a ∈ l,Vt (d a))→Vt (l.flatMap d)
 | [],_=>rfl
 | a::l,h=>by
  rw [List.flatMap_cons]
  exact De (h a (List.mem_cons_self ..)) (Qx l fun x hx=>h x (List.mem_cons_of_mem _ hx))
theorem Atx {α:Type}{B:α→Bool}{l:List α}(h:l.any B=false) : ∀ a ∈ l,B a=false:=by simpa using h
theorem Rf {α:Type}{B:α→Bool}{most:Nat}{l:List α}(h:Kw B most l=false):l≠[]∧l.length≤most ∧ ∀ a ∈ l,B a=false:=by
 simp only [Kw,Bool.or_eq_false_iff,decide_eq_false_iff_not] at h
 exact⟨by simpa using h.1.1,by omega,Atx h.2⟩
theorem Abm {α:Type}{g:α→List Token}{B:α→Bool}{most:Nat}{l:List α}(hg : ∀ a,B a=false→Vt (g a))(h:Kw B most l=false):Vt (Ib g l):=by
 obtain⟨h1,_,h3⟩:=Rf h
 cases l with
 | nil=>exact absurd rfl h1
 | cons a l=>
  refine De (hg a (h3 a (List.mem_cons_self ..))) (Qx l fun x hx=>?_)
  exact De (T:=[Kf [44]]) (by decide) (hg x (h3 x (List.mem_cons_of_mem _ hx)))
theorem As0 {s:Span}(h:S2 s=false):Vt (Un s):=by
 simp only [S2,Bool.or_eq_false_iff] at h
 have h1:Lu s.From 0 1439=true:=by simpa using h.1
 simp only [Lu,Bool.and_eq_true,decide_eq_true_eq] at h1
 have e:=h.2
 rw [Xx (by omega) (by omega)] at e
 exact De (Xw h.1 (by omega) (by omega)) (De (T:=[Dp [116,111]]) (by decide) (Xw e (by omega) (by omega)))
theorem Ahd {w:Ar}(hw:Vt [Dp w]){l:List Span}(h:Np l=false):Vt (P6 w l):=by
 unfold Np at h
 unfold P6
 cases l with
 | nil=>rfl
 | cons a l=>
  have h:Kw S2 16 (a::l)=false:=by simpa using h
  exact De hw (Abm (fun _=>As0) h)
theorem Ahy {most:Nat}{l:List Ar}(h:Vd most l=false):Vt (Xn l):=Abm (fun _=>Rb) h
theorem Avz {m:Mode}(h:Aab m=false):Vt (Afk m):=by
 simp only [Aab,Bool.or_eq_false_iff] at h
 exact De (by decide) (De (Rb h.1) (Xw h.2 (by omega) (by omega)))
theorem Adc {w:Ar}(hw:Vt [Dp w]){T:List Token}(h:Vt T):Vt (E3 w T):=De (T:=[Dp w]) hw (De h (by decide))
theorem Ats {a:Volume}(h:Qk a=false):Vt (Tx a):=by
 simp only [Qk,Bool.or_eq_false_iff] at h
 exact De (Rb h.1) (Ahd (by decide) h.2)
theorem At2 {a:Sector}(h:Qn a=false):Vt (T6 a):=by
 simp only [Qn,Bool.or_eq_false_iff] at h
 have h1:Lu a.Radar 0 64=true:=by simpa using h.2.2.1
 simp only [Lu,Bool.and_eq_true,decide_eq_true_eq] at h1
 exact De (Rb h.1) (De (by decide) (De (Ahy h.2.1) (De (by decide) (De (Xw h.2.2.1 (by omega) (by omega)) (De (by decide) (Xw h.2.2.2 (by omega) (by omega)))))))
theorem Asp {a:Config}(h:Qu a=false):Vt (Ti a):=by
 simp only [Qu,Bool.or_eq_false_iff] at h
 exact De (Rb h.1) (De (by decide) (Ahy h.2))
theorem Atd {a:Segment}(h:Qh a=false):Vt (Tl a):=by
 simp only [Qh,Bool.or_eq_false_iff] at h
 exact De (Rb h.1) (De (by decide) (De (Rb h.2.1) (De (by decide) (De (Xw h.2.2.1 (by omega) (by omega)) (Ahd (by decide) h.2.2.2)))))
theorem Aud {a:Route}(h:Ql a=false):Vt (Th a):=by
 simp only [Ql,Bool.or_eq_false_iff] at h
 exact De (Rb h.1) (De (by decide) (De (Rb h.2.1) (De (by decide) (De (Rb h.2.2.1) (De (by decide) (Ahy h.2.2.2))))))
theorem Atv {a:Airport}(h:Qj a=false):Vt (T8 a):=by
 simp only [Qj,Bool.or_eq_false_iff] at h
 exact De (Rb h.1) (Abm (fun _=>Avz) h.2)
theorem As3 {a:Class}(h:Re a=false):Vt (Tk a):=by
 simp only [Re,Bool.or_eq_false_iff] at h
 have h1:Lu a.Slow 1 64=true:=by simpa using h.2.1
 simp only [Lu,Bool.and_eq_true,decide_eq_true_eq] at h1
 exact De (Rb h.1) (De (by decide) (De (Xw h.2.1 (by omega) (by omega)) (De (by decide) (De (Xw h.2.2.1 (by omega) (by omega)) (De (by decide) (Xw h.2.2.2 (by omega) (by omega)))))))
theorem As6 {b:Rule}(h:Ln b=false):Vt (Ks b):=by
 unfold Ln at h
 unfold Ks
 by_cases h1:b.Kind=1
 ·rw [if_pos h1] at h
  simp only [Bool.or_eq_false_iff] at h
  rw [if_pos (.inl h1)]
  simp only [Ob,Nk,h1,if_true]
  exact De (by decide) (De (Rb h.1) (De (by decide) (De (Rb h.2.1) (As0 h.2.2.1))))
 rw [if_neg h1] at h
 by_cases h2:b.Kind=2
 ·rw [if_pos h2] at h
  simp only [Bool.or_eq_false_iff] at h
  rw [if_pos (.inr (.inl h2))]
  simp only [Ob,Nk,h1,h2,if_true,if_false]
  rw [if_neg (by decide),if_neg (by decide)]
  exact De (by decide) (De (Rb h.1) rfl)
 rw [if_neg h2] at h
 by_cases h3:b.Kind=3
 ·rw [if_pos h3] at h
  simp only [Bool.or_eq_false_iff] at h
  rw [if_pos (.inr (.inr (.inl h3)))]
  simp only [Ob,Nk,h1,h2,h3,if_true,if_false]
  exact De (by decide) (De (Rb h.1) (Xw h.2.1 (by omega) (by omega)))
 rw [if_neg h3] at h
 by_cases h4:b.Kind=4
 ·rw [if_pos h4] at h
  simp only [Bool.or_eq_false_iff] at h
  rw [if_pos (.inr (.inr (.inr h4)))]
  simp only [Ob,Nk,h1,h2,h3,h4,if_true,if_false]
  exact De (by decide) (De (Rb h.1) (Xw h.2.1 (by omega) (by omega)))
 rw [if_neg h4] at h; cases h
structure GoodA (a:Airspace):Prop where
 fits:U5 a
 vol : ∀ x ∈ a.Volumes,Qk x=false
 sec : ∀ x ∈ a.Sectors,Qn x=false
 con : ∀ x ∈ a.Configs,Qu x=false
 seg : ∀ x ∈ a.Segments,Qh x=false
 rou : ∀ x ∈ a.Routes,Ql x=false
 air : ∀ x ∈ a.Airports,Qj x=false
 cla : ∀ x ∈ a.Classes,Re x=false
 rul : ∀ x ∈ a.Rules,Ln x=false
theorem Apw (a:Airspace):Ahq a=false↔GoodA a:=by
 unfold Ahq
 simp only [Bool.or_eq_false_iff,decide_eq_false_iff_not,Nat.not_lt,List.any_eq_false,Bool.not_eq_true]
 constructor
 ·rintro⟨⟨f1,g1⟩,⟨f2,g2⟩,⟨f3,g3⟩,⟨f4,g4⟩,⟨f5,g5⟩,⟨f6,g6⟩,⟨f7,g7⟩,⟨f8,g8⟩⟩
  exact⟨⟨f1,f2,f3,f4,f5,f6,f7,f8⟩,g1,g2,g3,g4,g5,g6,g7,g8⟩
 ·rintro⟨⟨f1,f2,f3,f4,f5,f6,f7,f8⟩,g1,g2,g3,g4,g5,g6,g7,g8⟩
  exact⟨⟨f1,g1⟩,⟨f2,g2⟩,⟨f3,g3⟩,⟨f4,g4⟩,⟨f5,g5⟩,⟨f6,g6⟩,⟨f7,g7⟩,⟨f8,g8⟩⟩
theorem Agd {l:List Span}(h:Np l=false):l.length≤64:=by
 cases l with
 | nil=>simp
 | cons a l=>
  have h:Kw S2 16 (a::l)=false:=by simpa [Np] using h
  have:=(Rf h).2.1; omega
theorem Apx {a:Airspace}(h:GoodA a):Mid 64 a where
 vol:=fun x hx=>Agd (by have:=h.vol x hx; simp only [Qk,Bool.or_eq_false_iff] at this; exact this.2)
 sec:=fun x hx=>by have:=h.sec x hx; simp only [Qn,Bool.or_eq_false_iff] at this; exact(Rf this.2.1).2.1
 con:=fun x hx=>by have:=h.con x hx; simp only [Qu,Bool.or_eq_false_iff] at this; exact(Rf this.2).2.1
 seg:=fun x hx=>Agd (by have:=h.seg x hx; simp only [Qh,Bool.or_eq_false_iff] at this; exact this.2.2.2)
 rou:=fun x hx=>by have:=h.rou x hx; simp only [Ql,Bool.or_eq_false_iff] at this; have:=(Rf this.2.2.2).2.1; omega
 air:=fun x hx=>by have:=h.air x hx; simp only [Qj,Bool.or_eq_false_iff] at this; have:=(Rf this.2).2.1; omega
theorem Ahu {a:Airspace}(h:GoodA a):(Sh a).length≤131072:=by
 have h1:=Aov (Apx h)
 obtain⟨f1,f2,f3,f4,f5,f6,f7,f8⟩:=h.fits
 omega
theorem Afi {a:Airspace}(h:GoodA a):Vt (Sh a):=by
 unfold Sh
 exact De (Qx _ fun x hx=>Adc (by decide) (Ats (h.vol x hx))) (De (Qx _ fun x hx=>Adc (by decide) (At2 (h.sec x hx))) (De (Qx _ fun x hx=>Adc (by decide) (Asp (h.con x hx)))
  (De (Qx _ fun x hx=>Adc (by decide) (Atd (h.seg x hx))) (De (Qx _ fun x hx=>Adc (by decide) (Aud (h.rou x hx))) (De (Qx _ fun x hx=>Adc (by decide) (Atv (h.air x hx)))
  (De (Qx _ fun x hx=>Adc (by decide) (As3 (h.cla x hx))) (Qx _ fun x hx=>De (As6 (h.rul x hx)) (by decide))))))))
theorem Alv {s:Ar}(h:Dd s=true):s.length≤32:=by
 unfold Dd at h
 cases s with
 | nil=>simp
 | cons c w=>simp at h; simp; omega
theorem Am3 {t:Token}(h:Cw t=true):t.Text.length≤32:=by
 unfold Cw at h
 split at h
 ·simp only [Bool.and_eq_true] at h; exact Alv h.1
 ·split at h
  ·simp only [Bool.and_eq_true,beq_iff_eq] at h; rw [h.1.1]; simp
  ·split at h
   ·simp only [Bool.and_eq_true] at h
    cases ht:t.Text with
    | nil=>simp
    | cons c w=>cases w with
     | nil=>simp
     | cons d w=>rw [ht] at h; simp [Uw] at h
   ·cases h
theorem Ah3 : ∀ (l:List Token),Vt l→Z9 l≤32 * l.length
 | [],_=>by simp [Z9]
 | t::l,h=>by
  have h:Cw t=true∧l.all Cw=true:=by simpa [Vt] using h
  have ih:=Ah3 l h.2
  have:=Am3 h.1
  unfold Z9 at ih ⊢
  simp only [List.map_cons,List.sum_cons,List.length_cons]
  omega
theorem Ak5 {a:Airspace}(h:GoodA a):Apy (Sh a):=by
 have h1:=Ahu h
 have h2:=Afi h
 have h3:=Aqk h2
 have h4:=Ago (Sh a) h3
 have h5:=Ah3 _ h2
 exact⟨by omega,by omega,h3⟩
def Acb (a:Airspace):Ar:=Lib.join ((Sh a).map Fv) [32]
theorem Alc {a:Airspace}(h:GoodA a):Ll a=.ok (Acb a,0):=by
 have h1:=Ahu h
 rw [Asj a (by omega),if_neg (by rw [(Apw a).2 h]; simp),Aq2 _ (Ak5 h)]
 unfold Afh
 rw [if_pos (Afi h)]; rfl
end Go.Am
namespace Go.Am
open Go
set_option linter.unusedVariables false
set_option linter.unusedSimpArgs false
def G5 {α:Type}(p:Rd α)(T:List Token)(x:α)(ok:List Token→Prop):Prop := ∀ r,ok r→p (T++r)=.ok (x,r)
def Pn:List Token→Prop:=fun _=>True
def NoC:List Token→Prop:=fun r => ∀ t r',r=t::r'→Lh 3 [44] t=false
def Aoc:List Token→Prop:=fun r => ∃ r',r=Kf [59]::r'
section
variable {α β:Type} {p:Rd α} {f:α→Rd β} {T U:List Token} {a:α} {b:β} {ok ok':List Token→Prop}
theorem Aet (hp:G5 p T a ok)(hf:G5 (f a) U b ok')(h : ∀ r,ok' r→ok (U++r)):G5 (p.bind f) (T++U) b ok':=fun r hr=>by
 unfold Rd.bind
 rw [List.append_assoc,hp _ (h r hr)]
 exact hf r hr
theorem Gc (hp:G5 p T a Pn)(hf:G5 (f a) U b ok'):G5 (p.bind f) (T++U) b ok':=Aet hp hf fun _ _=>trivial
theorem O0 {g:α→β}(hp:G5 p T a ok):G5 (p.bind fun x=>.pure (g x)) T (g a) ok:=fun r hr=>by
 unfold Rd.bind
 rw [hp r hr]; rfl
theorem Abr (hp:G5 p T a Pn):G5 p T a ok:=fun r _=>hp r trivial
theorem Z3 {r:List Token}(h:Aoc r):NoC r:=fun t r' e=>by
 obtain⟨q,rfl⟩:=h
 injection e with e1 e2
 subst e1; rfl
theorem Au8 (s:Ar)(r:List Token):NoC (Dp s::r):=fun t r' e=>by
 injection e with e1 e2
 subst e1; rfl
theorem Xi (s:Ar):G5 Mq [Dp s] s Pn:=fun r _=>by
 show Mq (Dp s::r)=_
 rw [Alj]; rfl
theorem O6 (s:Ar):G5 (Lt 1 s) [Dp s] () Pn:=fun r _=>by
 show Lt 1 s (Dp s::r)=_
 rw [Adq,if_pos (by simp [Lh,Dp])]
theorem Ad3 (s:Ar):G5 (Lt 3 s) [Kf s] () Pn:=fun r _=>by
 show Lt 3 s (Kf s::r)=_
 rw [Adq,if_pos (by simp [Lh,Kf])]
theorem U9 {n lo hi:Int}(h:(!Lu n lo hi)=false):G5 (Nn lo hi 1) [Nq n] n Pn:=fun r _=>by
 have h:Lu n lo hi=true:=by simpa using h
 simp only [Lu,Bool.and_eq_true,decide_eq_true_eq] at h
 show Nn lo hi 1 (Nq n::r)=_
 rw [Af7,if_pos (by simp [Ac7,Nq]; exact⟨decide_eq_true h.1,decide_eq_true h.2⟩)]; rfl
theorem Ary {n lo hi:Int}(h:(!Lu n lo hi)=false)(h2:Int.tmod n 10=0):G5 (Nn lo hi 10) [Nq n] n Pn:=fun r _=>by
 have h:Lu n lo hi=true:=by simpa using h
 simp only [Lu,Bool.and_eq_true,decide_eq_true_eq] at h
 show Nn lo hi 10 (Nq n::r)=_
 rw [Af7,if_pos (by simp [Ac7,Nq,h2]; exact⟨decide_eq_true h.1,decide_eq_true h.2⟩)]; rfl
theorem Aj2 {s:Span}(h:S2 s=false):G5 O5 (Un s) s Pn:=by
 simp only [S2,Bool.or_eq_false_iff] at h
 have h1:Lu s.From 0 1439=true:=by simpa using h.1
 simp only [Lu,Bool.and_eq_true,decide_eq_true_eq] at h1
 have e:=h.2
 rw [Xx (by omega) (by omega)] at e
 exact Gc (U9 h.1) (Gc (O6 [116,111]) (O0 (g:=fun b=>(⟨s.From,b⟩:Span)) (U9 e)))
theorem Aho {p:Rd α}{g:α→List Token}{B:α→Bool}(hp : ∀ a,B a=false→G5 p (g a) a Pn) : ∀ (l:List α) (n:Nat) (acc:List α),l≠[]→l.length≤n+1→(∀ a ∈ l,B a=false)→G5 (Em p n acc) (Ib g l) (acc++l) NoC
 | [],n,acc,h,_,_=>absurd rfl h
 | [a],n,acc,_,hn,hB=>fun r hr=>by
  have e:Ib g [a]=g a:=by simp [Ib,Tu]
  have h1:=hp a (hB a (List.mem_cons_self ..)) r trivial
  rw [e]
  have key : ∀ (K:Rd (List α)),(p.bind fun a=>(P0 3 [44]).bind fun b=>if b=true then K else .pure (acc++[a])) (g a++r)=.ok (acc++[a],r):=fun K=>by
   unfold Rd.bind
   rw [h1]
   cases r with
   | nil=>rfl
   | cons t r=>
    have:=hr t r rfl
    simp only [P0,this,Bool.false_eq_true,if_false]; rfl
  have key2 : ∀ (K:α→Rd (List α)),(p.bind fun a=>(P0 3 [44]).bind fun b=>if b=true then K a else .pure (acc++[a])) (g a++r)=.ok (acc++[a],r):=fun K=>by
   unfold Rd.bind
   rw [h1]
   cases r with
   | nil=>rfl
   | cons t r=>
    have:=hr t r rfl
    simp only [P0,this,Bool.false_eq_true,if_false]; rfl
  cases n with
  | zero=>rw [Em]; exact key _
  | succ n=>rw [Em]; exact key2 _
 | a::b::l,n,acc,_,hn,hB=>fun r hr=>by
  cases n with
  | zero=>simp at hn
  | succ n=>
   have e:Ib g (a::b::l)++r=g a++(Kf [44]::(Ib g (b::l)++r)):=by simp [Ib,Tu]
   have h1:=hp a (hB a (List.mem_cons_self ..)) (Kf [44]::(Ib g (b::l)++r)) trivial
   have h2:=Aho hp (b::l) n (acc++[a]) (by simp) (by simpa using hn) (fun x hx=>hB x (List.mem_cons_of_mem _ hx)) r hr
   rw [Em,e]
   unfold Rd.bind
   rw [h1]
   have h3:Lt 3 [44] (Kf [44]::(Ib g (b::l)++r))=.ok ((),Ib g (b::l)++r):=Ad3 [44] _ trivial
   have h4:Lh 3 [44] (Kf [44])=true:=rfl
   simp only [P0,h4,if_true,h3]
   rw [h2,List.append_assoc]; rfl
theorem Alf {p:Rd α}{g:α→List Token}{B:α→Bool}(hp : ∀ a,B a=false→G5 p (g a) a Pn){most:Nat}{l:List α}(h:Kw B (most+1) l=false):G5 (Em p most []) (Ib g l) l NoC:=by
 obtain⟨h1,h2,h3⟩:=Rf h
 exact Aho hp l most [] h1 h2 h3
theorem Ajp {w:Ar}{l:List Span}(h:Np l=false):G5 (Rw w) (P6 w l) l Aoc:=by
 cases l with
 | nil=>
  intro r hr
  obtain⟨r',rfl⟩:=hr
  rfl
 | cons a l=>
  have h:Kw S2 16 (a::l)=false:=by simpa [Np] using h
  intro r hr
  show Rw w (Dp w::(Ib Un (a::l)++r))=_
  have h1:=Alf (p:=O5) (most:=15) (fun _=>Aj2) h r (Z3 hr)
  have h3:Lh 1 w (Dp w)=true:=by simp [Lh,Dp]
  have h2:Lt 1 w (Dp w::(Ib Un (a::l)++r))=.ok ((),Ib Un (a::l)++r):=O6 w _ trivial
  unfold Rw Rd.bind
  simp only [P0,h3,if_true,h2]
  exact h1
theorem Aew {most:Nat}{l:List Ar}(h:Vd (most+1) l=false):G5 (Em Mq most []) (Xn l) l NoC:=Alf (p:=Mq) (fun a _=>Xi a) h
theorem Atl {m:Mode}(h:Aab m=false):G5 Sn (Afk m) m Pn:=by
 simp only [Aab,Bool.or_eq_false_iff] at h
 exact Gc (O6 _) (Gc (Xi m.Name) (O0 (g:=fun k=>({ Name:=m.Name,Places:=k }:Mode)) (U9 h.2)))
def Za (a:Sector):Sector:={ Name:=a.Name,Names:=a.Names,Volumes:=[],Radar:=a.Radar,Procedural:=a.Procedural }
def Yx (a:Config):Config:={ Name:=a.Name,Names:=a.Names,Sectors:=[] }
def Y2 (a:Segment):Segment:={ Name:=a.Name,In:=a.In,Volume:=0,Length:=a.Length,Open:=a.Open }
def Zc (a:Route):Route:={ Name:=a.Name,A:=a.A,B:=a.B,From:=0,To:=0,Names:=a.Names,Segments:=[] }
def Aaw (a:Rule):Rule:=D6 a.Kind a.C a.A a.N a.Hours
theorem Tm {p:Ar→Rd α}{n:Ar}{T:List Token}{x:α}(h:G5 (p n) T x Aoc):G5 (E9 p) (([Dp n]++T)++[Kf [59]]) x Pn:=by
 rw [List.append_assoc]
 exact Gc (Xi n) (Aet h (O0 (g:=fun _=>x) (Ad3 [59])) fun r _=>⟨r,rfl⟩)
theorem Avb {a:Volume}(h:Qk a=false):G5 (E9 Y1) (Tx a++[Kf [59]]) a Pn:=by
 simp only [Qk,Bool.or_eq_false_iff] at h
 exact Tm (O0 (g:=fun c=>({ Name:=a.Name,Closed:=c }:Volume)) (Ajp h.2))
theorem Auz {a:Sector}(h:Qn a=false):G5 (E9 Y7) (T6 a++[Kf [59]]) (Za a) Pn:=by
 simp only [Qn,Bool.or_eq_false_iff] at h
 exact Tm (Gc (Ad3 _) (Aet (Aew h.2.1) (Gc (O6 _) (Gc (U9 h.2.2.1) (Gc (O6 _) (Abr (O0 (g:=fun k=>Za { a with Procedural:=k }) (U9 h.2.2.2)))))) fun r _=>Au8 _ _))
theorem Auw {a:Config}(h:Qu a=false):G5 (E9 Ym) (Ti a++[Kf [59]]) (Yx a) Pn:=by
 simp only [Qu,Bool.or_eq_false_iff] at h
 exact Tm (Gc (Ad3 _) fun r hr=>O0 (g:=fun l=>Yx { a with Names:=l }) (Aew h.2) r (Z3 hr))
theorem Au0 {a:Segment}(h:Qh a=false):G5 (E9 Yy) (Tl a++[Kf [59]]) (Y2 a) Pn:=by
 simp only [Qh,Bool.or_eq_false_iff] at h
 exact Tm (Gc (O6 _) (Gc (Xi a.In) (Gc (O6 _) (Gc (U9 h.2.2.1) (O0 (g:=fun l=>Y2 { a with Open:=l }) (Ajp h.2.2.2))))))
theorem Aut {a:Route}(h:Ql a=false):G5 (E9 Yp) (Th a++[Kf [59]]) (Zc a) Pn:=by
 simp only [Ql,Bool.or_eq_false_iff] at h
 exact Tm (Gc (O6 _) (Gc (Xi a.A) (Gc (O6 _) (Gc (Xi a.B) (Gc (O6 _) fun r hr=>O0 (g:=fun l=>Zc { a with Names:=l }) (Aew h.2.2.2) r (Z3 hr))))))
theorem Aur {a:Airport}(h:Qj a=false):G5 (E9 Yv) (T8 a++[Kf [59]]) a Pn:=by
 simp only [Qj,Bool.or_eq_false_iff] at h
 exact Tm (fun r hr=>O0 (g:=fun l=>({ Name:=a.Name,Modes:=l }:Airport)) (Alf (p:=Sn) (most:=15) (fun _=>Atl) h.2) r (Z3 hr))
theorem Avf {a:Class}(h:Re a=false):G5 (E9 Y8) (Tk a++[Kf [59]]) a Pn:=by
 simp only [Re,Bool.or_eq_false_iff] at h
 exact Tm (Gc (O6 _) (Gc (U9 h.2.1) (Gc (O6 _) (Gc (U9 h.2.2.1) (Gc (O6 _) (Abr (O0 (g:=fun k=>({ a with Places:=k }:Class)) (U9 h.2.2.2))))))))
end
end Go.Am

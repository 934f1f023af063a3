/- Written by shrink.py from texts of ours: comments struck, what is not reached left out, names short. -/
import Derived.Test.YtjidhdlbojmlfaaGreatDoorU3
import Derived.Test.YtjidhdlbojmlfaaGreatDoorU1
import Derived.Test.YtjidhdlbojmlfaaGreatDoorU2
import Derived.RangeFuncIn
import Derived.RangeFuncLeaves
import Derived.Deep.DeepHandedRow
import Derived.Lib.LaidU8
import Derived.Lay
import Derived.MakeChecks
import Derived.LaidMore
import Derived.WideKeyElems2
import Derived.KernelRfl
import Derived.Lib.Bytealg
import Derived.Lib.ItoaNum
import Derived.Lib.Join
import Derived.Lib.AtoiAll
import Derived.Lib.ItoaMem
import Derived.Lib.AtoiAllCases
namespace Go.Am
open Go
set_option linter.unusedSimpArgs false
set_option linter.unusedVariables false
set_option linter.unusedSectionVars false
inductive AFz (h h2:Ag):AO→AO→Prop
 | same (x:AO):AFz h h2 x x
 | rows (g st:Nat) (rs rs':List (List AV)) (hl:rs.length=rs'.length) (hr : ∀ r ∈ rs',Fd st r) (hc : ∀ i j,i<rs.length→j<st→Fz h h2 (cell rs i j) (cell rs' i j)):AFz h h2 (.rows g st rs) (.rows g st rs')
def HFz (h h2:Ag):Prop := ∀ o y,h2 o=some y → ∃ x,h o=some x∧AFz h h2 x y
theorem AFz.gen {h h2:Ag}{x y:AO}(k:AFz h h2 x y):x.gen=y.gen:=by cases k <;> rfl
theorem HFz.subG {h h2:Ag}(k:HFz h h2):Af6 h2 h:=fun o y e=>let ⟨x,h1,h2⟩:=k o y e; ⟨x,h1,h2.gen⟩
theorem Sim.fz {P:Program}[GW P]{B:Base P}{mu:Mu}{h h2:Ag}{w:World}(s:Sim B mu h w)(k:HFz h h2):Sim B mu h2 w:=by
 refine⟨s.base,s.muOk,s.fin,?_,?_,?_,?_,s.glob,fun o g x e=>by
  obtain⟨y,h1,hx⟩:=k o _ e
  cases hx with
  | same _=>exact s.blks o g x h1⟩
 ·obtain⟨N,hN⟩:=s.finh
  refine⟨N,fun o ho=>?_⟩
  cases hq:h2 o with
  | none=>rfl
  | some y=>obtain⟨x,h1,_⟩:=k o y hq; rw [hN o ho] at h1; cases h1
 ·intro o g st rs e
  obtain⟨x,h1,hx⟩:=k o _ e
  cases hx with
  | same _=>
   obtain⟨l,k1,k2,k3,k4,k5,k6⟩:=s.rows o g st rs h1
   exact⟨l,k1,k2,k3,k4,k5,fun i j hi hj=>let ⟨c,c1,c2⟩:=k6 i j hi hj; ⟨c,c1,Oz s k.subG (.same _) c2⟩⟩
  | rows _ _ rs0 _ hl hr hc=>
   obtain⟨l,k1,k2,k3,k4,k5,k6⟩:=s.rows o g st rs0 h1
   exact⟨l,k1,k2,k3,by rw [← hl]; exact k4,hr,fun i j hi hj=>let ⟨c,c1,c2⟩:=k6 i j (hl ▸ hi) hj; ⟨c,c1,Oz s k.subG (hc i j (hl ▸ hi) hj) c2⟩⟩
 ·intro o g es e
  obtain⟨x,h1,hx⟩:=k o _ e
  cases hx with
  | same _=>
   obtain⟨l,k1,k2,ens,clock,k3,k4,k5⟩:=s.maps o g es h1
   exact⟨l,k1,k2,ens,clock,k3,k4,fun i hi=>⟨Oz s k.subG (.same _) (k5 i hi).1,Oz s k.subG (.same _) (k5 i hi).2⟩⟩
 ·intro o o' x x' l l' e e' h1 h2 hb
  obtain⟨y,k1,k2⟩:=k _ _ e
  obtain⟨y',k1',k2'⟩:=k _ _ e'
  exact s.inj o o' y y' l l' k1 k1' (by rw [k2.gen]; exact h1) (by rw [k2'.gen]; exact h2) hb
section
variable {P:Program} [GW P] {f:FuncId} {n:Nat} {d:FK} {fr:Nat→AV} {ds:List AD} {h h2:Ag} {u:AU} {Q:QT} {k:List Item}
theorem Agl {fn:Func}{vs:List AV}{v':AV}(hf:P.funcs[f]? = some fn)(hx:Lz P h fr fn.results.toList=some vs)(hs:HFz h h2)(hz:Fz h h2 (Mm vs) v')(hu:d=false)(hq:Q (.ret v') h2 u):S1 P f n d .ret fr [] h u Q:=by
 intro B mu w a cs todo mode p hm
 obtain⟨c,h1,h2'⟩:=Vl p.sim p.fr hx
 have hd:a.defers=[]:=p.ds
 have hmode:=hm.ret_inv
 refine⟨.returned c,w,cs,_,.ret v',h2,mu,u,hq,Steps.refl P _,rfl,rfl,(by subst hu; exact⟨hmode,hd,fn,hf,h1⟩),Oz p.sim hs.subG hz h2',p.sim.fz hs,(Gt.subG hs.subG).g,?_⟩
 subst hu
 rfl
end
inductive HL (h h2:Ag):List (Option AO)→List (Option AO)→Prop
 | nil:HL h h2 [] []
 | keep {x:Option AO} {xs ys:List (Option AO)} (r:HL h h2 xs ys):HL h h2 (x::xs) (x::ys)
 | drop {x:Option AO} {xs ys:List (Option AO)} (r:HL h h2 xs ys):HL h h2 (x::xs) (none::ys)
 | fz {g st:Nat} {row row':List AV} {xs ys:List (Option AO)} (hz:LF h h2 row row') (hl:row'.length=st) (hf:row'.all AV.flat=true) (r:HL h h2 xs ys):HL h h2 (some (.rows g st [row])::xs) (some (.rows g st [row'])::ys)
theorem HL.get {h h2:Ag}{xs ys:List (Option AO)}(k:HL h h2 xs ys):xs.length=ys.length ∧ ∀ (j:Nat) (y:AO),ys[j]? = some (some y) → ∃ x,xs[j]? = some (some x)∧AFz h h2 x y:=by
 induction k with
 | nil=>exact⟨rfl,fun j y e=>by simp at e⟩
 | keep r ih=>
  refine⟨by simp [ih.1],fun j y e=>?_⟩
  cases j with
  | zero=>simp only [List.getElem?_cons_zero,Option.some.injEq] at e; subst e; exact⟨y,by simp,.same _⟩
  | succ j=>simpa using ih.2 j y (by simpa using e)
 | drop r ih=>
  refine⟨by simp [ih.1],fun j y e=>?_⟩
  cases j with
  | zero=>simp at e
  | succ j=>simpa using ih.2 j y (by simpa using e)
 | @fz g st row row' xs ys hz hl hf r ih=>
  refine⟨by simp [ih.1],fun j y e=>?_⟩
  cases j with
  | zero=>
   simp only [List.getElem?_cons_zero,Option.some.injEq] at e
   subst e
   refine⟨.rows g st [row],by simp only [List.getElem?_cons_zero],.rows g st [row] [row'] rfl ?_ ?_⟩
   ·intro r hr
    rw [List.mem_singleton.1 hr]
    exact⟨hl,fun v hv=>List.all_eq_true.1 hf v hv⟩
   ·intro i j hi hj
    have:i=0:=by simpa using hi
    subst this
    have:=hz.all.2 j (by rw [hz.all.1,hl]; exact hj)
    simpa [cell] using this
  | succ j=>simpa using ih.2 j y (by simpa using e)
theorem HL.hfz {h0:Ag}{ids:List Nat}{N:Nat}{xs ys:List (Option AO)}(hI:Ids h0 ids N)(hl:xs.length=N)(k:HL (hp h0 ids xs) (hp h0 ids ys) xs ys):HFz (hp h0 ids xs) (hp h0 ids ys):=by
 intro o y e
 obtain⟨k1,k2⟩:=k.get
 by_cases ho:o ∈ ids
 ·obtain⟨j,hj,rfl⟩:=List.mem_iff_getElem.1 ho
  have ej:ids[j]=ix ids j:=by simp [ix,List.getD,hj]
  rw [ej] at e ⊢
  have hjl:j<ys.length:=by rw [← k1,hl,← hI.len]; exact hj
  have hy:=hI.at (xs:=ys) (j:=j) (x:=ys[j]) (by rw [← k1,hl]) (List.getElem?_eq_getElem hjl)
  rw [hy] at e
  obtain⟨x,hx,hz⟩:=k2 j y (by rw [List.getElem?_eq_getElem hjl,e])
  exact⟨x,hI.at hl hx,hz⟩
 ·rw [Tq ho] at e
  exact⟨y,by rw [Tq ho]; exact e,.same _⟩
section
variable {P:Program} [GW P] {f:FuncId} {n:Nat} {d:FK} {β:Type} {Q:Spec β} {m:R β} {ds:List AD} {u:AU} {k:List Item} {l:List (Nat×AV)} {all:List Oper}
variable {h0:Ag} {ids:List Nat} {xs:List (Option AO)} {N:Nat}
end
def T7:List Nat→List (Option AO)→List (Option AO)
 | [],xs=>xs
 | j::js,xs=>T7 js (xs.set j none)
def Tz:List Nat→List (Option AO)→List (Option AO)→List (Option AO)
 | j::js,y::ys,xs=>(Tz js ys (xs.set j none)).set j y
 | _,_,xs=>xs
def Yr (ids:List Nat):List Nat→List Nat
 | []=>[]
 | j::js=>ix ids j::Yr ids js
def Sz (N:Nat):List Nat→Bool
 | []=>true
 | j::js=>Nat.blt j N && !js.contains j&&Sz N js
theorem Aii : ∀ (js:List Nat) (xs:List (Option AO)),(T7 js xs).length=xs.length
 | [],_=>rfl
 | j::js,xs=>by rw [T7,Aii js]; simp
theorem Agw : ∀ (js:List Nat) (ys xs:List (Option AO)),(Tz js ys xs).length=xs.length
 | [],_,_=>by simp [Tz]
 | _::_,[],_=>by simp [Tz]
 | j::js,y::ys,xs=>by rw [Tz,List.length_set,Agw js]; simp
theorem Afu : ∀ (js:List Nat) (xs:List (Option AO)) (i:Nat),xs[i]? = some none→(T7 js xs)[i]? = some none
 | [],_,_,h=>h
 | j::js,xs,i,h=>Afu js _ i (by
  rw [List.getElem?_set]
  split
  ·rename_i hq; subst hq
   rw [if_pos]
   rcases Nat.lt_or_ge j xs.length with hh | hh
   ·exact hh
   ·rw [List.getElem?_eq_none hh] at h; cases h
  ·exact h)
theorem Ajt : ∀ (js:List Nat) (xs:List (Option AO)) (i:Nat),i ∈ js→i<xs.length→(T7 js xs)[i]? = some none
 | j::js,xs,i,hm,hi=>by
  rcases List.mem_cons.1 hm with rfl | hm
  ·exact Afu js _ i (by simp [hi])
  ·exact Ajt js _ i hm (by simpa using hi)
section
variable {h0:Ag} {ids:List Nat} {N:Nat}
theorem Aas (hI:Ids h0 ids N) : ∀ {js:List Nat} {ys xs:List (Option AO)},xs.length=N→js.length=ys.length→Sz N js=true→hp (hp h0 ids (T7 js xs)) (Yr ids js) ys=hp h0 ids (Tz js ys xs)
 | [],[],xs,_,_,_=>rfl
 | j::js,y::ys,xs,hl,hj,hk=>by
  simp only [Sz,Bool.and_eq_true] at hk
  simp only [Yr,hp,T7,Tz]
  rw [Aas hI (js:=js) (ys:=ys) (xs:=xs.set j none) (by simpa using hl) (by simpa using hj) hk.2]
  rw [hI.set (by rw [Agw]; simpa using hl) hk.1.1]
theorem Ids.sub' (hI:Ids h0 ids N){js:List Nat}{xs:List (Option AO)}(hl:xs.length=N)(hk:Sz N js=true):Ids (hp h0 ids (T7 js xs)) (Yr ids js) js.length:=by
 have hlt : ∀ {js:List Nat},Sz N js=true → ∀ j ∈ js,j<N:=by
  intro js
  induction js with
  | nil=>intro _ j hj; cases hj
  | cons i js ih=>
   intro hk j hj
   simp only [Sz,Bool.and_eq_true] at hk
   rcases List.mem_cons.1 hj with rfl | hj
   ·simpa using hk.1.1
   ·exact ih hk.2 j hj
 have hmem : ∀ {js:List Nat} {o:Nat},o ∈ Yr ids js → ∃ j ∈ js,o=ix ids j:=by
  intro js
  induction js with
  | nil=>intro o ho; cases ho
  | cons i js ih=>
   intro o ho
   rcases List.mem_cons.1 ho with rfl | ho
   ·exact⟨i,List.mem_cons_self ..,rfl⟩
   ·obtain⟨j,h1,h2⟩:=ih ho; exact⟨j,List.mem_cons_of_mem _ h1,h2⟩
 have hinj : ∀ {i j:Nat},i<N→j<N→ix ids i=ix ids j→i=j:=by
  intro i j hi hj e
  rw [← hI.len] at hi hj
  simp only [ix,List.getD,List.getElem?_eq_getElem hi,List.getElem?_eq_getElem hj,Option.getD_some] at e
  rcases Nat.lt_trichotomy i j with hh | hh | hh
  ·exact absurd e (List.pairwise_iff_getElem.1 hI.nodup i j hi hj hh)
  ·exact hh
  ·exact absurd e.symm (List.pairwise_iff_getElem.1 hI.nodup j i hj hi hh)
 refine⟨?_,?_,?_⟩
 ·have key : ∀ {js:List Nat},Sz N js=true→(Yr ids js).Nodup:=by
   intro js
   induction js with
   | nil=>intro _; exact List.nodup_nil
   | cons i js ih=>
    intro hk
    have hk':=hk
    simp only [Sz,Bool.and_eq_true] at hk
    refine List.nodup_cons.2 ⟨fun hm=>?_,ih hk.2⟩
    obtain⟨j,h1,h2⟩:=hmem hm
    have:=hinj (by simpa using hk.1.1) (hlt hk.2 j h1) h2
    subst this
    have:=hk.1.2
    simp [h1] at this
  exact key hk
 ·intro o ho
  obtain⟨j,h1,rfl⟩:=hmem ho
  exact hI.at (by rw [Aii]; exact hl) (Ajt js xs j h1 (by rw [hl]; exact hlt hk j h1))
 ·clear hk
  induction js with
  | nil=>rfl
  | cons i js ih=>simp only [Yr,List.length_cons]; rw [ih]
end
def C5 {α:Type}(S:α→AV→Ag→Prop)(h0:Ag)(m:R α):AR→Ag→Prop:=fun r h'=>match m with
 | .ok a => ∃ v,r=.ret v∧S a v h'
 | .pan v=>r=.panic v.av∧h'=h0
 | .bad=>False
def Afj {α:Type}(S:α→AV→Ag→Prop)(h0:Ag):Spec α:=⟨fun m=>m≠.bad,fun h=>h rfl,fun m r h' _=>C5 S h0 m r h'⟩
def tkf (ids:List Nat):Nat→Nat→List Nat
 | 0,_=>[]
 | k+1,j=>ix ids j::tkf ids k (j+1)
theorem Afl : ∀ (ids:List Nat) (k j:Nat),j+k≤ids.length→(ids.drop j).take k=tkf ids k j
 | ids,0,j,_=>by simp [tkf]
 | ids,k+1,j,h=>by
  have hj:j<ids.length:=by omega
  rw [List.drop_eq_getElem_cons hj,List.take_succ_cons,tkf,Afl ids k (j+1) (by omega)]
  simp [ix,List.getD,hj]
section
variable {P:Program} [GW P] {f:FuncId} {n:Nat} {α:Type} {m:R α} {S:α→AV→Ag→Prop} {h0:Ag}
theorem Bm {fn : Func} {c : Code} {args : List AV} {os0 : List Nat} {K : Nat} {xs : List (Option AO)} (N : Nat) (hf : P.funcs[f]? = some fn) (hb : fn.body = some c) (hn : fn.name ≠ "runtime.NumGoroutine") (hnt : fn.ntmps = n) (hl : Nat.ble args.length n = true)
  (hI0 : Ids h0 os0 K) (hx : xs.length = K)
  (hr : ∀ ids, (∀ j, Nat.blt j K = true → ix ids j = ix os0 j) → Ids h0 ids (K + N) → WR P f n false (Afj S h0) m [.code c] (A5 (Zr 0 args)) [] (hp h0 ids (xs ++ List.replicate N none)) .ret) :
  m ≠ .bad → Bq P f args (hp h0 os0 xs) (C5 S h0 m) := by
 intro hb'
 refine Yd hf hb hn hnt (by simpa using hl) ?_
 refine Abg N os0 fun os h1 h2 h3 h4 => ?_
 have hout : ∀ o ∈ os, o ∉ os0 := fun o ho => h4 o ho
 have hI : Ids h0 (os0 ++ os) (K + N) := by
  refine ⟨List.nodup_append.2 ⟨hI0.nodup, h2, fun a ha b hb hq => hout b hb (hq ▸ ha)⟩, fun o ho => ?_, by simp [hI0.len, h1]⟩
  rcases List.mem_append.1 ho with ho | ho
  ·exact hI0.fresh o ho
  ·have := h3 o ho
   rwa [Tq (hout o ho)] at this
 have e : hp h0 (os0 ++ os) (xs ++ List.replicate N none) = hp h0 os0 xs := by
  rw [X7 (by rw [hI0.len, hx]), Ur fun o ho => hI.fresh o (List.mem_append_right _ ho)]
 have := hr (os0 ++ os) (fun j hj => by
  have hj' : j < os0.length := by rw [hI0.len]; simpa using hj
  simp [ix, List.getD, List.getElem?_append_left hj']) hI hb'
 rw [e] at this
 refine Tf (fun t => ?_) this
 rcases Uc args 0 t with h | ⟨_, h⟩
 ·exact .inl h
 ·exact .inr h
section
variable {ids:List Nat} {xs:List (Option AO)} {K N:Nat} {l:List (Nat×AV)} {k:List Item} {u:AU}
theorem Aia (hI:Ids h0 ids (K+N)){ys:List (Option AO)}(hy:ys.length=K):hp h0 ids (ys++List.replicate N none)=hp h0 (tkf ids K 0) ys:=by
 have e:=Afl ids K 0 (by rw [hI.len]; omega)
 rw [List.drop_zero] at e
 rw [← e]
 have e2:ids=ids.take K++ids.drop K:=(List.take_append_drop K ids).symm
 conv=>lhs; rw [e2]
 rw [X7 (by rw [List.length_take,hI.len,hy]; omega),Ur fun o ho=>hI.fresh o (List.mem_of_mem_drop ho)]
theorem D4 {fn:Func}{a:α}{vs:List AV}{v:AV}(ys:List (Option AO))(hf:P.funcs[f]? = some fn)(hI:Ids h0 ids (K+N))(hl:xs.length=K+N)(hr:Lz P (hp h0 ids xs) (A5 l) fn.results.toList=some vs)
  (hy:ys.length=K) (hx:HL (hp h0 ids xs) (hp h0 ids (ys++List.replicate N none)) xs (ys++List.replicate N none)) (hz:Fz (hp h0 ids xs) (hp h0 ids (ys++List.replicate N none)) (Mm vs) v) (hS:S a v (hp h0 (tkf ids K 0) ys)) :
  WR P f n false (Afj S h0) (.ok a) (.code .ret::k) (A5 l) [] (hp h0 ids xs) u:=fun _=>by
 refine Abh (Agl hf hr (hx.hfz hI hl) hz rfl ⟨v,rfl,?_⟩)
 rw [Aia hI hy]; exact hS
theorem Ci {fn:Func}{a:α}{vs:List AV}{v:AV}(ys:List (Option AO))(hf:P.funcs[f]? = some fn)(hI:Ids h0 ids (K+N))(hl:xs.length=K+N)(hr:Lz P (hp h0 ids xs) (A5 l) fn.results.toList=some vs)
  (hy:ys.length=K) (hx:HL (hp h0 ids xs) (hp h0 ids (ys++List.replicate N none)) xs (ys++List.replicate N none)) (hz:Fz (hp h0 ids xs) (hp h0 ids (ys++List.replicate N none)) (Mm vs) v) (hS:S a v (hp h0 (tkf ids K 0) ys)) :
  WR P f n false (Afj S h0) (.ok a) [] (A5 l) [] (hp h0 ids xs) u:=fun _=>by
 refine Adx (Agl hf hr (hx.hfz hI hl) hz rfl ⟨v,rfl,?_⟩)
 rw [Aia hI hy]; exact hS
theorem Ao {fn:Func}{v:PV}{fr:Nat→AV}(hf:P.funcs[f]? = some fn)(hI:Ids h0 ids (K+N)):WU P f n false (Afj S h0) (.pan v) (.pan v.av false) fr [] (hp h0 ids xs) u:=fun _=>
 Afn hf (hI.sub xs) (.same _) ⟨rfl,rfl⟩
end
end
section
variable {P:Program} [GW P] {f:FuncId} {n:Nat} {d:FK} {β γ:Type} {Q:Spec β} {m:R β} {ds:List AD} {u:AU} {k:List Item} {l:List (Nat×AV)} {F:γ→R β}
variable {all r:List Oper} {ty:TypeId} {pos:String} {after:Array Edge} {h0:Ag} {ids:List Nat} {xs:List (Option AO)} {N:Nat}
theorem An7 {ops:List Oper}{fr:Nat→AV}(js:List Nat){xs zs:List (Option AO)}(ys:List (Option AO))(hI:Ids h0 ids N)(hl:xs.length=N)(hk:Sz N js=true)(hz:js.length=zs.length)(e:Tz js zs xs=ys)(hr:WO P f n d Q k all m ops fr ds (hp h0 ids ys) u) :
  WO P f n d Q k all m ops fr ds (hp (hp h0 ids (T7 js xs)) (Yr ids js) zs) u:=by
 subst e
 rw [Aas hI hl hz hk]; exact hr
theorem Ap {α:Type}{dst:Option Tmp}{x:Operand}{as0:List Operand}{ts:Array TypeId}{g:FuncId}{fst cap A:List AV}{gd:Option (Nat×Bool)}{mg:R α}{S:α→AV→Ag→Prop}{rest:α→R γ}{zs:List (Option AO)}(js:List Nat)(hI:Ids h0 ids N)(hl:xs.length=N)(hk:Sz N js=true)
  (hc:mg≠.bad→Bq P g A (hp (hp h0 ids (T7 js xs)) (Yr ids js) zs) (C5 S (hp h0 ids (T7 js xs)) mg)) (hz:js.length=zs.length) (e2:Tz js zs xs=xs)
  (ht:If n dst=true) (hw:Gg all (A5 l) ⟨dst,.call ⟨.value x,⟨as0⟩,ts⟩,ty,pos,after,gd⟩=some true) (hx:ev (A5 l) x=.func (.func g) fst cap) (ha:fst++It (A5 l) as0++cap=A)
  (hp' : ∀ v,mg=.pan v→WU P f n d Q (.pan v) (.pan v.av false) (A5 l) ds (hp h0 ids (T7 js xs)) u)
  (hk : ∀ a,mg=.ok a → ∀ v h',S a v h'→WO P f n d Q k all ((rest a).bind F) r (H1 (A5 l) dst v) ds h' u) :
  WO P f n d Q k all ((mg.bind rest).bind F) (⟨dst,.call ⟨.value x,⟨as0⟩,ts⟩,ty,pos,after,gd⟩::r) (A5 l) ds (hp h0 ids xs) u:=by
 rw [Aas hI hl hz ‹Sz N js=true›,e2] at hc
 refine Aiw (R.bind_assoc _ _ _) (Rf ht hw fun hb K U hK hU=>?_)
 simp only [Lk,hx]
 rw [ha]
 have hmb:mg≠.bad:=fun q=>by rw [q] at hb; exact Q.bad hb
 refine(hc hmb).mono fun r' h' hr=>?_
 cases hm:mg with
 | bad=>exact absurd hm hmb
 | ok a=>
  rw [hm] at hr hb hK
  obtain⟨v,rfl,hS⟩:=hr
  exact hK _ _ _ _ (hk a hm v h' hS)
 | pan v=>
  rw [hm] at hr hb hU
  obtain⟨rfl,rfl⟩:=hr
  exact hU _ _ _ _ _ (hp' v hm hb)
theorem Ar {ops:List Oper}{t:Nat}{v:AV}{h:Ag}(hr:WO P f n d Q k all m ops (A5 ((t,v)::l)) ds h u):WO P f n d Q k all m ops (H1 (A5 l) (some t) v) ds h u:=by rw [Jh]; exact hr
theorem Su {α:Type}{pre:List (List Nat)}{plan:Il}{pend:Sv}{i:Nat}{dst:Option Tmp}{x:Operand}{as0:List Operand}{ts:Array TypeId}{g:FuncId}{fst cap A:List AV}{gd:Option (Nat×Bool)}{mg:R α}{S:α→AV→Ag→Prop}{rest:α→R γ}{zs:List (Option AO)}(js:List Nat)(hI:Ids h0 ids N)(hl:xs.length=N)(hk:Sz N js=true)
  (hc:mg≠.bad→Bq P g A (hp (hp h0 ids (T7 js xs)) (Yr ids js) zs) (C5 S (hp h0 ids (T7 js xs)) mg)) (hz:js.length=zs.length) (e2:Tz js zs xs=xs) (ho:all[i]? = some ⟨dst,.call ⟨.value x,⟨as0⟩,ts⟩,ty,pos,after,gd⟩)
  (ht:If n dst=true) (hw:Gg all (A5 l) ⟨dst,.call ⟨.value x,⟨as0⟩,ts⟩,ty,pos,after,gd⟩=some true) (hx:ev (A5 l) x=.func (.func g) fst cap) (ha:fst++It (A5 l) as0++cap=A)
  (hp' : ∀ v,mg=.pan v → ∀ fr,(∀ t,(all.any fun o=>o.dst==some t)=false→fr t=A5 l t)→WU P f n d Q (.pan v) (.pan v.av false) fr ds (hp h0 ids (T7 js xs)) u)
  (hk : ∀ a,mg=.ok a → ∀ v h',S a v h'→Ol P all pre i h' pend∧WP P f n d Q k all pre ((rest a).bind F) plan pend (H1 (A5 l) dst v) ds h' u) :
  WP P f n d Q k all pre ((mg.bind rest).bind F) ((true,i)::plan) pend (A5 l) ds (hp h0 ids xs) u:=by
 rw [Aas hI hl hz ‹Sz N js=true›,e2] at hc
 refine Aja (R.bind_assoc _ _ _) (Adn ho ht hw fun hb K U hK hU=>?_)
 simp only [Lk,hx]
 rw [ha]
 have hmb:mg≠.bad:=fun q=>by rw [q] at hb; exact Q.bad hb
 refine(hc hmb).mono fun r' h' hr=>?_
 cases hm:mg with
 | bad=>exact absurd hm hmb
 | ok a=>
  rw [hm] at hr hb hK
  obtain⟨v,rfl,hS⟩:=hr
  obtain⟨k1,k2⟩:=hk a hm v h' hS
  exact hK _ _ _ _ k1 k2
 | pan v=>
  rw [hm] at hr hb hU
  obtain⟨rfl,rfl⟩:=hr
  exact hU _ _ _ _ _ (fun fr' hf=>hp' v hm fr' hf hb)
theorem Ui {pre:List (List Nat)}{plan:Il}{pend:Sv}{i:Nat}{fr:Nat→AV}(js:List Nat){xs zs:List (Option AO)}(ys:List (Option AO))(hI:Ids h0 ids N)(hl:xs.length=N)(hk:Sz N js=true)(hz:js.length=zs.length)(e:Tz js zs xs=ys)
  (hr:Ol P all pre i (hp h0 ids ys) pend∧WP P f n d Q k all pre m plan pend fr ds (hp h0 ids ys) u) :
  Ol P all pre i (hp (hp h0 ids (T7 js xs)) (Yr ids js) zs) pend∧WP P f n d Q k all pre m plan pend fr ds (hp (hp h0 ids (T7 js xs)) (Yr ids js) zs) u:=by
 subst e
 rw [Aas hI hl hz hk]; exact hr
theorem Ug {pre:List (List Nat)}{plan:Il}{pend:Sv}{t:Nat}{v:AV}{h:Ag}(hr:WP P f n d Q k all pre m plan pend (A5 ((t,v)::l)) ds h u):WP P f n d Q k all pre m plan pend (H1 (A5 l) (some t) v) ds h u:=by rw [Jh]; exact hr
end
theorem Ago {P:Program}[GW P]{f:FuncId}{n:Nat}{α:Type}{e:α→AV}{hdl:PV→R α}{h0:Ag}{ids:List Nat}{N:Nat}{xs:List (Option AO)}{l:List (Nat×AV)}{k:List Item}{u:AU}{fn:Func}{a:α}{vs:List AV}(hf:P.funcs[f]? = some fn)(hI:Ids h0 ids N)
  (hr:Lz P (hp h0 ids xs) (A5 l) fn.results.toList=some vs) (hz:Fz (hp h0 ids xs) h0 (Mm vs) (e a)) :
  WR P f n false (Q9 e h0 hdl) (.ok a) (.code .ret::k) (A5 l) [] (hp h0 ids xs) u:=fun _=>
 Abh (W5 hf hr (hI.sub xs) hz rfl ⟨rfl,rfl⟩)
end Go.Am
namespace Go.Am
open Go
set_option linter.unusedSimpArgs false
set_option linter.unusedVariables false
set_option linter.unusedSectionVars false
def Ih {α:Type}(l:List α)(a b:Int):List α:=(l.drop a.toNat).take (b.toNat - a.toNat)
section
variable {P:Program} [GW P] {h:Ag} {t et:TypeId} {a b st:Nat} {z:List AV} {E:TI} {s:List UInt8} {k k':IntKind} {lo hi:Int} {α:Type} {e:α→List AV} {L:List α}
theorem Aje {n:Nat}(h1:0≤lo)(h2:lo≤(n:Int))(d:Nat):I9 (some (.int k lo)) d n=some lo.toNat:=by simp only [I9]; rw [if_pos ⟨h1,h2⟩]
theorem Yq (hT:ti P t=some ⟨.str,a,b,z⟩)(hc:0≤lo∧lo≤hi∧hi≤(s.length:Int)):P9 P h t (.str s) (some (.int k lo)) (some (.int k' hi)) none=some (.str (Ih s lo hi)):=by
 obtain⟨h1,h2,h3⟩:=hc
 simp only [P9,hT]
 rw [Aje (by omega) h3]
 simp only
 rw [Aje h1 (by omega)]
 rfl
theorem Aio (hT:ti P t=some ⟨.str,a,b,z⟩)(hc:0≤lo∧lo≤(s.length:Int)):P9 P h t (.str s) (some (.int k lo)) none none=some (.str (s.drop lo.toNat)):=by
 simp only [P9,hT,I9]
 rw [if_pos hc]
 simp only [Option.some.injEq,AV.str.injEq]
 rw [List.take_of_length_le (by simp)]
theorem An5 (hT:ti P t=some ⟨.str,a,b,z⟩)(hc:0≤hi∧hi≤(s.length:Int)):P9 P h t (.str s) none (some (.int k hi)) none=some (.str (s.take hi.toNat)):=by
 simp only [P9,hT]
 rw [Aje hc.1 hc.2]
 simp only [I9,List.drop_zero,Nat.sub_zero]
theorem N0 (hT:ti P t=some ⟨.sl et,a,b,z⟩)(hE:ti P et=some E)(hs:st=E.size)(hc:0≤lo∧lo≤(L.length:Int)):P9 P h t (.sl st (L.map e)) (some (.int k lo)) none none=some (.sl st ((L.drop lo.toNat).map e)):=by
 simp only [P9,hT,hE,I9]
 rw [if_pos hs]
 simp only [List.length_map]
 rw [if_pos hc]
 simp only [Option.some.injEq,AV.sl.injEq,true_and]
 rw [List.take_of_length_le (by simp),List.map_drop]
theorem T9 {m o g r c:Nat}{i:Int}(j:Nat)(hT:ti P t=some ⟨.arr m et,a,b,z⟩)(hE:ti P et=some E)(hi:i=(j:Int))(hj:Nat.blt j m=true):Ke P h t (.ptr o g r c) (.int k i)=some (.ptr o g r (c+j * E.size)):=by
 subst hi
 have:j<m:=by simpa using hj
 simp only [Ke,hT,hE]
 rw [if_pos ⟨by omega,by omega⟩,Int.toNat_natCast]
end
section
variable {P:Program} [GW P] {f:FuncId} {n:Nat} {d:FK} {β γ:Type} {Q:Spec β} {fr:Nat→AV} {ds:List AD} {h:Ag} {u:AU} {k:List Item} {F:γ→R β} {all:List Oper}
theorem Wu {p:Prop}[Decidable p]{A B:R γ}{ops:List Oper}(ht:p→WO P f n d Q k all (A.bind F) ops fr ds h u)(hf:¬ p→WO P f n d Q k all (B.bind F) ops fr ds h u):WO P f n d Q k all ((if p then A else B).bind F) ops fr ds h u:=by
 have e:(if p then A else B).bind F=if p then A.bind F else B.bind F:=by split <;> rfl
 rw [e]; exact Apt ht hf
section
variable {r:List Oper} {l:List (Nat×AV)} {m:R β} {ty:TypeId} {pos:String} {after:Array Edge} {pre:List (List Nat)} {plan:Il} {pend:Sv} {i:Nat}
end
theorem Abf {p:Prop}[Decidable p]{A:R γ}{todo:List Item}(hk:p→WR P f n d Q (A.bind F) todo fr ds h u):WR P f n d Q ((if p then A else .bad).bind F) todo fr ds h u:=by
 intro hb
 by_cases hp:p
 ·simp only [if_pos hp] at hb ⊢; exact hk hp hb
 ·simp only [if_neg hp] at hb; exact absurd hb Q.bad
theorem Ao5 {ops:List Oper}:WO P f n d Q k all ((R.bad:R γ).bind F) ops fr ds h u:=fun hb=>absurd hb Q.bad
end
section
variable {P:Program} [GW P] {h:Ag} {s t e:TypeId} {a b c d st:Nat} {z1 z2:List AV} {E:TI} {L:List Int}
end
section
variable {P:Program} [GW P] {f:FuncId} {n:Nat} {d:FK} {β:Type} {Q:Spec β} {m:R β} {ds:List AD} {h:Ag} {u:AU} {k:List Item} {l:List (Nat×AV)} {all r:List Oper} {ty:TypeId} {pos:String} {after:Array Edge}
end
def Ai1 (v:AV)(b:Bool):Prop:=match b with
 | false=>v=.nili
 | true => ∃ t x,v=.iface t x
theorem Amu {P:Program}[GW P]{t:TypeId}{v:AV}{b:Bool}{s by':Nat}{z:List AV}(hT:ti P t=some ⟨.ifc,s,by',z⟩)(hv:Ai1 v b):Pa P .neq t v .nili=some (.bool b):=by
 cases b with
 | false=>obtain rfl:v=.nili:=hv; exact Ad8 hT
 | true=>obtain⟨t',x,rfl⟩ : ∃ t x,v=.iface t x:=hv; exact Acq hT
theorem Ajr {P:Program}[GW P]{o:BinOp}{t:TypeId}{x:Operand}{c:Value}{v:AV}{b:Bool}(ho:o=.eql∨o=.neq)(hv:Ai1 v b):Mi P o t x (.const c) v .nili=true:=by
 cases b with
 | false=>obtain rfl:v=.nili:=hv; rcases ho with rfl | rfl <;> simp [Mi]
 | true=>obtain⟨t',x,rfl⟩ : ∃ t x,v=.iface t x:=hv; rcases ho with rfl | rfl <;> rfl
section
variable {P:Program} [GW P] [GW P]
theorem S8.mk {g : FuncId} {gf : Func} {gc : Code} (h1 : P.funcs[g]? = some gf) (h2 : gf.body = some gc) (h3 : gf.name ≠ "runtime.NumGoroutine") : S8 P g := ⟨gf, gc, h1, h2, h3⟩
def Aps (w:World)(v:AV)(mu:Mu)(h:Ag):Ending→World→Prop:=fun e w'=>Go.RowKit.Below w.heap.size w w' ∧ ∃ c,e=.returned c∧RV h mu w' v c
theorem Agf {α:Type}{g:FuncId}{A:List AV}{m:R α}{e:α→AV}(hb:S8 P g)(hm : ∀ p,m≠.pan p)
  (hc : ∀ a,m=.ok a → ∀ (B:Base P) mu h w (cargs:Array Value),Sim B mu h w→Qd h mu w A cargs.toList→Calls P g cargs w (Aps w (e a) mu h)):CP P g A m e:=by
 intro h hne
 refine⟨hb,fun B mu w cargs s ha=>?_⟩
 cases hq:m with
 | bad=>exact absurd hq hne
 | pan p=>exact absurd hq (hm p)
 | ok a=>
  refine(hc a hq B mu h w cargs s ha).mono ?_
  rintro en w' ⟨k,c,rfl,hv⟩
  obtain⟨k1,k2⟩:=Below.ext s k
  exact⟨.ret (e a),h,mu,⟨rfl,rfl⟩,k1,k2,hv⟩
theorem Ao4 {α:Type}{g:FuncId}{A:List AV}{m:R α}{S:α→AV→Ag→Prop}{h:Ag}(hb:S8 P g)(hm : ∀ p,m≠.pan p)
  (hc : ∀ a,m=.ok a → ∀ (B:Base P) mu w (cargs:Array Value),Sim B mu h w→Qd h mu w A cargs.toList→Calls P g cargs w fun en w'=>Go.RowKit.Below w.heap.size w w' ∧ ∃ v c,en=.returned c∧S a v h∧RV h mu w' v c):m≠.bad→Bq P g A h (C5 S h m):=by
 intro hne
 refine⟨hb,fun B mu w cargs s ha=>?_⟩
 cases hq:m with
 | bad=>exact absurd hq hne
 | pan p=>exact absurd hq (hm p)
 | ok a=>
  refine(hc a hq B mu w cargs s ha).mono ?_
  rintro en w' ⟨k,v,c,rfl,hS,hv⟩
  obtain⟨k1,k2⟩:=Below.ext s k
  exact⟨.ret v,h,mu,⟨v,rfl,hS⟩,k1,k2,hv⟩
theorem Aip {h:Ag}{mu:Mu}{w:World}{a:AV}{cargs:Array Value}(k:Qd h mu w [a] cargs.toList) : ∃ c,cargs = #[c]∧RV h mu w a c:=by
 obtain⟨l⟩:=cargs
 match l,k.1 with
 | [c],_=>exact⟨c,rfl,by simpa using k.2 0 (by simp)⟩
theorem Ah2 {h:Ag}{mu:Mu}{w:World}{a b:AV}{cargs:Array Value}(k:Qd h mu w [a,b] cargs.toList) : ∃ c d,cargs = #[c,d]∧RV h mu w a c∧RV h mu w b d:=by
 obtain⟨l⟩:=cargs
 match l,k.1 with
 | [c,d],_=>exact⟨c,d,rfl,by simpa using k.2 0 (by simp),by simpa using k.2 1 (by simp)⟩
theorem Adk {h:Ag}{mu:Mu}{w:World}{s:List UInt8}{c:Value}(k:RV h mu w (.str s) c):c=.string ⟨s.toArray⟩:=by cases k; rfl
theorem Ak4 {h:Ag}{mu:Mu}{w:World}{t:IntKind}{n:Int}{c:Value}(k:RV h mu w (.int t n) c):c=.int t n:=by cases k; rfl
theorem Apd {h:Ag}{mu:Mu}{w:World}{st:Nat}{c:Value}(k:RV h mu w (.sl st []) c) : ∃ a cap,c=.slice a 0 cap:=by
 cases k with
 | sl0 _ a cap=>exact⟨a,cap,rfl⟩
 | sl _ _ b off cap=>exact⟨_,cap,rfl⟩
theorem Ant {h:Ag}{mu:Mu}{w:World}{l:List Ay}{c:Value}(k:RV h mu w (.sl 1 (l.map rS)) c):l=[] ∨ ∃ bk o cap,c=.slice (some ⟨bk,o,none⟩) l.length cap∧bk<w.heap.size∧l.length≤Db∧l.length≤cap ∧ ∀ j x,l[j]? = some x→w.cell? ⟨bk,o+j,none⟩=some (.string ⟨x.toArray⟩):=by
 generalize hr:l.map rS=rows at k
 cases k with
 | sl0 _ a cap=>exact .inl (List.map_eq_nil_iff.1 hr)
 | sl _ _ b off cap vs hcap hlim h1 h2 h5 h3 h4=>
  subst hr
  refine .inr ⟨b,off,cap,by rw [List.length_map],h4,by simpa using hlim,by simpa using hcap,fun j x hx=>?_⟩
  have hj:j<l.length:=Bg hx
  have:=h1 j 0 (by simpa using hj) (by omega)
  have h2':=h2 j 0 (by simpa using hj) (by omega)
  rw [Nat.mul_one,Nat.add_zero] at this
  rw [this]
  have e:cell (l.map rS) j 0=.str x:=by simp [cell,hx,rS]
  rw [e] at h2'
  rw [Adk h2']
end
end Go.Am
namespace Go.Am
open Go
set_option linter.unusedSimpArgs false
set_option linter.unusedVariables false
set_option linter.unusedSectionVars false
section
variable {P:Program} [GW P] {h0:Ag} {ids:List Nat} {xs:List (Option AO)} {N:Nat} {α:Type} {e:α→List AV} {L:List α} {v:AV} {g st j:Nat}
end
inductive HM (h h2:Ag):List (Option AO)→List (Option AO)→Prop
 | nil:HM h h2 [] []
 | keep {x:Option AO} {xs ys:List (Option AO)} (r:HM h h2 xs ys):HM h h2 (x::xs) (x::ys)
 | drop {x:Option AO} {xs ys:List (Option AO)} (r:HM h h2 xs ys):HM h h2 (x::xs) (none::ys)
 | own {α:Type} {e:α→List AV} {L:List α} {v:AV} {g st i:Nat} {y:α} {row:List AV} {xs ys:List (Option AO)} (hr : ∀ x,Fd st (e x)) (hz:LF h h2 row (e y)) (r:HM h h2 xs ys) :
   HM h h2 (Ah v g st ((L.map e).set i row)::xs) (Ah v g st ((L.set i y).map e)::ys)
theorem HM.get {h h2:Ag}{xs ys:List (Option AO)}(k:HM h h2 xs ys):xs.length=ys.length ∧ ∀ (j:Nat) (y:AO),ys[j]? = some (some y) → ∃ x,xs[j]? = some (some x)∧AFz h h2 x y:=by
 induction k with
 | nil=>exact⟨rfl,fun j y e=>by simp at e⟩
 | keep r ih=>
  refine⟨by simp [ih.1],fun j y e=>?_⟩
  cases j with
  | zero=>simp only [List.getElem?_cons_zero,Option.some.injEq] at e; subst e; exact⟨y,by simp,.same _⟩
  | succ j=>simpa using ih.2 j y (by simpa using e)
 | drop r ih=>
  refine⟨by simp [ih.1],fun j y e=>?_⟩
  cases j with
  | zero=>simp at e
  | succ j=>simpa using ih.2 j y (by simpa using e)
 | @own α e L v g st i y row xs ys hr hz r ih=>
  refine⟨by simp [ih.1],fun j z hz'=>?_⟩
  cases j with
  | succ j=>simpa using ih.2 j z (by simpa using hz')
  | zero=>
   simp only [List.getElem?_cons_zero,Option.some.injEq] at hz' ⊢
   have key:AFz h h2 (.rows g st ((L.map e).set i row)) (.rows g st ((L.set i y).map e)):=by
    refine .rows g st _ _ (by simp) (fun q hq=>?_) fun a b ha hb=>?_
    ·obtain⟨w,_,rfl⟩:=List.mem_map.1 hq
     exact hr w
    ·rw [List.map_set]
     by_cases hia:i=a
     ·subst hia
      have hlt:i<(L.map e).length:=by simpa using ha
      simp only [cell]
      have e1:((L.map e).set i row).getD i []=row:=by rw [List.getD_eq_getElem?_getD,List.getElem?_set_self hlt]; rfl
      have e2:((L.map e).set i (e y)).getD i []=e y:=by rw [List.getD_eq_getElem?_getD,List.getElem?_set_self hlt]; rfl
      rw [e1,e2]
      exact hz.all.2 b (by rw [hz.all.1,(hr y).1]; exact hb)
     ·simp only [cell]
      have e1:((L.map e).set i row).getD a []=(L.map e).getD a []:=by simp [List.getD,List.getElem?_set_ne hia]
      have e2:((L.map e).set i (e y)).getD a []=(L.map e).getD a []:=by simp [List.getD,List.getElem?_set_ne hia]
      rw [e1,e2]
      exact .same _
   unfold Ah at hz' ⊢
   split at hz'
   ·cases hz'
   ·rename_i hv
    cases hz'
    exact⟨_,rfl,key⟩
theorem HM.hfz {h0:Ag}{ids:List Nat}{N:Nat}{xs ys:List (Option AO)}(hI:Ids h0 ids N)(hl:xs.length=N)(k:HM (hp h0 ids xs) (hp h0 ids ys) xs ys):HFz (hp h0 ids xs) (hp h0 ids ys):=by
 intro o y e
 obtain⟨k1,k2⟩:=k.get
 by_cases ho:o ∈ ids
 ·obtain⟨j,hj,rfl⟩:=List.mem_iff_getElem.1 ho
  have ej:ids[j]=ix ids j:=by simp [ix,List.getD,hj]
  rw [ej] at e ⊢
  have hjl:j<ys.length:=by rw [← k1,hl,← hI.len]; exact hj
  have hy:=hI.at (xs:=ys) (j:=j) (x:=ys[j]) (by rw [← k1,hl]) (List.getElem?_eq_getElem hjl)
  rw [hy] at e
  obtain⟨x,hx,hz⟩:=k2 j y (by rw [List.getElem?_eq_getElem hjl,e])
  exact⟨x,hI.at hl hx,hz⟩
 ·rw [Tq ho] at e
  exact⟨y,by rw [Tq ho]; exact e,.same _⟩
section
variable {P:Program} [GW P] {f:FuncId} {n:Nat} {d:FK} {β:Type} {Q:Spec β} {m:R β} {ds:List AD} {u:AU} {k:List Item} {l:List (Nat×AV)} {all:List Oper}
variable {h0:Ag} {ids:List Nat} {xs:List (Option AO)} {N:Nat}
end
end Go.Am
namespace Go.Am
open Go
set_option linter.unusedSimpArgs false
set_option linter.unusedVariables false
set_option linter.unusedSectionVars false
section
variable {α:Type} {n:Nat} {e:α→List AV} {E:α→AV} {v:Vector α n} {i:Nat}
theorem Fd.all {s:Nat}{r:List AV}(h:Fd s r):r.all AV.flat=true:=List.all_eq_true.2 h.2
end
section
variable {P:Program} [GW P] {h:Ag} {t et:TypeId} {a b:Nat} {z:List AV} {E:TI} {k:IntKind}
theorem toNat_lt {i:Int}{m:Nat}(h:0≤i∧i<(m:Int)):i.toNat<m:=by omega
end
section
variable {P:Program} [GW P] {f:FuncId} {n:Nat} {d:FK} {β:Type} {Q:Spec β} {m:R β} {ds:List AD} {u:AU} {k:List Item} {l:List (Nat×AV)} {all r:List Oper} {ty:TypeId} {pos:String} {after:Array Edge} {h0:Ag} {ids:List Nat} {xs:List (Option AO)} {N:Nat}
end
theorem Yv {h h2:Ag} : ∀ l:List AV,LF h h2 l l
 | []=>.nil
 | a::l=>.cons (.same a) (Yv l)
def R.np {α:Type}:R α→R α
 | .pan _=>.bad
 | m=>m
end Go.Am
namespace Go.Am
open Go
set_option linter.unusedSimpArgs false
set_option linter.unusedVariables false
set_option linter.unusedSectionVars false
section
variable {P:Program} [GW P] {B:Base P} {mu:Mu} {h:Ag} {w:World}
end
end Go.Am
namespace Go.Am
open Go
set_option linter.unusedSimpArgs false
set_option linter.unusedVariables false
set_option linter.unusedSectionVars false
section
variable {P:Program} [GW P] {f:FuncId} {n:Nat} {d:FK} {fr:Nat→AV} {ds:List AD} {h:Ag} {u:AU} {Q:QT} {k:List Item}
theorem Sim.take {B:Base P}{mu:Mu}{w:World}{b:Nat}{x:Option (List Deferred)}(s:Sim B mu h w)(hb:w.heap[b]? = some (.deferred x))(hm:¬ Ey h mu b)(hn:B.n≤b){n0:Nat}(hn0:n0≤b) :
  Sim B mu h { w with heap:=w.heap.setIfInBounds b (.deferred none) }∧Ad5 n0 h mu w h mu { w with heap:=w.heap.setIfInBounds b (.deferred none) }:=by
 have hlt:b<w.heap.size:=by
  rcases Nat.lt_or_ge b w.heap.size with hh | hh
  ·exact hh
  ·rw [Array.getElem?_eq_none hh] at hb; cases hb
 have hne : ∀ k,k≠b→(w.heap.setIfInBounds b (.deferred none))[k]? = w.heap[k]? := fun k hk=>Array.getElem?_setIfInBounds_ne (Ne.symm hk)
 have hself:(w.heap.setIfInBounds b (.deferred none))[b]? = some (.deferred none):=by simp [hlt]
 have ext:Ad5 n0 h mu w h mu { w with heap:=w.heap.setIfInBounds b (.deferred none) }:=
  ⟨rfl,rfl,rfl,by simp,fun k hk hkm=>⟨by
   by_cases hq:k=b
   ·subst hq; exact .inr ⟨hn0,_,_,hb,hself⟩
   ·exact .inl (hne k hq),hkm⟩,fun _ _ _ h=>h⟩
 have hcell : ∀ a:Addr,({ w with heap:=w.heap.setIfInBounds b (.deferred none) }:World).cell? a=w.cell? a:=fun a=>by
  by_cases hq:a.block=b
  ·unfold World.cell?
   show(match (w.heap.setIfInBounds b (.deferred none))[a.block]? with | some (.cells cells _ _)=>_ | _=>_)=_
   rw [hq,hself,hb]
  ·exact cell?_of_heap (hne _ hq)
 have hnb : ∀ {o x l},h o=some x→mu o x.gen=some l→l.b≠b:=fun h1 h2 hq=>hm ⟨_,_,_,h1,h2,hq⟩
 refine⟨⟨by simpa using s.base,fun o g l hl=>?_,s.fin,s.finh,fun o g st rs hx=>?_,fun o g es hx=>?_,s.inj,GW.step s.glob fun k hk=>hne k (by omega),fun o g x hx=>?_⟩,ext⟩
 ·obtain⟨h1,h2,h3⟩:=s.muOk o g l hl
  refine⟨h1,by simpa using h2,fun hc=>?_⟩
  obtain⟨cells,e,f,k1,k2,k3⟩:=h3 hc
  have:l.b≠b:=fun hq=>by rw [hq,hb] at k1; cases k1
  exact⟨cells,e,f,(hne _ this).trans k1,k2,k3⟩
 ·obtain⟨l,h1,h2,h3,h4,h5,h6⟩:=s.rows o g st rs hx
  refine⟨l,h1,h2,h3,h4,h5,fun i j hi hj=>?_⟩
  obtain⟨c,hc1,hc2⟩:=h6 i j hi hj
  exact⟨c,(hcell _).trans hc1,hc2.extG ext⟩
 ·obtain⟨l,h1,h2,ens,clock,h3,h4,h5⟩:=s.maps o g es hx
  exact⟨l,h1,h2,ens,clock,⟨(hne _ (hnb hx h1)).trans h3.1,h3.2⟩,h4,fun i hi=>⟨(h5 i hi).1.extG ext,(h5 i hi).2.extG ext⟩⟩
 ·obtain⟨l,h1,h2,h3⟩:=s.blks o g x hx
  exact⟨l,h1,h2,(hne _ (hnb hx h1)).trans h3⟩
theorem Qd.extG {n:Nat}{h h':Ag}{mu mu':Mu}{w w':World}(e:Ad5 n h mu w h' mu' w'){l:List AV}{cs:List Value}(k:Qd h mu w l cs):Qd h' mu' w' l cs:=⟨k.1,fun i hi=>(k.2 i hi).extG e⟩
theorem Sl.extG {n:Nat}{h h':Ag}{mu mu':Mu}{w w':World}(e:Ad5 n h mu w h' mu' w'){u:AU}{m:FrameMode}(k:Sl h mu w u m):Sl h' mu' w' u m:=by
 unfold Sl at k ⊢
 split at k
 ·trivial
 ·exact⟨k.1,k.2.1,k.2.2.extG e⟩
 ·exact k.elim
structure LpOk (f n:Nat)(params:Array Tmp)(assign body:Code)(r:Loop):Prop where
 ready:r.state=.ready
 pend:r.pending=none
 fn:r.fn=f
 size:r.tmps.size=n
 params:r.params=params
 assign:r.assign=assign
 body:r.body=body
end
end Go.Am
namespace Go.Am
open Go
set_option linter.unusedSimpArgs false
set_option linter.unusedVariables false
set_option linter.unusedSectionVars false
section
variable {P:Program} [GW P] {f:FuncId} {n:Nat} {d:FK} {σ β γ:Type} {Q:Spec β} {ds:List AD} {h:Ag} {u:AU} {k:List Item} {l:List (Nat×AV)} {St:σ→Ag→Prop} {m:R σ}
section
variable {all r:List Oper} {ty:TypeId} {pos:String} {after:Array Edge} {F:γ→R β}
end
section
variable {h0:Ag} {ids:List Nat} {xs:List (Option AO)} {N:Nat} {F:γ→R β}
end
end
section
variable {P:Program} [GW P] {f:FuncId} {n:Nat} {α:Type} {u:AU} {l:List (Nat×AV)} {h0:Ag} {ids:List Nat} {xs:List (Option AO)} {N K:Nat} {e:α→AV}
end
end Go.Am
namespace Go.Am
@[reducible] def Xb {α β γ δ ε ζ η θ ι ω:Type}(f:α→β→γ→δ→ε→ζ→η→θ→ι→ω):α×β×γ×δ×ε×ζ×η×θ×ι→ω | (x0,x1,x2,x3,x4,x5,x6,x7,x8)=>f x0 x1 x2 x3 x4 x5 x6 x7 x8
@[reducible] def Aat {α β γ δ ε ζ η θ ι κ μ ν ξ ω:Type}(f:α→β→γ→δ→ε→ζ→η→θ→ι→κ→μ→ν→ξ→ω):α×β×γ×δ×ε×ζ×η×θ×ι×κ×μ×ν×ξ→ω | (x0,x1,x2,x3,x4,x5,x6,x7,x8,x9,x10,x11,x12)=>f x0 x1 x2 x3 x4 x5 x6 x7 x8 x9 x10 x11 x12
end Go.Am
namespace Go.Am
open Go
set_option linter.unusedVariables false
set_option linter.unusedSectionVars false
theorem Aqc {P:Program}[GW P]{f:FuncId}{n:Nat}{d:FK}{α β γ:Type}{Q:Spec β}{k:List Item}{all ops:List Oper}{fr:Nat→AV}{ds:List AD}{h:Ag}{u:AU}{F:γ→R β}{m:R α}{rest:α→R γ}
  (hk:(∀ v,m≠.pan v)→WO P f n d Q k all ((m.bind rest).bind F) ops fr ds h u):WO P f n d Q k all ((m.np.bind rest).bind F) ops fr ds h u:=by
 cases m with
 | ok a=>exact hk (fun v hv=>by cases hv)
 | pan v=>exact fun hb=>absurd hb Q.bad
 | bad=>exact fun hb=>absurd hb Q.bad
end Go.Am
namespace Go.Am
open Go
set_option linter.unusedVariables false
set_option linter.unusedSectionVars false
theorem Ane {P:Program}{W:World}{name:String}{k:IntKind}{zs:List Int}{g:Nat}{t e:TypeId}{n:Nat}(hg:P.globalNamed name=some g)(hty:(P.globals[g]?).map (·.type)=some t)(ht:P.underlying t=some (.array n e))(he:P.underlying e=some (.int k))(hce:P.cellsOf e=1)(hct:P.cellsOf t=n)
  (h:Lib.VarReads P W name (Lib.tabData k zs)):Lib.TabIs P W name k zs:=by
 obtain⟨g',t',cs,fuel,p,hg',ht',hvar,hd⟩:=h
 obtain rfl:=Option.some.inj (hg.symm.trans hg')
 obtain rfl:=Option.some.inj (hty.symm.trans ht')
 unfold Lib.TabIs
 rw [hvar,← Lib.cells_of_tab ht he hce hct hd]
theorem Aeo {P:Program}{W:World}{name u:String}{d:DataW Unit}{g:Nat}{t:TypeId}{ms:Array _}(hg:P.globalNamed name=some g)(hty:(P.globals[g]?).map (·.type)=some t)(ht:P.underlying t=some (.interface ms))
  (h:Lib.VarReads P W name (.iface u d)) : ∃ tp p,W.var? P name=some #[.iface tp p]:=by
 obtain⟨g',t',cs,fuel,p,hg',ht',hvar,hd⟩:=h
 obtain rfl:=Option.some.inj (hg.symm.trans hg')
 obtain rfl:=Option.some.inj (hty.symm.trans ht')
 cases fuel with
 | zero=>simp [DataW.trod] at hd
 | succ fuel=>
  obtain⟨cs⟩:=cs
  cases cs with
  | nil=>simp [DataW.trod,ht] at hd
  | cons v rest=>
   cases rest with
   | cons a b=>simp [DataW.trod,ht] at hd
   | nil=>
    cases v with
    | iface tp q=>exact⟨tp,q,hvar⟩
    | _=>simp [DataW.trod,ht] at hd
theorem Apr {P:Program}{W:World}{name:String}{g:Nat}{d:DataW Unit}(hg:P.globalNamed name=some g)(h:Lib.VarReads P W name d):g<W.heap.size:=by
 obtain⟨g',t',cs,fuel,p,hg',ht',hvar,hd⟩:=h
 obtain rfl:=Option.some.inj (hg.symm.trans hg')
 unfold World.var? at hvar
 rw [hg] at hvar
 rcases Nat.lt_or_ge g W.heap.size with h | h
 ·exact h
 ·simp [Array.getElem?_eq_none h] at hvar
theorem Aax {H:Type}{enc:TypeId×Value→H}{C:Checked}{os:Os}{f:FuncId}{fn:Func}{s:OpenSpec}{conds:List PathCond}{apart:Bool}{laid:List (String×DataW Unit)}(modest:Bool)(w0:World)(args:Array Value)(hos:w0.os=os)
  (hsh:(w0.forCall (fun _ _=>0) ⟨#[],args,[]⟩).Shaped C.prog)
  (hok:Input.okWideB C.prog (w0.forCall (fun _ _=>0) ⟨#[],args,[]⟩) f ⟨#[],args,[]⟩=true)
  (hrow:s.preRow enc C.prog fn conds apart laid (w0.forCall (fun _ _=>0) ⟨#[],args,[]⟩).memory args) :
  ∃ (w:World) (tape:Tape) (i:Input),w.os=os∧(w.forCall tape i).Shaped C.prog∧i.vars=[]∧Input.okWide C.prog (w.forCall tape i) .any w.heap.size f i ∧
   s.preRow enc C.prog fn conds apart laid (w.forCall tape i).memory i.args∧({ modest:=modest }:Assume).holds C.prog (lone (Frame.enter C.prog f i.args .normal) [] (w.forCall tape i)):=
 ⟨w0,fun _ _=>0,⟨#[],args,[]⟩,hos,hsh,(Input.okWide_of_okWideB (base:=0) hok).1,(Input.okWide_of_okWideB hok).2,hrow,by
  simp only [Assume.holds]
  exact⟨by simp,by simp,fun _=>Modest.zero,by simp,by simp⟩⟩
end Go.Am
namespace Go.Am
open Go
set_option linter.unusedVariables false
set_option linter.unusedSectionVars false
section
variable {P:Program} [GW P] {h:Ag}
theorem Aqe {t:TypeId}{T:TI}{b c:Nat}{row:List AV}{v:AV}(hr:GW.row P b=some row)(hT:ti P t=some T)(hv:La row c T.size T.k.agg=some v):Pr P h t (.gptr ⟨b,c,none⟩)=some v:=by simp only [Pr,hT,hr,hv]
theorem P7 {t kt et:TypeId}{a b:Nat}{z:List AV}{K:TI}{ET:TI}{es:List (Ay×AV)}{s c:Ay}{q:Ay×AV}(hT:ti P t=some ⟨.map kt et,a,b,z⟩)(hK:ti P kt=some K)(hk:K.k=.str)(hE:ti P et=some ET)(hs:(s==c)=true)(hf:es.find? (fun p=>c==p.1)=some q) :
  R0 P h t (.mapc es) (.str s) true=some (.tup [q.2,.bool true]):=by
 obtain rfl:=eq_of_beq hs
 obtain⟨r,h1,h2⟩:=Xg (k:=s) es 0
 rw [hf] at h2
 obtain⟨j,v,rfl⟩ : ∃ j v,r=some (j,v):=by cases r with | none=>simp at h2 | some q=>exact⟨q.1,q.2,rfl⟩
 obtain rfl:v=q.2:=by simpa using h2
 simp only [R0,hT,hK,hE,Aaw,hk,X2,if_true,h1]
theorem Alk {t kt et:TypeId}{a b:Nat}{z:List AV}{K:TI}{ET:TI}{es:List (Ay×AV)}{s:Ay}{v:AV}(hT:ti P t=some ⟨.map kt et,a,b,z⟩)(hK:ti P kt=some K)(hk:K.k=.str)(hE:ti P et=some ET)(hz:La ET.z 0 ET.size ET.k.agg=some v)(hf:es.find? (fun p=>s==p.1)=none) :
  R0 P h t (.mapc es) (.str s) true=some (.tup [v,.bool false]):=by
 obtain⟨r,h1,h2⟩:=Xg (k:=s) es 0
 rw [hf] at h2
 obtain rfl:r=none:=by simpa using h2
 simp only [R0,hT,hK,hE,Aaw,hk,X2,if_true,h1,hz]
theorem Tc {es:List (Ay×AV)}{s c:Ay}{v:AV}(h:(s==c)=false)(r:es.find? (fun p=>s==p.1)=none):((c,v)::es).find? (fun p=>s==p.1)=none:=by rw [List.find?_cons]; simp only [h]; exact r
end
section
variable {P:Program} [GW P] {f:FuncId} {n:Nat} {γ:Type} {m:R γ} {u u':AU} {h0:Ag}
theorem Akq {fn : Func} {c : Code} {args : List AV} {os0 : List Nat} {K : Nat} {xs : List (Option AO)} {ysf : γ → List (Option AO)} (N : Nat) (hf : P.funcs[f]? = some fn) (hb : fn.body = some c) (hn : fn.name ≠ "runtime.NumGoroutine") (hnt : fn.ntmps = n) (hl : Nat.ble args.length n = true)
  (hI0 : Ids h0 os0 K) (hx : xs.length = K) (hy : ∀ a, (ysf a).length = K)
  (hr : ∀ ids, (∀ j, Nat.blt j K = true → ix ids j = ix os0 j) → Ids h0 ids (K + N) → WR P f n true (Ai9 (fun a => hp h0 ids (ysf a ++ List.replicate N none)) u') m [.code c] (A5 (Zr 0 args)) [] (hp h0 ids (xs ++ List.replicate N none)) u) :
  (∃ a, m = .ok a) → Qc P f args u (hp h0 os0 xs) (Aa0 (fun a => hp h0 os0 (ysf a)) u' m) := by
 intro hm
 refine Ab1 hf hb hn hnt (by simpa using hl) ?_
 refine Abg N os0 fun os h1 h2 h3 h4 => ?_
 have hout : ∀ o ∈ os, o ∉ os0 := fun o ho => h4 o ho
 have hI : Ids h0 (os0 ++ os) (K + N) := by
  refine ⟨List.nodup_append.2 ⟨hI0.nodup, h2, fun a ha b hb hq => hout b hb (hq ▸ ha)⟩, fun o ho => ?_, by simp [hI0.len, h1]⟩
  rcases List.mem_append.1 ho with ho | ho
  ·exact hI0.fresh o ho
  ·have := h3 o ho
   rwa [Tq (hout o ho)] at this
 have e : ∀ zs : List (Option AO), zs.length = K → hp h0 (os0 ++ os) (zs ++ List.replicate N none) = hp h0 os0 zs := fun zs hz => by
  rw [X7 (by rw [hI0.len, hz]), Ur fun o ho => hI.fresh o (List.mem_append_right _ ho)]
 have := hr (os0 ++ os) (fun j hj => by
  have hj' : j < os0.length := by rw [hI0.len]; simpa using hj
  simp [ix, List.getD, List.getElem?_append_left hj']) hI hm
 rw [e xs hx] at this
 refine Tf (fun t => ?_) (Ak5 this ?_)
 ·rcases Uc args 0 t with h | ⟨_, h⟩
  ·exact .inl h
  ·exact .inr h
 ·rintro r h' u1 ⟨a, h1, h2, h3, h4⟩
  exact ⟨a, h1, h2, h3.trans (e _ (hy a)), h4⟩
end
def Ks (l:List (Ay×Ay×FuncId)):List (Ay×AV):=l.map fun x=>(x.1,.func (.func x.2.2) [] [])
def Zp (l:List (Ay×Ay×FuncId)):DataW (List UInt8):=.map (l.map fun x=>(.string x.1,.held x.2.1))
def Apf (P:Program)(l:List (Ay×Ay×FuncId)):Bool:=l.all fun x => !x.2.1.isEmpty&&((List.range P.funcs.size).filter fun f=>(P.funcs[f]?).any (·.name.toUTF8.data.toList==x.2.1))==[x.2.2]
structure FMapAt (w:World)(m g:Nat)(es:List (Ay×AV)):Prop where
 ex : ∃ (b:Nat) (ens:Array MapEntry) (clock:Nat) (es2:List (Ay×AV)),w.cell? ⟨g,0,none⟩=some (.map (some b))∧b<m∧w.heap[b]? = some (.map ens clock)∧es2.Perm es∧es2.length=ens.size ∧
  ∀ i,i<es2.length→(ens.getD i default).key=.string ⟨(es2.getD i ([],.und)).1.toArray⟩ ∧ ∃ k,(es2.getD i ([],.und)).2=.func (.func k) [] []∧(ens.getD i default).val=.func (.func k) #[] #[]
 nd:(es.map (·.1)).Nodup
theorem FMapAt.keep {w w':World}{m g:Nat}{es:List (Ay×AV)}(k:FMapAt w m g es)(hg:g<m)(e : ∀ b,b<m→w'.heap[b]? = w.heap[b]?):FMapAt w' m g es:=by
 obtain⟨⟨b,ens,clock,es2,h1,h2,h3,h4,h5,h6⟩,hnd⟩:=k
 exact⟨⟨b,ens,clock,es2,by rw [cell?_of_heap (w:=w) (a:=⟨g,0,none⟩) (e g hg)]; exact h1,h2,by rw [e b h2]; exact h3,h4,h5,h6⟩,hnd⟩
theorem FMapAt.rv {w:World}{m g:Nat}{es:List (Ay×AV)}(k:FMapAt w m g es)(hm:m≤w.heap.size){mu:Mu}{M:Nat→Prop}(hM : ∀ b,M b→m≤b) : ∃ x,w.cell? ⟨g,0,none⟩=some x∧Rv w mu M (.mapc es) x:=by
 obtain⟨⟨b,ens,clock,es2,h1,h2,h3,h4,h5,h6⟩,hnd⟩:=k
 refine⟨_,h1,.mapc es es2 h4 hnd b ens clock h3 h5 (fun i hi=>(h6 i hi).1) (fun i hi=>?_) (fun hb=>by have:=hM b hb; omega) (by omega)⟩
 obtain⟨_,k,e1,e2⟩:=h6 i hi
 rw [e1,e2]
 exact .func _ [] [] [] [] rfl rfl (fun i hi=>by simp at hi) (fun i hi=>by simp at hi)
open Go.ChangeShapes Go.WideShapes Go.WideElems
theorem Akt {P:Program}{e:TypeId}{ps rs:Array TypeId}{va:Bool}{v c:Value}(he:P.underlying e=some (.func ps rs va))(hf:v.formed P e=true)(hc:v.cells.toList=[c]):v=c:=by
 cases v with
 | agg a=>simp [Value.formed,he] at hf
 | _=>simpa [Value.cells] using hc
theorem Aol {P:Program}{W:World}{name:String}{d:DataW Unit}{l:List (Ay×Ay×FuncId)}{g:Nat}{t k e:TypeId}{ps rs:Array TypeId}{va:Bool}(h:funcsAt P W name d)(hd:d.funcsOut=Zp l)(hg:P.globalNamed name=some g)(hty:(P.globals[g]?).map (·.type)=some t)
  (ht:P.underlying t=some (.map k e)) (hk:P.underlying k=some .string) (he:P.underlying e=some (.func ps rs va)) (hok:Apf P l=true) (hnd:((Ks l).map (·.1)).Nodup):FMapAt W W.heap.size g (Ks l):=by
 obtain⟨g',t',cs,fuel,p,hg',ht',hvar,hr⟩:=h
 obtain rfl:=Option.some.inj (hg.symm.trans hg')
 obtain rfl:=Option.some.inj (hty.symm.trans ht')
 rw [hd] at hr
 rcases open_map ht hr with⟨_,hx⟩ | ⟨b,ens,clock,n,rfl,hcs,hb,_,F,hx⟩
 ·simp [Zp] at hx
 ·refine⟨?_,hnd⟩
  have hmap:Zp l=.map ((ens.toList.map (rg P k (elemAt (funcToken P) P W 0 (fun _=>true) true n e))).foldr DataW.insert []):=congrArg Prod.fst hx
  have hperm:(ens.toList.map (rg P k (elemAt (funcToken P) P W 0 (fun _=>true) true n e))).Perm (l.map fun x=>(Lit.string x.1,DataW.held x.2.1)):=by
   have h1:=sorted_perm (ens.toList.map (rg P k (elemAt (funcToken P) P W 0 (fun _=>true) true n e)))
   unfold Zp at hmap
   rw [← DataW.map.inj hmap] at h1
   exact h1.symm
  have hent : ∀ x ∈ ens.toList,∃ y ∈ l,x.key=.string ⟨y.1.toArray⟩∧x.val=.func (.func y.2.2) #[] #[]∧rg P k (elemAt (funcToken P) P W 0 (fun _=>true) true n e) x=(Lit.string y.1,DataW.held y.2.1):=by
   intro x hx
   have hm:=hperm.mem_iff.1 (List.mem_map.2 ⟨x,hx,rfl⟩)
   obtain⟨y,hy,hyx⟩:=List.mem_map.1 hm
   obtain⟨z,hz⟩:=F.reads x hx
   rw [rg_of hz] at hyx
   subst hyx
   refine⟨y,hy,?_,?_,by rw [rg_of hz]⟩
   ·have h1:=rd_key hz
    rw [keyOf_string hk] at h1
    unfold mapKey at h1
    rw [hk] at h1
    generalize x.key=kv at h1
    cases kv <;> simp at h1
    rename_i s
    obtain⟨_,h1⟩:=h1
    obtain⟨⟨sl⟩⟩:=s
    simp at h1
    rw [← h1]
   ·obtain⟨v,hv,hv2⟩:=rd_val hz
    have hyok:=List.all_eq_true.1 hok y hy
    simp only [Bool.and_eq_true,beq_iff_eq,Bool.not_eq_true'] at hyok
    obtain⟨v1,v2⟩:=v
    simp only at hv2
    unfold elemAt at hv
    split at hv
    ·cases fuel':n with
     | zero=>rw [fuel'] at hv; simp [DataW.trod] at hv
     | succ n'=>
      have hcells : ∃ v0,x.val.cells.toList=[v0]:=by
       have:=hv
       rw [fuel',DataW.trod_step] at this
       unfold DataW.trodStep at this
       rw [he] at this
       generalize x.val.cells.toList=cl at this
       match cl,this with
       | [v0],_=>exact⟨v0,rfl⟩
       | [],h=>simp at h
       | _::_::_,h=>simp at h
      obtain⟨v0,hv0⟩:=hcells
      rw [hv0] at hv
      obtain⟨y1,y2,y3⟩:=y
      simp only at hv2 hyok hv
      cases y2 with
      | nil=>simp at hyok
      | cons b0 r0=>
       rw [← hv2] at hv
       have hf:=func_of_trod he hyok.2 hv
       subst hf
       refine Akt he ?_ hv0
       assumption
    ·cases hv
  let θ:Lit×DataW (List UInt8)→Ay×AV:=fun p=>match p with
   | (.string s,.held nm)=>(s,match l.find? (fun y=>y.2.1==nm) with
    | some y=>.func (.func y.2.2) [] []
    | none=>.und)
   | _=>([],.und)
  have hθ : ∀ y ∈ l,θ (Lit.string y.1,DataW.held y.2.1)=(y.1,.func (.func y.2.2) [] []):=by
   intro y hy
   show(y.1,_)=_
   cases hq:l.find? (fun z=>z.2.1==y.2.1) with
   | none=>
    rw [List.find?_eq_none] at hq
    exact absurd (by simp) (hq y hy)
   | some z=>
    have hz1:=List.mem_of_find?_eq_some hq
    have hz2:z.2.1=y.2.1:=by simpa using List.find?_some hq
    have k1:=List.all_eq_true.1 hok y hy
    have k2:=List.all_eq_true.1 hok z hz1
    simp only [Bool.and_eq_true,beq_iff_eq] at k1 k2
    rw [hz2,k1.2] at k2
    have:y.2.2=z.2.2:=by simpa using k2.2
    simp only [this]
  refine⟨b,ens,clock,ens.toList.map fun x=>θ (rg P k (elemAt (funcToken P) P W 0 (fun _=>true) true n e) x),?_,?_,hb,?_,by simp,fun i hi=>?_⟩
  ·have:=World.var?_cell hg hvar 0
   rw [Array.eq_one_of_toList hcs] at this
   simpa using this
  ·rcases Nat.lt_or_ge b W.heap.size with h | h
   ·exact h
   ·simp [Array.getElem?_eq_none h] at hb
  ·have:=hperm.map θ
   rw [List.map_map,List.map_map] at this
   refine this.trans (List.Perm.of_eq (List.map_congr_left fun y hy=>hθ y hy))
  ·have hi':i<ens.toList.length:=by simpa using hi
   have hm:ens.toList[i] ∈ ens.toList:=List.getElem_mem hi'
   obtain⟨y,hy,e1,e2,e3⟩:=hent _ hm
   have g1:ens.getD i default=ens.toList[i]:=by
    rw [← Uu,Fy (List.getElem?_eq_getElem hi')]
   have g2:(ens.toList.map fun x=>θ (rg P k (elemAt (funcToken P) P W 0 (fun _=>true) true n e) x)).getD i ([],.und)=(y.1,.func (.func y.2.2) [] []):=by
    rw [Fy (x:=θ (rg P k (elemAt (funcToken P) P W 0 (fun _=>true) true n e) ens.toList[i])) (by rw [List.getElem?_map,List.getElem?_eq_getElem hi',Option.map_some]),e3,hθ y hy]
   rw [g1,g2]
   exact⟨e1,_,rfl,e2⟩
end Go.Am
namespace Go.Am
open Go
set_option linter.unusedVariables false
set_option linter.unusedSectionVars false
set_option linter.unusedSimpArgs false
abbrev AV.q (ids:List Nat)(j g:Nat):AV:=.ptr (ix ids j) g 0 0
abbrev AV.I (n:Int):AV:=.int .i64 n
abbrev Sc.I (n:Int):Sc:=.int .i64 n
section
variable (P:Program) [GW P]
def Ah4:Op→Bool
 | .move _=>true
 | .assign _=>true
 | .pick _ _ _=>true
 | .build _ _=>true
 | .nilCheck _=>true
 | .binOp _ _ _ _ _=>true
 | .unOp _ _ _=>true
 | .makeInterface _ _=>true
 | .makeFunc _ _ _=>true
 | .fieldAddr _ _ _=>true
 | .field _ _ _=>true
 | .typeAssert _ _ _ _=>true
 | .extract _ _=>true
 | _=>false
def Alc (xs:List (Option AO))(fr:Nat→AV)(j:Nat)(op:Op):Option (AV×Option (Nat×Nat×Nat)):=
 match op with
 | .load t a=>match ev fr a with
  | .ptr o g r c=>match ti P t,xs[j]? with
   | some T,some (some (.rows g' st rs))=>match rs[r]? with
    | some row=>(La row c T.size T.k.agg).map fun v=>(v,some (o,g,g'))
    | none=>none
   | _,_=>none
  | .cp row c=>match ti P t with
   | some T=>(La row c T.size T.k.agg).map fun v=>(v,none)
   | none=>none
  | _=>none
 | op=>if Ah4 op then(Fc P fr hE op).map fun v=>(v,none) else none
def Qi (n:Nat)(all:List Oper)(xs:List (Option AO)):List Oper→List Nat→List (Nat×AV)→Option (List (Nat×AV)×List (Nat×Nat)×List (Nat×Nat))
 | [],_,l=>some (l,[],[])
 | o::ops,hs,l=>if If n o.dst then match Gg all (A5 l) o,o.dst with
   | some true,some t=>match Alc P xs (A5 l) (hs.headD 0) o.op with
    | some (v,none)=>Qi n all xs ops hs ((t,v)::l)
    | some (v,some (ob,g,g'))=>(Qi n all xs ops hs.tail ((t,v)::l)).map fun r=>(r.1,(ob,g)::r.2.1,(hs.headD 0,g')::r.2.2)
    | none=>none
   | some false,some t=>Qi n all xs ops hs ((t,.und)::l)
   | some false,none=>Qi n all xs ops hs l
   | _,_=>none
  else none
def Ah9 (ops:List Oper)(ks:List Nat)(l:List (Nat×AV)):Bool:=ops.all fun o=>match o.dst with
 | none=>true
 | some t=>ks.contains t || !(l.any fun p=>Nat.beq t p.1)
end
section
variable {P:Program} [GW P] {f:FuncId} {n:Nat} {d:FK} {β γ:Type} {Q:Spec β} {m:R β} {ds:List AD} {h:Ag} {u:AU} {k:List Item} {l:List (Nat×AV)} {F:γ→R β}
variable {all:List Oper} {h0:Ag} {ids:List Nat} {xs:List (Option AO)} {N:Nat}
theorem Adh {fr:Nat→AV}{j:Nat}{op:Op}{v:AV}{q:Option (Nat×Nat×Nat)}(hI:Ids h0 ids N)(hl:xs.length=N)(hx:Alc P xs fr j op=some (v,q))(hq : ∀ o g g',q=some (o,g,g')→o=ix ids j∧g=g'):Fc P fr (hp h0 ids xs) op=some v:=by
 unfold Alc at hx
 split at hx
 ·rename_i t a
  show Pr P _ t (ev fr a)=_
  split at hx
  ·rename_i o g r c ha
   rw [ha]
   split at hx
   ·rename_i T g' st rs hT hj
    split at hx
    ·rename_i row hr
     simp only [Option.map_eq_some_iff,Prod.mk.injEq] at hx
     obtain⟨v',h1,rfl,rfl⟩:=hx
     obtain⟨rfl,rfl⟩:=hq _ _ _ rfl
     exact A3 hI hl hj hr hT h1
    ·cases hx
   ·cases hx
  ·rename_i row c ha
   rw [ha]
   split at hx
   ·rename_i T hT
    simp only [Option.map_eq_some_iff,Prod.mk.injEq] at hx
    obtain⟨v',h1,rfl,rfl⟩:=hx
    exact C7 hT h1
   ·cases hx
  ·cases hx
 split at hx
 ·rename_i hp
  simp only [Option.map_eq_some_iff,Prod.mk.injEq] at hx
  obtain⟨v',h1,rfl,rfl⟩:=hx
  revert h1
  cases op <;> first
   | exact id
   | (simp [Ah4] at hp)
 ·cases hx
theorem Aa2 {rest:List Oper} : ∀ {ops:List Oper} {hs:List Nat} {l l':List (Nat×AV)} {A B:List (Nat×Nat)},Qi P n all xs ops hs l=some (l',A,B)→A=B.map (fun q=>(ix ids q.1,q.2))→Ids h0 ids N→xs.length=N →
  WO P f n d Q k all m rest (A5 l') ds (hp h0 ids xs) u→WO P f n d Q k all m (ops++rest) (A5 l) ds (hp h0 ids xs) u
 | [],hs,l,l',A,B,hx,hA,hI,hl,hk=>by
  simp only [Qi,Option.some.injEq,Prod.mk.injEq] at hx
  obtain⟨rfl,rfl,rfl⟩:=hx
  exact hk
 | o::ops,hs,l,l',A,B,hx,hA,hI,hl,hk=>by
  unfold Qi at hx
  split at hx
  ·rename_i hd
   split at hx
   ·rename_i t hw ht
    rw [ht] at hd
    have step : ∀ {v:AV},Fc P (A5 l) (hp h0 ids xs) o.op=some v→WO P f n d Q k all m (ops++rest) (A5 ((t,v)::l)) ds (hp h0 ids xs) u→WO P f n d Q k all m (o::ops++rest) (A5 l) ds (hp h0 ids xs) u:=by
     intro v hv hk'
     refine Rf (by rw [ht]; exact hd) hw fun hb K U hK hU=>Ad1 (t:=ds) hv (hK _ _ _ _ ?_)
     rw [ht,Jh]; exact hk'
    split at hx
    ·rename_i v hr
     exact step (Adh hI hl hr (fun _ _ _ h=>by cases h)) (Aa2 hx hA hI hl hk)
    ·rename_i v ob g g' hr
     simp only [Option.map_eq_some_iff,Prod.mk.injEq] at hx
     obtain⟨⟨l1,A1,B1⟩,hx,rfl,rfl,rfl⟩:=hx
     simp only [List.map_cons,List.cons.injEq,Prod.mk.injEq] at hA
     exact step (Adh hI hl hr (fun o2 g2 g2' h=>by cases h; exact hA.1)) (Aa2 hx hA.2 hI hl hk)
    ·cases hx
   ·rename_i t hw ht
    rw [ht] at hd
    exact Ahz (by rw [ht]; exact hd) hw (by rw [ht,Jh]; exact Aa2 hx hA hI hl hk)
   ·rename_i hw ht
    exact Ahz (by rw [ht]; rfl) hw (by rw [ht]; exact Aa2 hx hA hI hl hk)
   ·cases hx
  ·cases hx
theorem Yh {ops:List Oper}{ks:List Nat}{news:List (Nat×AV)} : ∀ {hs:List Nat} {l l':List (Nat×AV)} {A B:List (Nat×Nat)} {ops:List Oper},Qi P n all xs ops hs l=some (l',A,B) → ∀ t,(∀ o ∈ ops,o.dst≠some t)→A5 l' t=A5 l t
 | hs,l,l',A,B,[],hx,t,ho=>by
  simp only [Qi,Option.some.injEq,Prod.mk.injEq] at hx
  obtain⟨rfl,rfl,rfl⟩:=hx
  rfl
 | hs,l,l',A,B,o::ops,hx,t,ho=>by
  have ho' : ∀ o ∈ ops,o.dst≠some t:=fun q hq=>ho q (List.mem_cons_of_mem _ hq)
  have hne : ∀ {t':Nat} {v:AV},o.dst=some t'→A5 ((t',v)::l) t=A5 l t:=by
   intro t' v h
   have:t≠t':=fun e=>ho o (List.mem_cons_self ..) (e ▸ h)
   simp only [A5]
   have:Nat.beq t t'=false:=by
    cases hq:Nat.beq t t' with
    | false=>rfl
    | true=>exact absurd (Nat.eq_of_beq_eq_true hq) this
   rw [this]; rfl
  unfold Qi at hx
  split at hx
  ·split at hx
   ·rename_i t' hw ht
    split at hx
    ·rw [Yh (ks:=ks) (news:=news) (ops:=ops) hx t ho',hne ht]
    ·simp only [Option.map_eq_some_iff,Prod.mk.injEq] at hx
     obtain⟨⟨l1,A1,B1⟩,hx,rfl,rfl,rfl⟩:=hx
     rw [Yh (ks:=ks) (news:=news) (ops:=ops) hx t ho',hne ht]
    ·cases hx
   ·rename_i t' hw ht
    rw [Yh (ks:=ks) (news:=news) (ops:=ops) hx t ho',hne ht]
   ·exact Yh (ks:=ks) (news:=news) (ops:=ops) hx t ho'
   ·cases hx
  ·cases hx
theorem Aqg {ops:List Oper}(K:Nat)(hs:List Nat)(news:List (Nat×AV))(hI:Ids h0 ids N)(hl:xs.length=N)
  (hc:(Qi P n all xs (ops.take K) hs l).map (fun r=>(news.map (fun p=>A5 r.1 p.1),r.2.1,Ah9 (ops.take K) (news.map (·.1)) l))=some (news.map (·.2),((Qi P n all xs (ops.take K) hs l).elim [] fun r=>r.2.2.map fun q=>(ix ids q.1,q.2)),true))
  (hk:WO P f n d Q k all m (ops.drop K) (A5 (news++l)) ds (hp h0 ids xs) u):WO P f n d Q k all m ops (A5 l) ds (hp h0 ids xs) u:=by
 cases hr:Qi P n all xs (ops.take K) hs l with
 | none=>rw [hr] at hc; cases hc
 | some r=>
  obtain⟨l',A,B⟩:=r
  rw [hr] at hc
  simp only [Option.map_some,Option.elim_some,Option.some.injEq,Prod.mk.injEq] at hc
  obtain⟨h1,h2,h3⟩:=hc
  have:=Aa2 (rest:=ops.drop K) hr h2 hI hl (f:=f) (d:=d) (Q:=Q) (k:=k) (m:=m) (ds:=ds) (u:=u) (fun hb i hi=>Tf (fun t=>?_) (hk hb i hi))
  ·rwa [List.take_append_drop] at this
  ·
   have key : ∀ (ns:List (Nat×AV)),ns.map (fun p=>A5 l' p.1)=ns.map (·.2)→(∀ s,s ∈ ns.map (·.1)→s ∈ news.map (·.1))→(∀ s,s ∈ news.map (·.1)→s=t→s ∈ ns.map (·.1))→A5 (ns++l) t=.any∨A5 (ns++l) t=A5 l' t:=by
    intro ns
    induction ns with
    | nil=>
     intro _ _ hsub
     simp only [List.nil_append]
     by_cases hin:l.any (fun p=>Nat.beq t p.1)=true
     ·right
      symm
      refine Yh (ks:=[]) (news:=[]) (ops:=ops.take K) hr t fun o ho hd=>?_
      have:=List.all_eq_true.1 h3 o ho
      rw [hd] at this
      simp only [Bool.or_eq_true,Bool.not_eq_true',List.contains_iff_mem] at this
      rcases this with hc | hc
      ·exact absurd (hsub t hc rfl) (by simp)
      ·rw [hc] at hin; cases hin
     ·left
      have : ∀ l:List (Nat×AV),l.any (fun p=>Nat.beq t p.1)≠true→A5 l t=.any:=by
       intro l
       induction l with
       | nil=>intro _; rfl
       | cons p l ih=>
        intro hne
        simp only [List.any_cons] at hne
        simp only [A5]
        have h1:Nat.beq t p.1=false:=by cases hq:Nat.beq t p.1 with | false=>rfl | true=>exact absurd (by rw [hq]; rfl) hne
        rw [h1]
        exact ih (fun h=>hne (by rw [h,h1]; rfl))
      exact this l hin
    | cons p ns ih=>
     intro hv h4 h5
     simp only [List.map_cons,List.cons.injEq] at hv
     simp only [List.cons_append,A5]
     cases hq:Nat.beq t p.1 with
     | true=>
      right
      have:t=p.1:=Nat.eq_of_beq_eq_true hq
      subst this
      exact hv.1.symm
     | false=>
      refine ih hv.2 (fun s hs=>h4 s (by simp [hs])) (fun s hs e=>?_)
      rcases List.mem_cons.1 (h5 s hs e) with h | h
      ·subst e; rw [h] at hq; simp at hq
      ·exact h
   exact key news h1 (fun s hs=>hs) (fun s hs _=>hs)
theorem Ab {ops:List Oper}(K:Nat)(hs:List Nat)(news:List (Nat×AV))(hk:WO P f n d Q k all m (ops.drop K) (A5 (news++l)) ds (hp h0 ids xs) u)(hI:Ids h0 ids N:=by assumption)(hl:xs.length=N:=by rfl)
  (hc:(Qi P n all xs (ops.take K) hs l).map (fun r=>(news.map (fun p=>A5 r.1 p.1),r.2.1,Ah9 (ops.take K) (news.map (·.1)) l))=some (news.map (·.2),((Qi P n all xs (ops.take K) hs l).elim [] fun r=>r.2.2.map fun q=>(ix ids q.1,q.2)),true):=by kernel_rfl):WO P f n d Q k all m ops (A5 l) ds (hp h0 ids xs) u:=Aqg K hs news hI hl hc hk
theorem Az {ops:List Oper}{t:Nat}{b b':Bool}(hb:b=b')(ht:A5 l t=.bool b)(hk:WO P f n d Q k all m ops (A5 ((t,.bool b')::l)) ds h u):WO P f n d Q k all m ops (A5 l) ds h u:=by
 subst hb
 refine fun hV i hi=>Tf (fun s=>?_) (hk hV i hi)
 right
 simp only [A5]
 cases hq:Nat.beq s t with
 | true=>rw [Nat.eq_of_beq_eq_true hq,ht]; rfl
 | false=>rfl
theorem A0 {ops:List Oper}{fr:Nat→AV}(js:List Nat){zs ys:List (Option AO)}(hI:Ids h0 ids N)(hl:xs.length=N)(hk:Sz N js=true)(hz:js.length=zs.length)(hr:WO P f n d Q k all m ops fr ds (hp h0 ids ys) u)
  (e:Tz js zs xs=ys:=by first | (simp only [List.set_cons_zero,List.set_cons_succ,List.cons_append,List.nil_append,List.replicate_succ,List.replicate_zero,Tz,Xc,Wp,AV.cells,AV.I,AV.q]; rfl) | rfl):WO P f n d Q k all m ops fr ds (hp (hp h0 ids (T7 js xs)) (Yr ids js) zs) u:=An7 js ys hI hl hk hz e hr
theorem Bo {todo:List Item}{l':List (Nat×AV)}(hr:WR P f n d Q m todo (A5 l') ds h u)(hx:FrIs l l':=by repeat (first | exact .nil | refine .cons rfl ?_)):WR P f n d Q m todo (A5 l) ds h u:=D6 l' hx hr
theorem Bf {ops:List Oper}{l':List (Nat×AV)}(hr:WO P f n d Q k all m ops (A5 l') ds h u)(hx:FrIs l l':=by repeat (first | exact .nil | refine .cons rfl ?_)):WO P f n d Q k all m ops (A5 l) ds h u:=B5 l' hx hr
theorem Aj {todo:List Item}{fr:Nat→AV}{ys:List (Option AO)}(hr:WR P f n d Q m todo fr ds (hp h0 ids ys) u)(e:xs=ys:=by first | (simp only [List.set_cons_zero,List.set_cons_succ,List.cons_append,List.nil_append,List.replicate_succ,List.replicate_zero,Tz,Xc,Wp,AV.cells,AV.I,AV.q]; rfl) | rfl) :
  WR P f n d Q m todo fr ds (hp h0 ids xs) u:=e ▸ hr
end
section
variable {P:Program} [GW P] {fr:Nat→AV} {h:Ag} {all:List Oper} {pre:List (List Nat)} {pend:Sv} {ty:TypeId} {pos:String} {after:Array Edge} {i:Nat}
end
theorem J {α:Sort _}{a:α}:a=a:=rfl
theorem FI {l l':List (Nat×AV)}(h:l'.map (fun p=>A5 l p.1)=l'.map (·.2)):FrIs l l':=by
 induction l' with
 | nil=>exact .nil
 | cons p r ih=>
  rw [List.map_cons,List.map_cons] at h
  injection h with h1 h2
  exact .cons h1 (ih h2)
end Go.Am
namespace Go.Am
open Go
set_option maxRecDepth 100000
set_option maxHeartbeats 4000000
set_option linter.unusedSimpArgs false
set_option linter.unusedVariables false
structure Span where
 From:Int
 To:Int
 deriving DecidableEq
def B7 (x:Span):List AV:=[(.int .i64 x.From),(.int .i64 x.To)]
theorem Abm (x:Span):Fd 2 (B7 x):=Mk rfl rfl
structure Volume where
 Name:Ay
 Closed:(List Span)
 deriving DecidableEq
def Aw (x:Volume):List AV:=[(.str x.Name),(.sl 2 (List.map B7 x.Closed))]
theorem Rm (x:Volume):Fd 2 (Aw x):=Mk rfl rfl
structure Sector where
 Name:Ay
 Names:(List Ay)
 Volumes:(List Int)
 Radar:Int
 Procedural:Int
 deriving DecidableEq
def A9 (x:Sector):List AV:=[(.str x.Name),(.sl 1 (List.map rS x.Names)),(.sl 1 (List.map (rI .i64) x.Volumes)),(.int .i64 x.Radar),(.int .i64 x.Procedural)]
theorem Qe (x:Sector):Fd 5 (A9 x):=Mk rfl rfl
structure Config where
 Name:Ay
 Names:(List Ay)
 Sectors:(List Int)
 deriving DecidableEq
def Bj (x:Config):List AV:=[(.str x.Name),(.sl 1 (List.map rS x.Names)),(.sl 1 (List.map (rI .i64) x.Sectors))]
theorem S2 (x:Config):Fd 3 (Bj x):=Mk rfl rfl
structure Segment where
 Name:Ay
 In:Ay
 Volume:Int
 Length:Int
 Open:(List Span)
 deriving DecidableEq
def Be (x:Segment):List AV:=[(.str x.Name),(.str x.In),(.int .i64 x.Volume),(.int .i64 x.Length),(.sl 2 (List.map B7 x.Open))]
theorem Rw (x:Segment):Fd 5 (Be x):=Mk rfl rfl
structure Route where
 Name:Ay
 A:Ay
 B:Ay
 From:Int
 To:Int
 Names:(List Ay)
 Segments:(List Int)
 deriving DecidableEq
def Bu (x:Route):List AV:=[(.str x.Name),(.str x.A),(.str x.B),(.int .i64 x.From),(.int .i64 x.To),(.sl 1 (List.map rS x.Names)),(.sl 1 (List.map (rI .i64) x.Segments))]
theorem Ut (x:Route):Fd 7 (Bu x):=Mk rfl rfl
structure Mode where
 Name:Ay
 Places:Int
 deriving DecidableEq
def Dy (x:Mode):List AV:=[(.str x.Name),(.int .i64 x.Places)]
theorem Abe (x:Mode):Fd 2 (Dy x):=Mk rfl rfl
structure Airport where
 Name:Ay
 Modes:(List Mode)
 deriving DecidableEq
def Bb (x:Airport):List AV:=[(.str x.Name),(.sl 2 (List.map Dy x.Modes))]
theorem Qu (x:Airport):Fd 2 (Bb x):=Mk rfl rfl
structure Class where
 Name:Ay
 Slow:Int
 Fast:Int
 Places:Int
 deriving DecidableEq
def B4 (x:Class):List AV:=[(.str x.Name),(.int .i64 x.Slow),(.int .i64 x.Fast),(.int .i64 x.Places)]
theorem Uq (x:Class):Fd 4 (B4 x):=Mk rfl rfl
structure Rule where
 Kind:Int
 C:Ay
 A:Ay
 Class:Int
 Airport:Int
 N:Int
 Hours:Span
 deriving DecidableEq
def Bc (x:Rule):List AV:=[(.int .i64 x.Kind),(.str x.C),(.str x.A),(.int .i64 x.Class),(.int .i64 x.Airport),(.int .i64 x.N),(.int .i64 x.Hours.From),(.int .i64 x.Hours.To)]
theorem Q4 (x:Rule):Fd 8 (Bc x):=Mk rfl rfl
structure Airspace where
 Volumes:(List Volume)
 Sectors:(List Sector)
 Configs:(List Config)
 Segments:(List Segment)
 Routes:(List Route)
 Airports:(List Airport)
 Classes:(List Class)
 Rules:(List Rule)
 deriving DecidableEq
def A6 (x:Airspace):List AV:=[(.sl 2 (List.map Aw x.Volumes)),(.sl 5 (List.map A9 x.Sectors)),(.sl 3 (List.map Bj x.Configs)),(.sl 5 (List.map Be x.Segments)),(.sl 7 (List.map Bu x.Routes)),(.sl 2 (List.map Bb x.Airports)),(.sl 4 (List.map B4 x.Classes)),(.sl 8 (List.map Bc x.Rules))]
structure Token where
 Kind:Int
 Text:Ay
 N:Int
 At:Int
 deriving DecidableEq
def Ac (x:Token):List AV:=[(.int .i64 x.Kind),(.str x.Text),(.int .i64 x.N),(.int .i64 x.At)]
theorem Mq (x:Token):Fd 4 (Ac x):=Mk rfl rfl
structure T63 where
 fAt:Int
 fE:Int
 deriving DecidableEq
structure T67 where
 fL:(List Token)
 fEnd:Int
 fA:Airspace
 deriving DecidableEq
def Aqi (x:T67):List AV:=[(.sl 4 (List.map Ac x.fL)),(.int .i64 x.fEnd),(.sl 2 (List.map Aw x.fA.Volumes)),(.sl 5 (List.map A9 x.fA.Sectors)),(.sl 3 (List.map Bj x.fA.Configs)),(.sl 5 (List.map Be x.fA.Segments)),(.sl 7 (List.map Bu x.fA.Routes)),(.sl 2 (List.map Bb x.fA.Airports)),(.sl 4 (List.map B4 x.fA.Classes)),(.sl 8 (List.map Bc x.fA.Rules))]
structure T69 where
 L:(List Token)
 N:Int
 End:Int
 E:Int
 At:Int
 deriving DecidableEq
def A4 (x:T69):List AV:=[(.sl 4 (List.map Ac x.L)),(.int .i64 x.N),(.int .i64 x.End),(.int .i64 x.E),(.int .i64 x.At)]
structure T88 where
 fL:(List Token)
 fBad:Bool
 deriving DecidableEq
structure T119 where
 fSrc:Ay
 fAt:Int
 fL:(List Token)
 deriving DecidableEq
def O4 (x:T119):List AV:=[(.str x.fSrc),(.int .i64 x.fAt),(.sl 4 (List.map Ac x.fL))]
end Go.Am
namespace Go.Am
open Go
set_option maxRecDepth 100000
set_option maxHeartbeats 4000000
set_option linter.unusedSimpArgs false
set_option linter.unusedVariables false
noncomputable section
def strings_IndexByte (s:Ay)(c:Int):R Int:=.ok (Lib.indexByte s c.toNat.toUInt8)
def Lu (c:Int):R Int:=
 if(((decide (c≥97))&&(decide (c≤122)))||((decide (c≥65))&&(decide (c≤90)))) then
(.ok 2)
else
(if((decide (c≥48))&&(decide (c≤57))) then
(.ok 3)
else
(if(c==95) then
(.ok 5)
else
(if((((c==32)||(c==9))||(c==10))||(c==13)) then
(.ok 1)
else
((strings_IndexByte [123,125,40,41,59,44,61,35,47,60,33,45,46] c).bind fun r=>
 if r≥0 then
(.ok 4)
else
(.ok 0)))))
def Pk (s:T119):R Unit:=
 .pan ⟨113,.int .i64 s.fAt⟩
def Gy (v:Int)(j:Nat)(a:Int):R (Unit ⊕ Int):=
 if(v==a) then
(.ok (.inr ((j:Int))))
else
(.ok (.inl ()))
def Qo (s:List Int)(v:Int):R Int:=
 (each (fun j a=>fun _=>Gy v j a) 0 s ()).bind (Dz (fun _=>.ok (-1)) (fun r=>.ok r))
def Mg (s:List Int)(v:Int):R Bool:=
 (Qo s v).bind fun r=>
 .ok (decide (r≥0))
def Ni (s:T119)(some:List Int)(n:Int):R (Int ⊕ Int):=
 (if(decide (n<(s.fSrc.length:Int))) then(C0 s.fSrc n).bind fun a=>
 (Lu (a.toNat:Int)).bind fun r=>
 (Mg some r).bind fun r1=>
 R.ok r1 else R.ok false).bind (fun(b:Bool)=>if b then
(.ok (.inl (IntKind.wrap .i64 (n+1))))
else
(.ok (.inr (n))))
def M9 (s:T119)(n1:Int):R Ay:=
 if(0:Int)≤s.fAt∧s.fAt≤n1∧n1≤(s.fSrc.length:Int) then
 .ok (Ih s.fSrc s.fAt n1) else .bad
def Jm (s:T119)(some:List Int):R Ay:=
 (loop (fun n=>Ni s some n) s.fAt).bind (fun n1=>M9 s n1)
def Q6 (a1:UInt8):R (Unit ⊕ Bool):=
 (Lu (a1.toNat:Int)).bind fun c=>
 if(((c != 2)&&(c != 3))&&(c != 5)) then
(.ok (.inr (false)))
else
(.ok (.inl ()))
def Un (s:Ay):R Bool:=
 (if((s==[])||(decide ((s.length:Int) > 32))) then R.ok true else(C0 s 0).bind fun a=>
 (Lu (a.toNat:Int)).bind fun r=>
 R.ok (r != 2)).bind (fun(b:Bool)=>if b then
(.ok false)
else
(if s.length≤Db then
((each (fun _ a1=>fun _=>Q6 a1) 0 s ()).bind (Dz (fun _=>.ok true) (fun r=>.ok r))) else .bad))
def S6 (t:Token):R Bool:=
 if(t.Kind==1) then
((Un t.Text).bind fun r=>
 .ok (r&&(t.N==0)))
else
(if(t.Kind==2) then
(.ok (((t.Text==[])&&(decide (t.N≥0)))&&(decide (t.N≤1099511627776))))
else
(if(t.Kind==3) then
((if((t.Text.length:Int)==1) then(C0 t.Text 0).bind fun a=>
 (Lu (a.toNat:Int)).bind fun r1=>
 R.ok (r1==4) else R.ok false).bind (fun(b:Bool)=>.ok (b&&(t.N==0))))
else
(.ok false)))
def P1 (s:Ay):R (Int×Bool):=if s.length≤281474976710656 then(match Lib.atoiAll s with
 | .ok v=>.ok (v,false)
 | Lib.NumEnd.syntax=>.ok (0,true)
 | .range=>.ok (Lib.atoiSat s,true)) else .bad
def strconv_Itoa (n:Int):R Ay:=if -9223372036854775808≤n∧n≤9223372036854775807 then .ok (Lib.itoa n) else .bad
def H5 (s:Ay)(vprefix:Ay):R Bool:=
 (if(decide ((s.length:Int)≥(vprefix.length:Int))) then if(0:Int)≤(vprefix.length:Int)∧(vprefix.length:Int)≤(s.length:Int) then
 R.ok ((s.take (Int.toNat (vprefix.length:Int)))==vprefix) else .bad else R.ok false).bind (fun(b:Bool)=>.ok b)
def N1 (s:Ay)(vprefix:Ay):R Bool:=
 (H5 s vprefix).bind fun r=>
 .ok r
def Me (s0_src:Ay)(s0_at:Int)(l:List Token):R Int:=
 (Jm ({ fSrc:=s0_src,fAt:=s0_at,fL:=l }:T119) [1]).bind fun r=>
 .ok (IntKind.wrap .i64 (s0_at+(r.length:Int)))
def G0 (text:Ay)(t:Token)(s0_src:Ay)(s0_at:Int)(l:List Token):R (List Token):=
 (S6 t).bind fun r=>
 if r then
(if(l.length+[({ Kind:=t.Kind,Text:=t.Text,N:=t.N,At:=s0_at }:Token)].length) * 40≤Db then
 .ok (l++[({ Kind:=t.Kind,Text:=t.Text,N:=t.N,At:=s0_at }:Token)]) else .bad)
else
(.pan ⟨113,.int .i64 s0_at⟩)
def M8 (s0_src:Ay)(s0_at:Int)(l:List Token):R (Int×(List Token)):=
 (Jm ({ fSrc:=s0_src,fAt:=s0_at,fL:=l }:T119) [2,3,5]).bind fun t=>
 (G0 t ({ Kind:=1,Text:=t,N:=0,At:=0 }:Token) s0_src s0_at l).bind fun r=>
 .ok ((IntKind.wrap .i64 (s0_at+(t.length:Int))),r)
def K1 (s0_src:Ay)(s0_at:Int)(l:List Token):R (Int×(List Token)):=
 (Jm ({ fSrc:=s0_src,fAt:=s0_at,fL:=l }:T119) [3]).bind fun t=>
 (P1 t).bind fun r=>
 (if r.2 then R.ok true else(strconv_Itoa r.1).bind fun r1=>
 R.ok (!(r1==t))).bind (fun(b:Bool)=>if b then
(.pan ⟨113,.int .i64 s0_at⟩)
else
((G0 t ({ Kind:=2,Text:=[],N:=r.1,At:=0 }:Token) s0_src s0_at l).bind fun r2=>
 .ok ((IntKind.wrap .i64 (s0_at+(t.length:Int))),r2)))
def Ng (s0_src:Ay)(s0_at:Int)(l:List Token):R (Int×(List Token)):=
 if(0:Int)≤s0_at∧s0_at≤(s0_src.length:Int) then
 (N1 (s0_src.drop (Int.toNat s0_at)) [47,47]).bind fun r=>
 if r then
(if(0:Int)≤s0_at∧s0_at≤(s0_src.length:Int) then
 (strings_IndexByte (s0_src.drop (Int.toNat s0_at)) 10).bind fun n=>
 if n≥0 then
(.ok ((IntKind.wrap .i64 (s0_at+n)),l))
else
(.ok ((s0_src.length:Int),l)) else .bad)
else
(if(0:Int)≤s0_at∧s0_at≤(IntKind.wrap .i64 (s0_at+1))∧(IntKind.wrap .i64 (s0_at+1))≤(s0_src.length:Int) then
 (G0 (Ih s0_src s0_at (IntKind.wrap .i64 (s0_at+1))) ({ Kind:=3,Text:=(Ih s0_src s0_at (IntKind.wrap .i64 (s0_at+1))),N:=0,At:=0 }:Token) s0_src s0_at l).bind fun r1=>
 .ok ((IntKind.wrap .i64 (s0_at+((Ih s0_src s0_at (IntKind.wrap .i64 (s0_at+1))).length:Int))),r1) else .bad) else .bad
def Jw (n:Int):R Int:=
 .ok n
def Od (src:Ay)(fAt:Int)(l:List Token):R ((Int×(List Token)) ⊕ (Int×(List Token))):=
 if fAt<(src.length:Int) then
((C0 src fAt).bind fun a=>
 (Lu (a.toNat:Int)).bind fun r=>
 if r=0 then
((Pk ({ fSrc:=src,fAt:=fAt,fL:=l }:T119)).bind fun _=>
 .ok (.inl (fAt,l)))
else
(if r=1 then
((Me src fAt l).bind fun r2=>
 .ok (.inl (r2,l)))
else
(if r=2 then
((M8 src fAt l).bind fun r3=>
 .ok (.inl (r3.1,r3.2)))
else
(if r=3 then
((K1 src fAt l).bind fun r4=>
 .ok (.inl (r4.1,r4.2)))
else
(if r=4 then
((Ng src fAt l).bind fun r5=>
 .ok (.inl (r5.1,r5.2)))
else
(if r=5 then
((Pk ({ fSrc:=src,fAt:=fAt,fL:=l }:T119)).bind fun _=>
 .ok (.inl (fAt,l)))
else
(.bad)))))))
else
(.ok (.inr ((fAt,l))))
def Wm (fAt3:Int)(l1:List Token):R ((List Token)×Int×Int):=
 .ok (l1,0,0)
def X6 (src:Ay):R ((List Token)×Int×Int):=
 if(src.length:Int) > 65536 then
(.ok ([],0,2))
else
((loop (C4 fun fAt l=>Od src fAt l) (0,[])).bind (C4 fun fAt3 l1=>Wm fAt3 l1))
def Abj (src:Ay):R ((List Token)×Int×Int):=
 (X6 src).catch' (O6 113 .i64 (fun n=>(Jw n).bind fun p=>.ok ([],p,70)) (fun _=>.bad))
def Nh (r:T67)(e:Int):R Unit:=
 if(r.fL.length:Int) > 0 then
((C0 r.fL 0).bind fun a=>
 .pan ⟨64,.two .i64 .i64 a.At e⟩)
else
(.pan ⟨64,.two .i64 .i64 r.fEnd e⟩)
def Bv (e:Int)(s_l:List Token)(s_end:Int):R Unit:=
 if(s_l.length:Int) > 0 then
((C0 s_l 0).bind fun a=>
 .pan ⟨64,.two .i64 .i64 a.At e⟩)
else
(.pan ⟨64,.two .i64 .i64 s_end e⟩)
def Kl (a:Token):R Bool:=
 .ok true
def Ff (s_l:List Token):R Token:=
 (C0 s_l 0).bind fun a2=>
 if(0:Int)≤1∧1≤(s_l.length:Int) then
 .ok a2 else .bad
def Nj (kind:Int)(s_l:List Token)(s_end:Int):R Token:=
 (if((s_l.length:Int)==0) then R.ok true else(C0 s_l 0).bind fun a=>
 R.ok (a.Kind != kind)).bind (fun(b:Bool)=>(if b then R.ok true else(C0 s_l 0).bind fun a1=>
 (Kl a1).bind fun r=>
 R.ok (!r)).bind (fun(b1:Bool)=>if b1 then
((Bv 80 s_l s_end).bind fun _=>
 Ff s_l)
else
(Ff s_l)))
def Cg (s_l:List Token)(s_end:Int):R Ay:=
 (Nj 1 s_l s_end).bind fun r=>
 .ok r.Text
def Km (t:Token)(b:Ay):R Bool:=
 .ok (t.Text==b)
def E1 (s0_l:List Token):R Token:=
 (C0 s0_l 0).bind fun a2=>
 if(0:Int)≤1∧1≤(s0_l.length:Int) then
 .ok a2 else .bad
def L9 (kind:Int)(s0_l:List Token)(s0_end:Int)(s1:Ay):R Token:=
 (if((s0_l.length:Int)==0) then R.ok true else(C0 s0_l 0).bind fun a=>
 R.ok (a.Kind != kind)).bind (fun(b:Bool)=>(if b then R.ok true else(C0 s0_l 0).bind fun a1=>
 (Km a1 s1).bind fun r=>
 R.ok (!r)).bind (fun(b1:Bool)=>if b1 then
((Bv 80 s0_l s0_end).bind fun _=>
 E1 s0_l)
else
(E1 s0_l)))
def Do (text:Ay)(s_l:List Token)(s_end:Int):R Unit:=
 (L9 1 s_l s_end text).bind fun r=>
 .ok ()
def Hb (t:Token)(b:Int)(c:Int):R Bool:=
 .ok ((decide (t.N≥b))&&(decide (t.N≤c)))
def E0 (s0_l:List Token):R Token:=
 (C0 s0_l 0).bind fun a2=>
 if(0:Int)≤1∧1≤(s0_l.length:Int) then
 .ok a2 else .bad
def L5 (kind:Int)(s0_l:List Token)(s0_end:Int)(s1:Int)(s2:Int):R Token:=
 (if((s0_l.length:Int)==0) then R.ok true else(C0 s0_l 0).bind fun a=>
 R.ok (a.Kind != kind)).bind (fun(b:Bool)=>(if b then R.ok true else(C0 s0_l 0).bind fun a1=>
 (Hb a1 s1 s2).bind fun r=>
 R.ok (!r)).bind (fun(b1:Bool)=>if b1 then
((Bv 80 s0_l s0_end).bind fun _=>
 E0 s0_l)
else
(E0 s0_l)))
def D8 (least:Int)(most:Int)(s_l:List Token)(s_end:Int):R Int:=
 (L5 2 s_l s_end least most).bind fun r=>
 .ok r.N
def F6 (s1_l:List Token)(s1_end:Int):R Mode:=
 (Do [109,111,100,101] s1_l s1_end).bind fun _=>
 (Cg (s1_l.drop 1) s1_end).bind fun r1=>
 (D8 0 64 ((s1_l.drop 1).drop 1) s1_end).bind fun r2=>
 .ok ({ Name:=r1,Places:=r2 }:Mode)
def F0 (kind:Int)(text:Ay)(s_l:List Token)(s_end:Int):R Bool:=
 (if(decide ((s_l.length:Int) > 0)) then(C0 s_l 0).bind fun a=>
 R.ok (a.Kind==kind) else R.ok false).bind (fun(b:Bool)=>(if b then(C0 s_l 0).bind fun a1=>
 R.ok (a1.Text==text) else R.ok false).bind (fun(b1:Bool)=>.ok b1))
def Kk (t:Token)(b:Ay):R Bool:=
 .ok (t.Text==b)
def E2 (s0_l:List Token):R Token:=
 (C0 s0_l 0).bind fun a2=>
 if(0:Int)≤1∧1≤(s0_l.length:Int) then
 .ok a2 else .bad
def Mb (kind:Int)(s0_l:List Token)(s0_end:Int)(s1:Ay):R Token:=
 (if((s0_l.length:Int)==0) then R.ok true else(C0 s0_l 0).bind fun a=>
 R.ok (a.Kind != kind)).bind (fun(b:Bool)=>(if b then R.ok true else(C0 s0_l 0).bind fun a1=>
 (Kk a1 s1).bind fun r=>
 R.ok (!r)).bind (fun(b1:Bool)=>if b1 then
((Bv 80 s0_l s0_end).bind fun _=>
 E2 s0_l)
else
(E2 s0_l)))
def Cj (text:Ay)(s_l:List Token)(s_end:Int):R Unit:=
 (Mb 3 s_l s_end text).bind fun r=>
 .ok ()
def F2 (s:Ay)(s1_l:List Token)(s1_end:Int):R Class:=
 (Do [115,108,111,119] s1_l s1_end).bind fun _=>
 (D8 1 64 (s1_l.drop 1) s1_end).bind fun r1=>
 (Do [102,97,115,116] ((s1_l.drop 1).drop 1) s1_end).bind fun _=>
 (D8 r1 64 (((s1_l.drop 1).drop 1).drop 1) s1_end).bind fun r3=>
 (Do [112,108,97,99,101,115] ((((s1_l.drop 1).drop 1).drop 1).drop 1) s1_end).bind fun _=>
 (D8 1 8 (((((s1_l.drop 1).drop 1).drop 1).drop 1).drop 1) s1_end).bind fun r5=>
 .ok ({ Name:=s,Slow:=r1,Fast:=r3,Places:=r5 }:Class)
def H3 (s_l:List Token)(s_end:Int):R Span:=
 (D8 0 1439 s_l s_end).bind fun r=>
 (Do [116,111] (s_l.drop 1) s_end).bind fun _=>
 (D8 (IntKind.wrap .i64 (r+1)) 1440 ((s_l.drop 1).drop 1) s_end).bind fun r2=>
 .ok ({ From:=r,To:=r2 }:Span)
def Li (s0:Rule)(s2_l:List Token)(s2_end:Int):R Rule:=
 (Do [97,116] s2_l s2_end).bind fun _=>
 (Cg (s2_l.drop 1) s2_end).bind fun r1=>
 (H3 ((s2_l.drop 1).drop 1) s2_end).bind fun r2=>
 .ok ({ Kind:=s0.Kind,C:=s0.C,A:=r1,Class:=s0.Class,Airport:=s0.Airport,N:=s0.N,Hours:=r2 }:Rule)
def Ge (class1:Ay)(s0:Int)(s3_l:List Token)(s3_end:Int):R Rule:=
 (Li ({ Kind:=s0,C:=class1,A:=[],Class:=0,Airport:=0,N:=0,Hours:=({ From:=0,To:=0 }:Span) }:Rule) s3_l s3_end).bind fun r=>
 .ok r
def Oi (a:Rule):R Unit:=
 .ok ()
def Hh (class1:Ay)(s0:Int):R Unit:=
 (Oi ({ Kind:=s0,C:=class1,A:=[],Class:=0,Airport:=0,N:=0,Hours:=({ From:=0,To:=0 }:Span) }:Rule)).bind fun _=>
 .ok ()
def G6 (t:Token):R Bool:=
 .ok ((decide (t.N≤60))&&((Int.tmod t.N 10)==0))
def E4 (s_l:List Token):R Token:=
 (C0 s_l 0).bind fun a2=>
 if(0:Int)≤1∧1≤(s_l.length:Int) then
 .ok a2 else .bad
def Hi (kind:Int)(s_l:List Token)(s_end:Int):R Token:=
 (if((s_l.length:Int)==0) then R.ok true else(C0 s_l 0).bind fun a=>
 R.ok (a.Kind != kind)).bind (fun(b:Bool)=>(if b then R.ok true else(C0 s_l 0).bind fun a1=>
 (G6 a1).bind fun r=>
 R.ok (!r)).bind (fun(b1:Bool)=>if b1 then
((Bv 80 s_l s_end).bind fun _=>
 E4 s_l)
else
(E4 s_l)))
def Ku (s0:Rule)(s2_l:List Token)(s2_end:Int):R Rule:=
 (Hi 2 s2_l s2_end).bind fun r=>
 .ok ({ Kind:=s0.Kind,C:=s0.C,A:=s0.A,Class:=s0.Class,Airport:=s0.Airport,N:=r.N,Hours:=s0.Hours }:Rule)
def Gd (class1:Ay)(s0:Int)(s3_l:List Token)(s3_end:Int):R Rule:=
 (Ku ({ Kind:=s0,C:=class1,A:=[],Class:=0,Airport:=0,N:=0,Hours:=({ From:=0,To:=0 }:Span) }:Rule) s3_l s3_end).bind fun r=>
 .ok r
def Kw (s0:Rule)(s2_l:List Token)(s2_end:Int):R Rule:=
 (D8 1 8 s2_l s2_end).bind fun r=>
 .ok ({ Kind:=s0.Kind,C:=s0.C,A:=s0.A,Class:=s0.Class,Airport:=s0.Airport,N:=r,Hours:=s0.Hours }:Rule)
def Gc (class1:Ay)(s0:Int)(s3_l:List Token)(s3_end:Int):R Rule:=
 (Kw ({ Kind:=s0,C:=class1,A:=[],Class:=0,Airport:=0,N:=0,Hours:=({ From:=0,To:=0 }:Span) }:Rule) s3_l s3_end).bind fun r=>
 .ok r
def Hq (s0_end:Int)(fL:List Token)(l1:List Mode)(r:Mode):R (((List Token)×(List Mode)) ⊕ ((List Mode)×(List Token))):=
 (Cj [44] (((fL.drop 1).drop 1).drop 1) s0_end).bind fun _=>
 .ok (.inl (((((fL.drop 1).drop 1).drop 1).drop 1),(l1++[r])))
def Hm (most:Int)(s0_end:Int)(fL:List Token)(l1:List Mode):R (((List Token)×(List Mode)) ⊕ ((List Mode)×(List Token))):=
 (F6 fL s0_end).bind fun r=>
 if(l1.length+[r].length) * 24≤Db then
 (F0 3 [44] (((fL.drop 1).drop 1).drop 1) s0_end).bind fun r1=>
 if r1 then
(if(((l1++[r]).length:Int)==most) then
((Bv 2 (((fL.drop 1).drop 1).drop 1) s0_end).bind fun _=>
 Hq s0_end fL l1 r)
else
(Hq s0_end fL l1 r))
else
(.ok (.inr (((l1++[r]),(((fL.drop 1).drop 1).drop 1))))) else .bad
def Hg (most:Int)(s0_l:List Token)(s0_end:Int)(l:List Volume):R ((List Mode)×(List Token)):=
 (loop (C4 fun fL l1=>Hm most s0_end fL l1) (s0_l,[])).bind (fun r=>.ok r)
def Fv (s:Ay)(s1_l:List Token)(s1_end:Int)(l:List Volume):R (Airport×(List Token)):=
 (Hg 16 s1_l s1_end l).bind fun r=>
 .ok (({ Name:=s,Modes:=r.1 }:Airport),r.2)
def Gl (s0_end:Int)(fL:List Token)(l1:List Ay)(r:Ay):R (((List Token)×(List Ay)) ⊕ ((List Ay)×(List Token))):=
 (Cj [44] (fL.drop 1) s0_end).bind fun _=>
 .ok (.inl (((fL.drop 1).drop 1),(l1++[r])))
def Gi (most:Int)(s0_end:Int)(fL:List Token)(l1:List Ay):R (((List Token)×(List Ay)) ⊕ ((List Ay)×(List Token))):=
 (Cg fL s0_end).bind fun r=>
 if(l1.length+[r].length) * 16≤Db then
 (F0 3 [44] (fL.drop 1) s0_end).bind fun r1=>
 if r1 then
(if(((l1++[r]).length:Int)==most) then
((Bv 2 (fL.drop 1) s0_end).bind fun _=>
 Gl s0_end fL l1 r)
else
(Gl s0_end fL l1 r))
else
(.ok (.inr (((l1++[r]),(fL.drop 1))))) else .bad
def Ew (most:Int)(s0_l:List Token)(s0_end:Int)(l:List Volume):R ((List Ay)×(List Token)):=
 (loop (C4 fun fL l1=>Gi most s0_end fL l1) (s0_l,[])).bind (fun r=>.ok r)
def Fq (s:Ay)(s1_l:List Token)(s1_end:Int)(l:List Volume):R (Config×(List Token)):=
 (Cj [61] s1_l s1_end).bind fun _=>
 (Ew 64 (s1_l.drop 1) s1_end l).bind fun r1=>
 .ok (({ Name:=s,Names:=r1.1,Sectors:=[] }:Config),r1.2)
def Fm (s:Ay)(s1_l:List Token)(s1_end:Int)(l:List Volume):R (Route×(List Token)):=
 (Do [102,114,111,109] s1_l s1_end).bind fun _=>
 (Cg (s1_l.drop 1) s1_end).bind fun r1=>
 (Do [116,111] ((s1_l.drop 1).drop 1) s1_end).bind fun _=>
 (Cg (((s1_l.drop 1).drop 1).drop 1) s1_end).bind fun r3=>
 (Do [118,105,97] ((((s1_l.drop 1).drop 1).drop 1).drop 1) s1_end).bind fun _=>
 (Ew 8 (((((s1_l.drop 1).drop 1).drop 1).drop 1).drop 1) s1_end l).bind fun r5=>
 .ok (({ Name:=s,A:=r1,B:=r3,From:=0,To:=0,Names:=r5.1,Segments:=[] }:Route),r5.2)
def Ft (s:Ay)(s1_l:List Token)(s1_end:Int)(l:List Volume):R (Sector×(List Token)):=
 (Cj [61] s1_l s1_end).bind fun _=>
 (Ew 64 (s1_l.drop 1) s1_end l).bind fun r1=>
 (Do [114,97,100,97,114] r1.2 s1_end).bind fun _=>
 (D8 0 64 (r1.2.drop 1) s1_end).bind fun r3=>
 (Do [112,114,111,99,101,100,117,114,97,108] ((r1.2.drop 1).drop 1) s1_end).bind fun _=>
 (D8 0 r3 (((r1.2.drop 1).drop 1).drop 1) s1_end).bind fun r5=>
 .ok (({ Name:=s,Names:=r1.1,Volumes:=[],Radar:=r3,Procedural:=r5 }:Sector),((((r1.2.drop 1).drop 1).drop 1).drop 1))
def Gu (s0_end:Int)(fL:List Token)(l1:List Span)(r:Span):R (((List Token)×(List Span)) ⊕ ((List Span)×(List Token))):=
 (Cj [44] (((fL.drop 1).drop 1).drop 1) s0_end).bind fun _=>
 .ok (.inl (((((fL.drop 1).drop 1).drop 1).drop 1),(l1++[r])))
def Gs (most:Int)(s0_end:Int)(fL:List Token)(l1:List Span):R (((List Token)×(List Span)) ⊕ ((List Span)×(List Token))):=
 (H3 fL s0_end).bind fun r=>
 if(l1.length+[r].length) * 16≤Db then
 (F0 3 [44] (((fL.drop 1).drop 1).drop 1) s0_end).bind fun r1=>
 if r1 then
(if(((l1++[r]).length:Int)==most) then
((Bv 2 (((fL.drop 1).drop 1).drop 1) s0_end).bind fun _=>
 Gu s0_end fL l1 r)
else
(Gu s0_end fL l1 r))
else
(.ok (.inr (((l1++[r]),(((fL.drop 1).drop 1).drop 1))))) else .bad
def Fs (most:Int)(s0_l:List Token)(s0_end:Int)(l:List Volume):R ((List Span)×(List Token)):=
 (loop (C4 fun fL l1=>Gs most s0_end fL l1) (s0_l,[])).bind (fun r=>.ok r)
def G2 (text:Ay)(s0_l:List Token)(s0_end:Int)(l:List Volume):R ((List Span)×(List Token)):=
 (F0 1 text s0_l s0_end).bind fun r=>
 if r then
((Do text s0_l s0_end).bind fun _=>
 (Fs 16 (s0_l.drop 1) s0_end l).bind fun r2=>
 .ok (r2.1,r2.2))
else
(.ok ([],s0_l))
def Fp (s:Ay)(s1_l:List Token)(s1_end:Int)(l:List Volume):R (Segment×(List Token)):=
 (Do [105,110] s1_l s1_end).bind fun _=>
 (Cg (s1_l.drop 1) s1_end).bind fun r1=>
 (Do [108,101,110,103,116,104] ((s1_l.drop 1).drop 1) s1_end).bind fun _=>
 (D8 1 4096 (((s1_l.drop 1).drop 1).drop 1) s1_end).bind fun r3=>
 (G2 [111,112,101,110] ((((s1_l.drop 1).drop 1).drop 1).drop 1) s1_end l).bind fun r4=>
 .ok (({ Name:=s,In:=r1,Volume:=0,Length:=r3,Open:=r4.1 }:Segment),r4.2)
def Fu (s:Ay)(s1_l:List Token)(s1_end:Int)(l:List Volume):R (Volume×(List Token)):=
 (G2 [99,108,111,115,101,100] s1_l s1_end l).bind fun r=>
 .ok (({ Name:=s,Closed:=r.1 }:Volume),r.2)
def Ia (s0_l:List Token)(s0_end:Int)(l:List Volume):R ((List Token)×(List Volume)):=
 if(0:Int)≤1∧1≤(s0_l.length:Int) then
 (Cg (s0_l.drop 1) s0_end).bind fun r1=>
 (Fu r1 ((s0_l.drop 1).drop 1) s0_end l).bind fun r2=>
 (Cj [59] r2.2 s0_end).bind fun _=>
 if(l.length+[r2.1].length) * 40≤Db then
 .ok ((r2.2.drop 1),(l++[r2.1])) else .bad else .bad
def Hu (most:Int)(s0_l:List Token)(s0_end:Int)(l:List Volume):R ((List Token)×(List Volume)):=
 if((l.length:Int)==most) then
((Bv 2 s0_l s0_end).bind fun _=>
 Ia s0_l s0_end l)
else
(Ia s0_l s0_end l)
def I8 (s0_l:List Token)(s0_end:Int)(l:List Volume):R ((List Token)×(List Volume)):=
 (Hu 64 s0_l s0_end l).bind fun r=>
 .ok (r.1,r.2)
def H6 (s0_l:List Token)(s0_end:Int)(l:List Volume)(l1:List Sector):R ((List Token)×(List Sector)):=
 if(0:Int)≤1∧1≤(s0_l.length:Int) then
 (Cg (s0_l.drop 1) s0_end).bind fun r1=>
 (Ft r1 ((s0_l.drop 1).drop 1) s0_end l).bind fun r2=>
 (Cj [59] r2.2 s0_end).bind fun _=>
 if(l1.length+[r2.1].length) * 80≤Db then
 .ok ((r2.2.drop 1),(l1++[r2.1])) else .bad else .bad
def Hw (most:Int)(s0_l:List Token)(s0_end:Int)(l:List Volume)(l1:List Sector):R ((List Token)×(List Sector)):=
 if((l1.length:Int)==most) then
((Bv 2 s0_l s0_end).bind fun _=>
 H6 s0_l s0_end l l1)
else
(H6 s0_l s0_end l l1)
def I7 (s0_l:List Token)(s0_end:Int)(l:List Volume)(l1:List Sector):R ((List Token)×(List Sector)):=
 (Hw 64 s0_l s0_end l l1).bind fun r=>
 .ok (r.1,r.2)
def H8 (s0_l:List Token)(s0_end:Int)(l:List Volume)(l1:List Config):R ((List Token)×(List Config)):=
 if(0:Int)≤1∧1≤(s0_l.length:Int) then
 (Cg (s0_l.drop 1) s0_end).bind fun r1=>
 (Fq r1 ((s0_l.drop 1).drop 1) s0_end l).bind fun r2=>
 (Cj [59] r2.2 s0_end).bind fun _=>
 if(l1.length+[r2.1].length) * 64≤Db then
 .ok ((r2.2.drop 1),(l1++[r2.1])) else .bad else .bad
def Hv (most:Int)(s0_l:List Token)(s0_end:Int)(l:List Volume)(l1:List Config):R ((List Token)×(List Config)):=
 if((l1.length:Int)==most) then
((Bv 2 s0_l s0_end).bind fun _=>
 H8 s0_l s0_end l l1)
else
(H8 s0_l s0_end l l1)
def I3 (s0_l:List Token)(s0_end:Int)(l:List Volume)(l1:List Config):R ((List Token)×(List Config)):=
 (Hv 32 s0_l s0_end l l1).bind fun r=>
 .ok (r.1,r.2)
def Hn (s0_l:List Token)(s0_end:Int)(l:List Volume)(l1:List Segment):R ((List Token)×(List Segment)):=
 if(0:Int)≤1∧1≤(s0_l.length:Int) then
 (Cg (s0_l.drop 1) s0_end).bind fun r1=>
 (Fp r1 ((s0_l.drop 1).drop 1) s0_end l).bind fun r2=>
 (Cj [59] r2.2 s0_end).bind fun _=>
 if(l1.length+[r2.1].length) * 72≤Db then
 .ok ((r2.2.drop 1),(l1++[r2.1])) else .bad else .bad
def Hd (most:Int)(s0_l:List Token)(s0_end:Int)(l:List Volume)(l1:List Segment):R ((List Token)×(List Segment)):=
 if((l1.length:Int)==most) then
((Bv 2 s0_l s0_end).bind fun _=>
 Hn s0_l s0_end l l1)
else
(Hn s0_l s0_end l l1)
def Jd (s0_l:List Token)(s0_end:Int)(l:List Volume)(l1:List Segment):R ((List Token)×(List Segment)):=
 (Hd 128 s0_l s0_end l l1).bind fun r=>
 .ok (r.1,r.2)
def Im (s0_l:List Token)(s0_end:Int)(l:List Volume)(l1:List Route):R ((List Token)×(List Route)):=
 if(0:Int)≤1∧1≤(s0_l.length:Int) then
 (Cg (s0_l.drop 1) s0_end).bind fun r1=>
 (Fm r1 ((s0_l.drop 1).drop 1) s0_end l).bind fun r2=>
 (Cj [59] r2.2 s0_end).bind fun _=>
 if(l1.length+[r2.1].length) * 112≤Db then
 .ok ((r2.2.drop 1),(l1++[r2.1])) else .bad else .bad
def Ic (most:Int)(s0_l:List Token)(s0_end:Int)(l:List Volume)(l1:List Route):R ((List Token)×(List Route)):=
 if((l1.length:Int)==most) then
((Bv 2 s0_l s0_end).bind fun _=>
 Im s0_l s0_end l l1)
else
(Im s0_l s0_end l l1)
def I4 (s0_l:List Token)(s0_end:Int)(l:List Volume)(l1:List Route):R ((List Token)×(List Route)):=
 (Ic 64 s0_l s0_end l l1).bind fun r=>
 .ok (r.1,r.2)
def Hr (s0_l:List Token)(s0_end:Int)(l:List Volume)(l1:List Airport):R ((List Token)×(List Airport)):=
 if(0:Int)≤1∧1≤(s0_l.length:Int) then
 (Cg (s0_l.drop 1) s0_end).bind fun r1=>
 (Fv r1 ((s0_l.drop 1).drop 1) s0_end l).bind fun r2=>
 (Cj [59] r2.2 s0_end).bind fun _=>
 if(l1.length+[r2.1].length) * 40≤Db then
 .ok ((r2.2.drop 1),(l1++[r2.1])) else .bad else .bad
def He (most:Int)(s0_l:List Token)(s0_end:Int)(l:List Volume)(l1:List Airport):R ((List Token)×(List Airport)):=
 if((l1.length:Int)==most) then
((Bv 2 s0_l s0_end).bind fun _=>
 Hr s0_l s0_end l l1)
else
(Hr s0_l s0_end l l1)
def Jg (s0_l:List Token)(s0_end:Int)(l:List Volume)(l1:List Airport):R ((List Token)×(List Airport)):=
 (He 16 s0_l s0_end l l1).bind fun r=>
 .ok (r.1,r.2)
def Ip (s0_l:List Token)(s0_end:Int)(l:List Class):R (List Class):=
 if(0:Int)≤1∧1≤(s0_l.length:Int) then
 (Cg (s0_l.drop 1) s0_end).bind fun r1=>
 (F2 r1 ((s0_l.drop 1).drop 1) s0_end).bind fun r2=>
 (Cj [59] ((((((((s0_l.drop 1).drop 1).drop 1).drop 1).drop 1).drop 1).drop 1).drop 1) s0_end).bind fun _=>
 if(l.length+[r2].length) * 40≤Db then
 .ok (l++[r2]) else .bad else .bad
def Ib (most:Int)(s0_l:List Token)(s0_end:Int)(l:List Class):R (List Class):=
 if((l.length:Int)==most) then
((Bv 2 s0_l s0_end).bind fun _=>
 Ip s0_l s0_end l)
else
(Ip s0_l s0_end l)
def I5 (s0_l:List Token)(s0_end:Int)(l:List Class):R (List Class):=
 (Ib 8 s0_l s0_end l).bind fun r=>
 .ok r
def Je (s0_l:List Token)(s0_end:Int)(l:List Rule)(s2:Int):R (List Rule):=
 if(0:Int)≤1∧1≤(s0_l.length:Int) then
 (Cg (s0_l.drop 1) s0_end).bind fun r1=>
 (Ge r1 s2 ((s0_l.drop 1).drop 1) s0_end).bind fun r2=>
 (Cj [59] (((((((s0_l.drop 1).drop 1).drop 1).drop 1).drop 1).drop 1).drop 1) s0_end).bind fun _=>
 if(l.length+[r2].length) * 80≤Db then
 .ok (l++[r2]) else .bad else .bad
def Iu (most:Int)(s0_l:List Token)(s0_end:Int)(l:List Rule)(s2:Int):R (List Rule):=
 if((l.length:Int)==most) then
((Bv 2 s0_l s0_end).bind fun _=>
 Je s0_l s0_end l s2)
else
(Je s0_l s0_end l s2)
def Lh (kind:Int)(s0_l:List Token)(s0_end:Int)(l:List Rule):R (List Rule):=
 (Iu 64 s0_l s0_end l kind).bind fun r=>
 .ok r
def Jf (s0_l:List Token)(s0_end:Int)(l:List Rule):R (List Rule):=
 (Lh 1 s0_l s0_end l).bind fun r=>
 .ok r
def Jb (s0_l:List Token)(s0_end:Int)(l:List Rule)(s2:Int):R (List Rule):=
 if(0:Int)≤1∧1≤(s0_l.length:Int) then
 (Cg (s0_l.drop 1) s0_end).bind fun r1=>
 (Hh r1 s2).bind fun _=>
 (Cj [59] ((s0_l.drop 1).drop 1) s0_end).bind fun _=>
 if(l.length+[({ Kind:=s2,C:=r1,A:=[],Class:=0,Airport:=0,N:=0,Hours:=({ From:=0,To:=0 }:Span) }:Rule)].length) * 80≤Db then
 .ok (l++[({ Kind:=s2,C:=r1,A:=[],Class:=0,Airport:=0,N:=0,Hours:=({ From:=0,To:=0 }:Span) }:Rule)]) else .bad else .bad
def I0 (most:Int)(s0_l:List Token)(s0_end:Int)(l:List Rule)(s2:Int):R (List Rule):=
 if((l.length:Int)==most) then
((Bv 2 s0_l s0_end).bind fun _=>
 Jb s0_l s0_end l s2)
else
(Jb s0_l s0_end l s2)
def Ll (kind:Int)(s0_l:List Token)(s0_end:Int)(l:List Rule):R (List Rule):=
 (I0 64 s0_l s0_end l kind).bind fun r=>
 .ok r
def Ja (s0_l:List Token)(s0_end:Int)(l:List Rule):R (List Rule):=
 (Ll 2 s0_l s0_end l).bind fun r=>
 .ok r
def Jc (s0_l:List Token)(s0_end:Int)(l:List Rule)(s2:Int):R (List Rule):=
 if(0:Int)≤1∧1≤(s0_l.length:Int) then
 (Cg (s0_l.drop 1) s0_end).bind fun r1=>
 (Gd r1 s2 ((s0_l.drop 1).drop 1) s0_end).bind fun r2=>
 (Cj [59] (((s0_l.drop 1).drop 1).drop 1) s0_end).bind fun _=>
 if(l.length+[r2].length) * 80≤Db then
 .ok (l++[r2]) else .bad else .bad
def I1 (most:Int)(s0_l:List Token)(s0_end:Int)(l:List Rule)(s2:Int):R (List Rule):=
 if((l.length:Int)==most) then
((Bv 2 s0_l s0_end).bind fun _=>
 Jc s0_l s0_end l s2)
else
(Jc s0_l s0_end l s2)
def K3 (kind:Int)(s0_l:List Token)(s0_end:Int)(l:List Rule):R (List Rule):=
 (I1 64 s0_l s0_end l kind).bind fun r=>
 .ok r
def Ik (s0_l:List Token)(s0_end:Int)(l:List Rule):R (List Rule):=
 (K3 4 s0_l s0_end l).bind fun r=>
 .ok r
def I6 (s0_l:List Token)(s0_end:Int)(l:List Rule)(s2:Int):R (List Rule):=
 if(0:Int)≤1∧1≤(s0_l.length:Int) then
 (Cg (s0_l.drop 1) s0_end).bind fun r1=>
 (Gc r1 s2 ((s0_l.drop 1).drop 1) s0_end).bind fun r2=>
 (Cj [59] (((s0_l.drop 1).drop 1).drop 1) s0_end).bind fun _=>
 if(l.length+[r2].length) * 80≤Db then
 .ok (l++[r2]) else .bad else .bad
def Iw (most:Int)(s0_l:List Token)(s0_end:Int)(l:List Rule)(s2:Int):R (List Rule):=
 if((l.length:Int)==most) then
((Bv 2 s0_l s0_end).bind fun _=>
 I6 s0_l s0_end l s2)
else
(I6 s0_l s0_end l s2)
def K6 (kind:Int)(s0_l:List Token)(s0_end:Int)(l:List Rule):R (List Rule):=
 (Iw 64 s0_l s0_end l kind).bind fun r=>
 .ok r
def Ig (s0_l:List Token)(s0_end:Int)(l:List Rule):R (List Rule):=
 (K6 3 s0_l s0_end l).bind fun r=>
 .ok r
def Fl (s0_l:List Token)(s0_end:Int)(l:List Volume)(l1:List Sector)(l2:List Config)(l3:List Segment)(l4:List Route)(l5:List Airport)(l6:List Class)(l7:List Rule):R ((List Token)×(List Volume)×(List Sector)×(List Config)×(List Segment)×(List Route)×(List Airport)×(List Class)×(List Rule)):=
 (Nh ({ fL:=s0_l,fEnd:=s0_end,fA:=({ Volumes:=l,Sectors:=l1,Configs:=l2,Segments:=l3,Routes:=l4,Airports:=l5,Classes:=l6,Rules:=l7 }:Airspace) }:T67) 80).bind fun _=>
 .ok (s0_l,l,l1,l2,l3,l4,l5,l6,l7)
def F7 (s0_l:List Token)(s0_end:Int)(l:List Volume)(l1:List Sector)(l2:List Config)(l3:List Segment)(l4:List Route)(l5:List Airport)(l6:List Class)(l7:List Rule):R ((List Token)×(List Volume)×(List Sector)×(List Config)×(List Segment)×(List Route)×(List Airport)×(List Class)×(List Rule)):=
 (C0 s0_l 0).bind fun a=>
 if(a.Kind==1) then
(if(a.Text==[97,105,114,112,111,114,116]) then
((Jg s0_l s0_end l l5).bind fun r=>
 .ok (r.1,l,l1,l2,l3,l4,r.2,l6,l7))
else
(if(a.Text==[99,108,97,115,115]) then
((I5 s0_l s0_end l6).bind fun r1=>
 .ok ((((((((((s0_l.drop 1).drop 1).drop 1).drop 1).drop 1).drop 1).drop 1).drop 1).drop 1),l,l1,l2,l3,l4,l5,r1,l7))
else
(if(a.Text==[99,111,110,102,105,103]) then
((I3 s0_l s0_end l l2).bind fun r2=>
 .ok (r2.1,l,l1,r2.2,l3,l4,l5,l6,l7))
else
(if(a.Text==[99,117,114,102,101,119]) then
((Jf s0_l s0_end l7).bind fun r3=>
 .ok (((((((((s0_l.drop 1).drop 1).drop 1).drop 1).drop 1).drop 1).drop 1).drop 1),l,l1,l2,l3,l4,l5,l6,r3))
else
(if(a.Text==[101,120,101,109,112,116]) then
((Ja s0_l s0_end l7).bind fun r4=>
 .ok ((((s0_l.drop 1).drop 1).drop 1),l,l1,l2,l3,l4,l5,l6,r4))
else
(if(a.Text==[108,111,110,103,101,115,116]) then
((Ik s0_l s0_end l7).bind fun r5=>
 .ok (((((s0_l.drop 1).drop 1).drop 1).drop 1),l,l1,l2,l3,l4,l5,l6,r5))
else
(if(a.Text==[114,111,117,116,101]) then
((I4 s0_l s0_end l l4).bind fun r6=>
 .ok (r6.1,l,l1,l2,l3,r6.2,l5,l6,l7))
else
(if(a.Text==[115,101,99,116,111,114]) then
((I7 s0_l s0_end l l1).bind fun r7=>
 .ok (r7.1,l,r7.2,l2,l3,l4,l5,l6,l7))
else
(if(a.Text==[115,101,103,109,101,110,116]) then
((Jd s0_l s0_end l l3).bind fun r8=>
 .ok (r8.1,l,l1,l2,r8.2,l4,l5,l6,l7))
else
(if(a.Text==[118,111,108,117,109,101]) then
((I8 s0_l s0_end l).bind fun r9=>
 .ok (r9.1,r9.2,l1,l2,l3,l4,l5,l6,l7))
else
(if(a.Text==[119,101,105,103,104,116]) then
((Ig s0_l s0_end l7).bind fun r10=>
 .ok (((((s0_l.drop 1).drop 1).drop 1).drop 1),l,l1,l2,l3,l4,l5,l6,r10))
else
(Fl s0_l s0_end l l1 l2 l3 l4 l5 l6 l7))))))))))))
else
(Fl s0_l s0_end l l1 l2 l3 l4 l5 l6 l7)
def Gx (n:Int)(n2:Int):R (Int×Int):=
 .ok (n,n2)
def Js (src:Ay)(fL:List Token)(l:List Airport)(l1:List Class)(l2:List Config)(l3:List Rule)(l4:List Route)(l5:List Sector)(l6:List Segment)(l7:List Volume):R (((List Token)×(List Airport)×(List Class)×(List Config)×(List Rule)×(List Route)×(List Sector)×(List Segment)×(List Volume)) ⊕ ((List Token)×(List Airport)×(List Class)×(List Config)×(List Rule)×(List Route)×(List Sector)×(List Segment)×(List Volume))):=
 if(fL.length:Int) > 0 then
((F7 fL (src.length:Int) l7 l5 l2 l6 l4 l l1 l3).bind fun r1=>
 .ok (.inl (r1.1,r1.2.2.2.2.2.2.1,r1.2.2.2.2.2.2.2.1,r1.2.2.2.1,r1.2.2.2.2.2.2.2.2,r1.2.2.2.2.2.1,r1.2.2.1,r1.2.2.2.2.1,r1.2.1)))
else
(.ok (.inr ((fL,l,l1,l2,l3,l4,l5,l6,l7))))
def Q8 (fL3:List Token)(l8:List Airport)(l9:List Class)(l10:List Config)(l11:List Rule)(l12:List Route)(l13:List Sector)(l14:List Segment)(l15:List Volume):R (Airspace×Int×Int):=
 .ok (({ Volumes:=l15,Sectors:=l13,Configs:=l10,Segments:=l14,Routes:=l12,Airports:=l8,Classes:=l9,Rules:=l11 }:Airspace),0,0)
def R5 (src:Ay):R (Airspace×Int×Int):=
 ((Abj src).np).bind fun r=>
 if(r.2.2 != 0) then
(.ok (({ Volumes:=[],Sectors:=[],Configs:=[],Segments:=[],Routes:=[],Airports:=[],Classes:=[],Rules:=[] }:Airspace),r.2.1,r.2.2))
else
((loop (Xb fun fL l l1 l2 l3 l4 l5 l6 l7=>Js src fL l l1 l2 l3 l4 l5 l6 l7) (r.1,[],[],[],[],[],[],[],[])).bind (Xb fun fL3 l8 l9 l10 l11 l12 l13 l14 l15=>Q8 fL3 l8 l9 l10 l11 l12 l13 l14 l15))
def J5 (src:Ay):R (Airspace×Int×Int):=
 (R5 src).catch' (O3 64 .i64 .i64 (fun n n2=>(Gx n n2).bind fun p=>.ok (({ Volumes:=[],Sectors:=[],Configs:=[],Segments:=[],Routes:=[],Airports:=[],Classes:=[],Rules:=[] }:Airspace),p.1,p.2)) (fun _=>.bad))
def H2 (ok:Bool)(t:Token)(s0_bad:Bool)(l:List Token):R (List Token):=
 if(l.length+[t].length) * 40≤Db then
 .ok (l++[t]) else .bad
def De (s:Ay)(s0_bad:Bool)(l:List Token):R (Bool×(List Token)):=
 (Un s).bind fun r=>
 (H2 r ({ Kind:=1,Text:=s,N:=0,At:=0 }:Token) s0_bad l).bind fun r1=>
 .ok ((s0_bad||(!r)),r1)
def Ld (a:Ay)(fBad:Bool)(l2:List Token):R (Bool×(List Token)):=
 (H2 true ({ Kind:=1,Text:=a,N:=0,At:=0 }:Token) fBad l2).bind fun r=>
 .ok ((fBad||(!true)),r)
def B8 (l:List Ay)(s0_bad:Bool)(l1:List Token):R (Bool×(List Token)):=
 (N7 (fun _ a=>C4 fun fBad l2=>Ld a fBad l2) 0 l (s0_bad,l1)).bind ((C4 fun fBad l2=>.ok (fBad,l2)))
def K7 (a:Ay)(fBad:Bool)(l2:List Token):R (Bool×(List Token)):=
 (H2 true ({ Kind:=3,Text:=a,N:=0,At:=0 }:Token) fBad l2).bind fun r=>
 .ok ((fBad||(!true)),r)
def Dj (l:List Ay)(s0_bad:Bool)(l1:List Token):R (Bool×(List Token)):=
 (N7 (fun _ a=>C4 fun fBad l2=>K7 a fBad l2) 0 l (s0_bad,l1)).bind ((C4 fun fBad l2=>.ok (fBad,l2)))
def Dw (n:Int)(least:Int)(most:Int)(s0_bad:Bool)(l:List Token):R (List Token):=
 (H2 ((decide (n≥least))&&(decide (n≤most))) ({ Kind:=2,Text:=[],N:=n,At:=0 }:Token) s0_bad l).bind fun r=>
 .ok r
def Kn (s:Span)(s0_bad:Bool)(l:List Token):R (Bool×(List Token)):=
 (Dw s.From 0 1439 s0_bad l).bind fun r=>
 (B8 [[116,111]] (s0_bad||(!((decide (s.From≥0))&&(decide (s.From≤1439))))) r).bind fun r1=>
 (Dw s.To (IntKind.wrap .i64 (s.From+1)) 1440 r1.1 r1.2).bind fun r2=>
 .ok ((r1.1||(!((decide (s.To≥(IntKind.wrap .i64 (s.From+1))))&&(decide (s.To≤1440))))),r2)
def J6 (a:Span)(fBad1:Bool)(l3:List Token):R (Bool×(List Token)):=
 (Kn a fBad1 l3).bind fun r1=>
 .ok (r1.1,r1.2)
def Kc (j:Nat)(a:Span)(fBad:Bool)(l2:List Token):R (Bool×(List Token)):=
 if(j:Int) > 0 then
((Dj [[44]] fBad l2).bind fun r=>
 J6 a r.1 r.2)
else
(J6 a fBad l2)
def L6 (l:List Span)(most:Int)(s0_bad:Bool)(l1:List Token):R (Bool×(List Token)):=
 (N7 (fun j a=>C4 fun fBad l2=>Kc j a fBad l2) 0 l (((s0_bad||((l.length:Int)==0))||(decide ((l.length:Int) > most))),l1)).bind ((C4 fun fBad l2=>.ok (fBad,l2)))
def Kj (text:Ay)(l:List Span)(s0_bad:Bool)(l1:List Token):R (Bool×(List Token)):=
 if(l.length:Int) > 0 then
((B8 [text] s0_bad l1).bind fun r=>
 (L6 l 16 r.1 r.2).bind fun r1=>
 .ok (r1.1,r1.2))
else
(.ok (s0_bad,l1))
def Pt (a:Volume)(s1_bad:Bool)(l:List Token):R (Bool×(List Token)):=
 (De a.Name s1_bad l).bind fun r=>
 (Kj [99,108,111,115,101,100] a.Closed r.1 r.2).bind fun r1=>
 .ok (r1.1,r1.2)
def Jx (a:Volume)(fBad1:Bool)(l2:List Token):R (Bool×(List Token)):=
 (Pt a fBad1 l2).bind fun r1=>
 (Dj [[59]] r1.1 r1.2).bind fun r2=>
 .ok (r2.1,r2.2)
def Jn (text:Ay)(a:Volume)(fBad:Bool)(l1:List Token):R (Bool×(List Token)):=
 if(text==[]) then
(Jx a fBad l1)
else
((B8 [text] fBad l1).bind fun r=>
 Jx a r.1 r.2)
def Lf (text:Ay)(l:List Volume)(most:Int)(s0_bad:Bool):R (Bool×(List Token)):=
 (N7 (fun _ a=>C4 fun fBad l1=>Jn text a fBad l1) 0 l ((s0_bad||(decide ((l.length:Int) > most))),[])).bind ((C4 fun fBad l1=>.ok (fBad,l1)))
def Jq (a:Ay)(fBad1:Bool)(l3:List Token):R (Bool×(List Token)):=
 (De a fBad1 l3).bind fun r1=>
 .ok (r1.1,r1.2)
def Jv (j:Nat)(a:Ay)(fBad:Bool)(l2:List Token):R (Bool×(List Token)):=
 if(j:Int) > 0 then
((Dj [[44]] fBad l2).bind fun r=>
 Jq a r.1 r.2)
else
(Jq a fBad l2)
def G4 (l:List Ay)(most:Int)(s0_bad:Bool)(l1:List Token):R (Bool×(List Token)):=
 (N7 (fun j a=>C4 fun fBad l2=>Jv j a fBad l2) 0 l (((s0_bad||((l.length:Int)==0))||(decide ((l.length:Int) > most))),l1)).bind ((C4 fun fBad l2=>.ok (fBad,l2)))
def Ps (a:Sector)(s1_bad:Bool)(l:List Token):R (Bool×(List Token)):=
 (De a.Name s1_bad l).bind fun r=>
 (Dj [[61]] r.1 r.2).bind fun r1=>
 (G4 a.Names 64 r1.1 r1.2).bind fun r2=>
 (B8 [[114,97,100,97,114]] r2.1 r2.2).bind fun r3=>
 (Dw a.Radar 0 64 r3.1 r3.2).bind fun r4=>
 (B8 [[112,114,111,99,101,100,117,114,97,108]] (r3.1||(!((decide (a.Radar≥0))&&(decide (a.Radar≤64))))) r4).bind fun r5=>
 (Dw a.Procedural 0 a.Radar r5.1 r5.2).bind fun r6=>
 .ok ((r5.1||(!((decide (a.Procedural≥0))&&(decide (a.Procedural≤a.Radar))))),r6)
def Jp (a:Sector)(fBad1:Bool)(l3:List Token):R (Bool×(List Token)):=
 (Ps a fBad1 l3).bind fun r1=>
 (Dj [[59]] r1.1 r1.2).bind fun r2=>
 .ok (r2.1,r2.2)
def Jy (text:Ay)(a:Sector)(fBad:Bool)(l2:List Token):R (Bool×(List Token)):=
 if(text==[]) then
(Jp a fBad l2)
else
((B8 [text] fBad l2).bind fun r=>
 Jp a r.1 r.2)
def Le (text:Ay)(l:List Sector)(most:Int)(s0_bad:Bool)(l1:List Token):R (Bool×(List Token)):=
 (N7 (fun _ a=>C4 fun fBad l2=>Jy text a fBad l2) 0 l ((s0_bad||(decide ((l.length:Int) > most))),l1)).bind ((C4 fun fBad l2=>.ok (fBad,l2)))
def Pq (a:Config)(s1_bad:Bool)(l:List Token):R (Bool×(List Token)):=
 (De a.Name s1_bad l).bind fun r=>
 (Dj [[61]] r.1 r.2).bind fun r1=>
 (G4 a.Names 64 r1.1 r1.2).bind fun r2=>
 .ok (r2.1,r2.2)
def Ju (a:Config)(fBad1:Bool)(l3:List Token):R (Bool×(List Token)):=
 (Pq a fBad1 l3).bind fun r1=>
 (Dj [[59]] r1.1 r1.2).bind fun r2=>
 .ok (r2.1,r2.2)
def Jt (text:Ay)(a:Config)(fBad:Bool)(l2:List Token):R (Bool×(List Token)):=
 if(text==[]) then
(Ju a fBad l2)
else
((B8 [text] fBad l2).bind fun r=>
 Ju a r.1 r.2)
def Lj (text:Ay)(l:List Config)(most:Int)(s0_bad:Bool)(l1:List Token):R (Bool×(List Token)):=
 (N7 (fun _ a=>C4 fun fBad l2=>Jt text a fBad l2) 0 l ((s0_bad||(decide ((l.length:Int) > most))),l1)).bind ((C4 fun fBad l2=>.ok (fBad,l2)))
def Pj (a:Segment)(s1_bad:Bool)(l:List Token):R (Bool×(List Token)):=
 (De a.Name s1_bad l).bind fun r=>
 (B8 [[105,110]] r.1 r.2).bind fun r1=>
 (De a.In r1.1 r1.2).bind fun r2=>
 (B8 [[108,101,110,103,116,104]] r2.1 r2.2).bind fun r3=>
 (Dw a.Length 1 4096 r3.1 r3.2).bind fun r4=>
 (Kj [111,112,101,110] a.Open (r3.1||(!((decide (a.Length≥1))&&(decide (a.Length≤4096))))) r4).bind fun r5=>
 .ok (r5.1,r5.2)
def Ix (a:Segment)(fBad1:Bool)(l3:List Token):R (Bool×(List Token)):=
 (Pj a fBad1 l3).bind fun r1=>
 (Dj [[59]] r1.1 r1.2).bind fun r2=>
 .ok (r2.1,r2.2)
def Iz (text:Ay)(a:Segment)(fBad:Bool)(l2:List Token):R (Bool×(List Token)):=
 if(text==[]) then
(Ix a fBad l2)
else
((B8 [text] fBad l2).bind fun r=>
 Ix a r.1 r.2)
def Kv (text:Ay)(l:List Segment)(most:Int)(s0_bad:Bool)(l1:List Token):R (Bool×(List Token)):=
 (N7 (fun _ a=>C4 fun fBad l2=>Iz text a fBad l2) 0 l ((s0_bad||(decide ((l.length:Int) > most))),l1)).bind ((C4 fun fBad l2=>.ok (fBad,l2)))
def Pn (a:Route)(s1_bad:Bool)(l:List Token):R (Bool×(List Token)):=
 (De a.Name s1_bad l).bind fun r=>
 (B8 [[102,114,111,109]] r.1 r.2).bind fun r1=>
 (De a.A r1.1 r1.2).bind fun r2=>
 (B8 [[116,111]] r2.1 r2.2).bind fun r3=>
 (De a.B r3.1 r3.2).bind fun r4=>
 (B8 [[118,105,97]] r4.1 r4.2).bind fun r5=>
 (G4 a.Names 8 r5.1 r5.2).bind fun r6=>
 .ok (r6.1,r6.2)
def Kd (a:Route)(fBad1:Bool)(l3:List Token):R (Bool×(List Token)):=
 (Pn a fBad1 l3).bind fun r1=>
 (Dj [[59]] r1.1 r1.2).bind fun r2=>
 .ok (r2.1,r2.2)
def Kf (text:Ay)(a:Route)(fBad:Bool)(l2:List Token):R (Bool×(List Token)):=
 if(text==[]) then
(Kd a fBad l2)
else
((B8 [text] fBad l2).bind fun r=>
 Kd a r.1 r.2)
def Ma (text:Ay)(l:List Route)(most:Int)(s0_bad:Bool)(l1:List Token):R (Bool×(List Token)):=
 (N7 (fun _ a=>C4 fun fBad l2=>Kf text a fBad l2) 0 l ((s0_bad||(decide ((l.length:Int) > most))),l1)).bind ((C4 fun fBad l2=>.ok (fBad,l2)))
def N5 (m:Mode)(s1_bad:Bool)(l:List Token):R (Bool×(List Token)):=
 (B8 [[109,111,100,101]] s1_bad l).bind fun r=>
 (De m.Name r.1 r.2).bind fun r1=>
 (Dw m.Places 0 64 r1.1 r1.2).bind fun r2=>
 .ok ((r1.1||(!((decide (m.Places≥0))&&(decide (m.Places≤64))))),r2)
def L7 (a:Mode)(fBad1:Bool)(l3:List Token):R (Bool×(List Token)):=
 (N5 a fBad1 l3).bind fun r1=>
 .ok (r1.1,r1.2)
def L8 (j:Nat)(a:Mode)(fBad:Bool)(l2:List Token):R (Bool×(List Token)):=
 if(j:Int) > 0 then
((Dj [[44]] fBad l2).bind fun r=>
 L7 a r.1 r.2)
else
(L7 a fBad l2)
def N8 (l:List Mode)(most:Int)(s0_bad:Bool)(l1:List Token):R (Bool×(List Token)):=
 (N7 (fun j a=>C4 fun fBad l2=>L8 j a fBad l2) 0 l (((s0_bad||((l.length:Int)==0))||(decide ((l.length:Int) > most))),l1)).bind ((C4 fun fBad l2=>.ok (fBad,l2)))
def Pg (a:Airport)(s1_bad:Bool)(l:List Token):R (Bool×(List Token)):=
 (De a.Name s1_bad l).bind fun r=>
 (N8 a.Modes 16 r.1 r.2).bind fun r1=>
 .ok (r1.1,r1.2)
def Iy (a:Airport)(fBad1:Bool)(l3:List Token):R (Bool×(List Token)):=
 (Pg a fBad1 l3).bind fun r1=>
 (Dj [[59]] r1.1 r1.2).bind fun r2=>
 .ok (r2.1,r2.2)
def I2 (text:Ay)(a:Airport)(fBad:Bool)(l2:List Token):R (Bool×(List Token)):=
 if(text==[]) then
(Iy a fBad l2)
else
((B8 [text] fBad l2).bind fun r=>
 Iy a r.1 r.2)
def Kx (text:Ay)(l:List Airport)(most:Int)(s0_bad:Bool)(l1:List Token):R (Bool×(List Token)):=
 (N7 (fun _ a=>C4 fun fBad l2=>I2 text a fBad l2) 0 l ((s0_bad||(decide ((l.length:Int) > most))),l1)).bind ((C4 fun fBad l2=>.ok (fBad,l2)))
def Pi (a:Class)(s1_bad:Bool)(l:List Token):R (Bool×(List Token)):=
 (De a.Name s1_bad l).bind fun r=>
 (B8 [[115,108,111,119]] r.1 r.2).bind fun r1=>
 (Dw a.Slow 1 64 r1.1 r1.2).bind fun r2=>
 (B8 [[102,97,115,116]] (r1.1||(!((decide (a.Slow≥1))&&(decide (a.Slow≤64))))) r2).bind fun r3=>
 (Dw a.Fast a.Slow 64 r3.1 r3.2).bind fun r4=>
 (B8 [[112,108,97,99,101,115]] (r3.1||(!((decide (a.Fast≥a.Slow))&&(decide (a.Fast≤64))))) r4).bind fun r5=>
 (Dw a.Places 1 8 r5.1 r5.2).bind fun r6=>
 .ok ((r5.1||(!((decide (a.Places≥1))&&(decide (a.Places≤8))))),r6)
def Ka (a:Class)(fBad1:Bool)(l3:List Token):R (Bool×(List Token)):=
 (Pi a fBad1 l3).bind fun r1=>
 (Dj [[59]] r1.1 r1.2).bind fun r2=>
 .ok (r2.1,r2.2)
def Kb (text:Ay)(a:Class)(fBad:Bool)(l2:List Token):R (Bool×(List Token)):=
 if(text==[]) then
(Ka a fBad l2)
else
((B8 [text] fBad l2).bind fun r=>
 Ka a r.1 r.2)
def L4 (text:Ay)(l:List Class)(most:Int)(s0_bad:Bool)(l1:List Token):R (Bool×(List Token)):=
 (N7 (fun _ a=>C4 fun fBad l2=>Kb text a fBad l2) 0 l ((s0_bad||(decide ((l.length:Int) > most))),l1)).bind ((C4 fun fBad l2=>.ok (fBad,l2)))
def Gf (text:Ay)(s1_bad:Bool)(l:List Token)(s3:Rule):R (Bool×(List Token)):=
 (B8 [text] s1_bad l).bind fun r=>
 (De s3.C r.1 r.2).bind fun r1=>
 .ok (r1.1,r1.2)
def Fx (b:Rule)(fBad:Bool)(l1:List Token)(o:Rule):R (Bool×(List Token)):=
 if fBad then
(.ok (true,l1))
else
(.ok ((!((b.Kind==o.Kind)&&((b.C==o.C)&&((b.A==o.A)&&((0==o.Class)&&((0==o.Airport)&&((b.N==o.N)&&((b.Hours.From==o.Hours.From)&&(b.Hours.To==o.Hours.To))))))))),l1))
def N4 (b:Rule)(s0_bad:Bool)(l:List Token):R (Bool×(List Token)):=
 if(b.Kind==1) then
((Gf [99,117,114,102,101,119] s0_bad l b).bind fun r=>
 (B8 [[97,116]] r.1 r.2).bind fun r1=>
 (De b.A r1.1 r1.2).bind fun r2=>
 (Kn b.Hours r2.1 r2.2).bind fun r3=>
 Fx b r3.1 r3.2 ({ Kind:=b.Kind,C:=b.C,A:=b.A,Class:=0,Airport:=0,N:=0,Hours:=b.Hours }:Rule))
else
(if(b.Kind==2) then
((Gf [101,120,101,109,112,116] s0_bad l b).bind fun r4=>
 Fx b r4.1 r4.2 ({ Kind:=b.Kind,C:=b.C,A:=[],Class:=0,Airport:=0,N:=0,Hours:=({ From:=0,To:=0 }:Span) }:Rule))
else
(if(b.Kind==3) then
((Gf [119,101,105,103,104,116] s0_bad l b).bind fun r5=>
 (Dw b.N 1 8 r5.1 r5.2).bind fun r6=>
 Fx b (r5.1||(!((decide (b.N≥1))&&(decide (b.N≤8))))) r6 ({ Kind:=b.Kind,C:=b.C,A:=[],Class:=0,Airport:=0,N:=b.N,Hours:=({ From:=0,To:=0 }:Span) }:Rule))
else
(if(b.Kind==4) then
((Gf [108,111,110,103,101,115,116] s0_bad l b).bind fun r7=>
 (Dw b.N 0 60 r7.1 r7.2).bind fun r8=>
 if(r7.1||(!((decide (b.N≥0))&&(decide (b.N≤60))))) then
(Fx b true r8 ({ Kind:=b.Kind,C:=b.C,A:=[],Class:=0,Airport:=0,N:=b.N,Hours:=({ From:=0,To:=0 }:Span) }:Rule))
else
(Fx b ((Int.tmod b.N 10) != 0) r8 ({ Kind:=b.Kind,C:=b.C,A:=[],Class:=0,Airport:=0,N:=b.N,Hours:=({ From:=0,To:=0 }:Span) }:Rule)))
else
(Fx b true l ({ Kind:=b.Kind,C:=b.C,A:=[],Class:=0,Airport:=0,N:=0,Hours:=({ From:=0,To:=0 }:Span) }:Rule)))))
def Jo (a:Rule)(fBad1:Bool)(l3:List Token):R (Bool×(List Token)):=
 (N4 a fBad1 l3).bind fun r1=>
 (Dj [[59]] r1.1 r1.2).bind fun r2=>
 .ok (r2.1,r2.2)
def Jr (text:Ay)(a:Rule)(fBad:Bool)(l2:List Token):R (Bool×(List Token)):=
 if(text==[]) then
(Jo a fBad l2)
else
((B8 [text] fBad l2).bind fun r=>
 Jo a r.1 r.2)
def K4 (text:Ay)(l:List Rule)(most:Int)(s0_bad:Bool)(l1:List Token):R (Bool×(List Token)):=
 (N7 (fun _ a=>C4 fun fBad l2=>Jr text a fBad l2) 0 l ((s0_bad||(decide ((l.length:Int) > most))),l1)).bind ((C4 fun fBad l2=>.ok (fBad,l2)))
def strings_Join (l:List Ay)(sep:Ay):R Ay:=if(Lib.join l sep).length≤140737488355328 then .ok (Lib.join l sep) else .bad
def Uv (j:Nat)(a:Token)(words:List Ay):R ((List Ay) ⊕ (Ay×Int)):=
 (S6 a).bind fun r=>
 if r then
(if(a.Kind==2) then
((strconv_Itoa a.N).bind fun r1=>
 (C0 words (j:Int)).bind fun a1=>
 .ok (.inl (words.set (j:Int).toNat r1)))
else
((C0 words (j:Int)).bind fun a2=>
 .ok (.inl (words.set (j:Int).toNat a.Text))))
else
(.ok (.inr (([],70))))
def Ab9 (l:List Token):R (Ay×Int):=
 if(0:Int)≤(l.length:Int)∧((l.length:Int):Int)≤(l.length:Int)∧(Int.toNat (l.length:Int)) * 16≤Db then
 (each (fun j a=>fun words=>Uv j a words) 0 l (List.replicate (Int.toNat (l.length:Int)) [])).bind (Dz (fun words=>(strings_Join words [32]).bind fun src=>
 .ok (src,0)) (fun r=>.ok r)) else .bad
def Rr (a:Airspace):R (Ay×Int):=
 (Lf [118,111,108,117,109,101] a.Volumes 64 false).bind fun r=>
 (Le [115,101,99,116,111,114] a.Sectors 64 r.1 r.2).bind fun r1=>
 (Lj [99,111,110,102,105,103] a.Configs 32 r1.1 r1.2).bind fun r2=>
 (Kv [115,101,103,109,101,110,116] a.Segments 128 r2.1 r2.2).bind fun r3=>
 (Ma [114,111,117,116,101] a.Routes 64 r3.1 r3.2).bind fun r4=>
 (Kx [97,105,114,112,111,114,116] a.Airports 16 r4.1 r4.2).bind fun r5=>
 (L4 [99,108,97,115,115] a.Classes 8 r5.1 r5.2).bind fun r6=>
 (K4 [] a.Rules 64 r6.1 r6.2).bind fun r7=>
 if r7.1 then
(.ok ([],80))
else
((Ab9 r7.2).bind fun r8=>
 .ok (r8.1,r8.2))
def Nd (b:List Span)(j:Nat)(a1:Span):R (Unit ⊕ Bool):=
 (C0 b (j:Int)).bind fun a2=>
 if((a1.From==a2.From)&&(a1.To==a2.To)) then
(.ok (.inl ()))
else
(.ok (.inr (false)))
def Nm (a:List Span)(b:List Span):R Bool:=
 if((a.length:Int) != (b.length:Int)) then
(.ok false)
else
((each (fun j a1=>fun _=>Nd b j a1) 0 a ()).bind (Dz (fun _=>.ok true) (fun r=>.ok r)))
def M6 (b:List Ay)(j:Nat)(a1:Ay):R (Unit ⊕ Bool):=
 (C0 b (j:Int)).bind fun a2=>
 if(a1==a2) then
(.ok (.inl ()))
else
(.ok (.inr (false)))
def Lp (a:List Ay)(b:List Ay):R Bool:=
 if((a.length:Int) != (b.length:Int)) then
(.ok false)
else
((each (fun j a1=>fun _=>M6 b j a1) 0 a ()).bind (Dz (fun _=>.ok true) (fun r=>.ok r)))
def N2 (b:List Int)(j:Nat)(a1:Int):R (Unit ⊕ Bool):=
 (C0 b (j:Int)).bind fun a2=>
 if(a1 != a2) then
(.ok (.inr (false)))
else
(.ok (.inl ()))
def Ht (a:List Int)(b:List Int):R Bool:=
 if((a.length:Int) != (b.length:Int)) then
(.ok false)
else
((each (fun j a1=>fun _=>N2 b j a1) 0 a ()).bind (Dz (fun _=>.ok true) (fun r=>.ok r)))
def Q2 (x1:Bool):R (Unit ⊕ Bool):=
 if x1 then
(.ok (.inr (false)))
else
(.ok (.inl ()))
def Q0 (b:Airspace)(j:Nat)(a1:Volume):R (Unit ⊕ Bool):=
 (C0 b.Volumes (j:Int)).bind fun a2=>
 if(!(a1.Name==a2.Name)) then
(Q2 true)
else
((Nm a1.Closed a2.Closed).bind fun r=>
 Q2 (!r))
def Ot (b:Airspace)(j1:Nat)(a3:Sector):R (Unit ⊕ Bool):=
 (C0 b.Sectors (j1:Int)).bind fun a4=>
 (if(!(a3.Name==a4.Name)) then R.ok true else(Lp a3.Names a4.Names).bind fun r1=>
 R.ok (!r1)).bind (fun(b1:Bool)=>(if b1 then R.ok true else(Ht a3.Volumes a4.Volumes).bind fun r2=>
 R.ok (!r2)).bind (fun(b2:Bool)=>if((b2||(a3.Radar != a4.Radar))||(a3.Procedural != a4.Procedural)) then
(.ok (.inr (false)))
else
(.ok (.inl ()))))
def Nu (b:Airspace)(j2:Nat)(a5:Config):R (Unit ⊕ Bool):=
 (C0 b.Configs (j2:Int)).bind fun a6=>
 (if(!(a5.Name==a6.Name)) then R.ok true else(Lp a5.Names a6.Names).bind fun r3=>
 R.ok (!r3)).bind (fun(b3:Bool)=>(if b3 then R.ok true else(Ht a5.Sectors a6.Sectors).bind fun r4=>
 R.ok (!r4)).bind (fun(b4:Bool)=>if b4 then
(.ok (.inr (false)))
else
(.ok (.inl ()))))
def Ls (b:Airspace)(j3:Nat)(a7:Segment):R (Unit ⊕ Bool):=
 (C0 b.Segments (j3:Int)).bind fun a8=>
 (if((((!(a7.Name==a8.Name))||(!(a7.In==a8.In)))||(a7.Volume != a8.Volume))||(a7.Length != a8.Length)) then R.ok true else(Nm a7.Open a8.Open).bind fun r5=>
 R.ok (!r5)).bind (fun(b5:Bool)=>if b5 then
(.ok (.inr (false)))
else
(.ok (.inl ())))
def J9 (b:Airspace)(j4:Nat)(a9:Route):R (Unit ⊕ Bool):=
 (C0 b.Routes (j4:Int)).bind fun a10=>
 (if(((((!(a9.Name==a10.Name))||(!(a9.A==a10.A)))||(!(a9.B==a10.B)))||(a9.From != a10.From))||(a9.To != a10.To)) then R.ok true else(Lp a9.Names a10.Names).bind fun r6=>
 R.ok (!r6)).bind (fun(b6:Bool)=>(if b6 then R.ok true else(Ht a9.Segments a10.Segments).bind fun r7=>
 R.ok (!r7)).bind (fun(b7:Bool)=>if b7 then
(.ok (.inr (false)))
else
(.ok (.inl ()))))
def Qz (a12:Airport)(j6:Nat)(a13:Mode):R (Unit ⊕ Bool):=
 (C0 a12.Modes (j6:Int)).bind fun a14=>
 if((a13.Name==a14.Name)&&(a13.Places==a14.Places)) then
(.ok (.inl ()))
else
(.ok (.inr (false)))
def Iq (b:Airspace)(j5:Nat)(a11:Airport):R (Unit ⊕ Bool):=
 (C0 b.Airports (j5:Int)).bind fun a12=>
 if((!(a11.Name==a12.Name))||((a11.Modes.length:Int) != (a12.Modes.length:Int))) then
(.ok (.inr (false)))
else
((each (fun j6 a13=>fun _=>Qz a12 j6 a13) 0 a11.Modes ()).bind (Dz (fun _=>.ok (.inl ())) (fun r=>.ok (.inr (r)))))
def Hs (b:Airspace)(j7:Nat)(a15:Class):R (Unit ⊕ Bool):=
 (C0 b.Classes (j7:Int)).bind fun a16=>
 if((a15.Name==a16.Name)&&((a15.Slow==a16.Slow)&&((a15.Fast==a16.Fast)&&(a15.Places==a16.Places)))) then
(.ok (.inl ()))
else
(.ok (.inr (false)))
def G1 (b:Airspace)(j8:Nat)(a17:Rule):R (Unit ⊕ Bool):=
 (C0 b.Rules (j8:Int)).bind fun a18=>
 if((a17.Kind==a18.Kind)&&((a17.C==a18.C)&&((a17.A==a18.A)&&((a17.Class==a18.Class)&&((a17.Airport==a18.Airport)&&((a17.N==a18.N)&&((a17.Hours.From==a18.Hours.From)&&(a17.Hours.To==a18.Hours.To)))))))) then
(.ok (.inl ()))
else
(.ok (.inr (false)))
def Qp (a:Airspace)(b:Airspace):R Bool:=
 if(((((((((a.Volumes.length:Int) != (b.Volumes.length:Int))||((a.Sectors.length:Int) != (b.Sectors.length:Int)))||((a.Configs.length:Int) != (b.Configs.length:Int)))||((a.Segments.length:Int) != (b.Segments.length:Int)))||((a.Routes.length:Int) != (b.Routes.length:Int)))||((a.Airports.length:Int) != (b.Airports.length:Int)))||((a.Classes.length:Int) != (b.Classes.length:Int)))||((a.Rules.length:Int) != (b.Rules.length:Int))) then
(.ok false)
else
((each (fun j a1=>fun _=>Q0 b j a1) 0 a.Volumes ()).bind (Dz (fun _=>(each (fun j1 a3=>fun _=>Ot b j1 a3) 0 a.Sectors ()).bind (Dz (fun _=>(each (fun j2 a5=>fun _=>Nu b j2 a5) 0 a.Configs ()).bind (Dz (fun _=>(each (fun j3 a7=>fun _=>Ls b j3 a7) 0 a.Segments ()).bind (Dz (fun _=>(each (fun j4 a9=>fun _=>J9 b j4 a9) 0 a.Routes ()).bind (Dz (fun _=>(each (fun j5 a11=>fun _=>Iq b j5 a11) 0 a.Airports ()).bind (Dz (fun _=>(each (fun j7 a15=>fun _=>Hs b j7 a15) 0 a.Classes ()).bind (Dz (fun _=>(each (fun j8 a17=>fun _=>G1 b j8 a17) 0 a.Rules ()).bind (Dz (fun _=>.ok true) (fun r=>.ok r))) (fun r=>.ok r))) (fun r=>.ok r))) (fun r=>.ok r))) (fun r=>.ok r))) (fun r=>.ok r))) (fun r=>.ok r))) (fun r=>.ok r)))
def Ob (s2:List Span)(j:Nat)(a:Span):R (Unit ⊕ Bool):=
 (C0 s2 (j:Int)).bind fun a1=>
 if((a.From==a1.From)&&(a.To==a1.To)) then
(.ok (.inl ()))
else
(.ok (.inr (false)))
def Pm (s1:List Span)(s2:List Span):R Bool:=
 if((s1.length:Int) != (s2.length:Int)) then
(.ok false)
else
((each (fun j a=>fun _=>Ob s2 j a) 0 s1 ()).bind (Dz (fun _=>.ok true) (fun r=>.ok r)))
def Ul (a:Volume)(y:Volume):R Bool:=
 (if(a.Name==y.Name) then(Pm a.Closed y.Closed).bind fun r=>
 R.ok r else R.ok false).bind (fun(b:Bool)=>.ok b)
def Ej (s2:List Volume)(j:Nat)(a:Volume):R (Unit ⊕ Bool):=
 (C0 s2 (j:Int)).bind fun a1=>
 (Ul a a1).bind fun r=>
 if r then
(.ok (.inl ()))
else
(.ok (.inr (false)))
def Fw (s1:List Volume)(s2:List Volume):R Bool:=
 if((s1.length:Int) != (s2.length:Int)) then
(.ok false)
else
((each (fun j a=>fun _=>Ej s2 j a) 0 s1 ()).bind (Dz (fun _=>.ok true) (fun r=>.ok r)))
def Mv (s2:List Ay)(j:Nat)(a:Ay):R (Unit ⊕ Bool):=
 (C0 s2 (j:Int)).bind fun a1=>
 if(a==a1) then
(.ok (.inl ()))
else
(.ok (.inr (false)))
def Mf (s1:List Ay)(s2:List Ay):R Bool:=
 if((s1.length:Int) != (s2.length:Int)) then
(.ok false)
else
((each (fun j a=>fun _=>Mv s2 j a) 0 s1 ()).bind (Dz (fun _=>.ok true) (fun r=>.ok r)))
def Oo (s2:List Int)(j:Nat)(a:Int):R (Unit ⊕ Bool):=
 (C0 s2 (j:Int)).bind fun a1=>
 if(a != a1) then
(.ok (.inr (false)))
else
(.ok (.inl ()))
def Ij (s1:List Int)(s2:List Int):R Bool:=
 if((s1.length:Int) != (s2.length:Int)) then
(.ok false)
else
((each (fun j a=>fun _=>Oo s2 j a) 0 s1 ()).bind (Dz (fun _=>.ok true) (fun r=>.ok r)))
def Ud (a:Sector)(y:Sector):R Bool:=
 (if(a.Name==y.Name) then(Mf a.Names y.Names).bind fun r=>
 R.ok r else R.ok false).bind (fun(b:Bool)=>(if b then(Ij a.Volumes y.Volumes).bind fun r1=>
 R.ok r1 else R.ok false).bind (fun(b1:Bool)=>.ok ((b1&&(a.Radar==y.Radar))&&(a.Procedural==y.Procedural))))
def Ei (s2:List Sector)(j:Nat)(a:Sector):R (Unit ⊕ Bool):=
 (C0 s2 (j:Int)).bind fun a1=>
 (Ud a a1).bind fun r=>
 if r then
(.ok (.inl ()))
else
(.ok (.inr (false)))
def Fo (s1:List Sector)(s2:List Sector):R Bool:=
 if((s1.length:Int) != (s2.length:Int)) then
(.ok false)
else
((each (fun j a=>fun _=>Ei s2 j a) 0 s1 ()).bind (Dz (fun _=>.ok true) (fun r=>.ok r)))
def Ue (a:Config)(y:Config):R Bool:=
 (if(a.Name==y.Name) then(Mf a.Names y.Names).bind fun r=>
 R.ok r else R.ok false).bind (fun(b:Bool)=>(if b then(Ij a.Sectors y.Sectors).bind fun r1=>
 R.ok r1 else R.ok false).bind (fun(b1:Bool)=>.ok b1))
def Eh (s2:List Config)(j:Nat)(a:Config):R (Unit ⊕ Bool):=
 (C0 s2 (j:Int)).bind fun a1=>
 (Ue a a1).bind fun r=>
 if r then
(.ok (.inl ()))
else
(.ok (.inr (false)))
def Em (s1:List Config)(s2:List Config):R Bool:=
 if((s1.length:Int) != (s2.length:Int)) then
(.ok false)
else
((each (fun j a=>fun _=>Eh s2 j a) 0 s1 ()).bind (Dz (fun _=>.ok true) (fun r=>.ok r)))
def Uk (a:Segment)(y:Segment):R Bool:=
 (if((((a.Name==y.Name)&&(a.In==y.In))&&(a.Volume==y.Volume))&&(a.Length==y.Length)) then(Pm a.Open y.Open).bind fun r=>
 R.ok r else R.ok false).bind (fun(b:Bool)=>.ok b)
def Ed (s2:List Segment)(j:Nat)(a:Segment):R (Unit ⊕ Bool):=
 (C0 s2 (j:Int)).bind fun a1=>
 (Uk a a1).bind fun r=>
 if r then
(.ok (.inl ()))
else
(.ok (.inr (false)))
def Du (s1:List Segment)(s2:List Segment):R Bool:=
 if((s1.length:Int) != (s2.length:Int)) then
(.ok false)
else
((each (fun j a=>fun _=>Ed s2 j a) 0 s1 ()).bind (Dz (fun _=>.ok true) (fun r=>.ok r)))
def Uj (a:Route)(y:Route):R Bool:=
 (if(((((a.Name==y.Name)&&(a.A==y.A))&&(a.B==y.B))&&(a.From==y.From))&&(a.To==y.To)) then(Mf a.Names y.Names).bind fun r=>
 R.ok r else R.ok false).bind (fun(b:Bool)=>(if b then(Ij a.Segments y.Segments).bind fun r1=>
 R.ok r1 else R.ok false).bind (fun(b1:Bool)=>.ok b1))
def El (s2:List Route)(j:Nat)(a:Route):R (Unit ⊕ Bool):=
 (C0 s2 (j:Int)).bind fun a1=>
 (Uj a a1).bind fun r=>
 if r then
(.ok (.inl ()))
else
(.ok (.inr (false)))
def Dn (s1:List Route)(s2:List Route):R Bool:=
 if((s1.length:Int) != (s2.length:Int)) then
(.ok false)
else
((each (fun j a=>fun _=>El s2 j a) 0 s1 ()).bind (Dz (fun _=>.ok true) (fun r=>.ok r)))
def Oc (s2:List Mode)(j:Nat)(a:Mode):R (Unit ⊕ Bool):=
 (C0 s2 (j:Int)).bind fun a1=>
 if((a.Name==a1.Name)&&(a.Places==a1.Places)) then
(.ok (.inl ()))
else
(.ok (.inr (false)))
def Se (s1:List Mode)(s2:List Mode):R Bool:=
 if((s1.length:Int) != (s2.length:Int)) then
(.ok false)
else
((each (fun j a=>fun _=>Oc s2 j a) 0 s1 ()).bind (Dz (fun _=>.ok true) (fun r=>.ok r)))
def Us (a:Airport)(y:Airport):R Bool:=
 (if(a.Name==y.Name) then(Se a.Modes y.Modes).bind fun r=>
 R.ok r else R.ok false).bind (fun(b:Bool)=>.ok b)
def Ec (s2:List Airport)(j:Nat)(a:Airport):R (Unit ⊕ Bool):=
 (C0 s2 (j:Int)).bind fun a1=>
 (Us a a1).bind fun r=>
 if r then
(.ok (.inl ()))
else
(.ok (.inr (false)))
def Cv (s1:List Airport)(s2:List Airport):R Bool:=
 if((s1.length:Int) != (s2.length:Int)) then
(.ok false)
else
((each (fun j a=>fun _=>Ec s2 j a) 0 s1 ()).bind (Dz (fun _=>.ok true) (fun r=>.ok r)))
def No (s2:List Class)(j:Nat)(a:Class):R (Unit ⊕ Bool):=
 (C0 s2 (j:Int)).bind fun a1=>
 if((a.Name==a1.Name)&&((a.Slow==a1.Slow)&&((a.Fast==a1.Fast)&&(a.Places==a1.Places)))) then
(.ok (.inl ()))
else
(.ok (.inr (false)))
def G9 (s1:List Class)(s2:List Class):R Bool:=
 if((s1.length:Int) != (s2.length:Int)) then
(.ok false)
else
((each (fun j a=>fun _=>No s2 j a) 0 s1 ()).bind (Dz (fun _=>.ok true) (fun r=>.ok r)))
def N6 (s2:List Rule)(j:Nat)(a:Rule):R (Unit ⊕ Bool):=
 (C0 s2 (j:Int)).bind fun a1=>
 if((a.Kind==a1.Kind)&&((a.C==a1.C)&&((a.A==a1.A)&&((a.Class==a1.Class)&&((a.Airport==a1.Airport)&&((a.N==a1.N)&&((a.Hours.From==a1.Hours.From)&&(a.Hours.To==a1.Hours.To)))))))) then
(.ok (.inl ()))
else
(.ok (.inr (false)))
def Gz (s1:List Rule)(s2:List Rule):R Bool:=
 if((s1.length:Int) != (s2.length:Int)) then
(.ok false)
else
((each (fun j a=>fun _=>N6 s2 j a) 0 s1 ()).bind (Dz (fun _=>.ok true) (fun r=>.ok r)))
def Pd (a:Airspace)(b:Airspace):R Bool:=
 (Fw a.Volumes b.Volumes).bind fun r=>
 (if r then(Fo a.Sectors b.Sectors).bind fun r1=>
 R.ok r1 else R.ok false).bind (fun(b1:Bool)=>(if b1 then(Em a.Configs b.Configs).bind fun r2=>
 R.ok r2 else R.ok false).bind (fun(b2:Bool)=>(if b2 then(Du a.Segments b.Segments).bind fun r3=>
 R.ok r3 else R.ok false).bind (fun(b3:Bool)=>(if b3 then(Dn a.Routes b.Routes).bind fun r4=>
 R.ok r4 else R.ok false).bind (fun(b4:Bool)=>(if b4 then(Cv a.Airports b.Airports).bind fun r5=>
 R.ok r5 else R.ok false).bind (fun(b5:Bool)=>(if b5 then(G9 a.Classes b.Classes).bind fun r6=>
 R.ok r6 else R.ok false).bind (fun(b6:Bool)=>(if b6 then(Gz a.Rules b.Rules).bind fun r7=>
 R.ok r7 else R.ok false).bind (fun(b7:Bool)=>.ok b7)))))))
def Tv:R Bool:=
 (J5 []).bind fun r=>
 (J5 [118,111,108,117,109,101,32,97,32,99,108,111,115,101,100,32,54,48,32,116,111,32,54,48,59]).bind fun r1=>
 (J5 [101,120,101,109,112,116,32,104,101,97,118,121]).bind fun r2=>
 (J5 [108,111,110,103,101,115,116,32,104,101,97,118,121,32,51,53,59]).bind fun r3=>
 (Rr ({ Volumes:=[],Sectors:=[],Configs:=[],Segments:=[],Routes:=[],Airports:=[({ Name:=[120],Modes:=[] }:Airport)],Classes:=[],Rules:=[] }:Airspace)).bind fun r4=>
 (Rr ({ Volumes:=[({ Name:=[97],Closed:=[] }:Volume)],Sectors:=[],Configs:=[],Segments:=[],Routes:=[],Airports:=[],Classes:=[],Rules:=[] }:Airspace)).bind fun r5=>
 (J5 [99,117,114,102,101,119,32,104,101,97,118,121,32,97,116,32,120,32,48,32,116,111,32,51,48,48,59,32,115,101,99,116,111,114,32,115,32,61,32,97,44,32,98,32,114,97,100,97,114,32,57,32,112,114,111,99,101,100,117,114,97,108,32,52,59]).bind fun r6=>
 (Rr ({ Volumes:=[],Sectors:=[({ Name:=[115],Names:=[[97],[98]],Volumes:=[0,1],Radar:=9,Procedural:=4 }:Sector)],Configs:=[],Segments:=[],Routes:=[],Airports:=[],Classes:=[],Rules:=[({ Kind:=1,C:=[104,101,97,118,121],A:=[120],Class:=0,Airport:=0,N:=0,Hours:=({ From:=0,To:=300 }:Span) }:Rule)] }:Airspace)).bind fun r7=>
 if(((((((((((((r.2.2 != 0)||(r1.2.2 != 80))||(r2.2.2 != 80))||(r3.2.2 != 80))||(r4.2 != 80))||(r5.2 != 0))||(r6.2.2 != 0))||(r7.2 != 0))||(r.2.1 != 0))||(r1.2.1 != 22))||(r2.2.1 != 12))||(r3.2.1 != 14))||(r6.2.1 != 0)) then
(.ok false)
else
((Qp r.1 ({ Volumes:=[],Sectors:=[],Configs:=[],Segments:=[],Routes:=[],Airports:=[],Classes:=[],Rules:=[] }:Airspace)).bind fun r8=>
 (if(r8&&(r5.1==[118,111,108,117,109,101,32,97,32,59])) then(Qp r6.1 ({ Volumes:=[],Sectors:=[({ Name:=[115],Names:=[[97],[98]],Volumes:=[],Radar:=9,Procedural:=4 }:Sector)],Configs:=[],Segments:=[],Routes:=[],Airports:=[],Classes:=[],Rules:=[({ Kind:=1,C:=[104,101,97,118,121],A:=[120],Class:=0,Airport:=0,N:=0,Hours:=({ From:=0,To:=300 }:Span) }:Rule)] }:Airspace)).bind fun r9=>
 R.ok r9 else R.ok false).bind (fun(b:Bool)=>(if(b&&(r7.1==[115,101,99,116,111,114,32,115,32,61,32,97,32,44,32,98,32,114,97,100,97,114,32,57,32,112,114,111,99,101,100,117,114,97,108,32,52,32,59,32,99,117,114,102,101,119,32,104,101,97,118,121,32,97,116,32,120,32,48,32,116,111,32,51,48,48,32,59])) then(Pd r6.1 ({ Volumes:=[],Sectors:=[({ Name:=[115],Names:=[[97],[98]],Volumes:=[],Radar:=9,Procedural:=4 }:Sector)],Configs:=[],Segments:=[],Routes:=[],Airports:=[],Classes:=[],Rules:=[({ Kind:=1,C:=[104,101,97,118,121],A:=[120],Class:=0,Airport:=0,N:=0,Hours:=({ From:=0,To:=300 }:Span) }:Rule)] }:Airspace)).bind fun r10=>
 R.ok r10 else R.ok false).bind (fun(b1:Bool)=>(if b1 then(Pd r6.1 ({ Volumes:=[],Sectors:=[({ Name:=[115],Names:=[[97],[98]],Volumes:=[0,1],Radar:=9,Procedural:=4 }:Sector)],Configs:=[],Segments:=[],Routes:=[],Airports:=[],Classes:=[],Rules:=[({ Kind:=1,C:=[104,101,97,118,121],A:=[120],Class:=0,Airport:=0,N:=0,Hours:=({ From:=0,To:=300 }:Span) }:Rule)] }:Airspace)).bind fun r11=>
 R.ok (!r11) else R.ok false).bind (fun(b2:Bool)=>.ok b2))))
def Sm (c:Int):R Bool:=
 .ok ((((c==32)||(c==9))||(c==10))||(c==13))
def M7 (c:Int):R Bool:=
 .ok (((decide (c≥97))&&(decide (c≤122)))||((decide (c≥65))&&(decide (c≤90))))
def Nb (c:Int):R Bool:=
 .ok ((decide (c≥48))&&(decide (c≤57)))
def Rz (c:Int):R Bool:=
 (M7 c).bind fun r=>
 (if r then R.ok true else(Nb c).bind fun r1=>
 R.ok r1).bind (fun(b:Bool)=>.ok (b||(c==95)))
def Ov (a1:UInt8):R (Unit ⊕ Bool):=
 (Rz (a1.toNat:Int)).bind fun r1=>
 if r1 then
(.ok (.inl ()))
else
(.ok (.inr (false)))
def Tj (s:Ay):R Bool:=
 (if((decide ((s.length:Int)<1))||(decide ((s.length:Int) > 32))) then R.ok true else(C0 s 0).bind fun a=>
 (M7 (a.toNat:Int)).bind fun r=>
 R.ok (!r)).bind (fun(b:Bool)=>if b then
(.ok false)
else
(if s.length≤Db then
((each (fun _ a1=>fun _=>Ov a1) 0 s ()).bind (Dz (fun _=>.ok true) (fun r=>.ok r))) else .bad))
def Np (a:UInt8)(n:Int):R (Int ⊕ (Int×Bool)):=
 if(IntKind.wrap .i64 ((IntKind.wrap .i64 (10 * n))+(IntKind.wrap .i64 (IntKind.wrap .u8 ((a.toNat:Int) - 48))))) > 1099511627776 then
(.ok (.inr ((0,false))))
else
(.ok (.inl (IntKind.wrap .i64 ((IntKind.wrap .i64 (10 * n))+(IntKind.wrap .i64 (IntKind.wrap .u8 ((a.toNat:Int) - 48)))))))
def Rt (s:Ay):R (Int×Bool):=
 if s.length≤Db then
((each (fun _ a=>fun n=>Np a n) 0 s 0).bind (Dz (fun n=>if((s.length:Int)==1) then
(.ok (n,true))
else
((C0 s 0).bind fun a1=>
 .ok (n,((a1.toNat:Int) != 48)))) (fun r=>.ok r))) else .bad
def So (c:Int)(a:UInt8):R (Unit ⊕ Bool):=
 if((a.toNat:Int)==c) then
(.ok (.inr (true)))
else
(.ok (.inl ()))
def Ru (c:Int):R Bool:=
 if [123,125,40,41,59,44,61,35,47,60,33,45,46].length≤Db then
((each (fun _ a=>fun _=>So c a) 0 [123,125,40,41,59,44,61,35,47,60,33,45,46] ()).bind (Dz (fun _=>.ok false) (fun r=>.ok r))) else .bad
def P5 (a:Ay)(x2:Int):R (Int ⊕ Int):=
 (if(decide (x2<(a.length:Int))) then(C0 a x2).bind fun a3=>
 R.ok ((a3.toNat:Int) != 10) else R.ok false).bind (fun(b1:Bool)=>if b1 then
(.ok (.inl (IntKind.wrap .i64 (x2+1))))
else
(.ok (.inr (x2))))
def P0 (x1:List Token)(x3:Int):R ((Int×(List Token)) ⊕ ((List Token) ⊕ ((List Token)×Int×Int))):=
 .ok (.inl (x3,x1))
def Qa (a:Ay)(x4:Int):R (Int ⊕ Int):=
 (if(decide (x4<(a.length:Int))) then(C0 a x4).bind fun a4=>
 (Rz (a4.toNat:Int)).bind fun r2=>
 R.ok r2 else R.ok false).bind (fun(b2:Bool)=>if b2 then
(.ok (.inl (IntKind.wrap .i64 (x4+1))))
else
(.ok (.inr (x4))))
def P6 (a:Ay)(x:Int)(x1:List Token)(x5:Int):R ((Int×(List Token)) ⊕ ((List Token) ⊕ ((List Token)×Int×Int))):=
 if(0:Int)≤x∧x≤x5∧x5≤(a.length:Int) then
 (Tj (Ih a x x5)).bind fun r3=>
 if r3 then
(if(0:Int)≤x∧x≤x5∧x5≤(a.length:Int) then
 if(x1.length+[({ Kind:=1,Text:=(Ih a x x5),N:=0,At:=x }:Token)].length) * 40≤Db then
 .ok (.inl (x5,(x1++[({ Kind:=1,Text:=(Ih a x x5),N:=0,At:=x }:Token)]))) else .bad else .bad)
else
(.ok (.inr (.inr (([],x,70))))) else .bad
def Qb (a:Ay)(x6:Int):R (Int ⊕ Int):=
 (if(decide (x6<(a.length:Int))) then(C0 a x6).bind fun a5=>
 (Nb (a5.toNat:Int)).bind fun r5=>
 R.ok r5 else R.ok false).bind (fun(b3:Bool)=>if b3 then
(.ok (.inl (IntKind.wrap .i64 (x6+1))))
else
(.ok (.inr (x6))))
def P8 (a:Ay)(x:Int)(x1:List Token)(x7:Int):R ((Int×(List Token)) ⊕ ((List Token) ⊕ ((List Token)×Int×Int))):=
 if(0:Int)≤x∧x≤x7∧x7≤(a.length:Int) then
 (Rt (Ih a x x7)).bind fun r6=>
 if r6.2 then
(if(x1.length+[({ Kind:=2,Text:=[],N:=r6.1,At:=x }:Token)].length) * 40≤Db then
 .ok (.inl (x7,(x1++[({ Kind:=2,Text:=[],N:=r6.1,At:=x }:Token)]))) else .bad)
else
(.ok (.inr (.inr (([],x,70))))) else .bad
def Ln (a:Ay)(x:Int)(x1:List Token):R ((Int×(List Token)) ⊕ ((List Token) ⊕ ((List Token)×Int×Int))):=
 if x<(a.length:Int) then
((C0 a x).bind fun a1=>
 (Sm (a1.toNat:Int)).bind fun r=>
 if r then
(.ok (.inl ((IntKind.wrap .i64 (x+1)),x1)))
else
((if(((a1.toNat:Int)==47)&&(decide ((IntKind.wrap .i64 (x+1))<(a.length:Int)))) then(C0 a (IntKind.wrap .i64 (x+1))).bind fun a2=>
 R.ok ((a2.toNat:Int)==47) else R.ok false).bind (fun(b:Bool)=>if b then
((loop (fun x2=>P5 a x2) x).bind (fun x3=>P0 x1 x3))
else
((M7 (a1.toNat:Int)).bind fun r1=>
 if r1 then
((loop (fun x4=>Qa a x4) x).bind (fun x5=>P6 a x x1 x5))
else
((Nb (a1.toNat:Int)).bind fun r4=>
 if r4 then
((loop (fun x6=>Qb a x6) x).bind (fun x7=>P8 a x x1 x7))
else
((Ru (a1.toNat:Int)).bind fun r7=>
 if r7 then
(if(0:Int)≤x∧x≤(IntKind.wrap .i64 (x+1))∧(IntKind.wrap .i64 (x+1))≤(a.length:Int) then
 if(x1.length+[({ Kind:=3,Text:=(Ih a x (IntKind.wrap .i64 (x+1))),N:=0,At:=x }:Token)].length) * 40≤Db then
 .ok (.inl ((IntKind.wrap .i64 (x+1)),(x1++[({ Kind:=3,Text:=(Ih a x (IntKind.wrap .i64 (x+1))),N:=0,At:=x }:Token)]))) else .bad else .bad)
else
(.ok (.inr (.inr (([],x,70)))))))))))
else
(.ok (.inr (.inl (x1))))
def Ts (x8:List Token):R ((List Token)×Int×Int):=
 .ok (x8,0,0)
def Ve (a:Ay):R ((List Token)×Int×Int):=
 if(a.length:Int) > 65536 then
(.ok ([],0,2))
else
((loop (C4 fun x x1=>Ln a x x1) (0,[])).bind (Dz (fun x8=>Ts x8) (fun r=>.ok r)))
def F1 (p:T69)(kind:Int)(text:Ay):R Bool:=
 (if((p.E==0)&&(decide (p.N<(p.L.length:Int)))) then(C0 p.L p.N).bind fun a=>
 R.ok (a.Kind==kind) else R.ok false).bind (fun(b:Bool)=>(if b then(C0 p.L p.N).bind fun a1=>
 R.ok (a1.Text==text) else R.ok false).bind (fun(b1:Bool)=>.ok b1))
def K9 (p:T69)(j:Nat)(a:Ay):R (Unit ⊕ Int):=
 (F1 p 1 a).bind fun r=>
 if r then
(.ok (.inr ((j:Int))))
else
(.ok (.inl ()))
def Rn (p:T69):R Int:=
 (each (fun j a=>fun _=>K9 p j a) 0 [[118,111,108,117,109,101],[115,101,99,116,111,114],[99,111,110,102,105,103],[115,101,103,109,101,110,116],[114,111,117,116,101],[97,105,114,112,111,114,116],[99,108,97,115,115]] ()).bind (Dz (fun _=>(F1 p 1 [99,117,114,102,101,119]).bind fun r1=>
 (if r1 then R.ok true else(F1 p 1 [101,120,101,109,112,116]).bind fun r2=>
 R.ok r2).bind (fun(b:Bool)=>(if b then R.ok true else(F1 p 1 [119,101,105,103,104,116]).bind fun r3=>
 R.ok r3).bind (fun(b1:Bool)=>(if b1 then R.ok true else(F1 p 1 [108,111,110,103,101,115,116]).bind fun r4=>
 R.ok r4).bind (fun(b2:Bool)=>if b2 then
(.ok 7)
else
(.ok (-1)))))) (fun r=>.ok r))
def F4 (p:T69)(e:Int):R T69:=
 if(p.E != 0) then
(.ok p)
else
(if p.N<(p.L.length:Int) then
((C0 p.L p.N).bind fun a=>
 .ok ({ L:=p.L,N:=p.N,End:=p.End,E:=e,At:=a.At }:T69))
else
(.ok ({ L:=p.L,N:=p.N,End:=p.End,E:=e,At:=p.End }:T69)))
def H9 (a:Airspace)(kind:Int):R Bool:=
 (C0 [(a.Volumes.length:Int),(a.Sectors.length:Int),(a.Configs.length:Int),(a.Segments.length:Int),(a.Routes.length:Int),(a.Airports.length:Int),(a.Classes.length:Int),(a.Rules.length:Int)] kind).bind fun a1=>
 (C0 [64,64,32,128,64,16,8,64] kind).bind fun a2=>
 .ok (decide (a1≥a2))
def Gj (p:T69):R (Ay×T69):=
 (if((p.E != 0)||(decide (p.N≥(p.L.length:Int)))) then R.ok true else(C0 p.L p.N).bind fun a=>
 R.ok (a.Kind != 1)).bind (fun(b:Bool)=>if b then
((F4 p 80).bind fun r=>
 .ok ([],r))
else
((C0 p.L p.N).bind fun a1=>
 .ok (a1.Text,({ L:=p.L,N:=(IntKind.wrap .i64 (p.N+1)),End:=p.End,E:=p.E,At:=p.At }:T69))))
def Ex (p:T69)(least:Int)(most:Int)(step:Int):R (Int×T69):=
 (if((p.E != 0)||(decide (p.N≥(p.L.length:Int)))) then R.ok true else(C0 p.L p.N).bind fun a=>
 R.ok (a.Kind != 2)).bind (fun(b:Bool)=>(if b then R.ok true else(C0 p.L p.N).bind fun a1=>
 R.ok (decide (a1.N<least))).bind (fun(b1:Bool)=>(if b1 then R.ok true else(C0 p.L p.N).bind fun a2=>
 R.ok (decide (a2.N > most))).bind (fun(b2:Bool)=>(if b2 then R.ok true else(C0 p.L p.N).bind fun a3=>
 if step≠0 then R.ok ((Int.tmod a3.N step) != 0) else .bad).bind (fun(b3:Bool)=>if b3 then
((F4 p 80).bind fun r=>
 .ok (0,r))
else
((C0 p.L p.N).bind fun a4=>
 .ok (a4.N,({ L:=p.L,N:=(IntKind.wrap .i64 (p.N+1)),End:=p.End,E:=p.E,At:=p.At }:T69)))))))
def J4 (p:T69)(kind:Int)(text:Ay):R T69:=
 (F1 p kind text).bind fun r=>
 if r then
(.ok ({ L:=p.L,N:=(IntKind.wrap .i64 (p.N+1)),End:=p.End,E:=p.E,At:=p.At }:T69))
else
((F4 p 80).bind fun r1=>
 .ok r1)
def Fk (p:T69)(text:Ay):R T69:=
 (J4 p 1 text).bind fun r=>
 .ok r
def Mx (p:T69):R (Span×T69):=
 (Ex p 0 1439 1).bind fun r=>
 (Fk r.2 [116,111]).bind fun r1=>
 (Ex r1 (IntKind.wrap .i64 (r.1+1)) 1440 1).bind fun r2=>
 .ok (({ From:=r.1,To:=r2.1 }:Span),r2.2)
def Ir (p:T69)(full:Bool):R (Bool×T69):=
 (F1 p 3 [44]).bind fun r=>
 if r then
(if full then
((F4 p 2).bind fun r1=>
 .ok (false,r1))
else
(.ok (true,({ L:=p.L,N:=(IntKind.wrap .i64 (p.N+1)),End:=p.End,E:=p.E,At:=p.At }:T69))))
else
(.ok (false,p))
def Pv (more:Bool)(vL:List Token)(vN:Int)(vEnd:Int)(vE:Int)(vAt:Int)(l:List Span):R ((Bool×(List Token)×Int×Int×Int×Int×(List Span)) ⊕ (T69×(List Span))):=
 if more then
((Mx ({ L:=vL,N:=vN,End:=vEnd,E:=vE,At:=vAt }:T69)).bind fun r1=>
 if(l.length+[r1.1].length) * 16≤Db then
 (Ir r1.2 (((l++[r1.1]).length:Int)==16)).bind fun r2=>
 .ok (.inl (r2.1,r2.2.L,r2.2.N,r2.2.End,r2.2.E,r2.2.At,(l++[r1.1]))) else .bad)
else
(.ok (.inr ((({ L:=vL,N:=vN,End:=vEnd,E:=vE,At:=vAt }:T69),l))))
def R8 (o:T69)(l1:List Span):R ((List Span)×T69):=
 .ok (l1,o)
def Of (p:T69)(text:Ay):R ((List Span)×T69):=
 (F1 p 1 text).bind fun r=>
 if r then
((loop (un7 fun more vL vN vEnd vE vAt l=>Pv more vL vN vEnd vE vAt l) (true,p.L,(IntKind.wrap .i64 (p.N+1)),p.End,p.E,p.At,[])).bind (C4 fun o l1=>R8 o l1))
else
(.ok ([],p))
def O0 (p:T69)(text:Ay):R T69:=
 (J4 p 3 text).bind fun r=>
 .ok r
def Nr (most:Int)(more:Bool)(o:T69)(l:List Ay):R ((Bool×T69×(List Ay)) ⊕ (T69×(List Ay))):=
 if more then
((Gj o).bind fun r=>
 if(l.length+[r.1].length) * 16≤Db then
 (Ir r.2 (((l++[r.1]).length:Int)==most)).bind fun r1=>
 .ok (.inl (r1.1,r1.2,(l++[r.1]))) else .bad)
else
(.ok (.inr ((o,l))))
def Ra (o1:T69)(l1:List Ay):R ((List Ay)×T69):=
 .ok (l1,o1)
def Fa (p:T69)(most:Int):R ((List Ay)×T69):=
 (loop (X4 fun more o l=>Nr most more o l) (true,p,[])).bind (C4 fun o1 l1=>Ra o1 l1)
def Ek (x:Bool)(o:T69)(l8:List Mode):R ((Bool×T69×(List Mode)) ⊕ (T69×(List Mode))):=
 if x then
((Fk o [109,111,100,101]).bind fun r25=>
 (Gj r25).bind fun r26=>
 (Ex r26.2 0 64 1).bind fun r27=>
 if(l8.length+[({ Name:=r26.1,Places:=r27.1 }:Mode)].length) * 24≤Db then
 (Ir r27.2 (((l8++[({ Name:=r26.1,Places:=r27.1 }:Mode)]).length:Int)==16)).bind fun r28=>
 .ok (.inl (r28.1,r28.2,(l8++[({ Name:=r26.1,Places:=r27.1 }:Mode)]))) else .bad)
else
(.ok (.inr ((o,l8))))
def Cm (l10:List Volume)(l11:List Sector)(l12:List Config)(l13:List Segment)(l14:List Route)(l15:List Airport)(l16:List Class)(l17:List Rule)(o4:T69):R (T69×(List Volume)×(List Sector)×(List Config)×(List Segment)×(List Route)×(List Airport)×(List Class)×(List Rule)):=
 (O0 o4 [59]).bind fun r40=>
 .ok (r40,l10,l11,l12,l13,l14,l15,l16,l17)
def Dq (l:List Volume)(l1:List Sector)(l2:List Config)(l3:List Segment)(l4:List Route)(l5:List Airport)(l6:List Class)(l7:List Rule)(r4:(Ay×T69))(o1:T69)(l9:List Mode):R (T69×(List Volume)×(List Sector)×(List Config)×(List Segment)×(List Route)×(List Airport)×(List Class)×(List Rule)):=
 if(l5.length+[({ Name:=r4.1,Modes:=l9 }:Airport)].length) * 40≤Db then
 Cm l l1 l2 l3 l4 (l5++[({ Name:=r4.1,Modes:=l9 }:Airport)]) l6 l7 o1 else .bad
def C9 (l:List Volume)(l1:List Sector)(l2:List Config)(l3:List Segment)(l4:List Route)(l5:List Airport)(l6:List Class)(l7:List Rule)(o2:T69)(o3:Rule):R (T69×(List Volume)×(List Sector)×(List Config)×(List Segment)×(List Route)×(List Airport)×(List Class)×(List Rule)):=
 if(l7.length+[o3].length) * 80≤Db then
 Cm l l1 l2 l3 l4 l5 l6 (l7++[o3]) o2 else .bad
def Ca (b:T69)(l:List Volume)(l1:List Sector)(l2:List Config)(l3:List Segment)(l4:List Route)(l5:List Airport)(l6:List Class)(l7:List Rule):R (T69×(List Volume)×(List Sector)×(List Config)×(List Segment)×(List Route)×(List Airport)×(List Class)×(List Rule)):=
 (Rn b).bind fun r=>
 if r<0 then
((F4 b 80).bind fun r1=>
 .ok (r1,l,l1,l2,l3,l4,l5,l6,l7))
else
((H9 ({ Volumes:=l,Sectors:=l1,Configs:=l2,Segments:=l3,Routes:=l4,Airports:=l5,Classes:=l6,Rules:=l7 }:Airspace) r).bind fun r2=>
 if r2 then
((F4 b 2).bind fun r3=>
 .ok (r3,l,l1,l2,l3,l4,l5,l6,l7))
else
((C0 b.L b.N).bind fun a=>
 (Gj ({ L:=b.L,N:=(IntKind.wrap .i64 (b.N+1)),End:=b.End,E:=b.E,At:=b.At }:T69)).bind fun r4=>
 if(r==0) then
((Of r4.2 [99,108,111,115,101,100]).bind fun r5=>
 if(l.length+[({ Name:=r4.1,Closed:=r5.1 }:Volume)].length) * 40≤Db then
 Cm (l++[({ Name:=r4.1,Closed:=r5.1 }:Volume)]) l1 l2 l3 l4 l5 l6 l7 r5.2 else .bad)
else
(if(r==1) then
((O0 r4.2 [61]).bind fun r6=>
 (Fa r6 64).bind fun r7=>
 (Fk r7.2 [114,97,100,97,114]).bind fun r8=>
 (Ex r8 0 64 1).bind fun r9=>
 (Fk r9.2 [112,114,111,99,101,100,117,114,97,108]).bind fun r10=>
 (Ex r10 0 r9.1 1).bind fun r11=>
 if(l1.length+[({ Name:=r4.1,Names:=r7.1,Volumes:=[],Radar:=r9.1,Procedural:=r11.1 }:Sector)].length) * 80≤Db then
 Cm l (l1++[({ Name:=r4.1,Names:=r7.1,Volumes:=[],Radar:=r9.1,Procedural:=r11.1 }:Sector)]) l2 l3 l4 l5 l6 l7 r11.2 else .bad)
else
(if(r==2) then
((O0 r4.2 [61]).bind fun r12=>
 (Fa r12 64).bind fun r13=>
 if(l2.length+[({ Name:=r4.1,Names:=r13.1,Sectors:=[] }:Config)].length) * 64≤Db then
 Cm l l1 (l2++[({ Name:=r4.1,Names:=r13.1,Sectors:=[] }:Config)]) l3 l4 l5 l6 l7 r13.2 else .bad)
else
(if(r==3) then
((Fk r4.2 [105,110]).bind fun r14=>
 (Gj r14).bind fun r15=>
 (Fk r15.2 [108,101,110,103,116,104]).bind fun r16=>
 (Ex r16 1 4096 1).bind fun r17=>
 (Of r17.2 [111,112,101,110]).bind fun r18=>
 if(l3.length+[({ Name:=r4.1,In:=r15.1,Volume:=0,Length:=r17.1,Open:=r18.1 }:Segment)].length) * 72≤Db then
 Cm l l1 l2 (l3++[({ Name:=r4.1,In:=r15.1,Volume:=0,Length:=r17.1,Open:=r18.1 }:Segment)]) l4 l5 l6 l7 r18.2 else .bad)
else
(if(r==4) then
((Fk r4.2 [102,114,111,109]).bind fun r19=>
 (Gj r19).bind fun r20=>
 (Fk r20.2 [116,111]).bind fun r21=>
 (Gj r21).bind fun r22=>
 (Fk r22.2 [118,105,97]).bind fun r23=>
 (Fa r23 8).bind fun r24=>
 if(l4.length+[({ Name:=r4.1,A:=r20.1,B:=r22.1,From:=0,To:=0,Names:=r24.1,Segments:=[] }:Route)].length) * 112≤Db then
 Cm l l1 l2 l3 (l4++[({ Name:=r4.1,A:=r20.1,B:=r22.1,From:=0,To:=0,Names:=r24.1,Segments:=[] }:Route)]) l5 l6 l7 r24.2 else .bad)
else
(if(r==5) then
((loop (X4 fun x o l8=>Ek x o l8) (true,r4.2,[])).bind (C4 fun o1 l9=>Dq l l1 l2 l3 l4 l5 l6 l7 r4 o1 l9))
else
(if(r==6) then
((Fk r4.2 [115,108,111,119]).bind fun r29=>
 (Ex r29 1 64 1).bind fun r30=>
 (Fk r30.2 [102,97,115,116]).bind fun r31=>
 (Ex r31 r30.1 64 1).bind fun r32=>
 (Fk r32.2 [112,108,97,99,101,115]).bind fun r33=>
 (Ex r33 1 8 1).bind fun r34=>
 if(l6.length+[({ Name:=r4.1,Slow:=r30.1,Fast:=r32.1,Places:=r34.1 }:Class)].length) * 40≤Db then
 Cm l l1 l2 l3 l4 l5 (l6++[({ Name:=r4.1,Slow:=r30.1,Fast:=r32.1,Places:=r34.1 }:Class)]) l7 r34.2 else .bad)
else
(if(a.Text==[99,117,114,102,101,119]) then
((Fk r4.2 [97,116]).bind fun r35=>
 (Gj r35).bind fun r36=>
 (Mx r36.2).bind fun r37=>
 C9 l l1 l2 l3 l4 l5 l6 l7 r37.2 ({ Kind:=1,C:=r4.1,A:=r36.1,Class:=0,Airport:=0,N:=0,Hours:=r37.1 }:Rule))
else
(if(a.Text==[101,120,101,109,112,116]) then
(C9 l l1 l2 l3 l4 l5 l6 l7 r4.2 ({ Kind:=2,C:=r4.1,A:=[],Class:=0,Airport:=0,N:=0,Hours:=({ From:=0,To:=0 }:Span) }:Rule))
else
(if(a.Text==[119,101,105,103,104,116]) then
((Ex r4.2 1 8 1).bind fun r38=>
 C9 l l1 l2 l3 l4 l5 l6 l7 r38.2 ({ Kind:=3,C:=r4.1,A:=[],Class:=0,Airport:=0,N:=r38.1,Hours:=({ From:=0,To:=0 }:Span) }:Rule))
else
((Ex r4.2 0 60 10).bind fun r39=>
 C9 l l1 l2 l3 l4 l5 l6 l7 r39.2 ({ Kind:=4,C:=r4.1,A:=[],Class:=0,Airport:=0,N:=r39.1,Hours:=({ From:=0,To:=0 }:Span) }:Rule)))))))))))))
def Eu (vL:List Token)(vN:Int)(vEnd:Int)(vE:Int)(vAt:Int)(l:List Volume)(l1:List Sector)(l2:List Config)(l3:List Segment)(l4:List Route)(l5:List Airport)(l6:List Class)(l7:List Rule):R (((List Token)×Int×Int×Int×Int×(List Volume)×(List Sector)×(List Config)×(List Segment)×(List Route)×(List Airport)×(List Class)×(List Rule)) ⊕ (T69×(List Volume)×(List Sector)×(List Config)×(List Segment)×(List Route)×(List Airport)×(List Class)×(List Rule))):=
 if((vE==0)&&(decide (vN<(vL.length:Int)))) then
((Ca ({ L:=vL,N:=vN,End:=vEnd,E:=vE,At:=vAt }:T69) l l1 l2 l3 l4 l5 l6 l7).bind fun r1=>
 .ok (.inl (r1.1.L,r1.1.N,r1.1.End,r1.1.E,r1.1.At,r1.2.1,r1.2.2.1,r1.2.2.2.1,r1.2.2.2.2.1,r1.2.2.2.2.2.1,r1.2.2.2.2.2.2.1,r1.2.2.2.2.2.2.2.1,r1.2.2.2.2.2.2.2.2)))
else
(.ok (.inr ((({ L:=vL,N:=vN,End:=vEnd,E:=vE,At:=vAt }:T69),l,l1,l2,l3,l4,l5,l6,l7))))
def Oh (o:T69)(l8:List Volume)(l9:List Sector)(l10:List Config)(l11:List Segment)(l12:List Route)(l13:List Airport)(l14:List Class)(l15:List Rule):R (Airspace×Int×Int):=
 if(o.E != 0) then
(.ok (({ Volumes:=[],Sectors:=[],Configs:=[],Segments:=[],Routes:=[],Airports:=[],Classes:=[],Rules:=[] }:Airspace),o.At,o.E))
else
(.ok (({ Volumes:=l8,Sectors:=l9,Configs:=l10,Segments:=l11,Routes:=l12,Airports:=l13,Classes:=l14,Rules:=l15 }:Airspace),0,0))
def Q5 (src:Ay):R (Airspace×Int×Int):=
 (Ve src).bind fun r=>
 if(r.2.2 != 0) then
(.ok (({ Volumes:=[],Sectors:=[],Configs:=[],Segments:=[],Routes:=[],Airports:=[],Classes:=[],Rules:=[] }:Airspace),r.2.1,r.2.2))
else
((loop (Aat fun vL vN vEnd vE vAt l l1 l2 l3 l4 l5 l6 l7=>Eu vL vN vEnd vE vAt l l1 l2 l3 l4 l5 l6 l7) (r.1,0,(src.length:Int),0,0,[],[],[],[],[],[],[],[])).bind (Xb fun o l8 l9 l10 l11 l12 l13 l14 l15=>Oh o l8 l9 l10 l11 l12 l13 l14 l15))
def Nq (src:Ay):R Bool:=
 (Tv).bind fun r=>
 if r then
(if(src.length:Int) > 4000 then
(.ok true)
else
((J5 src).bind fun r1=>
 (Q5 src).bind fun r2=>
 (Qp r1.1 r2.1).bind fun r3=>
 .ok ((r3&&(r1.2.1==r2.2.1))&&(r1.2.2==r2.2.2))))
else
(.ok false)
end
end Go.Am
namespace Go.Am
open Go
set_option linter.unusedVariables false
def Md:Prop := ∀ (a0:Ay) (_:Afo.good a0),Afo.bulk a0≤1048576→Nq a0=.ok true
end Go.Am
namespace Go.Am
open Go
set_option linter.unusedVariables false
set_option linter.unusedSimpArgs false
def Pb (c:UInt8):Bool:=c==32||c==9||c==10||c==13
def Qn (c:UInt8):Bool:=(decide (97≤c)&&decide (c≤122))||(decide (65≤c)&&decide (c≤90))
def En (c:UInt8):Bool:=decide (48≤c)&&decide (c≤57)
def F9 (c:UInt8):Bool:=Qn c||En c||c==95
def Rq (c:UInt8):Bool:=[(123:UInt8),125,40,41,59,44,61,35,47,60,33,45,46].contains c
def Ie (c:UInt8):Int:=if Qn c then 2 else if En c then 3 else if c==95 then 5 else if Pb c then 1 else if Rq c then 4 else 0
theorem Px {p:UInt8→Prop}(h : ∀ n:Fin 256,p (UInt8.ofNat n.val))(c:UInt8):p c:=by
 have h1:=h ⟨c.toNat,c.toNat_lt⟩
 have e:UInt8.ofNat c.toNat=c:=by simp
 simpa [e] using h1
theorem Aao (c:UInt8):Lu (c.toNat:Int)=.ok (Ie c):=Px (p:=fun c=>Lu (c.toNat:Int)=.ok (Ie c)) (by decide +kernel) c
theorem Ap8 (c:UInt8):Sm (c.toNat:Int)=.ok (Pb c):=Px (p:=fun c=>Sm (c.toNat:Int)=.ok (Pb c)) (by decide +kernel) c
theorem Akj (c:UInt8):M7 (c.toNat:Int)=.ok (Qn c):=Px (p:=fun c=>M7 (c.toNat:Int)=.ok (Qn c)) (by decide +kernel) c
theorem Akd (c:UInt8):Nb (c.toNat:Int)=.ok (En c):=Px (p:=fun c=>Nb (c.toNat:Int)=.ok (En c)) (by decide +kernel) c
theorem Ah6 (c:UInt8):Rz (c.toNat:Int)=.ok (F9 c):=Px (p:=fun c=>Rz (c.toNat:Int)=.ok (F9 c)) (by decide +kernel) c
theorem Anm (c:UInt8):Ru (c.toNat:Int)=.ok (Rq c):=Px (p:=fun c=>Ru (c.toNat:Int)=.ok (Rq c)) (by decide +kernel) c
theorem Alg (c:UInt8):(Ie c==1)=Pb c:=Px (p:=fun c=>(Ie c==1)=Pb c) (by decide +kernel) c
theorem Aiy (c:UInt8):(Ie c==2)=Qn c:=Px (p:=fun c=>(Ie c==2)=Qn c) (by decide +kernel) c
theorem Amn (c:UInt8):(Ie c==3)=En c:=Px (p:=fun c=>(Ie c==3)=En c) (by decide +kernel) c
theorem Amg (c:UInt8):(Ie c==4)=Rq c:=Px (p:=fun c=>(Ie c==4)=Rq c) (by decide +kernel) c
theorem Ao0 (c:UInt8):(Ie c==2||Ie c==3||Ie c==5)=F9 c:=Px (p:=fun c=>(Ie c==2||Ie c==3||Ie c==5)=F9 c) (by decide +kernel) c
theorem Aql (c:UInt8):Ie c=0∨Ie c=1∨Ie c=2∨Ie c=3∨Ie c=4∨Ie c=5:=Px (p:=fun c=>Ie c=0∨Ie c=1∨Ie c=2∨Ie c=3∨Ie c=4∨Ie c=5) (by decide +kernel) c
theorem Y8 {c:UInt8}(h:Qn c=true):F9 c=true:=by simp [F9,h]
theorem Aee {src:Ay}{q:UInt8→Bool}{body:Int→R (Int ⊕ Int)}(hb : ∀ n:Nat,n≤src.length→body (n:Int)=match src[n]? with | some c=>if q c then .ok (.inl ((n+1:Nat):Int)) else .ok (.inr (n:Int)) | none=>.ok (.inr (n:Int))) :
  ∀ (k p:Nat),p≤src.length→src.length - p=k→loop body (p:Int)=.ok (((p+((src.drop p).takeWhile q).length:Nat)):Int)
 | k,p,hp,hk=>by
  rw [Jz,hb p hp]
  by_cases hl:p<src.length
  ·have e:src.drop p=src[p]::src.drop (p+1):=List.drop_eq_getElem_cons hl
   rw [List.getElem?_eq_getElem hl,e,List.takeWhile_cons]
   simp only
   cases hq:q src[p]
   ·simp
   ·simp only [if_true,R.ok_bind]
    cases k with
    | zero=>omega
    | succ k=>
     rw [Aee hb k (p+1) hl (by omega)]
     simp only [List.length_cons]
     congr 2
     omega
  ·have e:src[p]? = none:=List.getElem?_eq_none (by omega)
   have e2:src.drop p=[]:=List.drop_eq_nil_of_le (by omega)
   rw [e,e2]; simp
theorem Ait {α:Type}(q:α→Bool) : ∀ l:List α,l.take (l.takeWhile q).length=l.takeWhile q
 | []=>rfl
 | a::l=>by
  rw [List.takeWhile_cons]
  cases q a
  ·rfl
  ·simp [Ait q l]
theorem Qt {α:Type}(q:α→Bool) : ∀ l:List α,(l.takeWhile q).length≤l.length
 | []=>Nat.le_refl _
 | a::l=>by
  rw [List.takeWhile_cons]
  cases q a
  ·simp
  ·simpa using Qt q l
theorem Aga {src:Ay}{p:Nat}(q:UInt8→Bool):Ih src (p:Int) ((p+((src.drop p).takeWhile q).length:Nat):Int)=(src.drop p).takeWhile q:=by
 unfold Ih
 simp only [Int.toNat_natCast]
 rw [show p+((src.drop p).takeWhile q).length - p=((src.drop p).takeWhile q).length by omega,Ait]
theorem Ys {src:Ay}{n:Nat}{c:UInt8}(h:src[n]? = some c):C0 src (n:Int)=.ok c:=Adu h
theorem Aeu (v:Int) : ∀ (l:List Int) (k:Nat),∃ j:Nat,each (fun j a=>fun _=>Gy v j a) k l ()=.ok (if l.contains v then .inr (j:Int) else .inl ())
 | [],k=>⟨0,rfl⟩
 | a::l,k=>by
  rw [Vg]
  by_cases h:v=a
  ·subst h; exact⟨k,by simp [Gy]⟩
  ·have h1:(v==a)=false:=by simpa using h
   obtain⟨j,hj⟩:=Aeu v l (k+1)
   refine⟨j,?_⟩
   rw [show Gy v k a=.ok (.inl ()) by unfold Gy; rw [h1]; rfl,R.ok_bind,List.contains_cons,h1]
   exact hj
theorem Ag5 (l:List Int)(v:Int):Mg l v=.ok (l.contains v):=by
 unfold Mg Qo
 obtain⟨j,hj⟩:=Aeu v l 0
 rw [hj]
 cases h:l.contains v
 ·simp only [Bool.false_eq_true,if_false,R.ok_bind]; rfl
 ·simp only [if_true,R.ok_bind]
  simp
theorem Apn (src:Ay)(p:Nat)(l:List Token)(some:List Int)(hp:p≤src.length)(hs:src.length≤65536) :
  Jm ({ fSrc:=src,fAt:=p,fL:=l }:T119) some=.ok ((src.drop p).takeWhile fun c=>some.contains (Ie c)):=by
 unfold Jm
 rw [Aee (src:=src) (q:=fun c=>some.contains (Ie c)) (k:=src.length - p) (p:=p) (fun n hn=>?_) hp rfl]
 ·simp only [R.ok_bind]
  unfold M9
  have hle:=Qt (fun c=>some.contains (Ie c)) (src.drop p)
  rw [List.length_drop] at hle
  dsimp only
  rw [if_pos ⟨by omega,by omega,by omega⟩]
  simp only [Aga]
 ·unfold Ni
  by_cases hl:n<src.length
  ·have hi:(n:Int)<src.length:=by omega
   rw [List.getElem?_eq_getElem hl]
   simp only [hi,decide_true,if_true]
   rw [Ys (List.getElem?_eq_getElem hl)]
   simp only [R.ok_bind,Aao,Ag5]
   cases some.contains (Ie src[n])
   ·rfl
   ·simp only [if_true]
    rw [P4 (by omega) (by omega)]
    rfl
  ·have hi:¬ ((n:Int)<src.length):=by omega
   rw [List.getElem?_eq_none (by omega)]
   simp only [hi,decide_false,Bool.false_eq_true,if_false,R.ok_bind]
def Vd (s:Ay):Bool:=match s with | []=>false | c::w=>Qn c&&w.all F9&&decide (w.length+1≤32)
theorem Aav {α:Type}{b:Nat→α→Unit→R (Unit ⊕ Bool)}{p:α→Bool}(hb : ∀ j a,b j a ()=if p a then .ok (.inl ()) else .ok (.inr false)) : ∀ (l:List α) (k:Nat),each b k l ()=.ok (if l.all p then .inl () else .inr false)
 | [],k=>rfl
 | a::l,k=>by
  rw [Vg,hb]
  cases h:p a
  ·simp [h]
  ·simp [h,Aav hb l (k+1)]
theorem Al4 (c:UInt8):(((Ie c != 2)&&(Ie c != 3))&&(Ie c != 5)) = !F9 c:=by
 rw [← Ao0]; simp [bne,Bool.not_or]
theorem Aoa (s:Ay):Un s=.ok (Vd s):=by
 unfold Un Vd
 cases s with
 | nil=>rfl
 | cons c w=>
  simp only [show((c::w:Ay)==[])=false from rfl,Bool.false_or]
  by_cases h:w.length+1≤32
  ·have h1:¬ (((c::w).length:Int) > 32):=by simp only [List.length_cons]; omega
   have h2:(c::w).length≤Db:=by simp only [List.length_cons,Db]; omega
   simp only [h1,decide_false,Bool.false_eq_true,if_false,Ai6,R.ok_bind,Aao,h2,if_true,h,decide_true,Bool.and_true]
   cases hc:Qn c
   ·rw [show(Ie c != 2)=true by rw [bne,Aiy,hc]; rfl]; simp
   ·rw [show(Ie c != 2)=false by rw [bne,Aiy,hc]; rfl]
    simp only [Bool.false_eq_true,if_false,Bool.true_and]
    rw [Aav (p:=F9) (fun j a=>by unfold Q6; simp only [Aao,R.ok_bind,Al4]; cases F9 a <;> rfl)]
    simp only [R.ok_bind,List.all_cons,Y8 hc,Bool.true_and]
    cases w.all F9 <;> rfl
  ·have h1:((c::w).length:Int) > 32:=by simp only [List.length_cons]; omega
   simp only [h1,decide_true,if_true,R.ok_bind,h,decide_false,Bool.and_false]
theorem Ami (s:Ay):Tj s=.ok (Vd s):=by
 unfold Tj Vd
 cases s with
 | nil=>rfl
 | cons c w=>
  have h0:¬ (((c::w).length:Int)<1):=by simp only [List.length_cons]; omega
  by_cases h:w.length+1≤32
  ·have h1:¬ (((c::w).length:Int) > 32):=by simp only [List.length_cons]; omega
   have h2:(c::w).length≤Db:=by simp only [List.length_cons,Db]; omega
   simp only [h0,h1,decide_false,Bool.false_eq_true,Bool.or_false,if_false,Ai6,R.ok_bind,Akj,h2,if_true,h,decide_true,Bool.and_true]
   cases hc:Qn c
   ·simp
   ·simp only [Bool.not_true,Bool.false_eq_true,if_false,Bool.true_and]
    rw [Aav (p:=F9) (fun j a=>by unfold Ov; simp only [Ah6,R.ok_bind])]
    simp only [R.ok_bind,List.all_cons,Y8 hc,Bool.true_and]
    cases w.all F9 <;> rfl
  ·have h1:((c::w).length:Int) > 32:=by simp only [List.length_cons]; omega
   simp only [h0,h1,decide_true,decide_false,Bool.false_or,if_true,R.ok_bind,h,Bool.and_false]
end Go.Am
namespace Go.Am
open Go
set_option linter.unusedVariables false
set_option linter.unusedSimpArgs false
def Sb (a:Nat)(s:Ay):Nat:=s.foldl (fun a c=>a * 10+(c.toNat - 48)) a
theorem Xf (a:Nat):Sb a []=a:=rfl
theorem Lv (a:Nat)(c:UInt8)(s:Ay):Sb a (c::s)=Sb (a * 10+(c.toNat - 48)) s:=by unfold Sb; rw [List.foldl_cons]
theorem Acr : ∀ (s t:Ay) (a:Nat),Sb a (s++t)=Sb (Sb a s) t
 | [],t,a=>rfl
 | c::s,t,a=>by rw [List.cons_append,Lv,Lv,Acr s t]
theorem Abn : ∀ (s:Ay) (a:Nat),a≤Sb a s
 | [],a=>Nat.le_refl _
 | c::s,a=>by
  have:=Abn s (a * 10+(c.toNat - 48))
  rw [Lv]; omega
def val (s:Ay):Nat:=Sb 0 s
def Sq (s:Ay):Bool:=decide (s.length=1)||decide (s.head? ≠ some 48)
def Wk (s:Ay):Bool:=Sq s&&decide (val s≤1099511627776)
theorem S9 {c:UInt8}:En c=true↔48≤c.toNat∧c.toNat≤57:=by
 unfold En
 simp only [Bool.and_eq_true,decide_eq_true_eq,UInt8.le_iff_toNat_le]
 rfl
theorem Ajs (n:Nat)(h:n<10):En (UInt8.ofNat (48+n))=true∧(UInt8.ofNat (48+n)).toNat=48+n:=by
 have e:(UInt8.ofNat (48+n)).toNat=48+n:=by rw [UInt8.toNat_ofNat']; omega
 exact⟨S9.2 (by omega),e⟩
theorem Afy {c:UInt8}(h:En c=true):UInt8.ofNat (48+(c.toNat - 48))=c:=by
 have:=S9.1 h
 rw [show 48+(c.toNat - 48)=c.toNat by omega]; simp
theorem Anw (u:Nat):(Lib.decDigits u).all En=true∧val (Lib.decDigits u)=u∧Lib.decDigits u≠[]∧Sq (Lib.decDigits u)=true∧(1≤u→(Lib.decDigits u).head? ≠ some 48):=by
 induction u using Nat.strongRecOn with
 | _ u ih=>
  by_cases h:u<10
  ·rw [Lib.decDigits_one h]
   obtain⟨h1,h2⟩:=Ajs u h
   refine⟨by rw [List.all_cons,h1]; rfl,by unfold val; rw [Lv,Xf,h2]; omega,by simp,by simp [Sq],fun hu e=>?_⟩
   simp only [List.head?_cons,Option.some.injEq] at e
   rw [e] at h2
   have:(48:UInt8).toNat=48:=rfl
   omega
  ·rw [Lib.decDigits,dif_neg h]
   obtain⟨a1,a2,a3,a4,a5⟩:=ih (u / 10) (by omega)
   obtain⟨h1,h2⟩:=Ajs (u % 10) (by omega)
   have hd:(Lib.decDigits (u / 10)++[UInt8.ofNat (48+u % 10)]).head? = (Lib.decDigits (u / 10)).head? := by
    cases hq:Lib.decDigits (u / 10) with
    | nil=>exact absurd hq a3
    | cons c w=>rfl
   refine⟨by rw [List.all_append,a1,List.all_cons,h1]; rfl,?_,by simp,?_,fun hu=>by rw [hd]; exact a5 (by omega)⟩
   ·unfold val at a2 ⊢
    rw [Acr,a2,Lv,Xf,h2]; omega
   ·have:=a5 (by omega)
    unfold Sq
    rw [hd]
    simp [this]
theorem Apq : ∀ (s:Ay),s≠[]→s.all En=true→Sq s=true→Lib.decDigits (val s)=s:=by
 suffices H : ∀ (n:Nat) (s:Ay),s.length=n→s≠[]→s.all En=true→Sq s=true→Lib.decDigits (val s)=s from fun s=>H _ s rfl
 intro n
 induction n with
 | zero=>intro s h1 h2; exact absurd (List.length_eq_zero_iff.1 h1) h2
 | succ n ih=>
  intro s h1 h2 h3 h4
  obtain⟨w,c,rfl⟩ : ∃ w c,s=w++[c]:=⟨s.dropLast,s.getLast h2,(List.dropLast_concat_getLast h2).symm⟩
  rw [List.all_append,Bool.and_eq_true] at h3
  obtain⟨h3,h5⟩:=h3
  have h5:En c=true:=by simpa using h5
  have hc:=S9.1 h5
  have hv:val (w++[c])=val w * 10+(c.toNat - 48):=by unfold val; rw [Acr,Lv,Xf]
  by_cases hw:w=[]
  ·subst hw
   have h0:val []=0:=rfl
   rw [hv,h0,Lib.decDigits_one (by omega)]
   simp only [Nat.zero_mul,Nat.zero_add,List.nil_append]
   rw [Afy h5]
  ·obtain⟨d,w',rfl⟩ : ∃ d w',w=d::w':=by cases w with | nil=>exact absurd rfl hw | cons d w'=>exact⟨d,w',rfl⟩
   have hp:d≠48:=by
    intro e; subst e
    simp [Sq] at h4
   have hd:En d=true:=by simp at h3; exact h3.1
   have hd':=S9.1 hd
   have h1v:1≤val (d::w'):=by
    have:=Abn w' (0 * 10+(d.toNat - 48))
    have h6:d.toNat≠48:=fun e=>hp (UInt8.toNat_inj.1 (by rw [e]; rfl))
    unfold val
    rw [Lv]
    omega
   have e0:Sb 0 (d::w')=val (d::w'):=rfl
   rw [hv,Lib.decDigits,dif_neg (by omega)]
   have e1:(val (d::w') * 10+(c.toNat - 48)) / 10=val (d::w'):=by omega
   have e2:(val (d::w') * 10+(c.toNat - 48)) % 10=c.toNat - 48:=by omega
   rw [e1,e2,Afy h5,ih (d::w') (by simpa using h1) hw h3 (by simp [Sq,hp])]
theorem Af9 : ∀ (s:Ay) (a:Nat),s.all En=true→Sb a s<18446744073709551616→Lib.parseUint10 a s=.ok (Sb a s)
 | [],a,_,_=>rfl
 | c::s,a,h,hv=>by
  have h:En c=true∧s.all En=true:=by simpa using h
  have hc:=S9.1 h.1
  have hv':Sb (a * 10+(c.toNat - 48)) s<18446744073709551616:=by rw [← Lv]; exact hv
  have:=Abn s (a * 10+(c.toNat - 48))
  rw [Lib.parseUint10,if_pos hc,if_neg (by omega),if_neg (by omega),Af9 s _ h.2 hv',Lv]
theorem Ae9 : ∀ (s:Ay) (a:Nat),a<18446744073709551616→s.all En=true→18446744073709551616≤Sb a s→Lib.parseUint10 a s=.range
 | [],a,ha,_,hv=>by exfalso; rw [Xf] at hv; omega
 | c::s,a,ha,h,hv=>by
  have h:En c=true∧s.all En=true:=by simpa using h
  have hc:=S9.1 h.1
  rw [Lib.parseUint10,if_pos hc]
  split
  ·rfl
  ·split
   ·rfl
   ·exact Ae9 s _ (by omega) h.2 (by rw [← Lv]; exact hv)
theorem Amo {s:Ay}(hs:s≠[])(h:s.all En=true):Lib.atoiAll s=if 9223372036854775808≤val s then .range else .ok (val s:Int):=by
 cases s with
 | nil=>exact absurd rfl hs
 | cons c s=>
  have hc:En c=true:=by simp at h; exact h.1
  have hc:=S9.1 hc
  rw [Lib.atoiAll_plain c s (by omega) (by omega),Lib.parseMag,if_neg (by simp)]
  by_cases hv:val (c::s)<18446744073709551616
  ·rw [Af9 _ _ h hv]; rfl
  ·rw [Ae9 _ _ (by omega) h (Nat.le_of_not_lt hv),if_pos (by omega)]; rfl
theorem Amr {c:UInt8}(h:En c=true)(n:Nat)(hn:n≤1099511627776):IntKind.wrap .i64 (IntKind.wrap .i64 (10 * (n:Int))+IntKind.wrap .i64 (IntKind.wrap .u8 ((c.toNat:Int) - 48)))=((n * 10+(c.toNat - 48):Nat):Int):=by
 have hc:=S9.1 h
 have e:IntKind.wrap .u8 ((c.toNat:Int) - 48)=(c.toNat:Int) - 48:=by
  simp [IntKind.wrap,IntKind.bits,IntKind.signed]; omega
 rw [e,P4 (n:=10 * (n:Int)) (by omega) (by omega),P4 (n:=(c.toNat:Int) - 48) (by omega) (by omega),P4 (by omega) (by omega)]
 omega
theorem Abx : ∀ (s:Ay) (k n:Nat),s.all En=true→n≤1099511627776→each (fun _ a=>fun n=>Np a n) k s (n:Int)=.ok (if Sb n s≤1099511627776 then .inl (Sb n s:Int) else .inr (0,false))
 | [],k,n,_,hn=>by rw [Aml,Xf,if_pos hn]
 | c::s,k,n,h,hn=>by
  have h:En c=true∧s.all En=true:=by simpa using h
  rw [Vg]
  unfold Np
  rw [Amr h.1 n hn]
  by_cases hv:n * 10+(c.toNat - 48)≤1099511627776
  ·rw [if_neg (by omega)]
   rw [R.ok_bind,Lv]
   exact Abx s (k+1) _ h.2 hv
  ·have:=Abn s (n * 10+(c.toNat - 48))
   rw [if_pos (by omega),R.ok_bind,Lv,if_neg (by omega)]
theorem Akc {s:Ay}(hs:s≠[])(h:s.all En=true)(hl:s.length≤65536):Rt s=.ok (if val s≤1099511627776 then((val s:Int),Sq s) else(0,false)):=by
 unfold Rt
 rw [if_pos (by unfold Db; omega),show(0:Int)=((0:Nat):Int) from rfl,Abx s 0 0 h (by omega)]
 show R.bind (.ok (if val s≤_ then Sum.inl (val s:Int) else _)) _=_
 by_cases hv:val s≤1099511627776
 ·simp only [hv,if_true,R.ok_bind]
  cases s with
  | nil=>exact absurd rfl hs
  | cons c w=>
   cases w with
   | nil=>rfl
   | cons d w=>
    have h1:((((c::d::w:Ay).length:Int)==1))=false:=by simp; omega
    simp only [h1,Bool.false_eq_true,if_false]
    rw [show C0 (c::d::w:Ay) ((0:Nat):Int)=.ok c from Adu rfl]
    simp only [Dz,R.ok_bind]
    simp only [Sq,List.head?_cons]
    congr 2
    by_cases hc:c=48
    ·subst hc; simp
    ·have:(c.toNat:Int)≠48:=fun e=>hc (UInt8.toNat_inj.1 (by have:(48:UInt8).toNat=48:=rfl; omega))
     simp [hc,this]
 ·rw [if_neg hv,if_neg hv]; rfl
end Go.Am
namespace Go.Am
open Go
set_option linter.unusedVariables false
set_option linter.unusedSimpArgs false
def tk (c:UInt8)(s:Ay):Option (Option Token×Nat):=
 if Pb c then some (none,0)
 else if Qn c then
  if(s.takeWhile F9).length+1≤32 then some (some ⟨1,c::s.takeWhile F9,0,0⟩,(s.takeWhile F9).length) else none
 else if En c then
  if Wk (c::s.takeWhile En) then some (some ⟨2,[],val (c::s.takeWhile En),0⟩,(s.takeWhile En).length) else none
 else if Rq c then
  if c=47∧s.head? = some 47 then some (none,(s.takeWhile (· != 10)).length)
  else some (some ⟨3,[c],0,0⟩,0)
 else none
def at' (p:Nat)(t:Token):Token:={ t with At:=p }
inductive Lx where
 | ok (l:List Token)
 | wrong (e:Nat)
 deriving DecidableEq
def Lx.add (o:Option Token)(p:Nat):Lx→Lx
 | .ok l=>.ok ((o.map (at' p)).toList++l)
 | .wrong e=>.wrong e
def Acg:Nat→Ay→Nat→Lx
 | _,[],_=>.ok []
 | 0,_::_,_=>.ok []
 | n+1,c::s,p=>match tk c s with
  | none=>.wrong p
  | some (o,k)=>(Acg n (s.drop k) (p+1+k)).add o p
def Ri (s:Ay)(p:Nat):Lx:=Acg s.length s p
theorem Aha : ∀ (n m:Nat) (s:Ay) (p:Nat),s.length≤n→s.length≤m→Acg n s p=Acg m s p
 | 0,0,s,p,_,_=>rfl
 | 0,m+1,s,p,h,_=>by
  have:s=[]:=List.length_eq_zero_iff.1 (by omega)
  subst this; rfl
 | n+1,0,s,p,_,h=>by
  have:s=[]:=List.length_eq_zero_iff.1 (by omega)
  subst this; rfl
 | n+1,m+1,[],p,_,_=>rfl
 | n+1,m+1,c::s,p,h1,h2=>by
  simp only [List.length_cons] at h1 h2
  rw [Acg,Acg]
  cases tk c s with
  | none=>rfl
  | some x=>
   obtain⟨o,k⟩:=x
   simp only
   rw [Aha n m (s.drop k) _ (by rw [List.length_drop]; omega) (by rw [List.length_drop]; omega)]
theorem Z3 (p:Nat):Ri [] p=.ok []:=rfl
theorem Xy (c:UInt8)(s:Ay)(p:Nat):Ri (c::s) p=match tk c s with
  | none=>.wrong p
  | some (o,k)=>(Ri (s.drop k) (p+1+k)).add o p:=by
 unfold Ri
 rw [List.length_cons,Acg]
 cases tk c s with
 | none=>rfl
 | some x=>
  obtain⟨o,k⟩:=x
  simp only
  rw [Aha s.length (s.drop k).length (s.drop k) _ (by rw [List.length_drop]; omega) (Nat.le_refl _)]
@[simp] theorem Lx.add_none (p:Nat)(x:Lx):x.add none p=x:=by cases x <;> rfl
theorem Ap2 {c:UInt8}(s:Ay)(h:Pb c=true):tk c s=some (none,0):=by unfold tk; rw [if_pos h]
theorem Am2 {c:UInt8}{s:Ay}{o:Option Token}{k:Nat}(ht:tk c s=some (o,k)):k≤s.length:=by
 have h1:=Qt F9 s
 have h2:=Qt En s
 have h3:=Qt (· != 10) s
 unfold tk at ht
 repeat' split at ht
 all_goals first | (cases ht; done) | (cases ht; assumption) | (cases ht; exact Nat.zero_le _)
theorem Agu : ∀ (w s:Ay) (p:Nat),w.all Pb=true→Ri (w++s) p=Ri s (p+w.length)
 | [],s,p,_=>rfl
 | c::w,s,p,h=>by
  have h:Pb c=true∧w.all Pb=true:=by simpa using h
  rw [List.cons_append,Xy,Ap2 _ h.1]
  simp only [List.drop_zero,Lx.add_none]
  rw [Agu w s _ h.2,List.length_cons]
  congr 1; omega
def out:Lx→List Token×Int×Int
 | .ok l=>(l,0,0)
 | .wrong e=>([],(e:Int),70)
def Gm (s:Ay):List Token×Int×Int:=if s.length≤65536 then out (Ri s 0) else([],0,2)
theorem Yg {α:Type}(q:α→Bool) : ∀ l:List α,(l.takeWhile q).all q=true
 | []=>rfl
 | a::l=>by
  rw [List.takeWhile_cons]
  cases h:q a
  ·rfl
  ·rw [if_pos rfl,List.all_cons,h,Yg q l]; rfl
theorem Ah8 {α:Type}(q:α→Bool)(l:List α):l.drop (l.takeWhile q).length=l.dropWhile q:=by
 induction l with
 | nil=>rfl
 | cons a l ih=>
  rw [List.takeWhile_cons,List.dropWhile_cons]
  cases q a
  ·rfl
  ·simpa using ih
def Adc (pre:List Token):Lx→List Token ⊕ (List Token×Int×Int)
 | .ok l=>.inl (pre++l)
 | .wrong e=>.inr ([],(e:Int),70)
theorem Aeg {src:Ay}{q:UInt8→Bool}{body:Int→R (Int ⊕ Int)}(hs:src.length≤65536)
  (hb : ∀ n:Nat,body (n:Int)=(if(decide ((n:Int)<(src.length:Int))) then(C0 src (n:Int)).bind fun a=>R.ok (q a) else R.ok false).bind (fun(b:Bool)=>if b then .ok (.inl (IntKind.wrap .i64 ((n:Int)+1))) else .ok (.inr (n:Int)))) (p:Nat) (hp:p≤src.length) :
  loop body (p:Int)=.ok (((p+((src.drop p).takeWhile q).length:Nat)):Int):=by
 refine Aee (q:=q) (fun n hn=>?_) _ p hp rfl
 rw [hb]
 by_cases hl:n<src.length
 ·have hi:(n:Int)<src.length:=by omega
  rw [List.getElem?_eq_getElem hl]
  simp only [hi,decide_true,if_true]
  rw [Ys (List.getElem?_eq_getElem hl)]
  simp only [R.ok_bind]
  cases q src[n]
  ·rfl
  ·simp only [if_true]
   rw [P4 (by omega) (by omega)]
   rfl
 ·have hi:¬ ((n:Int)<src.length):=by omega
  rw [List.getElem?_eq_none (by omega)]
  simp only [hi,decide_false,Bool.false_eq_true,if_false,R.ok_bind]
theorem Aik {src:Ay}{p:Nat}{c:UInt8}{s:Ay}(h:src.drop p=c::s):Ih src (p:Int) ((p+1:Nat):Int)=[c]:=by
 unfold Ih
 simp only [Int.toNat_natCast]
 rw [h,show p+1 - p=1 by omega]; rfl
theorem Xw {src:Ay}{p:Nat}{c:UInt8}{s:Ay}(h:src.drop p=c::s)(k:Nat):s.drop k=src.drop (p+1+k):=by
 have:src.drop (p+1)=s:=by rw [← List.drop_drop,h]; rfl
 rw [← this,List.drop_drop]
theorem Aeh {src:Ay}{p:Nat}{c:UInt8}{s:Ay}(h:src.drop p=c::s):src[p]? = some c:=by
 have:=List.getElem?_drop (xs:=src) (i:=p) (j:=0)
 rw [h] at this
 simpa using this.symm
theorem Zh {src:Ay}{p:Nat}{c:UInt8}{s:Ay}(h:src.drop p=c::s):p+1+s.length=src.length:=by
 have:=congrArg List.length h
 rw [List.length_drop,List.length_cons] at this
 omega
theorem Afm {c:UInt8}{w:Ay}(hc:Qn c=true)(hw:w.all F9=true):Vd (c::w)=decide (w.length+1≤32):=by
 simp [Vd,hc,hw]
theorem Aqk (a:UInt8):((a.toNat:Int) != 10)=(a != 10):=Px (p:=fun a=>((a.toNat:Int) != 10)=(a != 10)) (by decide +kernel) a
theorem Ajm (src:Ay)(hs:src.length≤65536)(p:Nat)(pre:List Token)(c:UInt8)(s:Ay)(h:src.drop p=c::s)(hl:pre.length≤p) :
  Ln src (p:Int) pre=.ok (match tk c s with
   | none=>.inr (.inr ([],(p:Int),70))
   | some (o,k)=>.inl (((p+1+k:Nat):Int),pre++(o.map (at' p)).toList)):=by
 have hlen:=Zh h
 have hat:=Aeh h
 have hlim : ∀ t:Token,(pre.length+[t].length) * 40≤Db:=by intro t; simp only [List.length_singleton,Db]; omega
 unfold Ln
 rw [if_pos (by omega),Ys hat]
 simp only [R.ok_bind,Ap8]
 unfold tk
 cases hsp:Pb c
 ·simp only [Bool.false_eq_true,if_false]
  have hw1:IntKind.wrap .i64 ((p:Int)+1)=((p+1:Nat):Int):=by rw [P4 (by omega) (by omega)]; rfl
  rw [hw1]
  have hsl:(if(((c.toNat:Int)==47)&&(decide (((p+1:Nat):Int)<(src.length:Int)))) then(C0 src ((p+1:Nat):Int)).bind fun a2=>
    R.ok ((a2.toNat:Int)==47) else R.ok false)=.ok (decide (c=47∧s.head? = some 47)):=by
   by_cases hc:c=47
   ·subst hc
    cases s with
    | nil=>
     rw [if_neg (by simp only [List.length_nil] at hlen; simp; omega)]
     simp
    | cons d s'=>
     have hat2:src[p+1]? = some d:=Aeh (s:=s') (by have:=Xw h 0; simpa using this.symm)
     rw [if_pos (by simp only [List.length_cons] at hlen; simp; omega),Ys hat2]
     simp only [R.ok_bind,List.head?_cons,true_and]
     congr 1
     by_cases hd:d=47
     ·subst hd; simp
     ·have:(d.toNat:Int)≠47:=fun e=>hd (UInt8.toNat_inj.1 (by have:(47:UInt8).toNat=47:=rfl; omega))
      simp [hd,this]
   ·have:(c.toNat:Int)≠47:=fun e=>hc (UInt8.toNat_inj.1 (by have:(47:UInt8).toNat=47:=rfl; omega))
    simp [hc,this]
  rw [hsl]
  simp only [R.ok_bind]
  by_cases hcom:c=47∧s.head? = some 47
  ·simp only [hcom,and_self,decide_true,if_true]
   have hc:=hcom.1
   subst hc
   rw [Aeg (q:=(· != 10)) hs (fun n=>by unfold P5; simp only [Aqk]) p (by omega),h]
   simp only [R.ok_bind,P0]
   rw [show Qn 47=false by decide,show En 47=false by decide,show Rq 47=true by decide]
   simp only [Bool.false_eq_true,if_false,if_true]
   rw [List.takeWhile_cons,show((47:UInt8) != 10)=true by decide,if_pos rfl,List.length_cons]
   simp only [Option.map_none,Option.toList_none,List.append_nil]
   congr 3
   omega
  ·simp only [hcom,decide_false,Bool.false_eq_true,if_false,Akj,R.ok_bind]
   cases hle:Qn c
   ·simp only [Bool.false_eq_true,if_false,Akd,R.ok_bind]
    cases hfi:En c
    ·simp only [Bool.false_eq_true,if_false,Anm,R.ok_bind]
     cases hsi:Rq c
     ·simp
     ·simp only [if_true]
      rw [if_pos (by omega),Aik h,if_pos (hlim _)]
      rfl
    ·simp only [if_true]
     rw [Aeg (q:=En) hs (fun n=>by unfold Qb; simp only [Akd,R.ok_bind]) p (by omega)]
     simp only [R.ok_bind]
     unfold P8
     have hle:=Qt En (src.drop p)
     rw [List.length_drop] at hle
     rw [if_pos (by omega),Aga,h,List.takeWhile_cons,hfi,if_pos rfl]
     have hall:(c::s.takeWhile En).all En=true:=by rw [List.all_cons,hfi,Yg]; rfl
     have:=Qt En s
     rw [Akc (by simp) hall (by simp only [List.length_cons]; omega)]
     simp only [R.ok_bind,List.length_cons]
     unfold Wk
     by_cases hv:val (c::s.takeWhile En)≤1099511627776
     ·simp only [hv,if_true,decide_true,Bool.and_true]
      cases Sq (c::s.takeWhile En)
      ·simp
      ·simp only [if_true]
       rw [if_pos (by simp only [List.length_nil,Db]; omega)]
       simp only [Option.map_some,Option.toList_some]
       rw [show p+((s.takeWhile En).length+1)=p+1+(s.takeWhile En).length by omega]
       rfl
     ·simp only [hv,if_false,decide_false,Bool.and_false,Bool.false_eq_true]
   ·simp only [if_true]
    rw [Aeg (q:=F9) hs (fun n=>by unfold Qa; simp only [Ah6,R.ok_bind]) p (by omega)]
    simp only [R.ok_bind]
    unfold P6
    have hle':=Qt F9 (src.drop p)
    rw [List.length_drop] at hle'
    rw [if_pos (by omega),Aga,Ami,h,List.takeWhile_cons,Y8 hle,if_pos rfl]
    simp only [R.ok_bind,List.length_cons]
    rw [Afm hle (Yg _ _)]
    by_cases hn:(s.takeWhile F9).length+1≤32
    ·simp only [hn,decide_true,if_true]
     rw [if_pos ⟨by omega,by omega,by have:=Qt F9 s; omega⟩,if_pos (by simp only [List.length_nil,Db]; omega)]
     simp only [Option.map_some,Option.toList_some]
     rw [show p+((s.takeWhile F9).length+1)=p+1+(s.takeWhile F9).length by omega]
     rfl
    ·simp only [hn,decide_false,Bool.false_eq_true,if_false]
 ·simp only [if_true]
  rw [P4 (by omega) (by omega)]
  simp
theorem Al7 (src:Ay)(hs:src.length≤65536) : ∀ (n p:Nat) (pre:List Token),src.length - p≤n→p≤src.length→pre.length≤p →
  loop (C4 fun x x1=>Ln src x x1) ((p:Int),pre)=.ok (Adc pre (Ri (src.drop p) p)):=by
 intro n
 induction n with
 | zero=>
  intro p pre hn hp hl
  have e:src.drop p=[]:=List.drop_eq_nil_of_le (by omega)
  rw [Jz,e,Z3]
  simp only [C4]
  unfold Ln
  rw [if_neg (by omega)]
  simp [Adc]
 | succ n ih=>
  intro p pre hn hp hl
  cases hd:src.drop p with
  | nil=>
   have:src.length≤p:=by have:=congrArg List.length hd; rw [List.length_drop] at this; simp at this; omega
   rw [Jz,Z3]
   simp only [C4]
   unfold Ln
   rw [if_neg (by omega)]
   simp [Adc]
  | cons c s=>
   rw [Jz]
   simp only [C4]
   rw [Ajm src hs p pre c s hd hl,Xy]
   have hlen:=Zh hd
   cases ht:tk c s with
   | none=>rfl
   | some x=>
    obtain⟨o,k⟩:=x
    have hk:k≤s.length:=Am2 ht
    have hol:(o.map (at' p)).toList.length≤1:=by cases o <;> simp
    have:=ih (p+1+k) (pre++(o.map (at' p)).toList) (by omega) (by omega) (by rw [List.length_append]; omega)
    simp only [R.ok_bind]
    rw [← Xw hd k] at this
    refine this.trans ?_
    congr 1
    cases Ri (s.drop k) (p+1+k) <;> simp [Adc,Lx.add]
theorem Apz (s:Ay):Ve s=.ok (Gm s):=by
 unfold Ve Gm
 by_cases h:s.length≤65536
 ·rw [if_neg (by omega),if_pos h,show((0:Int),([]:List Token))=(((0:Nat):Int),[]) from rfl,Al7 s h s.length 0 [] (by omega) (by omega) (by simp)]
  simp only [List.drop_zero,R.ok_bind]
  cases Ri s 0 <;> rfl
 ·rw [if_pos (by omega),if_neg h]
end Go.Am
namespace Go.Am
open Go
set_option linter.unusedVariables false
set_option linter.unusedSimpArgs false
theorem Agv (c:UInt8) : ∀ (l:Ay),Lib.indexByte l c=if(l.takeWhile (· != c)).length=l.length then -1 else((l.takeWhile (· != c)).length:Int)
 | []=>rfl
 | a::l=>by
  have ih:=Agv c l
  have hle:=Qt (· != c) l
  rw [Lib.indexByte,List.takeWhile_cons]
  by_cases h:a=c
  ·subst h; simp
  ·have h1:(a != c)=true:=bne_iff_ne.2 h
   have h2:(a==c)=false:=by simpa using h
   rw [ih,h1]
   simp only [h2,Bool.false_eq_true,if_false,if_true,List.length_cons,Nat.add_right_cancel_iff]
   by_cases hq:(l.takeWhile (· != c)).length=l.length
   ·simp [hq]
   ·simp only [hq,if_false]
    have:¬ (((l.takeWhile (· != c)).length:Int)<0):=by omega
    simp [this]
    try omega
theorem Aed {α:Type}[BEq α][LawfulBEq α][DecidableEq α](a b:α):(a==b)=decide (a=b):=by
 by_cases h:a=b <;> simp [h]
def Yu:Ay→Bool
 | [c]=>Rq c
 | _=>false
def Sw (t:Token):Bool:=if t.Kind==1 then Vd t.Text&&(t.N==0) else if t.Kind==2 then(t.Text==[])&&decide (t.N≥0)&&decide (t.N≤1099511627776) else if t.Kind==3 then Yu t.Text&&(t.N==0) else false
theorem Aqo (s:Ay):((s.length:Int)==1)=(s.length==1):=by
 rw [Aed,Aed,decide_eq_decide]; omega
theorem Ap6 (s:Ay){f:Int→R Bool}(hf : ∀ c:UInt8,f (c.toNat:Int)=.ok (Rq c)):(if((s.length:Int)==1) then(C0 s 0).bind fun a=>f (a.toNat:Int) else R.ok false)=.ok (Yu s):=by
 rw [Aqo]
 match s with
 | []=>rfl
 | [c]=>simp only [List.length_singleton,beq_self_eq_true,if_true,Ai6,R.ok_bind,hf]; rfl
 | c::d::w=>simp [Yu]
theorem Alo (t:Token):S6 t=.ok (Sw t):=by
 unfold S6 Sw
 rw [show(fun a:UInt8=>(Lu (a.toNat:Int)).bind fun r1=>R.ok (r1==4))=fun a:UInt8=>(fun n:Int=>(Lu n).bind fun r1=>R.ok (r1==4)) (a.toNat:Int) from rfl,
  Ap6 (f:=fun n:Int=>(Lu n).bind fun r1=>R.ok (r1==4)) t.Text (fun c=>by simp only [Aao,R.ok_bind,Amg])]
 simp only [Aoa,R.ok_bind]
 split
 ·rfl
 ·split
  ·rfl
  ·split <;> rfl
theorem Agh (text:Ay)(t:Token)(src:Ay)(p:Nat)(l:List Token)(hl:(l.length+1) * 40≤Db) :
  G0 text t src p l=if Sw t then .ok (l++[at' p t]) else .pan ⟨113,.int .i64 p⟩:=by
 unfold G0
 rw [Alo,R.ok_bind]
 simp only [List.length_singleton]
 rw [if_pos hl]
 rfl
theorem Amv (n:Nat):Lib.itoa (n:Int)=Lib.decDigits n:=Lib.itoa_nonneg n
theorem Al8 {α:Type}{p q:α→Bool}(h : ∀ a,p a=q a)(l:List α):l.takeWhile p=l.takeWhile q:=by rw [show p=q from funext h]
theorem Adw {some:List Int}{q:UInt8→Bool}(h : ∀ c,some.contains (Ie c)=q c){src:Ay}{p:Nat}{l:List Token}(hp:p≤src.length)(hs:src.length≤65536) :
  Jm ({ fSrc:=src,fAt:=p,fL:=l }:T119) some=.ok ((src.drop p).takeWhile q):=by rw [Apn src p l some hp hs,Al8 h]
def Ad3 (p:Nat)(pre:List Token)(c:UInt8)(s:Ay):R ((Int×(List Token)) ⊕ (Int×(List Token))):=
 if Pb c then .ok (.inl (((p+1+(s.takeWhile Pb).length:Nat):Int),pre))
 else match tk c s with
  | none=>.pan ⟨113,.int .i64 p⟩
  | some (o,k)=>.ok (.inl (((p+1+k:Nat):Int),pre++(o.map (at' p)).toList))
theorem Add {c:UInt8}{v:Int}(h:(Ie c==v)=true):Ie c=v:=eq_of_beq h
theorem Akx (s:Ay):N1 s [47,47]=.ok (decide (s.take 2=[47,47])):=by
 unfold N1 H5
 by_cases h:2≤s.length
 ·have h1:(s.length:Int)≥(([47,47]:Ay).length:Int):=by simp; omega
  simp only [h1,decide_true,if_true]
  rw [if_pos ⟨by simp,trivial⟩]
  simp only [R.ok_bind]
  rw [Aed]
  rfl
 ·have h1:¬ ((s.length:Int)≥(([47,47]:Ay).length:Int)):=by simp; omega
  simp only [h1,decide_false,Bool.false_eq_true,if_false,R.ok_bind]
  rw [decide_eq_false]
  intro e
  have:=congrArg List.length e
  simp at this
  omega
theorem Akf (src:Ay)(hs:src.length≤65536)(p:Nat)(pre:List Token)(c:UInt8)(s:Ay)(h:src.drop p=c::s)(hl:pre.length≤p) :
  Od src (p:Int) pre=Ad3 p pre c s:=by
 have hlen:=Zh h
 have hat:=Aeh h
 have hlim:(pre.length+1) * 40≤Db:=by simp only [Db]; omega
 unfold Od Ad3
 rw [if_pos (by omega),Ys hat]
 simp only [R.ok_bind,Aao]
 have wr : ∀ k:Nat,k≤s.length→IntKind.wrap .i64 ((p:Int)+((k+1:Nat):Int))=((p+1+k:Nat):Int):=by
  intro k hk; rw [P4 (by omega) (by omega)]; omega
 cases hsp:Pb c
 ·simp only [Bool.false_eq_true,if_false]
  unfold tk
  simp only [hsp,Bool.false_eq_true,if_false]
  cases hle:Qn c
  ·simp only [Bool.false_eq_true,if_false]
   cases hfi:En c
   ·simp only [Bool.false_eq_true,if_false]
    cases hsi:Rq c
    ·have h1:Ie c≠1:=fun e=>by rw [← Alg,e] at hsp; cases hsp
     have h2:Ie c≠2:=fun e=>by rw [← Aiy,e] at hle; cases hle
     have h3:Ie c≠3:=fun e=>by rw [← Amn,e] at hfi; cases hfi
     have h4:Ie c≠4:=fun e=>by rw [← Amg,e] at hsi; cases hsi
     rcases Aql c with e | e | e | e | e | e
     ·rw [e]; rfl
     ·exact absurd e h1
     ·exact absurd e h2
     ·exact absurd e h3
     ·exact absurd e h4
     ·rw [e]; rfl
    ·have hc:Ie c=4:=Add (by rw [Amg,hsi])
     rw [hc]
     simp only [show ¬ ((4:Int)=0) by decide,show ¬ ((4:Int)=1) by decide,show ¬ ((4:Int)=2) by decide,show ¬ ((4:Int)=3) by decide,if_false,if_true]
     unfold Ng
     rw [if_pos ⟨by omega,by omega⟩]
     simp only [Int.toNat_natCast]
     rw [Akx,R.ok_bind,h]
     have e2:(decide ((c::s).take 2=[47,47]))=decide (c=47∧s.head? = some 47):=by
      cases s with
      | nil=>simp
      | cons d w=>simp
     rw [e2]
     by_cases hcom:c=47∧s.head? = some 47
     ·simp only [hcom,and_self,decide_true,if_true]
      obtain⟨rfl,hhd⟩:=hcom
      rw [if_pos ⟨by omega,by omega⟩]
      unfold strings_IndexByte
      rw [show((10:Int).toNat.toUInt8)=10 from rfl,Agv,List.takeWhile_cons,show((47:UInt8) != 10)=true by decide,if_pos rfl]
      have hle:=Qt (· != 10) s
      simp only [List.length_cons,Nat.add_right_cancel_iff,R.ok_bind]
      by_cases hall:(s.takeWhile (· != 10)).length=s.length
      ·rw [if_pos hall,if_neg (by omega)]
       simp only [R.ok_bind,hall]
       rw [hlen]; simp
      ·rw [if_neg hall,if_pos (by omega),wr _ hle]
       simp
     ·simp only [hcom,decide_false,Bool.false_eq_true,if_false]
      have hw1:IntKind.wrap .i64 ((p:Int)+1)=((p+1:Nat):Int):=by rw [P4 (by omega) (by omega)]; rfl
      rw [hw1,Aik h,if_pos ⟨by omega,by omega,by omega⟩,Agh _ _ _ _ _ hlim]
      have hv:Sw ({ Kind:=3,Text:=[c],N:=0,At:=0 }:Token)=true:=by
       show Yu [c]&&true=true
       simp [Yu,hsi]
      rw [hv]
      simp only [if_true,R.ok_bind]
      have:=wr 0 (Nat.zero_le _)
      simp only [List.length_singleton]
      rw [show((1:Nat):Int)=((0+1:Nat):Int) from rfl,this]
      rfl
   ·have hc:Ie c=3:=Add (by rw [Amn,hfi])
    rw [hc]
    simp only [show ¬ ((3:Int)=0) by decide,show ¬ ((3:Int)=1) by decide,show ¬ ((3:Int)=2) by decide,if_false,if_true]
    unfold K1
    rw [Adw (q:=En) (fun c=>by rw [← Amn]; simp only [List.contains_cons,List.contains_nil,Bool.or_false]) (by omega) hs,h,List.takeWhile_cons,hfi,if_pos rfl]
    have hall:(c::s.takeWhile En).all En=true:=by rw [List.all_cons,hfi,Yg]; rfl
    have hle:=Qt En s
    simp only [R.ok_bind]
    unfold P1
    rw [if_pos (by simp only [List.length_cons]; omega),Amo (by simp) hall]
    generalize hg:c::s.takeWhile En=g
    have hg1:g≠[]:=by rw [← hg]; simp
    rw [hg] at hall
    have hgl:g.length=(s.takeWhile En).length+1:=by rw [← hg]; rfl
    by_cases hbig:9223372036854775808≤val g
    ·rw [if_pos hbig]
     have:Wk g=false:=by unfold Wk; rw [decide_eq_false (by omega:¬ val g≤1099511627776),Bool.and_false]
     rw [this]
     rfl
    ·rw [if_neg hbig]
     simp only [R.ok_bind,Bool.false_eq_true,if_false]
     unfold strconv_Itoa
     rw [if_pos ⟨by omega,by omega⟩,Amv]
     simp only [R.ok_bind]
     have hdd:=Anw (val g)
     by_cases hpl:Sq g=true
     ·rw [Apq g hg1 hall hpl]
      simp only [beq_self_eq_true,Bool.not_true,Bool.false_eq_true,if_false]
      rw [Agh _ _ _ _ _ hlim]
      have hv:Sw ({ Kind:=2,Text:=[],N:=(val g:Int),At:=0 }:Token)=Wk g:=by
       unfold Wk; rw [hpl]
       simp only [Sw]
       rw [if_neg (by decide),if_pos (by decide),decide_eq_true (by omega:(val g:Int)≥0),Bool.true_and]
       show(true&&decide ((val g:Int)≤1099511627776))=_
       rw [Bool.true_and,decide_eq_decide]
       omega
      rw [hv]
      cases Wk g
      ·rfl
      ·simp only [if_true,R.ok_bind]
       rw [hgl,wr _ hle]
       rfl
     ·have hne:(Lib.decDigits (val g)==g)=false:=by
       rw [beq_eq_false_iff_ne]; intro e; rw [e] at hdd; exact hpl hdd.2.2.2.1
      rw [hne]
      have:Wk g=false:=by unfold Wk; rw [Bool.eq_false_iff.2 hpl,Bool.false_and]
      rw [this]
      rfl
  ·have hc:Ie c=2:=Add (by rw [Aiy,hle])
   rw [hc]
   simp only [show ¬ ((2:Int)=0) by decide,show ¬ ((2:Int)=1) by decide,if_false,if_true]
   unfold M8
   rw [Adw (q:=F9) (fun c=>by rw [← Ao0]; simp only [List.contains_cons,List.contains_nil,Bool.or_false,Bool.or_assoc]) (by omega) hs,h,List.takeWhile_cons,Y8 hle,if_pos rfl]
   simp only [R.ok_bind]
   rw [Agh _ _ _ _ _ hlim]
   have hv:Sw ({ Kind:=1,Text:=c::s.takeWhile F9,N:=0,At:=0 }:Token)=decide ((s.takeWhile F9).length+1≤32):=by
    show(Vd (c::s.takeWhile F9)&&true)=_
    rw [Bool.and_true]
    exact Afm hle (Yg _ _)
   rw [hv]
   have hle':=Qt F9 s
   by_cases hn:(s.takeWhile F9).length+1≤32
   ·simp only [hn,decide_true,if_true,R.ok_bind,List.length_cons]
    rw [wr _ hle']
    rfl
   ·simp only [hn,decide_false,Bool.false_eq_true,if_false,R.pan_bind]
 ·have hc:Ie c=1:=Add (by rw [Alg,hsp])
  rw [hc]
  simp only [show ¬ ((1:Int)=0) by decide,if_false,if_true]
  unfold Me
  rw [Adw (q:=Pb) (fun c=>by rw [← Alg]; simp only [List.contains_cons,List.contains_nil,Bool.or_false]) (by omega) hs,h,List.takeWhile_cons,hsp,if_pos rfl]
  simp only [R.ok_bind,List.length_cons]
  rw [wr _ (Qt Pb s)]
def Ac6 (n:Nat)(pre:List Token):Lx→R (Int×List Token)
 | .ok l=>.ok ((n:Int),pre++l)
 | .wrong e=>.pan ⟨113,.int .i64 (e:Int)⟩
theorem Ak8 (src:Ay)(hs:src.length≤65536) : ∀ (n p:Nat) (pre:List Token),src.length - p≤n→p≤src.length→pre.length≤p →
  loop (C4 fun fAt l=>Od src fAt l) ((p:Int),pre)=Ac6 src.length pre (Ri (src.drop p) p):=by
 have hend : ∀ (p:Nat) (pre:List Token),src.drop p=[]→p≤src.length→loop (C4 fun fAt l=>Od src fAt l) ((p:Int),pre)=Ac6 src.length pre (Ri (src.drop p) p):=by
  intro p pre e hp
  have:src.length≤p:=by have:=congrArg List.length e; rw [List.length_drop] at this; simp at this; omega
  rw [Jz,e,Z3]
  simp only [C4]
  unfold Od
  rw [if_neg (by omega)]
  simp only [R.ok_bind,Ac6,List.append_nil]
  rw [show p=src.length by omega]
 intro n
 induction n with
 | zero=>intro p pre hn hp hl; exact hend p pre (List.drop_eq_nil_of_le (by omega)) hp
 | succ n ih=>
  intro p pre hn hp hl
  cases hd:src.drop p with
  | nil=>rw [← hd]; exact hend p pre hd hp
  | cons c s=>
   rw [Jz]
   simp only [C4]
   rw [Akf src hs p pre c s hd hl]
   have hlen:=Zh hd
   unfold Ad3
   cases hsp:Pb c
   ·simp only [Bool.false_eq_true,if_false]
    rw [Xy]
    cases ht:tk c s with
    | none=>rfl
    | some x=>
     obtain⟨o,k⟩:=x
     have hk:k≤s.length:=Am2 ht
     have hol:(o.map (at' p)).toList.length≤1:=by cases o <;> simp
     have:=ih (p+1+k) (pre++(o.map (at' p)).toList) (by omega) (by omega) (by rw [List.length_append]; omega)
     simp only [R.ok_bind]
     rw [← Xw hd k] at this
     refine this.trans ?_
     cases Ri (s.drop k) (p+1+k) <;> simp [Ac6,Lx.add]
   ·simp only [if_true,R.ok_bind]
    have hle:=Qt Pb s
    have:=ih (p+1+(s.takeWhile Pb).length) pre (by omega) (by omega) (by omega)
    rw [← Xw hd] at this
    refine this.trans ?_
    congr 1
    have e:=Agu (c::s.takeWhile Pb) (s.drop (s.takeWhile Pb).length) p (by rw [List.all_cons,hsp,Yg]; rfl)
    rw [Ah8,List.cons_append,List.takeWhile_append_dropWhile,List.length_cons] at e
    rw [e,Ah8]
    congr 1
    omega
theorem Apj (s:Ay):Abj s=.ok (Gm s):=by
 unfold Abj X6 Gm
 by_cases h:s.length≤65536
 ·rw [if_neg (by omega),if_pos h,show((0:Int),([]:List Token))=(((0:Nat):Int),[]) from rfl,Ak8 s h s.length 0 [] (by omega) (by omega) (by simp)]
  simp only [List.drop_zero]
  cases Ri s 0 <;> rfl
 ·rw [if_pos (by omega),if_neg h]
  rfl
end Go.Am
namespace Go.Am
open Go
set_option linter.unusedVariables false
set_option linter.unusedSimpArgs false
abbrev PR (α:Type):=Except (List Token×Int) (α×List Token)
abbrev Rd (α:Type):=List Token→PR α
namespace Rd
variable {α β:Type}
def bind (p:Rd α)(f:α→Rd β):Rd β:=fun l=>match p l with
 | .error x=>.error x
 | .ok (a,r)=>f a r
def pure (a:α):Rd α:=fun l=>.ok (a,l)
def fail (e:Int):Rd α:=fun l=>.error (l,e)
end Rd
def Qq (q:Token→Bool):Rd Token
 | []=>.error ([],80)
 | t::r=>if q t then .ok (t,r) else .error (t::r,80)
def Sd (k:Int)(w:Ay)(t:Token):Bool:=t.Kind==k&&t.Text==w
def Xv (k:Int)(w:Ay):Rd Bool
 | []=>.ok (false,[])
 | t::r=>.ok (Sd k w t,t::r)
def Af2 (lo hi st:Int)(t:Token):Bool:=t.Kind==2&&(decide (lo≤t.N)&&(decide (t.N≤hi)&&(Int.tmod t.N st==0)))
def Po:Rd Ay:=(Qq fun t=>t.Kind==1).bind fun t=>.pure t.Text
def On (k:Int)(w:Ay):Rd Unit:=(Qq (Sd k w)).bind fun _=>.pure ()
def Qk (lo hi st:Int):Rd Int:=(Qq (Af2 lo hi st)).bind fun t=>.pure t.N
def O1:Rd Span:=(Qk 0 1439 1).bind fun a=>(On 1 [116,111]).bind fun _=>(Qk (a+1) 1440 1).bind fun b=>.pure ⟨a,b⟩
def F5 {α:Type}(p:Rd α):Nat→List α→Rd (List α)
 | n,acc=>p.bind fun a=>(Xv 3 [44]).bind fun b=>if b then(match n with
  | 0=>.fail 2
  | n+1=>(On 3 [44]).bind fun _=>F5 p n (acc++[a])) else .pure (acc++[a])
def Yf (E:Int):List Token→Int
 | []=>E
 | t::_=>t.At
def run {α:Type}(E:Int):PR α→R (α×List Token)
 | .ok x=>.ok x
 | .error (l,e)=>.pan ⟨64,.two .i64 .i64 (Yf E l) e⟩
theorem Age {α:Type}(E:Int)(x:α×List Token):run E (.ok x:PR α)=.ok x:=rfl
def Nc {α:Type}(E:Int)(k:Nat)(l:List Token)(x:R α)(p:Rd α):Prop:=(x=(run E (p l)).bind fun y=>.ok y.1) ∧ ∀ a r,p l=.ok (a,r)→r=l.drop k
section
variable {α β:Type} {E:Int} {k:Nat} {l:List Token} {p:Rd α}
theorem J0 {x:R α}{H:α→R (β×List Token)}{f:α→Rd β}(hx:Nc E k l x p)(h : ∀ a,p l=.ok (a,l.drop k)→H a=run E (f a (l.drop k))):x.bind H=run E (p.bind f l):=by
 obtain⟨rfl,h2⟩:=hx
 unfold Rd.bind
 cases hp:p l with
 | error x=>rfl
 | ok y=>
  obtain⟨a,r⟩:=y
  have:=h2 a r hp
  subst this
  exact h a hp
theorem S0 {x:R (α×List Token)}{H:α×List Token→R (β×List Token)}{f:α→Rd β}(hx:x=run E (p l))(h : ∀ a r,p l=.ok (a,r)→H (a,r)=run E (f a r)):x.bind H=run E (p.bind f l):=by
 subst hx
 unfold Rd.bind
 cases hp:p l with
 | error x=>rfl
 | ok y=>exact h _ _ hp
theorem Ns {m n:Nat}{x:R α}{H:α→R β}{f:α→Rd β}{l':List Token}(hn:n=k+m)(hl:l'=l.drop k)(hx:Nc E k l x p)(h : ∀ a,p l=.ok (a,l')→Nc E m l' (H a) (f a)):Nc E n l (x.bind H) (p.bind f):=by
 subst hl hn
 obtain⟨rfl,h2⟩:=hx
 unfold Nc Rd.bind
 cases hp:p l with
 | error x=>exact⟨rfl,fun _ _ h=>nomatch h⟩
 | ok y=>
  obtain⟨a,r⟩:=y
  have:=h2 a r hp
  subst this
  obtain⟨h3,h4⟩:=h a hp
  refine⟨h3,fun b r hr=>?_⟩
  rw [h4 b r hr,List.drop_drop]
theorem Ry (a:α):Nc E 0 l (.ok a) (Rd.pure a):=⟨rfl,fun _ _ h=>by cases h; rfl⟩
end
theorem Kh (e:Int)(l:List Token)(E:Int):Bv e l E=.pan ⟨64,.two .i64 .i64 (Yf E l) e⟩:=by
 unfold Bv
 cases l with
 | nil=>rfl
 | cons t l=>rw [if_pos (by simp only [List.length_cons]; omega)]; rfl
theorem Aid (r:T67)(e:Int):Nh r e=.pan ⟨64,.two .i64 .i64 (Yf r.fEnd r.fL) e⟩:=by
 unfold Nh
 cases h:r.fL with
 | nil=>rfl
 | cons t l=>rw [if_pos (by simp only [List.length_cons]; omega)]; rfl
theorem Yw (kind:Int)(q:Token→Bool)(l:List Token)(E:Int)(j:R Token)(hj:j=((C0 l 0).bind fun a2=>if(0:Int)≤1∧1≤(l.length:Int) then .ok a2 else .bad))  (c:Token→R Bool)(hc : ∀ t,c t=.ok (q t)) :
  ((if((l.length:Int)==0) then R.ok true else(C0 l 0).bind fun a=>R.ok (a.Kind != kind)).bind (fun(b:Bool)=>(if b then R.ok true else(C0 l 0).bind fun a1=>(c a1).bind fun r=>R.ok (!r)).bind (fun(b1:Bool)=>if b1 then((Bv 80 l E).bind fun _=>j) else j)))
   = (run E (Qq (fun t=>t.Kind==kind&&q t) l)).bind fun y=>.ok y.1:=by
 subst hj
 cases l with
 | nil=>rfl
 | cons t l=>
  have e:C0 (t::l) 0=.ok t:=rfl
  have e0:(((t::l).length:Int)==0)=false:=by simp only [List.length_cons,beq_eq_false_iff_ne]; omega
  have e1:(0:Int)≤1∧1≤((t::l).length:Int):=by simp only [List.length_cons]; omega
  simp only [e,e0,R.ok_bind,hc,Kh,Qq,if_pos e1,Bool.false_eq_true,if_false]
  by_cases hk:t.Kind=kind
  ·have h1:(t.Kind==kind)=true:=by simp [hk]
   have h2:(t.Kind != kind)=false:=by simp [hk]
   simp only [h1,h2,Bool.false_eq_true,if_false,R.ok_bind,Bool.true_and]
   cases q t <;> rfl
  ·have h1:(t.Kind==kind)=false:=by simp [hk]
   have h2:(t.Kind != kind)=true:=by simp [hk]
   simp only [h1,h2,if_true,R.ok_bind,Bool.false_and]
   rfl
theorem Aku {q:Token→Bool}{l:List Token}{a:Token}{r:List Token}(h:Qq q l=.ok (a,r)):r=l.drop 1:=by
 cases l with
 | nil=>cases h
 | cons t l=>
  simp only [Qq] at h
  split at h
  ·cases h; rfl
  ·cases h
theorem Aap {α:Type}{E:Int}{l:List Token}{q:Token→Bool}{x:R Token}(f:Token→α)(hx:x=(run E (Qq q l)).bind fun y=>.ok y.1):Nc E 1 l (x.bind fun r=>.ok (f r)) ((Qq q).bind fun t=>.pure (f t)):=by
 subst hx
 unfold Nc Rd.bind
 cases h:Qq q l with
 | error x=>exact⟨rfl,fun _ _ h=>nomatch h⟩
 | ok y=>exact⟨rfl,fun a r h'=>by cases h'; exact Aku h⟩
theorem S5 (E:Int)(l:List Token):Nc E 1 l (Cg l E) Po:=by
 have:=Aap (E:=E) (l:=l) (fun t=>t.Text) (Yw 1 (fun _=>true) l E _ rfl Kl (fun _=>rfl))
 simp only [Bool.and_true] at this
 exact this
theorem Nt (E:Int)(w:Ay)(l:List Token):Nc E 1 l (Do w l E) (On 1 w):=
 Aap (E:=E) (l:=l) (fun _=>()) (Yw 1 (fun t=>t.Text==w) l E _ rfl (fun t=>Km t w) (fun _=>rfl))
theorem Y6 (E:Int)(w:Ay)(l:List Token):Nc E 1 l (Cj w l E) (On 3 w):=
 Aap (E:=E) (l:=l) (fun _=>()) (Yw 3 (fun t=>t.Text==w) l E _ rfl (fun t=>Kk t w) (fun _=>rfl))
theorem Ap3 (n:Int):(Int.tmod n 1==0)=true:=by simp
theorem Oe (E lo hi:Int)(l:List Token):Nc E 1 l (D8 lo hi l E) (Qk lo hi 1):=by
 have:=Aap (E:=E) (l:=l) (fun t=>t.N) (Yw 2 (fun t=>decide (lo≤t.N)&&(decide (t.N≤hi)&&(Int.tmod t.N 1==0))) l E _ rfl (fun t=>Hb t lo hi) (fun t=>by simp only [Hb,Ap3,Bool.and_true]))
 exact this
theorem Ai8 (k:Int)(w:Ay)(l:List Token)(E:Int):F0 k w l E=.ok (match l with | []=>false | t::_=>Sd k w t):=by
 unfold F0
 cases l with
 | nil=>rfl
 | cons t l=>
  have e:C0 (t::l) 0=.ok t:=rfl
  have e0:decide (((t::l).length:Int) > 0)=true:=by simp only [List.length_cons,decide_eq_true_eq]; omega
  simp only [e,e0,R.ok_bind,if_true,Sd]
  cases t.Kind==k <;> rfl
theorem Aif {q:Token→Bool}{l:List Token}{a:Token}{r:List Token}(h:Qq q l=.ok (a,r)):l=a::r∧q a=true:=by
 cases l with
 | nil=>cases h
 | cons t l=>
  simp only [Qq] at h
  split at h
  ·rename_i hq; cases h; exact⟨rfl,hq⟩
  ·cases h
theorem Ajf {α β:Type}{p:Rd α}{f:α→Rd β}{l:List Token}{b:β}{r:List Token}(h:p.bind f l=.ok (b,r)) : ∃ a m,p l=.ok (a,m)∧f a m=.ok (b,r):=by
 unfold Rd.bind at h
 cases hp:p l with
 | error x=>rw [hp] at h; cases h
 | ok y=>rw [hp] at h; exact⟨y.1,y.2,rfl,h⟩
theorem Aiq {lo hi st:Int}{l:List Token}{a:Int}{r:List Token}(h:Qk lo hi st l=.ok (a,r)) : ∃ t,l=t::r∧t.Kind=2∧t.N=a∧lo≤a∧a≤hi∧Int.tmod a st=0:=by
 obtain⟨t,m,h1,h2⟩:=Ajf h
 cases h2
 obtain⟨rfl,hq⟩:=Aif h1
 simp only [Af2,Bool.and_eq_true,decide_eq_true_eq,beq_iff_eq] at hq
 exact⟨t,rfl,hq.1,rfl,hq.2.1,hq.2.2.1,hq.2.2.2⟩
theorem Aft (E:Int)(l:List Token):Nc E 3 l (H3 l E) O1:=by
 refine Ns (m:=2) rfl rfl (Oe E 0 1439 l) fun a ha=>?_
 refine Ns (m:=1) rfl rfl (Nt E _ _) fun _ _=>?_
 have e:IntKind.wrap .i64 (a+1)=a+1:=by
  obtain⟨t,_,_,_,h1,h2,_⟩:=Aiq ha
  exact P4 (by omega) (by omega)
 rw [e]
 exact Ns (m:=0) rfl rfl (Oe E (a+1) 1440 _) fun b _=>Ry _
end Go.Am
namespace Go.Am
open Go
set_option linter.unusedVariables false
set_option linter.unusedSimpArgs false
def Xe (w:Ay):Rd (List Span):=(Xv 1 w).bind fun b=>if b then(On 1 w).bind fun _=>F5 O1 15 [] else .pure []
def W1:Rd Mode:=(On 1 [109,111,100,101]).bind fun _=>Po.bind fun n=>(Qk 0 64 1).bind fun k=>.pure { Name:=n,Places:=k }
def Ab8 (s:Ay):Rd Volume:=(Xe [99,108,111,115,101,100]).bind fun c=>.pure { Name:=s,Closed:=c }
def Aca (s:Ay):Rd Sector:=(On 3 [61]).bind fun _=>(F5 Po 63 []).bind fun ns=>(On 1 [114,97,100,97,114]).bind fun _=>(Qk 0 64 1).bind fun a=>
 (On 1 [112,114,111,99,101,100,117,114,97,108]).bind fun _=>(Qk 0 a 1).bind fun b=>.pure { Name:=s,Names:=ns,Volumes:=[],Radar:=a,Procedural:=b }
def Ace (s:Ay):Rd Config:=(On 3 [61]).bind fun _=>(F5 Po 63 []).bind fun ns=>.pure { Name:=s,Names:=ns,Sectors:=[] }
def Aci (s:Ay):Rd Segment:=(On 1 [105,110]).bind fun _=>Po.bind fun v=>(On 1 [108,101,110,103,116,104]).bind fun _=>(Qk 1 4096 1).bind fun k=>
 (Xe [111,112,101,110]).bind fun o=>.pure { Name:=s,In:=v,Volume:=0,Length:=k,Open:=o }
def Acs (s:Ay):Rd Route:=(On 1 [102,114,111,109]).bind fun _=>Po.bind fun a=>(On 1 [116,111]).bind fun _=>Po.bind fun b=>(On 1 [118,105,97]).bind fun _=>
 (F5 Po 7 []).bind fun ns=>.pure { Name:=s,A:=a,B:=b,From:=0,To:=0,Names:=ns,Segments:=[] }
def Acn (s:Ay):Rd Airport:=(F5 W1 15 []).bind fun ms=>.pure { Name:=s,Modes:=ms }
def Ab7 (s:Ay):Rd Class:=(On 1 [115,108,111,119]).bind fun _=>(Qk 1 64 1).bind fun a=>(On 1 [102,97,115,116]).bind fun _=>(Qk a 64 1).bind fun b=>
 (On 1 [112,108,97,99,101,115]).bind fun _=>(Qk 1 8 1).bind fun c=>.pure { Name:=s,Slow:=a,Fast:=b,Places:=c }
def Wy (k:Int)(c a:Ay)(n:Int)(h:Span):Rule:={ Kind:=k,C:=c,A:=a,Class:=0,Airport:=0,N:=n,Hours:=h }
def Acc (s:Ay):Rd Rule:=(On 1 [97,116]).bind fun _=>Po.bind fun a=>O1.bind fun h=>.pure (Wy 1 s a 0 h)
def Aea (s:Ay):Rd Rule:=.pure (Wy 2 s [] 0 ⟨0,0⟩)
def Ach (s:Ay):Rd Rule:=(Qk 1 8 1).bind fun n=>.pure (Wy 3 s [] n ⟨0,0⟩)
def Aaz (s:Ay):Rd Rule:=(Qk 0 60 10).bind fun n=>.pure (Wy 4 s [] n ⟨0,0⟩)
def Er {α:Type}(p:Ay→Rd α):Rd α:=Po.bind fun n=>(p n).bind fun x=>(On 3 [59]).bind fun _=>.pure x
section
variable {α:Type} {E:Int}
theorem Aai {k sz most:Nat}{G:List Token→R α}{p:Rd α}(hG : ∀ l,Nc E k l (G l) p){b:List Token×List α→R ((List Token×List α) ⊕ (List α×List Token))}
  (hb : ∀ fL l1,b (fL,l1)=(G fL).bind fun r=>if(l1.length+1) * sz≤Db then(F0 3 [44] (fL.drop k) E).bind fun r1=>if r1 then(if(((l1++[r]).length:Int)==most) then .pan ⟨64,.two .i64 .i64 (Yf E (fL.drop k)) 2⟩ else(Cj [44] (fL.drop k) E).bind fun _=>.ok (.inl ((fL.drop k).drop 1,l1++[r]))) else .ok (.inr (l1++[r],fL.drop k)) else .bad)
  (hs:most * sz≤Db) : ∀ (n:Nat) (l:List Token) (acc:List α),acc.length+n+1=most→loop b (l,acc)=run E (F5 p n acc l):=by
 intro n
 induction n with
 | zero=>
  intro l acc hn
  rw [Jz,hb,F5]
  obtain⟨h1,h2⟩:=hG l
  rw [h1]
  unfold Rd.bind
  cases hp:p l with
  | error x=>rfl
  | ok y=>
   obtain⟨a,r⟩:=y
   have:=h2 a r hp; subst this
   have e1:(acc.length+1) * sz≤Db:=Nat.le_trans (Nat.mul_le_mul_right _ (by omega)) hs
   have e2:(((acc++[a]).length:Int)==most)=true:=by simp; omega
   simp only [Age,R.ok_bind,if_pos e1,Ai8,e2,if_true]
   cases l.drop k with
   | nil=>rfl
   | cons t r=>
    cases h:Sd 3 [44] t <;> simp only [Xv,h,Bool.false_eq_true,if_false,if_true,R.ok_bind,R.pan_bind] <;> rfl
 | succ n ih=>
  intro l acc hn
  rw [Jz,hb,F5]
  obtain⟨h1,h2⟩:=hG l
  rw [h1]
  unfold Rd.bind
  cases hp:p l with
  | error x=>rfl
  | ok y=>
   obtain⟨a,r⟩:=y
   have:=h2 a r hp; subst this
   have e1:(acc.length+1) * sz≤Db:=Nat.le_trans (Nat.mul_le_mul_right _ (by omega)) hs
   have e2:(((acc++[a]).length:Int)==most)=false:=by simp; omega
   simp only [Age,R.ok_bind,if_pos e1,Ai8,e2,Bool.false_eq_true,if_false]
   have e3:=(Y6 E [44] (l.drop k)).1
   cases hd:l.drop k with
   | nil=>rfl
   | cons t r=>
    cases h:Sd 3 [44] t
    ·simp only [Xv,h,Bool.false_eq_true,if_false,R.ok_bind]; rfl
    ·rw [hd] at e3
     have e4:On 3 [44] (t::r)=.ok ((),r):=by simp only [On,Rd.bind,Qq,h,if_true]; rfl
     simp only [Xv,h,if_true,e3,e4,Age,R.ok_bind,List.drop_one,List.tail_cons]
     exact ih r (acc++[a]) (by simp; omega)
end
theorem Agq (E:Int)(l:List Token)(v:List Volume):Fs 16 l E v=run E (F5 O1 15 [] l):=by
 unfold Fs
 rw [Aai (k:=3) (sz:=16) (most:=16) (G:=fun l=>H3 l E) (p:=O1) (Aft E) (fun fL l1=>?_) (by decide) 15 l [] rfl,R.bind_ok]
 simp only [C4,Gs,Gu,Kh,R.pan_bind,List.length_singleton,List.drop_drop]
 all_goals rfl
theorem Aoq (E:Int)(l:List Token):Nc E 3 l (F6 l E) W1:=
 Ns (m:=2) rfl rfl (Nt E _ l) fun _ _=>Ns (m:=1) rfl rfl (S5 E _) fun _ _=>Ns (m:=0) rfl rfl (Oe E 0 64 _) fun _ _=>Ry _
theorem Ahm (E:Int)(l:List Token)(v:List Volume):Hg 16 l E v=run E (F5 W1 15 [] l):=by
 unfold Hg
 rw [Aai (k:=3) (sz:=24) (most:=16) (G:=fun l=>F6 l E) (p:=W1) (Aoq E) (fun fL l1=>?_) (by decide) 15 l [] rfl,R.bind_ok]
 simp only [C4,Hm,Hq,Kh,R.pan_bind,List.length_singleton,List.drop_drop]
 all_goals rfl
theorem X8 (E:Int)(m:Nat)(hm:(m+1) * 16≤Db)(l:List Token)(v:List Volume):Ew ((m+1:Nat):Int) l E v=run E (F5 Po m [] l):=by
 unfold Ew
 rw [Aai (k:=1) (sz:=16) (most:=m+1) (G:=fun l=>Cg l E) (p:=Po) (S5 E) (fun fL l1=>?_) hm m l [] (by simp),R.bind_ok]
 simp only [C4,Gi,Gl,Kh,R.pan_bind,List.length_singleton,List.drop_drop]
 all_goals rfl
end Go.Am
namespace Go.Am
open Go
set_option linter.unusedVariables false
set_option linter.unusedSimpArgs false
def Z7 (w:Ay)(A:Airspace):Option (Bool×Rd Airspace):=
 if w==[97,105,114,112,111,114,116] then some (decide (16≤A.Airports.length),(Er Acn).bind fun x=>.pure { A with Airports:=A.Airports++[x] }) else
 if w==[99,108,97,115,115] then some (decide (8≤A.Classes.length),(Er Ab7).bind fun x=>.pure { A with Classes:=A.Classes++[x] }) else
 if w==[99,111,110,102,105,103] then some (decide (32≤A.Configs.length),(Er Ace).bind fun x=>.pure { A with Configs:=A.Configs++[x] }) else
 if w==[99,117,114,102,101,119] then some (decide (64≤A.Rules.length),(Er Acc).bind fun x=>.pure { A with Rules:=A.Rules++[x] }) else
 if w==[101,120,101,109,112,116] then some (decide (64≤A.Rules.length),(Er Aea).bind fun x=>.pure { A with Rules:=A.Rules++[x] }) else
 if w==[108,111,110,103,101,115,116] then some (decide (64≤A.Rules.length),(Er Aaz).bind fun x=>.pure { A with Rules:=A.Rules++[x] }) else
 if w==[114,111,117,116,101] then some (decide (64≤A.Routes.length),(Er Acs).bind fun x=>.pure { A with Routes:=A.Routes++[x] }) else
 if w==[115,101,99,116,111,114] then some (decide (64≤A.Sectors.length),(Er Aca).bind fun x=>.pure { A with Sectors:=A.Sectors++[x] }) else
 if w==[115,101,103,109,101,110,116] then some (decide (128≤A.Segments.length),(Er Aci).bind fun x=>.pure { A with Segments:=A.Segments++[x] }) else
 if w==[118,111,108,117,109,101] then some (decide (64≤A.Volumes.length),(Er Ab8).bind fun x=>.pure { A with Volumes:=A.Volumes++[x] }) else
 if w==[119,101,105,103,104,116] then some (decide (64≤A.Rules.length),(Er Ach).bind fun x=>.pure { A with Rules:=A.Rules++[x] }) else
 none
def Ez (A:Airspace):Rd Airspace
 | []=>.error ([],80)
 | t::r=>if t.Kind==1 then(match Z7 t.Text A with
  | none=>.error (t::r,80)
  | some (f,p)=>if f then .error (t::r,2) else p r) else .error (t::r,80)
theorem Agk (w:Ay)(E:Int)(l:List Token)(v:List Volume):G2 w l E v=run E (Xe w l):=by
 unfold G2 Xe
 rw [Ai8]
 cases l with
 | nil=>rfl
 | cons t r=>
  show(if Sd 1 w t=true then _ else _)=run E ((if Sd 1 w t=true then(On 1 w).bind fun _=>F5 O1 15 [] else .pure []) (t::r))
  split
  ·refine J0 (Nt E w _) fun _ _=>?_
   rw [show(Fs 16 (List.drop 1 (t::r)) E v)=run E (F5 O1 15 [] (List.drop 1 (t::r))) from Agq E _ v]
   cases F5 O1 15 [] (List.drop 1 (t::r)) <;> rfl
  ·rfl
section
variable {α β:Type} {E:Int}
end
theorem App (s:Ay)(E:Int)(l:List Token)(v:List Volume):Fu s l E v=run E (Ab8 s l):=by
 unfold Fu Ab8
 exact S0 (Agk _ E l v) fun a r _=>rfl
theorem Ape (s:Ay)(E:Int)(l:List Token)(v:List Volume):Ft s l E v=run E (Aca s l):=by
 unfold Ft Aca
 refine J0 (Y6 E _ l) fun _ _=>S0 (X8 E 63 (by decide) _ v) fun ns r _=>?_
 exact J0 (Nt E _ r) fun _ _=>J0 (Oe E 0 64 _) fun a _=>J0 (Nt E _ _) fun _ _=>J0 (Oe E 0 a _) fun b _=>rfl
theorem Apk (s:Ay)(E:Int)(l:List Token)(v:List Volume):Fq s l E v=run E (Ace s l):=by
 unfold Fq Ace
 exact J0 (Y6 E _ l) fun _ _=>S0 (X8 E 63 (by decide) _ v) fun ns r _=>rfl
theorem Ao2 (s:Ay)(E:Int)(l:List Token)(v:List Volume):Fp s l E v=run E (Aci s l):=by
 unfold Fp Aci
 refine J0 (Nt E _ l) fun _ _=>J0 (S5 E _) fun a _=>J0 (Nt E _ _) fun _ _=>J0 (Oe E 1 4096 _) fun b _=>?_
 exact S0 (Agk _ E _ v) fun o r _=>rfl
theorem Apv (s:Ay)(E:Int)(l:List Token)(v:List Volume):Fm s l E v=run E (Acs s l):=by
 unfold Fm Acs
 refine J0 (Nt E _ l) fun _ _=>J0 (S5 E _) fun a _=>J0 (Nt E _ _) fun _ _=>J0 (S5 E _) fun b _=>J0 (Nt E _ _) fun _ _=>?_
 exact S0 (X8 E 7 (by decide) _ v) fun o r _=>rfl
theorem Apx (s:Ay)(E:Int)(l:List Token)(v:List Volume):Fv s l E v=run E (Acn s l):=by
 unfold Fv Acn
 exact S0 (Ahm E l v) fun ms r _=>rfl
theorem Aj9 (s:Ay)(E:Int)(l:List Token):Nc E 6 l (F2 s l E) (Ab7 s):=
 Ns (m:=5) rfl rfl (Nt E _ l) fun _ _=>Ns (m:=4) rfl rfl (Oe E 1 64 _) fun a _=>Ns (m:=3) rfl rfl (Nt E _ _) fun _ _=>Ns (m:=2) rfl rfl (Oe E a 64 _) fun b _=>
  Ns (m:=1) rfl rfl (Nt E _ _) fun _ _=>Ns (m:=0) rfl rfl (Oe E 1 8 _) fun b _=>Ry _
theorem Ad9 {α:Type}{E:Int}{k:Nat}{l:List Token}{x:R α}{p:Rd α}(h:Nc E k l x p):Nc E k l (x.bind fun r=>.ok r) p:=by rw [R.bind_ok]; exact h
theorem Aky (s:Ay)(E:Int)(l:List Token):Nc E 5 l (Ge s 1 l E) (Acc s):=
 Ad9<|Ns (m:=4) rfl rfl (Nt E _ l) fun _ _=>Ns (m:=3) rfl rfl (S5 E _) fun a _=>Ns (m:=0) rfl rfl (Aft E _) fun h _=>Ry _
theorem Ajp (s:Ay)(E:Int)(l:List Token):Nc E 1 l (Gc s 3 l E) (Ach s):=
 Ad9<|Ns (m:=0) rfl rfl (Oe E 1 8 l) fun _ _=>Ry _
theorem Aju (s:Ay)(E:Int)(l:List Token)(hl : ∀ t ∈ l,0≤t.N):Nc E 1 l (Gd s 4 l E) (Aaz s):=by
 have hn:Nc E 1 l ((Hi 2 l E).bind fun r=>.ok r.N) (Qk 0 60 10):=by
  have h:=Aap (E:=E) (l:=l) (fun t=>t.N) (Yw 2 (fun t=>decide (t.N≤60)&&(Int.tmod t.N 10==0)) l E _ rfl G6 (fun _=>rfl))
  have e:((Qq fun t=>t.Kind==2&&(decide (t.N≤60)&&(Int.tmod t.N 10==0))).bind fun t=>Rd.pure t.N) l=Qk 0 60 10 l:=by
   unfold Qk Rd.bind
   cases l with
   | nil=>rfl
   | cons t l=>
    have h0:decide (0≤t.N)=true:=decide_eq_true (hl t (List.mem_cons_self ..))
    simp only [Qq,Af2,h0,Bool.true_and]
  unfold Nc at h ⊢
  rw [e] at h
  exact h
 have:Nc E (1+0) l (((Hi 2 l E).bind fun r=>.ok r.N).bind fun n=>.ok (Wy 4 s [] n ⟨0,0⟩)) (Aaz s):=Ns rfl rfl hn fun _ _=>Ry _
 rw [R.bind_assoc] at this
 exact Ad9 this
section
variable {α β:Type} {E:Int}
theorem Ws {item:Ay→List Token→R (α×List Token)}{p:Ay→Rd α}(hi : ∀ s l,item s l=run E (p s l))(acc:List α)(sz:Nat)(h:(acc.length+1) * sz≤Db)(l:List Token) :
  ((Cg l E).bind fun r1=>(item r1 (l.drop 1)).bind fun r2=>(Cj [59] r2.2 E).bind fun _=>if(acc.length+[r2.1].length) * sz≤Db then R.ok ((r2.2.drop 1),acc++[r2.1]) else .bad)=(run E (Er p l)).bind fun x=>.ok (x.2,acc++[x.1]):=by
 have e:((Cg l E).bind fun r1=>(item r1 (l.drop 1)).bind fun r2=>(Cj [59] r2.2 E).bind fun _=>R.ok (r2.1,r2.2.drop 1))=run E (Er p l):=
  J0 (S5 E l) fun a _=>S0 (hi a _) fun x r _=>J0 (Y6 E _ r) fun _ _=>rfl
 rw [← e]
 simp only [R.bind_assoc,R.ok_bind,List.length_singleton,if_pos h]
theorem Sn {k:Nat}{item:Ay→R α}{p:Ay→Rd α}(acc:List α)(sz:Nat)(h:(acc.length+1) * sz≤Db)(l:List Token)(hi : ∀ s,Nc E k (l.drop 1) (item s) (p s)) :
  ((Cg l E).bind fun r1=>(item r1).bind fun r2=>(Cj [59] ((l.drop 1).drop k) E).bind fun _=>if(acc.length+[r2].length) * sz≤Db then R.ok (acc++[r2]) else .bad)=((run E (Er p l)).bind fun x=>.ok (acc++[x.1])) ∧ ∀ x r,Er p l=.ok (x,r)→r=l.drop (k+2):=by
 have e:Nc E (k+2) l ((Cg l E).bind fun r1=>(item r1).bind fun r2=>(Cj [59] ((l.drop 1).drop k) E).bind fun _=>R.ok r2) (Er p):=
  Ns (m:=k+1) (by omega) rfl (S5 E l) fun a _=>Ns (m:=1) rfl rfl (hi a) fun x _=>Ns (m:=0) rfl rfl (Y6 E _ _) fun _ _=>Ry _
 refine⟨?_,e.2⟩
 have e1:=congrArg (fun z=>R.bind z fun x=>R.ok (acc++[x])) e.1
 simp only [R.bind_assoc,R.ok_bind] at e1
 rw [← e1]
 simp only [List.length_singleton,if_pos h]
end
end Go.Am
namespace Go.Am
open Go
set_option linter.unusedVariables false
set_option linter.unusedSimpArgs false
theorem Anh (E:Int)(t:Token)(r:List Token)(v:List Volume)(acc:List Airport)(h:acc.length≤16):Jg (t::r) E v acc=if 16≤acc.length then .pan ⟨64,.two .i64 .i64 t.At 2⟩ else(run E (Er Acn r)).bind fun x=>.ok (x.2,acc++[x.1]):=by
 show(He 16 (t::r) E v acc).bind (fun r=>.ok r)=_
 rw [R.bind_ok]
 unfold He Hr
 by_cases hf:16≤acc.length
 ·have e:((acc.length:Int)==16)=true:=by rw [beq_iff_eq]; omega
  rw [if_pos hf]
  simp only [e,if_true,Kh,R.pan_bind]
  rfl
 ·have e:((acc.length:Int)==16)=false:=by rw [beq_eq_false_iff_ne]; omega
  have e1:(0:Int)≤1∧1≤((t::r).length:Int):=by simp only [List.length_cons]; omega
  rw [if_neg hf]
  simp only [e,Bool.false_eq_true,if_false,if_pos e1]
  exact Ws (E:=E) (item:=fun s l=>Fv s l E v) (fun s l=>Apx s E l v) acc 40 (by unfold Db; omega) r
theorem Anv (E:Int)(t:Token)(r:List Token)(acc:List Class)(h:acc.length≤8):I5 (t::r) E acc=if 8≤acc.length then .pan ⟨64,.two .i64 .i64 t.At 2⟩ else(run E (Er Ab7 r)).bind fun x=>.ok (acc++[x.1]):=by
 show(Ib 8 (t::r) E acc).bind (fun r=>.ok r)=_
 rw [R.bind_ok]
 unfold Ib Ip
 by_cases hf:8≤acc.length
 ·have e:((acc.length:Int)==8)=true:=by rw [beq_iff_eq]; omega
  rw [if_pos hf]
  simp only [e,if_true,Kh,R.pan_bind]
  rfl
 ·have e:((acc.length:Int)==8)=false:=by rw [beq_eq_false_iff_ne]; omega
  have e1:(0:Int)≤1∧1≤((t::r).length:Int):=by simp only [List.length_cons]; omega
  rw [if_neg hf]
  simp only [e,Bool.false_eq_true,if_false,if_pos e1]
  have q:=(Sn (E:=E) (k:=6) (item:=fun s=>F2 s (r.drop 1) E) acc 40 (by unfold Db; omega) r (fun s=>Aj9 s E _)).1
  have ee:Int.toNat 1=1:=rfl
  simp only [ee,List.drop_drop,Nat.reduceAdd] at q ⊢
  exact q
theorem An4 (E:Int)(t:Token)(r:List Token)(v:List Volume)(acc:List Config)(h:acc.length≤32):I3 (t::r) E v acc=if 32≤acc.length then .pan ⟨64,.two .i64 .i64 t.At 2⟩ else(run E (Er Ace r)).bind fun x=>.ok (x.2,acc++[x.1]):=by
 show(Hv 32 (t::r) E v acc).bind (fun r=>.ok r)=_
 rw [R.bind_ok]
 unfold Hv H8
 by_cases hf:32≤acc.length
 ·have e:((acc.length:Int)==32)=true:=by rw [beq_iff_eq]; omega
  rw [if_pos hf]
  simp only [e,if_true,Kh,R.pan_bind]
  rfl
 ·have e:((acc.length:Int)==32)=false:=by rw [beq_eq_false_iff_ne]; omega
  have e1:(0:Int)≤1∧1≤((t::r).length:Int):=by simp only [List.length_cons]; omega
  rw [if_neg hf]
  simp only [e,Bool.false_eq_true,if_false,if_pos e1]
  exact Ws (E:=E) (item:=fun s l=>Fq s l E v) (fun s l=>Apk s E l v) acc 64 (by unfold Db; omega) r
theorem Anz (E:Int)(t:Token)(r:List Token)(acc:List Rule)(h:acc.length≤64):Jf (t::r) E acc=if 64≤acc.length then .pan ⟨64,.two .i64 .i64 t.At 2⟩ else(run E (Er Acc r)).bind fun x=>.ok (acc++[x.1]):=by
 show((Iu 64 (t::r) E acc 1).bind (fun r=>.ok r)).bind (fun r=>.ok r)=_
 rw [R.bind_ok,R.bind_ok]
 unfold Iu Je
 by_cases hf:64≤acc.length
 ·have e:((acc.length:Int)==64)=true:=by rw [beq_iff_eq]; omega
  rw [if_pos hf]
  simp only [e,if_true,Kh,R.pan_bind]
  rfl
 ·have e:((acc.length:Int)==64)=false:=by rw [beq_eq_false_iff_ne]; omega
  have e1:(0:Int)≤1∧1≤((t::r).length:Int):=by simp only [List.length_cons]; omega
  rw [if_neg hf]
  simp only [e,Bool.false_eq_true,if_false,if_pos e1]
  have q:=(Sn (E:=E) (k:=5) (item:=fun s=>Ge s 1 (r.drop 1) E) acc 80 (by unfold Db; omega) r (fun s=>Aky s E _)).1
  have ee:Int.toNat 1=1:=rfl
  simp only [ee,List.drop_drop,Nat.reduceAdd] at q ⊢
  exact q
theorem Aor (E:Int)(t:Token)(r:List Token)(acc:List Rule)(h:acc.length≤64):Ja (t::r) E acc=if 64≤acc.length then .pan ⟨64,.two .i64 .i64 t.At 2⟩ else(run E (Er Aea r)).bind fun x=>.ok (acc++[x.1]):=by
 show((I0 64 (t::r) E acc 2).bind (fun r=>.ok r)).bind (fun r=>.ok r)=_
 rw [R.bind_ok,R.bind_ok]
 unfold I0 Jb
 by_cases hf:64≤acc.length
 ·have e:((acc.length:Int)==64)=true:=by rw [beq_iff_eq]; omega
  rw [if_pos hf]
  simp only [e,if_true,Kh,R.pan_bind]
  rfl
 ·have e:((acc.length:Int)==64)=false:=by rw [beq_eq_false_iff_ne]; omega
  have e1:(0:Int)≤1∧1≤((t::r).length:Int):=by simp only [List.length_cons]; omega
  rw [if_neg hf]
  simp only [e,Bool.false_eq_true,if_false,if_pos e1]
  exact(Sn (E:=E) (k:=0) (item:=fun s=>(Hh s 2).bind fun _=>.ok (Wy 2 s [] 0 ⟨0,0⟩)) acc 80 (by unfold Db; omega) r (fun s=>Ry _)).1
theorem Aog (E:Int)(t:Token)(r:List Token)(hl : ∀ x ∈ r,0≤x.N)(acc:List Rule)(h:acc.length≤64):Ik (t::r) E acc=if 64≤acc.length then .pan ⟨64,.two .i64 .i64 t.At 2⟩ else(run E (Er Aaz r)).bind fun x=>.ok (acc++[x.1]):=by
 show((I1 64 (t::r) E acc 4).bind (fun r=>.ok r)).bind (fun r=>.ok r)=_
 rw [R.bind_ok,R.bind_ok]
 unfold I1 Jc
 by_cases hf:64≤acc.length
 ·have e:((acc.length:Int)==64)=true:=by rw [beq_iff_eq]; omega
  rw [if_pos hf]
  simp only [e,if_true,Kh,R.pan_bind]
  rfl
 ·have e:((acc.length:Int)==64)=false:=by rw [beq_eq_false_iff_ne]; omega
  have e1:(0:Int)≤1∧1≤((t::r).length:Int):=by simp only [List.length_cons]; omega
  rw [if_neg hf]
  simp only [e,Bool.false_eq_true,if_false,if_pos e1]
  have q:=(Sn (E:=E) (k:=1) (item:=fun s=>Gd s 4 (r.drop 1) E) acc 80 (by unfold Db; omega) r (fun s=>Aju s E _ (fun x hx=>hl x (List.mem_of_mem_drop hx)))).1
  have ee:Int.toNat 1=1:=rfl
  simp only [ee,List.drop_drop,Nat.reduceAdd] at q ⊢
  exact q
theorem Aod (E:Int)(t:Token)(r:List Token)(v:List Volume)(acc:List Route)(h:acc.length≤64):I4 (t::r) E v acc=if 64≤acc.length then .pan ⟨64,.two .i64 .i64 t.At 2⟩ else(run E (Er Acs r)).bind fun x=>.ok (x.2,acc++[x.1]):=by
 show(Ic 64 (t::r) E v acc).bind (fun r=>.ok r)=_
 rw [R.bind_ok]
 unfold Ic Im
 by_cases hf:64≤acc.length
 ·have e:((acc.length:Int)==64)=true:=by rw [beq_iff_eq]; omega
  rw [if_pos hf]
  simp only [e,if_true,Kh,R.pan_bind]
  rfl
 ·have e:((acc.length:Int)==64)=false:=by rw [beq_eq_false_iff_ne]; omega
  have e1:(0:Int)≤1∧1≤((t::r).length:Int):=by simp only [List.length_cons]; omega
  rw [if_neg hf]
  simp only [e,Bool.false_eq_true,if_false,if_pos e1]
  exact Ws (E:=E) (item:=fun s l=>Fm s l E v) (fun s l=>Apv s E l v) acc 112 (by unfold Db; omega) r
theorem Ans (E:Int)(t:Token)(r:List Token)(v:List Volume)(acc:List Sector)(h:acc.length≤64):I7 (t::r) E v acc=if 64≤acc.length then .pan ⟨64,.two .i64 .i64 t.At 2⟩ else(run E (Er Aca r)).bind fun x=>.ok (x.2,acc++[x.1]):=by
 show(Hw 64 (t::r) E v acc).bind (fun r=>.ok r)=_
 rw [R.bind_ok]
 unfold Hw H6
 by_cases hf:64≤acc.length
 ·have e:((acc.length:Int)==64)=true:=by rw [beq_iff_eq]; omega
  rw [if_pos hf]
  simp only [e,if_true,Kh,R.pan_bind]
  rfl
 ·have e:((acc.length:Int)==64)=false:=by rw [beq_eq_false_iff_ne]; omega
  have e1:(0:Int)≤1∧1≤((t::r).length:Int):=by simp only [List.length_cons]; omega
  rw [if_neg hf]
  simp only [e,Bool.false_eq_true,if_false,if_pos e1]
  exact Ws (E:=E) (item:=fun s l=>Ft s l E v) (fun s l=>Ape s E l v) acc 80 (by unfold Db; omega) r
theorem Anq (E:Int)(t:Token)(r:List Token)(v:List Volume)(acc:List Segment)(h:acc.length≤128):Jd (t::r) E v acc=if 128≤acc.length then .pan ⟨64,.two .i64 .i64 t.At 2⟩ else(run E (Er Aci r)).bind fun x=>.ok (x.2,acc++[x.1]):=by
 show(Hd 128 (t::r) E v acc).bind (fun r=>.ok r)=_
 rw [R.bind_ok]
 unfold Hd Hn
 by_cases hf:128≤acc.length
 ·have e:((acc.length:Int)==128)=true:=by rw [beq_iff_eq]; omega
  rw [if_pos hf]
  simp only [e,if_true,Kh,R.pan_bind]
  rfl
 ·have e:((acc.length:Int)==128)=false:=by rw [beq_eq_false_iff_ne]; omega
  have e1:(0:Int)≤1∧1≤((t::r).length:Int):=by simp only [List.length_cons]; omega
  rw [if_neg hf]
  simp only [e,Bool.false_eq_true,if_false,if_pos e1]
  exact Ws (E:=E) (item:=fun s l=>Fp s l E v) (fun s l=>Ao2 s E l v) acc 72 (by unfold Db; omega) r
theorem An0 (E:Int)(t:Token)(r:List Token)(acc:List Volume)(h:acc.length≤64):I8 (t::r) E acc=if 64≤acc.length then .pan ⟨64,.two .i64 .i64 t.At 2⟩ else(run E (Er Ab8 r)).bind fun x=>.ok (x.2,acc++[x.1]):=by
 show(Hu 64 (t::r) E acc).bind (fun r=>.ok r)=_
 rw [R.bind_ok]
 unfold Hu Ia
 by_cases hf:64≤acc.length
 ·have e:((acc.length:Int)==64)=true:=by rw [beq_iff_eq]; omega
  rw [if_pos hf]
  simp only [e,if_true,Kh,R.pan_bind]
  rfl
 ·have e:((acc.length:Int)==64)=false:=by rw [beq_eq_false_iff_ne]; omega
  have e1:(0:Int)≤1∧1≤((t::r).length:Int):=by simp only [List.length_cons]; omega
  rw [if_neg hf]
  simp only [e,Bool.false_eq_true,if_false,if_pos e1]
  exact Ws (E:=E) (item:=fun s l=>Fu s l E acc) (fun s l=>App s E l acc) acc 40 (by unfold Db; omega) r
theorem Aov (E:Int)(t:Token)(r:List Token)(acc:List Rule)(h:acc.length≤64):Ig (t::r) E acc=if 64≤acc.length then .pan ⟨64,.two .i64 .i64 t.At 2⟩ else(run E (Er Ach r)).bind fun x=>.ok (acc++[x.1]):=by
 show((Iw 64 (t::r) E acc 3).bind (fun r=>.ok r)).bind (fun r=>.ok r)=_
 rw [R.bind_ok,R.bind_ok]
 unfold Iw I6
 by_cases hf:64≤acc.length
 ·have e:((acc.length:Int)==64)=true:=by rw [beq_iff_eq]; omega
  rw [if_pos hf]
  simp only [e,if_true,Kh,R.pan_bind]
  rfl
 ·have e:((acc.length:Int)==64)=false:=by rw [beq_eq_false_iff_ne]; omega
  have e1:(0:Int)≤1∧1≤((t::r).length:Int):=by simp only [List.length_cons]; omega
  rw [if_neg hf]
  simp only [e,Bool.false_eq_true,if_false,if_pos e1]
  have q:=(Sn (E:=E) (k:=1) (item:=fun s=>Gc s 3 (r.drop 1) E) acc 80 (by unfold Db; omega) r (fun s=>Ajp s E _)).1
  have ee:Int.toNat 1=1:=rfl
  simp only [ee,List.drop_drop,Nat.reduceAdd] at q ⊢
  exact q
end Go.Am
namespace Go.Am
open Go
set_option linter.unusedVariables false
set_option linter.unusedSimpArgs false
def tup (x:Airspace×List Token):List Token×List Volume×List Sector×List Config×List Segment×List Route×List Airport×List Class×List Rule:=
 (x.2,x.1.Volumes,x.1.Sectors,x.1.Configs,x.1.Segments,x.1.Routes,x.1.Airports,x.1.Classes,x.1.Rules)
def Za (A:Airspace):Prop:=A.Volumes.length≤64∧A.Sectors.length≤64∧A.Configs.length≤32∧A.Segments.length≤128∧A.Routes.length≤64∧A.Airports.length≤16∧A.Classes.length≤8∧A.Rules.length≤64
section
variable {α β:Type} {E:Int} {t:Token} {r:List Token} {acc:List α} {c:Prop} [Decidable c] {p:Ay→Rd α} {upd:α→Airspace}
theorem Ub {x:R (List Token×List α)}{F:List Token×List α→R (List Token×List Volume×List Sector×List Config×List Segment×List Route×List Airport×List Class×List Rule)}
  (hx:x=if c then .pan ⟨64,.two .i64 .i64 t.At 2⟩ else(run E (Er p r)).bind fun y=>.ok (y.2,acc++[y.1])) (hF : ∀ y l,F (l,acc++[y])=.ok (tup (upd y,l))) :
  x.bind F=(run E (if decide c=true then .error (t::r,2) else((Er p).bind fun y=>.pure (upd y)) r)).bind fun z=>.ok (tup z):=by
 subst hx
 by_cases hc:c
 ·rw [if_pos hc,if_pos (decide_eq_true hc)]; rfl
 ·rw [if_neg hc,if_neg (by simpa using hc)]
  unfold Rd.bind
  cases Er p r with
  | error e=>rfl
  | ok y=>exact hF _ _
theorem Yz {m:Nat}{x:R (List α)}{F:List α→R (List Token×List Volume×List Sector×List Config×List Segment×List Route×List Airport×List Class×List Rule)}
  (hx:x=if c then .pan ⟨64,.two .i64 .i64 t.At 2⟩ else(run E (Er p r)).bind fun y=>.ok (acc++[y.1])) (hr : ∀ y q,Er p r=.ok (y,q)→q=r.drop m) (hF : ∀ y,F (acc++[y])=.ok (tup (upd y,r.drop m))) :
  x.bind F=(run E (if decide c=true then .error (t::r,2) else((Er p).bind fun y=>.pure (upd y)) r)).bind fun z=>.ok (tup z):=by
 subst hx
 by_cases hc:c
 ·rw [if_pos hc,if_pos (decide_eq_true hc)]; rfl
 ·rw [if_neg hc,if_neg (by simpa using hc)]
  unfold Rd.bind
  cases h:Er p r with
  | error e=>rfl
  | ok y=>
   obtain⟨y,q⟩:=y
   have:=hr y q h
   subst this
   exact hF _
end
theorem Ald (r:List Token) : ∀ x q,Er Ab7 r=.ok (x,q)→q=r.drop 8:=
 (Sn (E:=0) (k:=6) (item:=fun s=>F2 s (r.drop 1) 0) ([]:List Class) 80 (by decide) r (fun s=>Aj9 s 0 _)).2
theorem Alw (r:List Token) : ∀ x q,Er Acc r=.ok (x,q)→q=r.drop 7:=
 (Sn (E:=0) (k:=5) (item:=fun s=>Ge s 1 (r.drop 1) 0) ([]:List Rule) 80 (by decide) r (fun s=>Aky s 0 _)).2
theorem Ali (r:List Token) : ∀ x q,Er Aea r=.ok (x,q)→q=r.drop 2:=
 (Sn (E:=0) (k:=0) (item:=fun s=>(Hh s 2).bind fun _=>.ok (Wy 2 s [] 0 ⟨0,0⟩)) ([]:List Rule) 80 (by decide) r (fun s=>Ry _)).2
theorem Al9 (r:List Token)(hl : ∀ x ∈ r,0≤x.N) : ∀ x q,Er Aaz r=.ok (x,q)→q=r.drop 3:=
 (Sn (E:=0) (k:=1) (item:=fun s=>Gd s 4 (r.drop 1) 0) ([]:List Rule) 80 (by decide) r (fun s=>Aju s 0 _ (fun x hx=>hl x (List.mem_of_mem_drop hx)))).2
theorem Alb (r:List Token) : ∀ x q,Er Ach r=.ok (x,q)→q=r.drop 3:=
 (Sn (E:=0) (k:=1) (item:=fun s=>Gc s 3 (r.drop 1) 0) ([]:List Rule) 80 (by decide) r (fun s=>Ajp s 0 _)).2
theorem Am9 (E:Int)(A:Airspace)(hA:Za A)(t:Token)(r:List Token)(hl : ∀ x ∈ r,0≤x.N):F7 (t::r) E A.Volumes A.Sectors A.Configs A.Segments A.Routes A.Airports A.Classes A.Rules=(run E (Ez A (t::r))).bind fun x=>.ok (tup x):=by
 obtain⟨hVolumes,hSectors,hConfigs,hSegments,hRoutes,hAirports,hClasses,hRules⟩:=hA
 have e:C0 (t::r) 0=.ok t:=rfl
 have e1:Ez A (t::r)=(if(t.Kind==1)=true then(match Z7 t.Text A with | none=>.error (t::r,80) | some (f,p)=>if f=true then .error (t::r,2) else p r) else .error (t::r,80)):=rfl
 rw [e1]
 unfold F7 Z7
 rw [e,R.ok_bind]
 by_cases hk:(t.Kind==1)=true
 ·rw [if_pos hk,if_pos hk]
  by_cases hair:(t.Text==[97,105,114,112,111,114,116])=true
  ·rw [if_pos hair,if_pos hair]
   exact Ub (upd:=fun x=>{ A with Airports:=A.Airports++[x] }) (Anh E t r A.Volumes A.Airports hAirports) (fun _ _=>rfl)
  rw [if_neg hair,if_neg hair]
  by_cases hcla:(t.Text==[99,108,97,115,115])=true
  ·rw [if_pos hcla,if_pos hcla]
   exact Yz (upd:=fun x=>{ A with Classes:=A.Classes++[x] }) (Anv E t r A.Classes hClasses) (Ald r) (fun _=>by simp only [show Int.toNat 1=1 from rfl,List.drop_drop,Nat.reduceAdd]; rfl)
  rw [if_neg hcla,if_neg hcla]
  by_cases hcon:(t.Text==[99,111,110,102,105,103])=true
  ·rw [if_pos hcon,if_pos hcon]
   exact Ub (upd:=fun x=>{ A with Configs:=A.Configs++[x] }) (An4 E t r A.Volumes A.Configs hConfigs) (fun _ _=>rfl)
  rw [if_neg hcon,if_neg hcon]
  by_cases hcur:(t.Text==[99,117,114,102,101,119])=true
  ·rw [if_pos hcur,if_pos hcur]
   exact Yz (upd:=fun x=>{ A with Rules:=A.Rules++[x] }) (Anz E t r A.Rules hRules) (Alw r) (fun _=>by simp only [show Int.toNat 1=1 from rfl,List.drop_drop,Nat.reduceAdd]; rfl)
  rw [if_neg hcur,if_neg hcur]
  by_cases hexe:(t.Text==[101,120,101,109,112,116])=true
  ·rw [if_pos hexe,if_pos hexe]
   exact Yz (upd:=fun x=>{ A with Rules:=A.Rules++[x] }) (Aor E t r A.Rules hRules) (Ali r) (fun _=>by simp only [show Int.toNat 1=1 from rfl,List.drop_drop,Nat.reduceAdd]; rfl)
  rw [if_neg hexe,if_neg hexe]
  by_cases hlon:(t.Text==[108,111,110,103,101,115,116])=true
  ·rw [if_pos hlon,if_pos hlon]
   exact Yz (upd:=fun x=>{ A with Rules:=A.Rules++[x] }) (Aog E t r hl A.Rules hRules) (Al9 r hl) (fun _=>by simp only [show Int.toNat 1=1 from rfl,List.drop_drop,Nat.reduceAdd]; rfl)
  rw [if_neg hlon,if_neg hlon]
  by_cases hrou:(t.Text==[114,111,117,116,101])=true
  ·rw [if_pos hrou,if_pos hrou]
   exact Ub (upd:=fun x=>{ A with Routes:=A.Routes++[x] }) (Aod E t r A.Volumes A.Routes hRoutes) (fun _ _=>rfl)
  rw [if_neg hrou,if_neg hrou]
  by_cases hsec:(t.Text==[115,101,99,116,111,114])=true
  ·rw [if_pos hsec,if_pos hsec]
   exact Ub (upd:=fun x=>{ A with Sectors:=A.Sectors++[x] }) (Ans E t r A.Volumes A.Sectors hSectors) (fun _ _=>rfl)
  rw [if_neg hsec,if_neg hsec]
  by_cases hseg:(t.Text==[115,101,103,109,101,110,116])=true
  ·rw [if_pos hseg,if_pos hseg]
   exact Ub (upd:=fun x=>{ A with Segments:=A.Segments++[x] }) (Anq E t r A.Volumes A.Segments hSegments) (fun _ _=>rfl)
  rw [if_neg hseg,if_neg hseg]
  by_cases hvol:(t.Text==[118,111,108,117,109,101])=true
  ·rw [if_pos hvol,if_pos hvol]
   exact Ub (upd:=fun x=>{ A with Volumes:=A.Volumes++[x] }) (An0 E t r A.Volumes hVolumes) (fun _ _=>rfl)
  rw [if_neg hvol,if_neg hvol]
  by_cases hwei:(t.Text==[119,101,105,103,104,116])=true
  ·rw [if_pos hwei,if_pos hwei]
   exact Yz (upd:=fun x=>{ A with Rules:=A.Rules++[x] }) (Aov E t r A.Rules hRules) (Alb r) (fun _=>by simp only [show Int.toNat 1=1 from rfl,List.drop_drop,Nat.reduceAdd]; rfl)
  rw [if_neg hwei,if_neg hwei]
  unfold Fl
  rw [Aid]; rfl
 ·rw [if_neg hk,if_neg hk]
  unfold Fl
  rw [Aid]; rfl
end Go.Am
namespace Go.Am
open Go
set_option linter.unusedVariables false
set_option linter.unusedSimpArgs false
def Lb {α:Type}(p:Rd α):Prop := ∀ l a q,p l=.ok (a,q)→q <:+ l
section
variable {α β:Type}
theorem Cx {p:Rd α}{f:α→Rd β}(hp:Lb p)(hf : ∀ a,Lb (f a)):Lb (p.bind f):=fun l b q h=>by
 obtain⟨a,m,h1,h2⟩:=Ajf h
 exact(hf a m b q h2).trans (hp l a m h1)
theorem Gq (a:α):Lb (Rd.pure a):=fun l b q h=>by cases h; exact List.suffix_refl _
theorem Ame (e:Int):Lb (Rd.fail e:Rd α):=fun l b q h=>nomatch h
theorem Aeb (q:Token→Bool):Lb (Qq q):=fun l a r h=>by
 obtain⟨rfl,_⟩:=Aif h
 exact List.suffix_cons _ _
theorem Ag8 (k:Int)(w:Ay):Lb (Xv k w):=fun l a r h=>by
 cases l with
 | nil=>cases h; exact List.suffix_refl _
 | cons t l=>cases h; exact List.suffix_refl _
theorem Qs:Lb Po:=Cx (Aeb _) fun _=>Gq _
theorem Mc (k:Int)(w:Ay):Lb (On k w):=Cx (Aeb _) fun _=>Gq _
theorem Pu (a b c:Int):Lb (Qk a b c):=Cx (Aeb _) fun _=>Gq _
theorem Aey:Lb O1:=Cx (Pu _ _ _) fun _=>Cx (Mc _ _) fun _=>Cx (Pu _ _ _) fun _=>Gq _
theorem Rx {p:Rd α}(hp:Lb p) : ∀ (n:Nat) (acc:List α),Lb (F5 p n acc)
 | 0,acc=>by
  rw [F5]
  refine Cx hp fun a=>Cx (Ag8 _ _) fun b=>?_
  cases b
  ·exact Gq _
  ·exact Ame _
 | n+1,acc=>by
  rw [F5]
  refine Cx hp fun a=>Cx (Ag8 _ _) fun b=>?_
  cases b
  ·exact Gq _
  ·exact Cx (Mc _ _) fun _=>Rx hp n _
theorem Afa (w:Ay):Lb (Xe w):=Cx (Ag8 _ _) fun b=>by
 cases b
 ·exact Gq _
 ·exact Cx (Mc _ _) fun _=>Rx Aey _ _
theorem Amt:Lb W1:=Cx (Mc _ _) fun _=>Cx Qs fun _=>Cx (Pu _ _ _) fun _=>Gq _
theorem Aoo (s:Ay):Lb (Ab8 s):=Cx (Afa _) fun _=>Gq _
theorem Ana (s:Ay):Lb (Aca s):=Cx (Mc _ _) fun _=>Cx (Rx Qs _ _) fun _=>Cx (Mc _ _) fun _=>Cx (Pu _ _ _) fun _=>Cx (Mc _ _) fun _=>Cx (Pu _ _ _) fun _=>Gq _
theorem Anp (s:Ay):Lb (Ace s):=Cx (Mc _ _) fun _=>Cx (Rx Qs _ _) fun _=>Gq _
theorem Aon (s:Ay):Lb (Aci s):=Cx (Mc _ _) fun _=>Cx Qs fun _=>Cx (Mc _ _) fun _=>Cx (Pu _ _ _) fun _=>Cx (Afa _) fun _=>Gq _
theorem An1 (s:Ay):Lb (Acs s):=Cx (Mc _ _) fun _=>Cx Qs fun _=>Cx (Mc _ _) fun _=>Cx Qs fun _=>Cx (Mc _ _) fun _=>Cx (Rx Qs _ _) fun _=>Gq _
theorem Aom (s:Ay):Lb (Acn s):=Cx (Rx Amt _ _) fun _=>Gq _
theorem Am6 (s:Ay):Lb (Ab7 s):=Cx (Mc _ _) fun _=>Cx (Pu _ _ _) fun _=>Cx (Mc _ _) fun _=>Cx (Pu _ _ _) fun _=>Cx (Mc _ _) fun _=>Cx (Pu _ _ _) fun _=>Gq _
theorem Anr (s:Ay):Lb (Acc s):=Cx (Mc _ _) fun _=>Cx Qs fun _=>Cx Aey fun _=>Gq _
theorem Aob (s:Ay):Lb (Aea s):=Gq _
theorem Ani (s:Ay):Lb (Ach s):=Cx (Pu _ _ _) fun _=>Gq _
theorem Aow (s:Ay):Lb (Aaz s):=Cx (Pu _ _ _) fun _=>Gq _
theorem Anx {p:Ay→Rd α}(hp : ∀ s,Lb (p s)):Lb (Er p):=Cx Qs fun s=>Cx (hp s) fun _=>Cx (Mc _ _) fun _=>Gq _
end
theorem Ok {c:Prop}[Decidable c]{α:Type}{a b:Option α}{y:α}(h:(if c then a else b)=some y):a=some y∨b=some y:=by
 by_cases hc:c
 ·rw [if_pos hc] at h; exact .inl h
 ·rw [if_neg hc] at h; exact .inr h
theorem Anu {w:Ay}{A:Airspace}{f:Bool}{p:Rd Airspace}(h:Z7 w A=some (f,p)):Lb p∧(Za A→f=false → ∀ l B q,p l=.ok (B,q)→Za B):=by
 unfold Z7 at h
 refine(Ok h).elim (fun h=>?_) (fun h=>(Ok h).elim (fun h=>?_) (fun h=>(Ok h).elim (fun h=>?_) (fun h=>(Ok h).elim (fun h=>?_) (fun h=>(Ok h).elim (fun h=>?_) (fun h=>(Ok h).elim (fun h=>?_) (fun h=>(Ok h).elim (fun h=>?_) (fun h=>(Ok h).elim (fun h=>?_) (fun h=>(Ok h).elim (fun h=>?_) (fun h=>(Ok h).elim (fun h=>?_) (fun h=>(Ok h).elim (fun h=>?_) (fun h=>nomatch h)))))))))))
 all_goals
  cases h
  refine⟨Cx (Anx (by first | exact Aom | exact Am6 | exact Anp | exact Anr | exact Aob | exact Aow | exact An1 | exact Ana | exact Aon | exact Aoo | exact Ani)) fun _=>Gq _,fun hF hf l B q hB=>?_⟩
  obtain⟨x,m,_,h2⟩:=Ajf hB
  cases h2
  obtain⟨h1,h2,h3,h4,h5,h6,h7,h8⟩:=hF
  have hf:=of_decide_eq_false hf
  refine⟨?_,?_,?_,?_,?_,?_,?_,?_⟩ <;> first | assumption | (simp only [List.length_append,List.length_singleton]; omega)
theorem Af7 {A:Airspace}{t:Token}{r:List Token}{B:Airspace}{q:List Token}(hA:Za A)(h:Ez A (t::r)=.ok (B,q)):Za B∧q <:+ r:=by
 simp only [Ez] at h
 split at h
 ·cases hi:Z7 t.Text A with
  | none=>rw [hi] at h; cases h
  | some x=>
   obtain⟨f,p⟩:=x
   rw [hi] at h
   simp only at h
   cases f
   ·obtain⟨h1,h2⟩:=Anu hi
    exact⟨h2 hA rfl r B q h,h1 r B q h⟩
   ·cases h
 ·cases h
def Aa1:Nat→Airspace→List Token→Except (List Token×Int) Airspace
 | _,A,[]=>.ok A
 | 0,A,t::r=>.error (t::r,0)
 | n+1,A,t::r=>match Ez A (t::r) with
  | .error e=>.error e
  | .ok (B,q)=>Aa1 n B q
def noA:Airspace:={ Volumes:=[],Sectors:=[],Configs:=[],Segments:=[],Routes:=[],Airports:=[],Classes:=[],Rules:=[] }
def Agp (l:List Token):Except (List Token×Int) Airspace:=Aa1 l.length noA l
def ps (A:Airspace)(l:List Token):=(l,A.Airports,A.Classes,A.Configs,A.Rules,A.Routes,A.Sectors,A.Segments,A.Volumes)
theorem Ai5 (src:Ay) : ∀ (n:Nat) (A:Airspace) (l:List Token),l.length≤n→Za A→(∀ x ∈ l,0≤x.N) →
  loop (Xb fun fL l l1 l2 l3 l4 l5 l6 l7=>Js src fL l l1 l2 l3 l4 l5 l6 l7) (ps A l)=match Aa1 n A l with
   | .ok B=>.ok (ps B [])
   | .error (q,e)=>.pan ⟨64,.two .i64 .i64 (Yf (src.length:Int) q) e⟩:=by
 intro n
 induction n with
 | zero=>
  intro A l hl hA hN
  have:l=[]:=List.length_eq_zero_iff.1 (by omega)
  subst this
  rw [Jz]; rfl
 | succ n ih=>
  intro A l hl hA hN
  rw [Jz]
  cases l with
  | nil=>rfl
  | cons t r=>
   have e1:((t::r).length:Int) > 0:=by simp only [List.length_cons]; omega
   have hb:(Xb fun fL l l1 l2 l3 l4 l5 l6 l7=>Js src fL l l1 l2 l3 l4 l5 l6 l7) (ps A (t::r))=(run (src.length:Int) (Ez A (t::r))).bind fun x=>.ok (.inl (ps x.1 x.2)):=by
    show Js src (t::r) A.Airports A.Classes A.Configs A.Rules A.Routes A.Sectors A.Segments A.Volumes=_
    unfold Js
    rw [if_pos e1,Am9 _ A hA t r fun x hx=>hN x (List.mem_cons_of_mem _ hx),R.bind_assoc]
    rfl
   rw [hb,Aa1]
   cases hd:Ez A (t::r) with
   | error e=>rfl
   | ok y=>
    obtain⟨B,q⟩:=y
    obtain⟨hB,hq⟩:=Af7 hA hd
    exact ih B q (by have:=hq.length_le; simp only [List.length_cons] at hl; omega) hB fun x hx=>hN x (List.mem_cons_of_mem _ (hq.subset hx))
def Aqt (E:Int):Except (List Token×Int) Airspace→Airspace×Int×Int
 | .ok A=>(A,0,0)
 | .error (q,e)=>(noA,Yf E q,e)
def Ua (s:Ay):Airspace×Int×Int:=if(Gm s).2.2=0 then Aqt (s.length:Int) (Agp (Gm s).1) else(noA,(Gm s).2.1,(Gm s).2.2)
theorem Al5 {s:Ay}(hN : ∀ x ∈ (Gm s).1,0≤x.N):J5 s=.ok (Ua s):=by
 unfold J5 R5 Ua
 rw [Apj,show(R.ok (Gm s)).np=R.ok (Gm s) from rfl,R.ok_bind]
 by_cases h:(Gm s).2.2=0
 ·rw [if_pos h,show((Gm s).2.2 != 0)=false by rw [h]; rfl]
  have:=Ai5 s _ noA (Gm s).1 (Nat.le_refl _) ⟨by decide,by decide,by decide,by decide,by decide,by decide,by decide,by decide⟩ hN
  simp only [Bool.false_eq_true,if_false]
  rw [show((Gm s).1,([]:List Airport),([]:List Class),([]:List Config),([]:List Rule),([]:List Route),([]:List Sector),([]:List Segment),([]:List Volume))=ps noA (Gm s).1 from rfl,this]
  unfold Agp
  cases Aa1 (Gm s).1.length noA (Gm s).1 with
  | ok B=>rfl
  | error x=>rfl
 ·rw [if_neg h,if_pos (by simpa using h)]; rfl
end Go.Am
namespace Go.Am
open Go
set_option linter.unusedVariables false
set_option linter.unusedSimpArgs false
def Dt (L:List Token)(n:Nat)(E:Int):T69:={ L:=L,N:=n,End:=E,E:=0,At:=0 }
def P2 {α β:Type}(E:Int)(L:List Token)(mk:α→T69→β)(sf:β→T69)(x:PR α)(y:R β):Prop:=match x with
 | .ok (a,r) => ∃ n:Nat,n≤L.length∧L.drop n=r∧y=.ok (mk a (Dt L n E))
 | .error (r,e)=>e≠0 ∧ ∃ b,y=.ok b∧(sf b).E=e∧(sf b).At=Yf E r
abbrev Ref {α:Type}(E:Int)(L:List Token)(x:PR α)(y:R (α×T69)):Prop:=P2 E L Prod.mk Prod.snd x y
abbrev Afp (E:Int)(L:List Token)(x:PR Unit)(y:R T69):Prop:=P2 E L (fun _ q=>q) id x y
section
variable {α β γ δ:Type} {E:Int} {L:List Token} {mk:α→T69→β} {sf:β→T69} {mk':γ→T69→δ} {sf':δ→T69}
theorem Ce {l:List Token}{p:Rd α}{k:α→Rd γ}{y:R β}{F:β→R δ}(h:P2 E L mk sf (p l) y)(hk : ∀ a n,n≤L.length→p l=.ok (a,L.drop n)→P2 E L mk' sf' (k a (L.drop n)) (F (mk a (Dt L n E))))
  (hd : ∀ b,(sf b).E≠0 → ∃ c,F b=.ok c∧sf' c=sf b):P2 E L mk' sf' ((p.bind k) l) (y.bind F):=by
 unfold Rd.bind
 cases hp:p l with
 | error x=>
  obtain⟨r,e⟩:=x
  rw [hp] at h
  obtain⟨h1,b,rfl,h2,h3⟩:=h
  obtain⟨c,hc,hs⟩:=hd b (by rw [h2]; exact h1)
  refine⟨h1,c,?_,by rw [hs]; exact h2,by rw [hs]; exact h3⟩
  rw [R.ok_bind]; exact hc
 | ok x=>
  obtain⟨a,r⟩:=x
  rw [hp] at h
  obtain⟨n,hn,rfl,rfl⟩:=h
  rw [R.ok_bind]
  exact hk a n hn hp
theorem Mj {n:Nat}(hn:n≤L.length)(a:α):P2 E L mk sf (Rd.pure a (L.drop n)) (.ok (mk a (Dt L n E))):=⟨n,hn,rfl,rfl⟩
theorem Qw (L:List Token){n:Nat}(hn:n≤L.length):(L.drop n=[]∧n=L.length) ∨ ∃ t,L.drop n=t::L.drop (n+1)∧n<L.length∧C0 L (n:Int)=.ok t:=by
 rcases Nat.lt_or_eq_of_le hn with h | h
 ·refine .inr ⟨L[n],List.drop_eq_getElem_cons h,h,?_⟩
  simp [C0,h]
 ·exact .inl ⟨by rw [h,List.drop_length],h⟩
end
section
variable {E:Int} {L:List Token} (hL:L.length≤65536)
theorem Acb {α:Type}(q:Token→Bool)(f:Token→α)(t:Token)(r:List Token):((Qq q).bind fun t=>.pure (f t)) (t::r)=if q t=true then .ok (f t,r) else .error (t::r,80):=by
 by_cases h:q t=true
 ·rw [if_pos h]; simp only [Rd.bind,Qq,h,if_true]; rfl
 ·rw [if_neg h]; simp only [Rd.bind,Qq,h]; rfl
theorem Acj (k:Int)(w:Ay)(t:Token)(r:List Token):On k w (t::r)=if Sd k w t=true then .ok ((),r) else .error (t::r,80):=Acb _ _ t r
theorem Ajj (t:Token)(r:List Token):Po (t::r)=if(t.Kind==1)=true then .ok (t.Text,r) else .error (t::r,80):=Acb _ _ t r
theorem Aj0 (lo hi st:Int)(t:Token)(r:List Token):Qk lo hi st (t::r)=if Af2 lo hi st t=true then .ok (t.N,r) else .error (t::r,80):=Acb _ _ t r
theorem Aei {q:T69}(hq:q.E≠0)(k:Int)(w:Ay):F1 q k w=.ok false:=by
 unfold F1
 rw [show(q.E==0)=false by simpa using hq]
 rfl
theorem Aa8 {q:T69}(hq:q.E≠0)(e:Int):F4 q e=.ok q:=by
 unfold F4
 rw [if_pos (by simpa using hq)]
theorem Acw {n:Nat}(hn:n≤L.length)(k:Int)(w:Ay):F1 (Dt L n E) k w=.ok (match L.drop n with | []=>false | t::_=>Sd k w t):=by
 unfold F1
 rcases Qw L hn with⟨h1,h2⟩ | ⟨t,h1,h2,h3⟩
 ·rw [h1]
  have:decide ((Dt L n E).N<((Dt L n E).L.length:Int))=false:=by simp [Dt,h2]
  rw [this]; rfl
 ·rw [h1]
  have:decide ((Dt L n E).N<((Dt L n E).L.length:Int))=true:=by simp [Dt,h2]
  rw [this,show C0 (Dt L n E).L (Dt L n E).N=.ok t from h3]
  show((R.ok (t.Kind==k)).bind fun b=>_)=_
  rw [R.ok_bind]
  show((if(t.Kind==k)=true then(R.ok t).bind fun a1=>R.ok (a1.Text==w) else R.ok false).bind fun b1=>R.ok b1)=R.ok (t.Kind==k&&t.Text==w)
  by_cases hk:t.Kind=k
  ·rw [show(t.Kind==k)=true by simp [hk]]; rfl
  ·rw [show(t.Kind==k)=false by simp [hk]]; rfl
theorem Jk {n:Nat}(hn:n≤L.length)(e:Int) : ∃ q,F4 (Dt L n E) e=.ok q∧q.E=e∧q.At=Yf E (L.drop n):=by
 unfold F4
 rw [show((Dt L n E).E != 0)=false from rfl]
 rcases Qw L hn with⟨h1,h2⟩ | ⟨t,h1,h2,h3⟩
 ·rw [if_neg (by simp),if_neg (by simp [Dt,h2]),h1]
  exact⟨_,rfl,rfl,rfl⟩
 ·rw [if_neg (by simp),if_pos (by simp [Dt,h2]),show C0 (Dt L n E).L (Dt L n E).N=.ok t from h3,h1]
  exact⟨_,rfl,rfl,rfl⟩
include hL
theorem Mn {n:Nat}(hn:n<L.length):({ L:=(Dt L n E).L,N:=(IntKind.wrap .i64 ((Dt L n E).N+1)),End:=(Dt L n E).End,E:=(Dt L n E).E,At:=(Dt L n E).At }:T69)=Dt L (n+1) E:=by
 have:IntKind.wrap .i64 ((n:Int)+1)=((n+1:Nat):Int):=by rw [P4 (by omega) (by omega)]; rfl
 show({ L:=L,N:=(IntKind.wrap .i64 ((n:Int)+1)),End:=E,E:=0,At:=0 }:T69)=_
 rw [this]; rfl
theorem Adg {n:Nat}(hn:n≤L.length)(k:Int)(w:Ay):Afp E L (On k w (L.drop n)) (J4 (Dt L n E) k w):=by
 unfold J4
 rw [Acw hn,R.ok_bind]
 obtain⟨q,f1,f2,f3⟩:=Jk (E:=E) hn 80
 rcases Qw L hn with⟨h1,h2⟩ | ⟨t,h1,h2,h3⟩
 ·rw [h1] at f3 ⊢
  exact⟨by decide,q,by simp only [Bool.false_eq_true,if_false]; rw [f1]; rfl,f2,f3⟩
 ·rw [h1] at f3 ⊢
  rw [Acj]
  show P2 E L _ _ _ (if Sd k w t=true then _ else _)
  by_cases hx:Sd k w t=true
  ·rw [if_pos hx,if_pos hx]
   exact⟨n+1,h2,rfl,by rw [Mn hL h2]⟩
  ·rw [if_neg hx,if_neg hx,f1]
   exact⟨by decide,q,rfl,f2,f3⟩
theorem Ml {n:Nat}(hn:n≤L.length)(w:Ay):Afp E L (On 1 w (L.drop n)) (Fk (Dt L n E) w):=by
 show Afp E L _ ((J4 (Dt L n E) 1 w).bind fun r=>.ok r)
 rw [R.bind_ok]; exact Adg hL hn 1 w
theorem Mo {n:Nat}(hn:n≤L.length)(w:Ay):Afp E L (On 3 w (L.drop n)) (O0 (Dt L n E) w):=by
 show Afp E L _ ((J4 (Dt L n E) 3 w).bind fun r=>.ok r)
 rw [R.bind_ok]; exact Adg hL hn 3 w
theorem Io {n:Nat}(hn:n≤L.length):Ref E L (Po (L.drop n)) (Gj (Dt L n E)):=by
 unfold Gj
 obtain⟨q,f1,f2,f3⟩:=Jk (E:=E) hn 80
 rcases Qw L hn with⟨h1,h2⟩ | ⟨t,h1,h2,h3⟩
 ·rw [h1] at f3 ⊢
  have:decide ((Dt L n E).N≥((Dt L n E).L.length:Int))=true:=by simp [Dt,h2]
  rw [this,Bool.or_true,if_pos rfl,R.ok_bind,if_pos rfl,f1]
  exact⟨by decide,_,rfl,f2,f3⟩
 ·rw [h1] at f3 ⊢
  have:decide ((Dt L n E).N≥((Dt L n E).L.length:Int))=false:=by simp [Dt]; omega
  rw [this,show((Dt L n E).E != 0)=false from rfl,Bool.or_false,if_neg (by decide),show C0 (Dt L n E).L (Dt L n E).N=.ok t from h3]
  simp only [R.ok_bind]
  rw [Ajj]
  by_cases hx:t.Kind=1
  ·have e1:(t.Kind != 1)=false:=by simp [hx]
   have e2:(t.Kind==1)=true:=by simp [hx]
   simp only [e1,e2,Bool.false_eq_true,if_false,if_true]
   exact⟨n+1,h2,rfl,by rw [Mn hL h2]⟩
  ·have e1:(t.Kind != 1)=true:=by simp [hx]
   have e2:(t.Kind==1)=false:=by simp [hx]
   simp only [e1,e2,Bool.false_eq_true,if_false,if_true,f1,R.ok_bind]
   exact⟨by decide,_,rfl,f2,f3⟩
theorem Lg {n:Nat}(hn:n≤L.length)(lo hi st:Int)(hs:st≠0):Ref E L (Qk lo hi st (L.drop n)) (Ex (Dt L n E) lo hi st):=by
 unfold Ex
 obtain⟨q,f1,f2,f3⟩:=Jk (E:=E) hn 80
 rcases Qw L hn with⟨h1,h2⟩ | ⟨t,h1,h2,h3⟩
 ·rw [h1] at f3 ⊢
  have:decide ((Dt L n E).N≥((Dt L n E).L.length:Int))=true:=by simp [Dt,h2]
  rw [this,Bool.or_true]
  simp only [if_true,R.ok_bind,f1]
  exact⟨by decide,_,rfl,f2,f3⟩
 ·rw [h1] at f3 ⊢
  have:decide ((Dt L n E).N≥((Dt L n E).L.length:Int))=false:=by simp [Dt]; omega
  rw [this,show((Dt L n E).E != 0)=false from rfl,Bool.or_false,if_neg (by decide),show C0 (Dt L n E).L (Dt L n E).N=.ok t from h3]
  simp only [R.ok_bind,if_pos hs]
  have key : ∀ (b1 b2 b3 b4:Bool),(((if(!b1)=true then R.ok true else R.ok (!b2)).bind fun b=>(if b=true then R.ok true else R.ok (!b3)).bind fun b=>(if b=true then R.ok true else R.ok (!b4)).bind fun b=>R.ok b):R Bool)=R.ok (!(b1&&(b2&&(b3&&b4)))):=by decide
  have e1:(t.Kind != 2) = !(t.Kind==2):=rfl
  have e2:decide (t.N<lo) = !decide (lo≤t.N):=by rw [← decide_not]; exact decide_eq_decide.2 (by omega)
  have e3:decide (t.N > hi) = !decide (t.N≤hi):=by rw [← decide_not]; exact decide_eq_decide.2 (by omega)
  have e4:(Int.tmod t.N st != 0) = !(Int.tmod t.N st==0):=rfl
  rw [e1,e2,e3,e4]
  have k2:=congrArg (fun z=>R.bind z fun(b3:Bool)=>if b3 then((F4 (Dt L n E) 80).bind fun r=>R.ok ((0:Int),r)) else R.ok (t.N,({ L:=(Dt L n E).L,N:=(IntKind.wrap .i64 ((Dt L n E).N+1)),End:=(Dt L n E).End,E:=(Dt L n E).E,At:=(Dt L n E).At }:T69))) (key (t.Kind==2) (decide (lo≤t.N)) (decide (t.N≤hi)) (Int.tmod t.N st==0))
  simp only [R.bind_assoc,R.ok_bind] at k2
  rw [k2,Aj0]
  unfold Af2
  by_cases hx:(t.Kind==2&&(decide (lo≤t.N)&&(decide (t.N≤hi)&&Int.tmod t.N st==0)))=true
  ·rw [hx,if_pos rfl]
   exact⟨n+1,h2,rfl,by rw [Mn hL h2]; rfl⟩
  ·rw [Bool.not_eq_true] at hx
   rw [hx,f1]
   exact⟨by decide,_,rfl,f2,f3⟩
omit hL
theorem Abw {q:T69}(hq:q.E≠0)(k:Int)(w:Ay):J4 q k w=.ok q:=by
 unfold J4
 rw [Aei hq,R.ok_bind,if_neg (by decide),Aa8 hq]; rfl
theorem Cw {q:T69}(hq:q.E≠0)(w:Ay):Fk q w=.ok q:=by unfold Fk; rw [Abw hq]; rfl
theorem C6 {q:T69}(hq:q.E≠0)(w:Ay):O0 q w=.ok q:=by unfold O0; rw [Abw hq]; rfl
theorem Cs {q:T69}(hq:q.E≠0):Gj q=.ok ([],q):=by
 unfold Gj
 rw [show(q.E != 0)=true by simpa using hq,Bool.true_or,if_pos rfl,R.ok_bind,if_pos rfl,Aa8 hq]; rfl
theorem B9 {q:T69}(hq:q.E≠0)(a b c:Int):Ex q a b c=.ok (0,q):=by
 unfold Ex
 rw [show(q.E != 0)=true by simpa using hq,Bool.true_or]
 simp only [if_true,R.ok_bind,Aa8 hq]
theorem Cp {q:T69}(hq:q.E≠0):Mx q=.ok (⟨0,0⟩,q):=by
 unfold Mx
 simp only [B9 hq,Cw hq,R.ok_bind]
theorem Zl {q:T69}(hq:q.E≠0)(b:Bool):Ir q b=.ok (false,q):=by
 unfold Ir
 rw [Aei hq]; rfl
include hL
theorem Afb {n:Nat}(hn:n≤L.length):Ref E L (O1 (L.drop n)) (Mx (Dt L n E)):=by
 unfold Mx O1
 refine Ce (Lg hL hn 0 1439 1 (by decide)) (fun a n hn ha=>?_) (fun b hq=>?_)
 ·refine Ce (Ml hL hn _) (fun _ n hn _=>?_) (fun b hq=>?_)
  ·obtain⟨t,_,_,_,h1,h2,_⟩:=Aiq ha
   simp only
   rw [P4 (n:=a+1) (by omega) (by omega)]
   exact Ce (Lg hL hn (a+1) 1440 1 (by decide)) (fun b n hn _=>Mj hn _) (fun b hq=>⟨_,rfl,rfl⟩)
  ·simp only [id] at hq
   exact⟨(⟨a,0⟩,b),by simp only [B9 hq,R.ok_bind],rfl⟩
 ·exact⟨(⟨b.1,0⟩,b.2),by simp only [Cw hq,B9 hq,R.ok_bind],rfl⟩
end
end Go.Am
namespace Go.Am
open Go
set_option linter.unusedVariables false
set_option linter.unusedSimpArgs false
section
variable {E:Int} {L:List Token} (hL:L.length≤65536)
include hL
theorem Aem {n:Nat}(hn:n≤L.length)(full:Bool) :
  (Xv 3 [44] (L.drop n)=.ok (false,L.drop n)∧Ir (Dt L n E) full=.ok (false,Dt L n E)) ∨
  (Xv 3 [44] (L.drop n)=.ok (true,L.drop n)∧(full=true → ∃ q,Ir (Dt L n E) full=.ok (false,q)∧q.E=2∧q.At=Yf E (L.drop n)) ∧
   (full=false→n+1≤L.length∧On 3 [44] (L.drop n)=.ok ((),L.drop (n+1))∧Ir (Dt L n E) full=.ok (true,Dt L (n+1) E))):=by
 unfold Ir
 rw [Acw hn,R.ok_bind]
 rcases Qw L hn with⟨h1,h2⟩ | ⟨t,h1,h2,h3⟩
 ·rw [h1]; exact .inl ⟨rfl,rfl⟩
 ·rw [h1]
  by_cases hx:Sd 3 [44] t=true
  ·refine .inr ⟨?_,fun hf=>?_,fun hf=>⟨h2,?_,?_⟩⟩
   ·simp only [Xv,hx]
   ·obtain⟨q,f1,f2,f3⟩:=Jk (E:=E) hn 2
    rw [h1] at f3
    refine⟨q,?_,f2,f3⟩
    simp only [hx,hf,if_true,f1,R.ok_bind]
   ·rw [Acj,if_pos hx]
   ·simp only [hx,hf,if_true,Bool.false_eq_true,if_false]
    rw [Mn hL h2]
  ·refine .inl ⟨?_,?_⟩
   ·simp only [Xv,hx]
   ·simp only [hx,Bool.false_eq_true,if_false]
section
variable {α σ:Type} {most sz:Nat} {p:Rd α} {G:T69→R (α×T69)} {enc:Bool→T69→List α→σ} {body:σ→R (σ ⊕ (T69×List α))}
  (hb : ∀ more o l,body (enc more o l)=if more=true then(G o).bind fun r=>if(l.length+1) * sz≤Db then(Ir r.2 (((l++[r.1]).length:Int)==most)).bind fun r1=>.ok (.inl (enc r1.1 r1.2 (l++[r.1]))) else .bad else .ok (.inr (o,l)))
  (hs:most * sz≤Db)
include hb
omit hL in
theorem R7 (o:T69)(l:List α):loop body (enc false o l)=.ok (o,l):=by rw [Jz,hb]; rfl
include hs
omit hL in
theorem Ab4 (hd : ∀ q:T69,q.E≠0 → ∃ a,G q=.ok (a,q)){q:T69}(hq:q.E≠0){acc:List α}(ha:acc.length+1≤most) : ∃ a,loop body (enc true q acc)=.ok (q,a):=by
 obtain⟨a,h⟩:=hd q hq
 have e1:(acc.length+1) * sz≤Db:=Nat.le_trans (Nat.mul_le_mul_right _ ha) hs
 refine⟨acc++[a],?_⟩
 rw [Jz,hb]
 simp only [if_true,h,R.ok_bind,if_pos e1,Zl hq]
 exact R7 hb q _
theorem Zk (hG : ∀ n,n≤L.length→Ref E L (p (L.drop n)) (G (Dt L n E)))(hd : ∀ q:T69,q.E≠0 → ∃ a,G q=.ok (a,q)) : ∀ (m n:Nat) (acc:List α),acc.length+m+1=most→n≤L.length →
  Ref E L (F5 p m acc (L.drop n)) ((loop body (enc true (Dt L n E) acc)).bind fun x=>.ok (x.2,x.1)):=by
 intro m
 induction m with
 | zero=>
  intro n acc hm hn
  have e1:(acc.length+1) * sz≤Db:=Nat.le_trans (Nat.mul_le_mul_right _ (by omega)) hs
  rw [Jz,hb,if_pos rfl,R.bind_assoc,F5,R.bind_assoc]
  refine Ce (hG n hn) (fun a n hn _=>?_) (fun b hq=>?_)
  ·have e2:(((acc++[a]).length:Int)==most)=true:=by simp; omega
   simp only [if_pos e1,e2]
   rcases Aem hL (E:=E) hn true with⟨h1,h2⟩ | ⟨h1,h2,_⟩
   ·rw [h2,R.ok_bind]
    simp only [Rd.bind,h1]
    simp only [R.ok_bind]
    rw [R7 hb]
    exact⟨n,hn,rfl,rfl⟩
   ·obtain⟨q,h2,h3,h4⟩:=h2 rfl
    rw [h2,R.ok_bind]
    simp only [Rd.bind,h1]
    simp only [R.ok_bind]
    rw [R7 hb]
    exact⟨by decide,_,rfl,h3,h4⟩
  ·refine⟨(acc++[b.1],b.2),?_,rfl⟩
   simp only [if_pos e1,Zl hq,R.ok_bind]
   rw [R7 hb]; rfl
 | succ m ih=>
  intro n acc hm hn
  have e1:(acc.length+1) * sz≤Db:=Nat.le_trans (Nat.mul_le_mul_right _ (by omega)) hs
  rw [Jz,hb,if_pos rfl,R.bind_assoc,F5,R.bind_assoc]
  refine Ce (hG n hn) (fun a n hn _=>?_) (fun b hq=>?_)
  ·have e2:(((acc++[a]).length:Int)==most)=false:=by simp; omega
   simp only [if_pos e1,e2]
   rcases Aem hL (E:=E) hn false with⟨h1,h2⟩ | ⟨h1,_,h2⟩
   ·rw [h2,R.ok_bind]
    simp only [Rd.bind,h1]
    simp only [R.ok_bind]
    rw [R7 hb]
    exact⟨n,hn,rfl,rfl⟩
   ·obtain⟨h3,h4,h5⟩:=h2 rfl
    rw [h5,R.ok_bind]
    simp only [Rd.bind,h1,if_true,h4]
    simp only [R.ok_bind]
    exact ih (n+1) (acc++[a]) (by simp; omega) h3
  ·refine⟨(acc++[b.1],b.2),?_,rfl⟩
   simp only [if_pos e1,Zl hq,R.ok_bind]
   rw [R7 hb]; rfl
end
theorem Z6 {n:Nat}(hn:n≤L.length)(m:Nat)(hm:(m+1) * 16≤Db):Ref E L (F5 Po m [] (L.drop n)) (Fa (Dt L n E) ((m+1:Nat):Int)):=
 Zk hL (most:=m+1) (sz:=16) (enc:=fun x o l=>(x,o,l)) (G:=Gj) (body:=X4 fun more o l=>Nr ((m+1:Nat):Int) more o l) (fun more o l=>by rfl) hm (fun n hn=>Io hL hn) (fun q hq=>⟨_,Cs hq⟩) m n [] (by simp) hn
omit hL in
theorem K0 {q:T69}(hq:q.E≠0)(m:Nat)(hm:(m+1) * 16≤Db) : ∃ a,Fa q ((m+1:Nat):Int)=.ok (a,q):=by
 obtain⟨a,h⟩:=Ab4 (most:=m+1) (sz:=16) (enc:=fun x o l=>(x,o,l)) (G:=Gj) (body:=X4 fun more o l=>Nr ((m+1:Nat):Int) more o l) (fun more o l=>by rfl) hm (fun q hq=>⟨_,Cs hq⟩) hq (acc:=[]) (by simp)
 exact⟨a,by unfold Fa; rw [h]; rfl⟩
theorem Aez {n:Nat}(hn:n≤L.length)(w:Ay):Ref E L (Xe w (L.drop n)) (Of (Dt L n E) w):=by
 unfold Of Xe
 rw [Acw hn,R.ok_bind]
 rcases Qw L hn with⟨h1,h2⟩ | ⟨t,h1,h2,h3⟩
 ·rw [h1]
  exact⟨n,hn,h1,rfl⟩
 ·rw [h1]
  by_cases hx:Sd 1 w t=true
  ·have e1:(Xv 1 w).bind (fun b=>if b=true then(On 1 w).bind fun _=>F5 O1 15 [] else .pure []) (t::L.drop (n+1))=F5 O1 15 [] (L.drop (n+1)):=by
    simp only [Rd.bind,Xv,hx,if_true]
    rw [Acj,if_pos hx]
   rw [e1,if_pos hx]
   have e2:IntKind.wrap .i64 ((Dt L n E).N+1)=((n+1:Nat):Int):=by
    show IntKind.wrap .i64 ((n:Int)+1)=_
    rw [P4 (by omega) (by omega)]; rfl
   rw [e2]
   exact Zk hL (most:=16) (sz:=16) (enc:=fun x o l=>(x,o.L,o.N,o.End,o.E,o.At,l)) (G:=Mx) (body:=un7 fun more vL vN vEnd vE vAt l=>Pv more vL vN vEnd vE vAt l) (fun more o l=>by rfl) (by decide) (fun n hn=>Afb hL hn) (fun q hq=>⟨_,Cp hq⟩) 15 (n+1) [] (by simp) h2
  ·have e1:(Xv 1 w).bind (fun b=>if b=true then(On 1 w).bind fun _=>F5 O1 15 [] else .pure []) (t::L.drop (n+1))=.ok ([],t::L.drop (n+1)):=by
    simp only [Rd.bind,Xv,hx]; rfl
   rw [e1,if_neg hx]
   exact⟨n,hn,h1,rfl⟩
omit hL in
theorem Cu {q:T69}(hq:q.E≠0)(w:Ay):Of q w=.ok ([],q):=by
 unfold Of
 rw [Aei hq]; rfl
end
end Go.Am
namespace Go.Am
open Go
set_option linter.unusedVariables false
set_option linter.unusedSimpArgs false
set_option linter.unusedSectionVars false
section
variable {α β γ:Type}
theorem Om (p:Rd α)(f:α→Rd β)(g:β→Rd γ):(p.bind f).bind g=p.bind fun a=>(f a).bind g:=by
 funext l
 simp only [Rd.bind]
 cases p l <;> rfl
theorem Pz (a:α)(f:α→Rd β):(Rd.pure a).bind f=f a:=rfl
theorem Ag2 (x:R (α×β))(F:α→β→R γ):x.bind (C4 F)=(x.bind fun y=>.ok (y.2,y.1)).bind fun y=>F y.2 y.1:=by
 rw [R.bind_assoc]; rfl
end
def Xu (B:Airspace)(q:T69):T69×List Volume×List Sector×List Config×List Segment×List Route×List Airport×List Class×List Rule:=
 (q,B.Volumes,B.Sectors,B.Configs,B.Segments,B.Routes,B.Airports,B.Classes,B.Rules)
def Pp (k:Int)(w:Ay):Int:=
 if k==1 then(if w==[118,111,108,117,109,101] then 0 else if w==[115,101,99,116,111,114] then 1 else if w==[99,111,110,102,105,103] then 2 else if w==[115,101,103,109,101,110,116] then 3
  else if w==[114,111,117,116,101] then 4 else if w==[97,105,114,112,111,114,116] then 5 else if w==[99,108,97,115,115] then 6
  else if w==[99,117,114,102,101,119]||(w==[101,120,101,109,112,116]||(w==[119,101,105,103,104,116]||w==[108,111,110,103,101,115,116])) then 7 else -1) else -1
section
variable {E:Int} {L:List Token} (hL:L.length≤65536)
theorem Al1 (a b c d:Bool):(((R.ok a).bind fun r1=>(if r1=true then R.ok true else(R.ok b).bind fun r2=>R.ok r2).bind fun b=>(if b=true then R.ok true else(R.ok c).bind fun r3=>R.ok r3).bind fun b1=>(if b1=true then R.ok true else(R.ok d).bind fun r4=>R.ok r4).bind fun b2=>if b2=true then R.ok 7 else R.ok (-1)):R Int)=R.ok (if(a||(b||(c||d)))=true then 7 else -1):=by
 cases a <;> cases b <;> cases c <;> cases d <;> rfl
theorem Agy (p:T69)(q:Ay→Bool)(hq : ∀ w,F1 p 1 w=.ok (q w)) : ∀ (l:List Ay) (k:Nat),each (fun j a=>fun _=>K9 p j a) k l ()=.ok (match l.findIdx? q with | some i=>.inr ((k+i:Nat):Int) | none=>.inl ())
 | [],k=>rfl
 | w::l,k=>by
  rw [each,List.findIdx?_cons]
  have hb:K9 p k w=.ok (if q w=true then .inr (k:Int) else .inl ()):=by
   unfold K9; rw [hq,R.ok_bind]; cases q w <;> rfl
  rw [hb,R.ok_bind]
  cases h:q w
  ·simp only [Bool.false_eq_true,if_false,R.ok_bind]
   have:=Agy p q hq l (k+1)
   rw [this]
   cases l.findIdx? q with
   | none=>rfl
   | some i=>simp only [Option.map_some]; rw [show k+1+i=k+(i+1) by omega]
  ·rfl
theorem Lt {n:Nat}(hn:n≤L.length){t:Token}{r:List Token}(h1:L.drop n=t::r):Rn (Dt L n E)=.ok (Pp t.Kind t.Text):=by
 have hq : ∀ w,F1 (Dt L n E) 1 w=.ok (Sd 1 w t):=fun w=>by rw [Acw hn,h1]
 unfold Rn
 rw [Agy _ _ hq,R.ok_bind]
 simp only [hq]
 rw [Al1]
 unfold Sd Pp
 by_cases hk:t.Kind=1
 ·have e:(t.Kind==1)=true:=by simp [hk]
  simp only [e,Bool.true_and,List.findIdx?_cons,List.findIdx?_nil]
  simp only [if_true]
  generalize (t.Text==[118,111,108,117,109,101])=c0
  generalize (t.Text==[115,101,99,116,111,114])=c1
  generalize (t.Text==[99,111,110,102,105,103])=c2
  generalize (t.Text==[115,101,103,109,101,110,116])=c3
  generalize (t.Text==[114,111,117,116,101])=c4
  generalize (t.Text==[97,105,114,112,111,114,116])=c5
  generalize (t.Text==[99,108,97,115,115])=c6
  cases c0
  ·cases c1
   ·cases c2
    ·cases c3
     ·cases c4
      ·cases c5
       ·cases c6 <;> rfl
       ·rfl
      ·rfl
     ·rfl
    ·rfl
   ·rfl
  ·rfl
 ·have e:(t.Kind==1)=false:=by simp [hk]
  simp only [e,Bool.false_and,List.findIdx?_cons,List.findIdx?_nil]
  rfl
include hL
theorem Ajz {n:Nat}(hn:n≤L.length):Ref E L (F5 W1 15 [] (L.drop n)) ((loop (X4 fun x o l8=>Ek x o l8) (true,Dt L n E,[])).bind fun y=>.ok (y.2,y.1)):=
 Zk hL (most:=16) (sz:=24) (enc:=fun x o l=>(x,o,l)) (G:=fun o=>(Fk o [109,111,100,101]).bind fun r25=>(Gj r25).bind fun r26=>(Ex r26.2 0 64 1).bind fun r27=>.ok (({ Name:=r26.1,Places:=r27.1 }:Mode),r27.2))
  (body:=X4 fun x o l8=>Ek x o l8) (fun more o l=>by
   show Ek more o l=_
   unfold Ek
   simp only [R.bind_assoc,R.ok_bind,List.length_singleton]; rfl) (by decide) (fun n hn=>by
   unfold W1
   refine Ce (Ml hL hn _) (fun _ n hn _=>?_) (fun b hq=>?_)
   ·refine Ce (Io hL hn) (fun s n hn _=>?_) (fun b hq=>?_)
    ·exact Ce (Lg hL hn _ _ 1 (by decide)) (fun b n hn _=>Mj hn _) (fun b hq=>⟨_,rfl,rfl⟩)
    ·exact⟨(⟨b.1,0⟩,b.2),by simp only [B9 hq,R.ok_bind],rfl⟩
   ·have hq:b.E≠0:=hq
    exact⟨(⟨[],0⟩,b),by simp only [Cs hq,B9 hq,R.ok_bind],rfl⟩)
  (fun q hq=>⟨⟨[],0⟩,by simp only [Cw hq,Cs hq,B9 hq,R.ok_bind]⟩) 15 n [] (by simp) hn
omit hL in
theorem Ajb {q:T69}(hq:q.E≠0) : ∃ a,((loop (X4 fun x o l8=>Ek x o l8) (true,q,[])).bind fun y=>.ok (y.2,y.1))=.ok (a,q):=by
 obtain⟨a,h⟩:=Ab4 (most:=16) (sz:=24) (enc:=fun x o l=>(x,o,l)) (G:=fun o=>(Fk o [109,111,100,101]).bind fun r25=>(Gj r25).bind fun r26=>(Ex r26.2 0 64 1).bind fun r27=>.ok (({ Name:=r26.1,Places:=r27.1 }:Mode),r27.2))
  (body:=X4 fun x o l8=>Ek x o l8) (fun more o l=>by
   show Ek more o l=_
   unfold Ek
   simp only [R.bind_assoc,R.ok_bind,List.length_singleton]; rfl) (by decide)
  (fun q hq=>⟨⟨[],0⟩,by simp only [Cw hq,Cs hq,B9 hq,R.ok_bind]⟩) hq (acc:=[]) (by simp)
 exact⟨a,by rw [h]; rfl⟩
theorem Amj {n:Nat}{t:Token}(hn:n<L.length)(h1:L.drop n=t::L.drop (n+1))(h3:C0 L (n:Int)=.ok t)(hk:t.Kind=1)(hw:t.Text=[118,111,108,117,109,101])(A:Airspace)(hF:A.Volumes.length≤64):P2 E L Xu Prod.fst (Ez A (t::L.drop (n+1))) (Ca (Dt L n E) A.Volumes A.Sectors A.Configs A.Segments A.Routes A.Airports A.Classes A.Rules):=by
 unfold Ca
 rw [Lt (Nat.le_of_lt hn) h1,R.ok_bind,hk,hw]
 rw [show Pp 1 [118,111,108,117,109,101]=0 from rfl,if_neg (by decide),show H9 ({ Volumes:=A.Volumes,Sectors:=A.Sectors,Configs:=A.Configs,Segments:=A.Segments,Routes:=A.Routes,Airports:=A.Airports,Classes:=A.Classes,Rules:=A.Rules }:Airspace) 0=.ok (decide ((A.Volumes.length:Int)≥64)) from rfl,R.ok_bind]
 have e0:Ez A (t::L.drop (n+1))=if decide (64≤A.Volumes.length)=true then .error (t::L.drop (n+1),2) else((Er Ab8).bind fun x=>.pure { A with Volumes:=A.Volumes++[x] }) (L.drop (n+1)):=by
  simp only [Ez,hk,hw]; rfl
 rw [e0]
 by_cases hf:64≤A.Volumes.length
 ·obtain⟨q,f1,f2,f3⟩:=Jk (E:=E) (Nat.le_of_lt hn) 2
  have c1:decide (64≤A.Volumes.length)=true:=decide_eq_true hf
  have c2:decide ((A.Volumes.length:Int)≥64)=true:=decide_eq_true (by omega)
  rw [if_pos c1,if_pos c2,f1]
  rw [h1] at f3
  exact⟨by decide,_,rfl,f2,f3⟩
 ·have c1:¬ decide (64≤A.Volumes.length)=true:=by simpa using hf
  have c2:¬ decide ((A.Volumes.length:Int)≥64)=true:=by simp; omega
  rw [if_neg c1,if_neg c2,show C0 (Dt L n E).L (Dt L n E).N=.ok t from h3,R.ok_bind,Mn hL hn]
  have hb:(A.Volumes.length+1) * 40≤Db:=by unfold Db; omega
  simp only [Er,Ab8,Om,Pz,show((0:Int)==0)=true from rfl,Bool.false_eq_true,if_false,if_true,Dq,C9,Cm,List.length_singleton,if_pos hb]
  refine Ce (Io hL (n:=n+1) hn) (fun x0 n hn hx0=>?_) (fun b hq=>?_)
  rotate_left
  ·have hq:b.2.E≠0:=hq
   refine⟨?_,?_,?_⟩
   rotate_left
   ·simp only [B9 hq,Cw hq,Cs hq,C6 hq,Cu hq,Cp hq,R.ok_bind]; rfl
   ·rfl
  try simp only
  refine Ce (Aez hL hn _) (fun x1 n hn hx1=>?_) (fun b hq=>?_)
  rotate_left
  ·have hq:b.2.E≠0:=hq
   refine⟨?_,?_,?_⟩
   rotate_left
   ·simp only [B9 hq,Cw hq,Cs hq,C6 hq,Cu hq,Cp hq,R.ok_bind]; rfl
   ·rfl
  try simp only
  exact Ce (Mo hL hn _) (fun x2 n hn _=>Mj hn _) (fun b hq=>⟨_,rfl,rfl⟩)
theorem Al0 {n:Nat}{t:Token}(hn:n<L.length)(h1:L.drop n=t::L.drop (n+1))(h3:C0 L (n:Int)=.ok t)(hk:t.Kind=1)(hw:t.Text=[115,101,99,116,111,114])(A:Airspace)(hF:A.Sectors.length≤64):P2 E L Xu Prod.fst (Ez A (t::L.drop (n+1))) (Ca (Dt L n E) A.Volumes A.Sectors A.Configs A.Segments A.Routes A.Airports A.Classes A.Rules):=by
 unfold Ca
 rw [Lt (Nat.le_of_lt hn) h1,R.ok_bind,hk,hw]
 rw [show Pp 1 [115,101,99,116,111,114]=1 from rfl,if_neg (by decide),show H9 ({ Volumes:=A.Volumes,Sectors:=A.Sectors,Configs:=A.Configs,Segments:=A.Segments,Routes:=A.Routes,Airports:=A.Airports,Classes:=A.Classes,Rules:=A.Rules }:Airspace) 1=.ok (decide ((A.Sectors.length:Int)≥64)) from rfl,R.ok_bind]
 have e0:Ez A (t::L.drop (n+1))=if decide (64≤A.Sectors.length)=true then .error (t::L.drop (n+1),2) else((Er Aca).bind fun x=>.pure { A with Sectors:=A.Sectors++[x] }) (L.drop (n+1)):=by
  simp only [Ez,hk,hw]; rfl
 rw [e0]
 by_cases hf:64≤A.Sectors.length
 ·obtain⟨q,f1,f2,f3⟩:=Jk (E:=E) (Nat.le_of_lt hn) 2
  have c1:decide (64≤A.Sectors.length)=true:=decide_eq_true hf
  have c2:decide ((A.Sectors.length:Int)≥64)=true:=decide_eq_true (by omega)
  rw [if_pos c1,if_pos c2,f1]
  rw [h1] at f3
  exact⟨by decide,_,rfl,f2,f3⟩
 ·have c1:¬ decide (64≤A.Sectors.length)=true:=by simpa using hf
  have c2:¬ decide ((A.Sectors.length:Int)≥64)=true:=by simp; omega
  rw [if_neg c1,if_neg c2,show C0 (Dt L n E).L (Dt L n E).N=.ok t from h3,R.ok_bind,Mn hL hn]
  have hb:(A.Sectors.length+1) * 80≤Db:=by unfold Db; omega
  simp only [Er,Aca,Om,Pz,show((1:Int)==0)=false from rfl,show((1:Int)==1)=true from rfl,Bool.false_eq_true,if_false,if_true,Dq,C9,Cm,List.length_singleton,if_pos hb]
  refine Ce (Io hL (n:=n+1) hn) (fun x0 n hn hx0=>?_) (fun b hq=>?_)
  rotate_left
  ·have hq:b.2.E≠0:=hq
   obtain⟨ls,hls⟩:=K0 hq 63 (by decide)
   have hls:Fa _ 64=_:=hls
   refine⟨?_,?_,?_⟩
   rotate_left
   ·simp only [B9 hq,Cw hq,Cs hq,C6 hq,Cu hq,Cp hq,hls,R.ok_bind]; rfl
   ·rfl
  try simp only
  refine Ce (Mo hL hn _) (fun x1 n hn hx1=>?_) (fun b hq=>?_)
  rotate_left
  ·have hq:b.E≠0:=hq
   obtain⟨ls,hls⟩:=K0 hq 63 (by decide)
   have hls:Fa _ 64=_:=hls
   refine⟨?_,?_,?_⟩
   rotate_left
   ·simp only [B9 hq,Cw hq,Cs hq,C6 hq,Cu hq,Cp hq,hls,R.ok_bind]; rfl
   ·rfl
  try simp only
  refine Ce (Z6 hL hn 63 (by decide)) (fun x2 n hn hx2=>?_) (fun b hq=>?_)
  rotate_left
  ·have hq:b.2.E≠0:=hq
   refine⟨?_,?_,?_⟩
   rotate_left
   ·simp only [B9 hq,Cw hq,Cs hq,C6 hq,Cu hq,Cp hq,R.ok_bind]; rfl
   ·rfl
  try simp only
  refine Ce (Ml hL hn _) (fun x3 n hn hx3=>?_) (fun b hq=>?_)
  rotate_left
  ·have hq:b.E≠0:=hq
   refine⟨?_,?_,?_⟩
   rotate_left
   ·simp only [B9 hq,Cw hq,Cs hq,C6 hq,Cu hq,Cp hq,R.ok_bind]; rfl
   ·rfl
  try simp only
  refine Ce (Lg hL hn _ _ 1 (by decide)) (fun x4 n hn hx4=>?_) (fun b hq=>?_)
  rotate_left
  ·have hq:b.2.E≠0:=hq
   refine⟨?_,?_,?_⟩
   rotate_left
   ·simp only [B9 hq,Cw hq,Cs hq,C6 hq,Cu hq,Cp hq,R.ok_bind]; rfl
   ·rfl
  try simp only
  refine Ce (Ml hL hn _) (fun x5 n hn hx5=>?_) (fun b hq=>?_)
  rotate_left
  ·have hq:b.E≠0:=hq
   refine⟨?_,?_,?_⟩
   rotate_left
   ·simp only [B9 hq,Cw hq,Cs hq,C6 hq,Cu hq,Cp hq,R.ok_bind]; rfl
   ·rfl
  try simp only
  refine Ce (Lg hL hn _ _ 1 (by decide)) (fun x6 n hn hx6=>?_) (fun b hq=>?_)
  rotate_left
  ·have hq:b.2.E≠0:=hq
   refine⟨?_,?_,?_⟩
   rotate_left
   ·simp only [B9 hq,Cw hq,Cs hq,C6 hq,Cu hq,Cp hq,R.ok_bind]; rfl
   ·rfl
  try simp only
  exact Ce (Mo hL hn _) (fun x7 n hn _=>Mj hn _) (fun b hq=>⟨_,rfl,rfl⟩)
theorem Amh {n:Nat}{t:Token}(hn:n<L.length)(h1:L.drop n=t::L.drop (n+1))(h3:C0 L (n:Int)=.ok t)(hk:t.Kind=1)(hw:t.Text=[99,111,110,102,105,103])(A:Airspace)(hF:A.Configs.length≤32):P2 E L Xu Prod.fst (Ez A (t::L.drop (n+1))) (Ca (Dt L n E) A.Volumes A.Sectors A.Configs A.Segments A.Routes A.Airports A.Classes A.Rules):=by
 unfold Ca
 rw [Lt (Nat.le_of_lt hn) h1,R.ok_bind,hk,hw]
 rw [show Pp 1 [99,111,110,102,105,103]=2 from rfl,if_neg (by decide),show H9 ({ Volumes:=A.Volumes,Sectors:=A.Sectors,Configs:=A.Configs,Segments:=A.Segments,Routes:=A.Routes,Airports:=A.Airports,Classes:=A.Classes,Rules:=A.Rules }:Airspace) 2=.ok (decide ((A.Configs.length:Int)≥32)) from rfl,R.ok_bind]
 have e0:Ez A (t::L.drop (n+1))=if decide (32≤A.Configs.length)=true then .error (t::L.drop (n+1),2) else((Er Ace).bind fun x=>.pure { A with Configs:=A.Configs++[x] }) (L.drop (n+1)):=by
  simp only [Ez,hk,hw]; rfl
 rw [e0]
 by_cases hf:32≤A.Configs.length
 ·obtain⟨q,f1,f2,f3⟩:=Jk (E:=E) (Nat.le_of_lt hn) 2
  have c1:decide (32≤A.Configs.length)=true:=decide_eq_true hf
  have c2:decide ((A.Configs.length:Int)≥32)=true:=decide_eq_true (by omega)
  rw [if_pos c1,if_pos c2,f1]
  rw [h1] at f3
  exact⟨by decide,_,rfl,f2,f3⟩
 ·have c1:¬ decide (32≤A.Configs.length)=true:=by simpa using hf
  have c2:¬ decide ((A.Configs.length:Int)≥32)=true:=by simp; omega
  rw [if_neg c1,if_neg c2,show C0 (Dt L n E).L (Dt L n E).N=.ok t from h3,R.ok_bind,Mn hL hn]
  have hb:(A.Configs.length+1) * 64≤Db:=by unfold Db; omega
  simp only [Er,Ace,Om,Pz,show((2:Int)==0)=false from rfl,show((2:Int)==1)=false from rfl,show((2:Int)==2)=true from rfl,Bool.false_eq_true,if_false,if_true,Dq,C9,Cm,List.length_singleton,if_pos hb]
  refine Ce (Io hL (n:=n+1) hn) (fun x0 n hn hx0=>?_) (fun b hq=>?_)
  rotate_left
  ·have hq:b.2.E≠0:=hq
   obtain⟨ls,hls⟩:=K0 hq 63 (by decide)
   have hls:Fa _ 64=_:=hls
   refine⟨?_,?_,?_⟩
   rotate_left
   ·simp only [B9 hq,Cw hq,Cs hq,C6 hq,Cu hq,Cp hq,hls,R.ok_bind]; rfl
   ·rfl
  try simp only
  refine Ce (Mo hL hn _) (fun x1 n hn hx1=>?_) (fun b hq=>?_)
  rotate_left
  ·have hq:b.E≠0:=hq
   obtain⟨ls,hls⟩:=K0 hq 63 (by decide)
   have hls:Fa _ 64=_:=hls
   refine⟨?_,?_,?_⟩
   rotate_left
   ·simp only [B9 hq,Cw hq,Cs hq,C6 hq,Cu hq,Cp hq,hls,R.ok_bind]; rfl
   ·rfl
  try simp only
  refine Ce (Z6 hL hn 63 (by decide)) (fun x2 n hn hx2=>?_) (fun b hq=>?_)
  rotate_left
  ·have hq:b.2.E≠0:=hq
   refine⟨?_,?_,?_⟩
   rotate_left
   ·simp only [B9 hq,Cw hq,Cs hq,C6 hq,Cu hq,Cp hq,R.ok_bind]; rfl
   ·rfl
  try simp only
  exact Ce (Mo hL hn _) (fun x3 n hn _=>Mj hn _) (fun b hq=>⟨_,rfl,rfl⟩)
theorem Amb {n:Nat}{t:Token}(hn:n<L.length)(h1:L.drop n=t::L.drop (n+1))(h3:C0 L (n:Int)=.ok t)(hk:t.Kind=1)(hw:t.Text=[115,101,103,109,101,110,116])(A:Airspace)(hF:A.Segments.length≤128):P2 E L Xu Prod.fst (Ez A (t::L.drop (n+1))) (Ca (Dt L n E) A.Volumes A.Sectors A.Configs A.Segments A.Routes A.Airports A.Classes A.Rules):=by
 unfold Ca
 rw [Lt (Nat.le_of_lt hn) h1,R.ok_bind,hk,hw]
 rw [show Pp 1 [115,101,103,109,101,110,116]=3 from rfl,if_neg (by decide),show H9 ({ Volumes:=A.Volumes,Sectors:=A.Sectors,Configs:=A.Configs,Segments:=A.Segments,Routes:=A.Routes,Airports:=A.Airports,Classes:=A.Classes,Rules:=A.Rules }:Airspace) 3=.ok (decide ((A.Segments.length:Int)≥128)) from rfl,R.ok_bind]
 have e0:Ez A (t::L.drop (n+1))=if decide (128≤A.Segments.length)=true then .error (t::L.drop (n+1),2) else((Er Aci).bind fun x=>.pure { A with Segments:=A.Segments++[x] }) (L.drop (n+1)):=by
  simp only [Ez,hk,hw]; rfl
 rw [e0]
 by_cases hf:128≤A.Segments.length
 ·obtain⟨q,f1,f2,f3⟩:=Jk (E:=E) (Nat.le_of_lt hn) 2
  have c1:decide (128≤A.Segments.length)=true:=decide_eq_true hf
  have c2:decide ((A.Segments.length:Int)≥128)=true:=decide_eq_true (by omega)
  rw [if_pos c1,if_pos c2,f1]
  rw [h1] at f3
  exact⟨by decide,_,rfl,f2,f3⟩
 ·have c1:¬ decide (128≤A.Segments.length)=true:=by simpa using hf
  have c2:¬ decide ((A.Segments.length:Int)≥128)=true:=by simp; omega
  rw [if_neg c1,if_neg c2,show C0 (Dt L n E).L (Dt L n E).N=.ok t from h3,R.ok_bind,Mn hL hn]
  have hb:(A.Segments.length+1) * 72≤Db:=by unfold Db; omega
  simp only [Er,Aci,Om,Pz,show((3:Int)==0)=false from rfl,show((3:Int)==1)=false from rfl,show((3:Int)==2)=false from rfl,show((3:Int)==3)=true from rfl,Bool.false_eq_true,if_false,if_true,Dq,C9,Cm,List.length_singleton,if_pos hb]
  refine Ce (Io hL (n:=n+1) hn) (fun x0 n hn hx0=>?_) (fun b hq=>?_)
  rotate_left
  ·have hq:b.2.E≠0:=hq
   refine⟨?_,?_,?_⟩
   rotate_left
   ·simp only [B9 hq,Cw hq,Cs hq,C6 hq,Cu hq,Cp hq,R.ok_bind]; rfl
   ·rfl
  try simp only
  refine Ce (Ml hL hn _) (fun x1 n hn hx1=>?_) (fun b hq=>?_)
  rotate_left
  ·have hq:b.E≠0:=hq
   refine⟨?_,?_,?_⟩
   rotate_left
   ·simp only [B9 hq,Cw hq,Cs hq,C6 hq,Cu hq,Cp hq,R.ok_bind]; rfl
   ·rfl
  try simp only
  refine Ce (Io hL hn) (fun x2 n hn hx2=>?_) (fun b hq=>?_)
  rotate_left
  ·have hq:b.2.E≠0:=hq
   refine⟨?_,?_,?_⟩
   rotate_left
   ·simp only [B9 hq,Cw hq,Cs hq,C6 hq,Cu hq,Cp hq,R.ok_bind]; rfl
   ·rfl
  try simp only
  refine Ce (Ml hL hn _) (fun x3 n hn hx3=>?_) (fun b hq=>?_)
  rotate_left
  ·have hq:b.E≠0:=hq
   refine⟨?_,?_,?_⟩
   rotate_left
   ·simp only [B9 hq,Cw hq,Cs hq,C6 hq,Cu hq,Cp hq,R.ok_bind]; rfl
   ·rfl
  try simp only
  refine Ce (Lg hL hn _ _ 1 (by decide)) (fun x4 n hn hx4=>?_) (fun b hq=>?_)
  rotate_left
  ·have hq:b.2.E≠0:=hq
   refine⟨?_,?_,?_⟩
   rotate_left
   ·simp only [B9 hq,Cw hq,Cs hq,C6 hq,Cu hq,Cp hq,R.ok_bind]; rfl
   ·rfl
  try simp only
  refine Ce (Aez hL hn _) (fun x5 n hn hx5=>?_) (fun b hq=>?_)
  rotate_left
  ·have hq:b.2.E≠0:=hq
   refine⟨?_,?_,?_⟩
   rotate_left
   ·simp only [B9 hq,Cw hq,Cs hq,C6 hq,Cu hq,Cp hq,R.ok_bind]; rfl
   ·rfl
  try simp only
  exact Ce (Mo hL hn _) (fun x6 n hn _=>Mj hn _) (fun b hq=>⟨_,rfl,rfl⟩)
theorem Alu {n:Nat}{t:Token}(hn:n<L.length)(h1:L.drop n=t::L.drop (n+1))(h3:C0 L (n:Int)=.ok t)(hk:t.Kind=1)(hw:t.Text=[114,111,117,116,101])(A:Airspace)(hF:A.Routes.length≤64):P2 E L Xu Prod.fst (Ez A (t::L.drop (n+1))) (Ca (Dt L n E) A.Volumes A.Sectors A.Configs A.Segments A.Routes A.Airports A.Classes A.Rules):=by
 unfold Ca
 rw [Lt (Nat.le_of_lt hn) h1,R.ok_bind,hk,hw]
 rw [show Pp 1 [114,111,117,116,101]=4 from rfl,if_neg (by decide),show H9 ({ Volumes:=A.Volumes,Sectors:=A.Sectors,Configs:=A.Configs,Segments:=A.Segments,Routes:=A.Routes,Airports:=A.Airports,Classes:=A.Classes,Rules:=A.Rules }:Airspace) 4=.ok (decide ((A.Routes.length:Int)≥64)) from rfl,R.ok_bind]
 have e0:Ez A (t::L.drop (n+1))=if decide (64≤A.Routes.length)=true then .error (t::L.drop (n+1),2) else((Er Acs).bind fun x=>.pure { A with Routes:=A.Routes++[x] }) (L.drop (n+1)):=by
  simp only [Ez,hk,hw]; rfl
 rw [e0]
 by_cases hf:64≤A.Routes.length
 ·obtain⟨q,f1,f2,f3⟩:=Jk (E:=E) (Nat.le_of_lt hn) 2
  have c1:decide (64≤A.Routes.length)=true:=decide_eq_true hf
  have c2:decide ((A.Routes.length:Int)≥64)=true:=decide_eq_true (by omega)
  rw [if_pos c1,if_pos c2,f1]
  rw [h1] at f3
  exact⟨by decide,_,rfl,f2,f3⟩
 ·have c1:¬ decide (64≤A.Routes.length)=true:=by simpa using hf
  have c2:¬ decide ((A.Routes.length:Int)≥64)=true:=by simp; omega
  rw [if_neg c1,if_neg c2,show C0 (Dt L n E).L (Dt L n E).N=.ok t from h3,R.ok_bind,Mn hL hn]
  have hb:(A.Routes.length+1) * 112≤Db:=by unfold Db; omega
  simp only [Er,Acs,Om,Pz,show((4:Int)==0)=false from rfl,show((4:Int)==1)=false from rfl,show((4:Int)==2)=false from rfl,show((4:Int)==3)=false from rfl,show((4:Int)==4)=true from rfl,Bool.false_eq_true,if_false,if_true,Dq,C9,Cm,List.length_singleton,if_pos hb]
  refine Ce (Io hL (n:=n+1) hn) (fun x0 n hn hx0=>?_) (fun b hq=>?_)
  rotate_left
  ·have hq:b.2.E≠0:=hq
   obtain⟨ls,hls⟩:=K0 hq 7 (by decide)
   have hls:Fa _ 8=_:=hls
   refine⟨?_,?_,?_⟩
   rotate_left
   ·simp only [B9 hq,Cw hq,Cs hq,C6 hq,Cu hq,Cp hq,hls,R.ok_bind]; rfl
   ·rfl
  try simp only
  refine Ce (Ml hL hn _) (fun x1 n hn hx1=>?_) (fun b hq=>?_)
  rotate_left
  ·have hq:b.E≠0:=hq
   obtain⟨ls,hls⟩:=K0 hq 7 (by decide)
   have hls:Fa _ 8=_:=hls
   refine⟨?_,?_,?_⟩
   rotate_left
   ·simp only [B9 hq,Cw hq,Cs hq,C6 hq,Cu hq,Cp hq,hls,R.ok_bind]; rfl
   ·rfl
  try simp only
  refine Ce (Io hL hn) (fun x2 n hn hx2=>?_) (fun b hq=>?_)
  rotate_left
  ·have hq:b.2.E≠0:=hq
   obtain⟨ls,hls⟩:=K0 hq 7 (by decide)
   have hls:Fa _ 8=_:=hls
   refine⟨?_,?_,?_⟩
   rotate_left
   ·simp only [B9 hq,Cw hq,Cs hq,C6 hq,Cu hq,Cp hq,hls,R.ok_bind]; rfl
   ·rfl
  try simp only
  refine Ce (Ml hL hn _) (fun x3 n hn hx3=>?_) (fun b hq=>?_)
  rotate_left
  ·have hq:b.E≠0:=hq
   obtain⟨ls,hls⟩:=K0 hq 7 (by decide)
   have hls:Fa _ 8=_:=hls
   refine⟨?_,?_,?_⟩
   rotate_left
   ·simp only [B9 hq,Cw hq,Cs hq,C6 hq,Cu hq,Cp hq,hls,R.ok_bind]; rfl
   ·rfl
  try simp only
  refine Ce (Io hL hn) (fun x4 n hn hx4=>?_) (fun b hq=>?_)
  rotate_left
  ·have hq:b.2.E≠0:=hq
   obtain⟨ls,hls⟩:=K0 hq 7 (by decide)
   have hls:Fa _ 8=_:=hls
   refine⟨?_,?_,?_⟩
   rotate_left
   ·simp only [B9 hq,Cw hq,Cs hq,C6 hq,Cu hq,Cp hq,hls,R.ok_bind]; rfl
   ·rfl
  try simp only
  refine Ce (Ml hL hn _) (fun x5 n hn hx5=>?_) (fun b hq=>?_)
  rotate_left
  ·have hq:b.E≠0:=hq
   obtain⟨ls,hls⟩:=K0 hq 7 (by decide)
   have hls:Fa _ 8=_:=hls
   refine⟨?_,?_,?_⟩
   rotate_left
   ·simp only [B9 hq,Cw hq,Cs hq,C6 hq,Cu hq,Cp hq,hls,R.ok_bind]; rfl
   ·rfl
  try simp only
  refine Ce (Z6 hL hn 7 (by decide)) (fun x6 n hn hx6=>?_) (fun b hq=>?_)
  rotate_left
  ·have hq:b.2.E≠0:=hq
   refine⟨?_,?_,?_⟩
   rotate_left
   ·simp only [B9 hq,Cw hq,Cs hq,C6 hq,Cu hq,Cp hq,R.ok_bind]; rfl
   ·rfl
  try simp only
  exact Ce (Mo hL hn _) (fun x7 n hn _=>Mj hn _) (fun b hq=>⟨_,rfl,rfl⟩)
theorem Alq {n:Nat}{t:Token}(hn:n<L.length)(h1:L.drop n=t::L.drop (n+1))(h3:C0 L (n:Int)=.ok t)(hk:t.Kind=1)(hw:t.Text=[97,105,114,112,111,114,116])(A:Airspace)(hF:A.Airports.length≤16):P2 E L Xu Prod.fst (Ez A (t::L.drop (n+1))) (Ca (Dt L n E) A.Volumes A.Sectors A.Configs A.Segments A.Routes A.Airports A.Classes A.Rules):=by
 unfold Ca
 rw [Lt (Nat.le_of_lt hn) h1,R.ok_bind,hk,hw]
 rw [show Pp 1 [97,105,114,112,111,114,116]=5 from rfl,if_neg (by decide),show H9 ({ Volumes:=A.Volumes,Sectors:=A.Sectors,Configs:=A.Configs,Segments:=A.Segments,Routes:=A.Routes,Airports:=A.Airports,Classes:=A.Classes,Rules:=A.Rules }:Airspace) 5=.ok (decide ((A.Airports.length:Int)≥16)) from rfl,R.ok_bind]
 have e0:Ez A (t::L.drop (n+1))=if decide (16≤A.Airports.length)=true then .error (t::L.drop (n+1),2) else((Er Acn).bind fun x=>.pure { A with Airports:=A.Airports++[x] }) (L.drop (n+1)):=by
  simp only [Ez,hk,hw]; rfl
 rw [e0]
 by_cases hf:16≤A.Airports.length
 ·obtain⟨q,f1,f2,f3⟩:=Jk (E:=E) (Nat.le_of_lt hn) 2
  have c1:decide (16≤A.Airports.length)=true:=decide_eq_true hf
  have c2:decide ((A.Airports.length:Int)≥16)=true:=decide_eq_true (by omega)
  rw [if_pos c1,if_pos c2,f1]
  rw [h1] at f3
  exact⟨by decide,_,rfl,f2,f3⟩
 ·have c1:¬ decide (16≤A.Airports.length)=true:=by simpa using hf
  have c2:¬ decide ((A.Airports.length:Int)≥16)=true:=by simp; omega
  rw [if_neg c1,if_neg c2,show C0 (Dt L n E).L (Dt L n E).N=.ok t from h3,R.ok_bind,Mn hL hn]
  have hb:(A.Airports.length+1) * 40≤Db:=by unfold Db; omega
  simp only [Er,Acn,Om,Pz,show((5:Int)==0)=false from rfl,show((5:Int)==1)=false from rfl,show((5:Int)==2)=false from rfl,show((5:Int)==3)=false from rfl,show((5:Int)==4)=false from rfl,show((5:Int)==5)=true from rfl,Bool.false_eq_true,if_false,if_true,Dq,C9,Cm,List.length_singleton,if_pos hb]
  refine Ce (Io hL (n:=n+1) hn) (fun x0 n hn hx0=>?_) (fun b hq=>?_)
  rotate_left
  ·have hq:b.2.E≠0:=hq
   obtain⟨ls,hls⟩:=Ajb hq
   refine⟨?_,?_,?_⟩
   rotate_left
   ·simp only [B9 hq,Cw hq,Cs hq,C6 hq,Cu hq,Cp hq,Ag2,hls,R.ok_bind]; rfl
   ·rfl
  try simp only
  rw [Ag2]
  refine Ce (Ajz hL hn) (fun x1 n hn hx1=>?_) (fun b hq=>?_)
  rotate_left
  ·have hq:b.2.E≠0:=hq
   refine⟨?_,?_,?_⟩
   rotate_left
   ·simp only [B9 hq,Cw hq,Cs hq,C6 hq,Cu hq,Cp hq,R.ok_bind]; rfl
   ·rfl
  try simp only
  exact Ce (Mo hL hn _) (fun x2 n hn _=>Mj hn _) (fun b hq=>⟨_,rfl,rfl⟩)
theorem Al2 {n:Nat}{t:Token}(hn:n<L.length)(h1:L.drop n=t::L.drop (n+1))(h3:C0 L (n:Int)=.ok t)(hk:t.Kind=1)(hw:t.Text=[99,108,97,115,115])(A:Airspace)(hF:A.Classes.length≤8):P2 E L Xu Prod.fst (Ez A (t::L.drop (n+1))) (Ca (Dt L n E) A.Volumes A.Sectors A.Configs A.Segments A.Routes A.Airports A.Classes A.Rules):=by
 unfold Ca
 rw [Lt (Nat.le_of_lt hn) h1,R.ok_bind,hk,hw]
 rw [show Pp 1 [99,108,97,115,115]=6 from rfl,if_neg (by decide),show H9 ({ Volumes:=A.Volumes,Sectors:=A.Sectors,Configs:=A.Configs,Segments:=A.Segments,Routes:=A.Routes,Airports:=A.Airports,Classes:=A.Classes,Rules:=A.Rules }:Airspace) 6=.ok (decide ((A.Classes.length:Int)≥8)) from rfl,R.ok_bind]
 have e0:Ez A (t::L.drop (n+1))=if decide (8≤A.Classes.length)=true then .error (t::L.drop (n+1),2) else((Er Ab7).bind fun x=>.pure { A with Classes:=A.Classes++[x] }) (L.drop (n+1)):=by
  simp only [Ez,hk,hw]; rfl
 rw [e0]
 by_cases hf:8≤A.Classes.length
 ·obtain⟨q,f1,f2,f3⟩:=Jk (E:=E) (Nat.le_of_lt hn) 2
  have c1:decide (8≤A.Classes.length)=true:=decide_eq_true hf
  have c2:decide ((A.Classes.length:Int)≥8)=true:=decide_eq_true (by omega)
  rw [if_pos c1,if_pos c2,f1]
  rw [h1] at f3
  exact⟨by decide,_,rfl,f2,f3⟩
 ·have c1:¬ decide (8≤A.Classes.length)=true:=by simpa using hf
  have c2:¬ decide ((A.Classes.length:Int)≥8)=true:=by simp; omega
  rw [if_neg c1,if_neg c2,show C0 (Dt L n E).L (Dt L n E).N=.ok t from h3,R.ok_bind,Mn hL hn]
  have hb:(A.Classes.length+1) * 40≤Db:=by unfold Db; omega
  simp only [Er,Ab7,Om,Pz,show((6:Int)==0)=false from rfl,show((6:Int)==1)=false from rfl,show((6:Int)==2)=false from rfl,show((6:Int)==3)=false from rfl,show((6:Int)==4)=false from rfl,show((6:Int)==5)=false from rfl,show((6:Int)==6)=true from rfl,Bool.false_eq_true,if_false,if_true,Dq,C9,Cm,List.length_singleton,if_pos hb]
  refine Ce (Io hL (n:=n+1) hn) (fun x0 n hn hx0=>?_) (fun b hq=>?_)
  rotate_left
  ·have hq:b.2.E≠0:=hq
   refine⟨?_,?_,?_⟩
   rotate_left
   ·simp only [B9 hq,Cw hq,Cs hq,C6 hq,Cu hq,Cp hq,R.ok_bind]; rfl
   ·rfl
  try simp only
  refine Ce (Ml hL hn _) (fun x1 n hn hx1=>?_) (fun b hq=>?_)
  rotate_left
  ·have hq:b.E≠0:=hq
   refine⟨?_,?_,?_⟩
   rotate_left
   ·simp only [B9 hq,Cw hq,Cs hq,C6 hq,Cu hq,Cp hq,R.ok_bind]; rfl
   ·rfl
  try simp only
  refine Ce (Lg hL hn _ _ 1 (by decide)) (fun x2 n hn hx2=>?_) (fun b hq=>?_)
  rotate_left
  ·have hq:b.2.E≠0:=hq
   refine⟨?_,?_,?_⟩
   rotate_left
   ·simp only [B9 hq,Cw hq,Cs hq,C6 hq,Cu hq,Cp hq,R.ok_bind]; rfl
   ·rfl
  try simp only
  refine Ce (Ml hL hn _) (fun x3 n hn hx3=>?_) (fun b hq=>?_)
  rotate_left
  ·have hq:b.E≠0:=hq
   refine⟨?_,?_,?_⟩
   rotate_left
   ·simp only [B9 hq,Cw hq,Cs hq,C6 hq,Cu hq,Cp hq,R.ok_bind]; rfl
   ·rfl
  try simp only
  refine Ce (Lg hL hn _ _ 1 (by decide)) (fun x4 n hn hx4=>?_) (fun b hq=>?_)
  rotate_left
  ·have hq:b.2.E≠0:=hq
   refine⟨?_,?_,?_⟩
   rotate_left
   ·simp only [B9 hq,Cw hq,Cs hq,C6 hq,Cu hq,Cp hq,R.ok_bind]; rfl
   ·rfl
  try simp only
  refine Ce (Ml hL hn _) (fun x5 n hn hx5=>?_) (fun b hq=>?_)
  rotate_left
  ·have hq:b.E≠0:=hq
   refine⟨?_,?_,?_⟩
   rotate_left
   ·simp only [B9 hq,Cw hq,Cs hq,C6 hq,Cu hq,Cp hq,R.ok_bind]; rfl
   ·rfl
  try simp only
  refine Ce (Lg hL hn _ _ 1 (by decide)) (fun x6 n hn hx6=>?_) (fun b hq=>?_)
  rotate_left
  ·have hq:b.2.E≠0:=hq
   refine⟨?_,?_,?_⟩
   rotate_left
   ·simp only [B9 hq,Cw hq,Cs hq,C6 hq,Cu hq,Cp hq,R.ok_bind]; rfl
   ·rfl
  try simp only
  exact Ce (Mo hL hn _) (fun x7 n hn _=>Mj hn _) (fun b hq=>⟨_,rfl,rfl⟩)
theorem Amd {n:Nat}{t:Token}(hn:n<L.length)(h1:L.drop n=t::L.drop (n+1))(h3:C0 L (n:Int)=.ok t)(hk:t.Kind=1)(hw:t.Text=[99,117,114,102,101,119])(A:Airspace)(hF:A.Rules.length≤64):P2 E L Xu Prod.fst (Ez A (t::L.drop (n+1))) (Ca (Dt L n E) A.Volumes A.Sectors A.Configs A.Segments A.Routes A.Airports A.Classes A.Rules):=by
 unfold Ca
 rw [Lt (Nat.le_of_lt hn) h1,R.ok_bind,hk,hw]
 rw [show Pp 1 [99,117,114,102,101,119]=7 from rfl,if_neg (by decide),show H9 ({ Volumes:=A.Volumes,Sectors:=A.Sectors,Configs:=A.Configs,Segments:=A.Segments,Routes:=A.Routes,Airports:=A.Airports,Classes:=A.Classes,Rules:=A.Rules }:Airspace) 7=.ok (decide ((A.Rules.length:Int)≥64)) from rfl,R.ok_bind]
 have e0:Ez A (t::L.drop (n+1))=if decide (64≤A.Rules.length)=true then .error (t::L.drop (n+1),2) else((Er Acc).bind fun x=>.pure { A with Rules:=A.Rules++[x] }) (L.drop (n+1)):=by
  simp only [Ez,hk,hw]; rfl
 rw [e0]
 by_cases hf:64≤A.Rules.length
 ·obtain⟨q,f1,f2,f3⟩:=Jk (E:=E) (Nat.le_of_lt hn) 2
  have c1:decide (64≤A.Rules.length)=true:=decide_eq_true hf
  have c2:decide ((A.Rules.length:Int)≥64)=true:=decide_eq_true (by omega)
  rw [if_pos c1,if_pos c2,f1]
  rw [h1] at f3
  exact⟨by decide,_,rfl,f2,f3⟩
 ·have c1:¬ decide (64≤A.Rules.length)=true:=by simpa using hf
  have c2:¬ decide ((A.Rules.length:Int)≥64)=true:=by simp; omega
  rw [if_neg c1,if_neg c2,show C0 (Dt L n E).L (Dt L n E).N=.ok t from h3,R.ok_bind,Mn hL hn]
  have hb:(A.Rules.length+1) * 80≤Db:=by unfold Db; omega
  simp only [Er,Acc,Om,Pz,show((7:Int)==0)=false from rfl,show((7:Int)==1)=false from rfl,show((7:Int)==2)=false from rfl,show((7:Int)==3)=false from rfl,show((7:Int)==4)=false from rfl,show((7:Int)==5)=false from rfl,show((7:Int)==6)=false from rfl,hw,show(([99,117,114,102,101,119]:Ay)==[99,117,114,102,101,119])=true from rfl,show(([99,117,114,102,101,119]:Ay)==[101,120,101,109,112,116])=false from rfl,show(([99,117,114,102,101,119]:Ay)==[119,101,105,103,104,116])=false from rfl,Bool.false_eq_true,if_false,if_true,Dq,C9,Cm,List.length_singleton,if_pos hb]
  refine Ce (Io hL (n:=n+1) hn) (fun x0 n hn hx0=>?_) (fun b hq=>?_)
  rotate_left
  ·have hq:b.2.E≠0:=hq
   refine⟨?_,?_,?_⟩
   rotate_left
   ·simp only [B9 hq,Cw hq,Cs hq,C6 hq,Cu hq,Cp hq,R.ok_bind]; rfl
   ·rfl
  try simp only
  refine Ce (Ml hL hn _) (fun x1 n hn hx1=>?_) (fun b hq=>?_)
  rotate_left
  ·have hq:b.E≠0:=hq
   refine⟨?_,?_,?_⟩
   rotate_left
   ·simp only [B9 hq,Cw hq,Cs hq,C6 hq,Cu hq,Cp hq,R.ok_bind]; rfl
   ·rfl
  try simp only
  refine Ce (Io hL hn) (fun x2 n hn hx2=>?_) (fun b hq=>?_)
  rotate_left
  ·have hq:b.2.E≠0:=hq
   refine⟨?_,?_,?_⟩
   rotate_left
   ·simp only [B9 hq,Cw hq,Cs hq,C6 hq,Cu hq,Cp hq,R.ok_bind]; rfl
   ·rfl
  try simp only
  refine Ce (Afb hL hn) (fun x3 n hn hx3=>?_) (fun b hq=>?_)
  rotate_left
  ·have hq:b.2.E≠0:=hq
   refine⟨?_,?_,?_⟩
   rotate_left
   ·simp only [B9 hq,Cw hq,Cs hq,C6 hq,Cu hq,Cp hq,R.ok_bind]; rfl
   ·rfl
  try simp only
  exact Ce (Mo hL hn _) (fun x4 n hn _=>Mj hn _) (fun b hq=>⟨_,rfl,rfl⟩)
theorem Amf {n:Nat}{t:Token}(hn:n<L.length)(h1:L.drop n=t::L.drop (n+1))(h3:C0 L (n:Int)=.ok t)(hk:t.Kind=1)(hw:t.Text=[101,120,101,109,112,116])(A:Airspace)(hF:A.Rules.length≤64):P2 E L Xu Prod.fst (Ez A (t::L.drop (n+1))) (Ca (Dt L n E) A.Volumes A.Sectors A.Configs A.Segments A.Routes A.Airports A.Classes A.Rules):=by
 unfold Ca
 rw [Lt (Nat.le_of_lt hn) h1,R.ok_bind,hk,hw]
 rw [show Pp 1 [101,120,101,109,112,116]=7 from rfl,if_neg (by decide),show H9 ({ Volumes:=A.Volumes,Sectors:=A.Sectors,Configs:=A.Configs,Segments:=A.Segments,Routes:=A.Routes,Airports:=A.Airports,Classes:=A.Classes,Rules:=A.Rules }:Airspace) 7=.ok (decide ((A.Rules.length:Int)≥64)) from rfl,R.ok_bind]
 have e0:Ez A (t::L.drop (n+1))=if decide (64≤A.Rules.length)=true then .error (t::L.drop (n+1),2) else((Er Aea).bind fun x=>.pure { A with Rules:=A.Rules++[x] }) (L.drop (n+1)):=by
  simp only [Ez,hk,hw]; rfl
 rw [e0]
 by_cases hf:64≤A.Rules.length
 ·obtain⟨q,f1,f2,f3⟩:=Jk (E:=E) (Nat.le_of_lt hn) 2
  have c1:decide (64≤A.Rules.length)=true:=decide_eq_true hf
  have c2:decide ((A.Rules.length:Int)≥64)=true:=decide_eq_true (by omega)
  rw [if_pos c1,if_pos c2,f1]
  rw [h1] at f3
  exact⟨by decide,_,rfl,f2,f3⟩
 ·have c1:¬ decide (64≤A.Rules.length)=true:=by simpa using hf
  have c2:¬ decide ((A.Rules.length:Int)≥64)=true:=by simp; omega
  rw [if_neg c1,if_neg c2,show C0 (Dt L n E).L (Dt L n E).N=.ok t from h3,R.ok_bind,Mn hL hn]
  have hb:(A.Rules.length+1) * 80≤Db:=by unfold Db; omega
  simp only [Er,Aea,Om,Pz,show((7:Int)==0)=false from rfl,show((7:Int)==1)=false from rfl,show((7:Int)==2)=false from rfl,show((7:Int)==3)=false from rfl,show((7:Int)==4)=false from rfl,show((7:Int)==5)=false from rfl,show((7:Int)==6)=false from rfl,hw,show(([101,120,101,109,112,116]:Ay)==[99,117,114,102,101,119])=false from rfl,show(([101,120,101,109,112,116]:Ay)==[101,120,101,109,112,116])=true from rfl,show(([101,120,101,109,112,116]:Ay)==[119,101,105,103,104,116])=false from rfl,Bool.false_eq_true,if_false,if_true,Dq,C9,Cm,List.length_singleton,if_pos hb]
  refine Ce (Io hL (n:=n+1) hn) (fun x0 n hn hx0=>?_) (fun b hq=>?_)
  rotate_left
  ·have hq:b.2.E≠0:=hq
   refine⟨?_,?_,?_⟩
   rotate_left
   ·simp only [B9 hq,Cw hq,Cs hq,C6 hq,Cu hq,Cp hq,R.ok_bind]; rfl
   ·rfl
  try simp only
  exact Ce (Mo hL hn _) (fun x1 n hn _=>Mj hn _) (fun b hq=>⟨_,rfl,rfl⟩)
theorem Aly {n:Nat}{t:Token}(hn:n<L.length)(h1:L.drop n=t::L.drop (n+1))(h3:C0 L (n:Int)=.ok t)(hk:t.Kind=1)(hw:t.Text=[119,101,105,103,104,116])(A:Airspace)(hF:A.Rules.length≤64):P2 E L Xu Prod.fst (Ez A (t::L.drop (n+1))) (Ca (Dt L n E) A.Volumes A.Sectors A.Configs A.Segments A.Routes A.Airports A.Classes A.Rules):=by
 unfold Ca
 rw [Lt (Nat.le_of_lt hn) h1,R.ok_bind,hk,hw]
 rw [show Pp 1 [119,101,105,103,104,116]=7 from rfl,if_neg (by decide),show H9 ({ Volumes:=A.Volumes,Sectors:=A.Sectors,Configs:=A.Configs,Segments:=A.Segments,Routes:=A.Routes,Airports:=A.Airports,Classes:=A.Classes,Rules:=A.Rules }:Airspace) 7=.ok (decide ((A.Rules.length:Int)≥64)) from rfl,R.ok_bind]
 have e0:Ez A (t::L.drop (n+1))=if decide (64≤A.Rules.length)=true then .error (t::L.drop (n+1),2) else((Er Ach).bind fun x=>.pure { A with Rules:=A.Rules++[x] }) (L.drop (n+1)):=by
  simp only [Ez,hk,hw]; rfl
 rw [e0]
 by_cases hf:64≤A.Rules.length
 ·obtain⟨q,f1,f2,f3⟩:=Jk (E:=E) (Nat.le_of_lt hn) 2
  have c1:decide (64≤A.Rules.length)=true:=decide_eq_true hf
  have c2:decide ((A.Rules.length:Int)≥64)=true:=decide_eq_true (by omega)
  rw [if_pos c1,if_pos c2,f1]
  rw [h1] at f3
  exact⟨by decide,_,rfl,f2,f3⟩
 ·have c1:¬ decide (64≤A.Rules.length)=true:=by simpa using hf
  have c2:¬ decide ((A.Rules.length:Int)≥64)=true:=by simp; omega
  rw [if_neg c1,if_neg c2,show C0 (Dt L n E).L (Dt L n E).N=.ok t from h3,R.ok_bind,Mn hL hn]
  have hb:(A.Rules.length+1) * 80≤Db:=by unfold Db; omega
  simp only [Er,Ach,Om,Pz,show((7:Int)==0)=false from rfl,show((7:Int)==1)=false from rfl,show((7:Int)==2)=false from rfl,show((7:Int)==3)=false from rfl,show((7:Int)==4)=false from rfl,show((7:Int)==5)=false from rfl,show((7:Int)==6)=false from rfl,hw,show(([119,101,105,103,104,116]:Ay)==[99,117,114,102,101,119])=false from rfl,show(([119,101,105,103,104,116]:Ay)==[101,120,101,109,112,116])=false from rfl,show(([119,101,105,103,104,116]:Ay)==[119,101,105,103,104,116])=true from rfl,Bool.false_eq_true,if_false,if_true,Dq,C9,Cm,List.length_singleton,if_pos hb]
  refine Ce (Io hL (n:=n+1) hn) (fun x0 n hn hx0=>?_) (fun b hq=>?_)
  rotate_left
  ·have hq:b.2.E≠0:=hq
   refine⟨?_,?_,?_⟩
   rotate_left
   ·simp only [B9 hq,Cw hq,Cs hq,C6 hq,Cu hq,Cp hq,R.ok_bind]; rfl
   ·rfl
  try simp only
  refine Ce (Lg hL hn _ _ 1 (by decide)) (fun x1 n hn hx1=>?_) (fun b hq=>?_)
  rotate_left
  ·have hq:b.2.E≠0:=hq
   refine⟨?_,?_,?_⟩
   rotate_left
   ·simp only [B9 hq,Cw hq,Cs hq,C6 hq,Cu hq,Cp hq,R.ok_bind]; rfl
   ·rfl
  try simp only
  exact Ce (Mo hL hn _) (fun x2 n hn _=>Mj hn _) (fun b hq=>⟨_,rfl,rfl⟩)
theorem Alv {n:Nat}{t:Token}(hn:n<L.length)(h1:L.drop n=t::L.drop (n+1))(h3:C0 L (n:Int)=.ok t)(hk:t.Kind=1)(hw:t.Text=[108,111,110,103,101,115,116])(A:Airspace)(hF:A.Rules.length≤64):P2 E L Xu Prod.fst (Ez A (t::L.drop (n+1))) (Ca (Dt L n E) A.Volumes A.Sectors A.Configs A.Segments A.Routes A.Airports A.Classes A.Rules):=by
 unfold Ca
 rw [Lt (Nat.le_of_lt hn) h1,R.ok_bind,hk,hw]
 rw [show Pp 1 [108,111,110,103,101,115,116]=7 from rfl,if_neg (by decide),show H9 ({ Volumes:=A.Volumes,Sectors:=A.Sectors,Configs:=A.Configs,Segments:=A.Segments,Routes:=A.Routes,Airports:=A.Airports,Classes:=A.Classes,Rules:=A.Rules }:Airspace) 7=.ok (decide ((A.Rules.length:Int)≥64)) from rfl,R.ok_bind]
 have e0:Ez A (t::L.drop (n+1))=if decide (64≤A.Rules.length)=true then .error (t::L.drop (n+1),2) else((Er Aaz).bind fun x=>.pure { A with Rules:=A.Rules++[x] }) (L.drop (n+1)):=by
  simp only [Ez,hk,hw]; rfl
 rw [e0]
 by_cases hf:64≤A.Rules.length
 ·obtain⟨q,f1,f2,f3⟩:=Jk (E:=E) (Nat.le_of_lt hn) 2
  have c1:decide (64≤A.Rules.length)=true:=decide_eq_true hf
  have c2:decide ((A.Rules.length:Int)≥64)=true:=decide_eq_true (by omega)
  rw [if_pos c1,if_pos c2,f1]
  rw [h1] at f3
  exact⟨by decide,_,rfl,f2,f3⟩
 ·have c1:¬ decide (64≤A.Rules.length)=true:=by simpa using hf
  have c2:¬ decide ((A.Rules.length:Int)≥64)=true:=by simp; omega
  rw [if_neg c1,if_neg c2,show C0 (Dt L n E).L (Dt L n E).N=.ok t from h3,R.ok_bind,Mn hL hn]
  have hb:(A.Rules.length+1) * 80≤Db:=by unfold Db; omega
  simp only [Er,Aaz,Om,Pz,show((7:Int)==0)=false from rfl,show((7:Int)==1)=false from rfl,show((7:Int)==2)=false from rfl,show((7:Int)==3)=false from rfl,show((7:Int)==4)=false from rfl,show((7:Int)==5)=false from rfl,show((7:Int)==6)=false from rfl,hw,show(([108,111,110,103,101,115,116]:Ay)==[99,117,114,102,101,119])=false from rfl,show(([108,111,110,103,101,115,116]:Ay)==[101,120,101,109,112,116])=false from rfl,show(([108,111,110,103,101,115,116]:Ay)==[119,101,105,103,104,116])=false from rfl,Bool.false_eq_true,if_false,if_true,Dq,C9,Cm,List.length_singleton,if_pos hb]
  refine Ce (Io hL (n:=n+1) hn) (fun x0 n hn hx0=>?_) (fun b hq=>?_)
  rotate_left
  ·have hq:b.2.E≠0:=hq
   refine⟨?_,?_,?_⟩
   rotate_left
   ·simp only [B9 hq,Cw hq,Cs hq,C6 hq,Cu hq,Cp hq,R.ok_bind]; rfl
   ·rfl
  try simp only
  refine Ce (Lg hL hn _ _ 10 (by decide)) (fun x1 n hn hx1=>?_) (fun b hq=>?_)
  rotate_left
  ·have hq:b.2.E≠0:=hq
   refine⟨?_,?_,?_⟩
   rotate_left
   ·simp only [B9 hq,Cw hq,Cs hq,C6 hq,Cu hq,Cp hq,R.ok_bind]; rfl
   ·rfl
  try simp only
  exact Ce (Mo hL hn _) (fun x2 n hn _=>Mj hn _) (fun b hq=>⟨_,rfl,rfl⟩)
end
end Go.Am

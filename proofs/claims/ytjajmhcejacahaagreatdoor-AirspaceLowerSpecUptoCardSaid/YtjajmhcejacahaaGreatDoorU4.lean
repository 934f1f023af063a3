import Derived.Test.YtjajmhcejacahaaGreatDoorU3
import Derived.RangeFuncIn
import Derived.RangeFuncLeaves
import Derived.ProofKit
import Derived.OpenShut
import Derived.JoinedCond
import Derived.WideKeyArgs
import Derived.Deep.DeepHandedRow
import Derived.Lib.LaidU8
import Derived.Lay
import Derived.MakeChecks
import Derived.LaidMore
import Derived.WideKeyElems2
import Derived.KernelRfl
import Derived.Lib.SlBytesConst
set_option linter.all false
namespace Go.Am
open Go
abbrev AT:=@Int.ofNat_lt
abbrev BO:=@List.getElem?_set_self
abbrev BP:=@Option.map_eq_some_iff
abbrev BZ:=@List.getElem?_eq_some_iff
abbrev CF:=@Int.lt_irrefl
abbrev CH:=@Nat.le_of_ble_eq_true
abbrev DH:=@List.take_append_drop
abbrev DN:=@Nat.not_lt_zero
abbrev DP:=@List.contains_iff_mem
abbrev DU:=@List.all_cons
abbrev DX:=@List.getElem?_cons_zero
abbrev EG:=@List.drop_eq_getElem_cons
abbrev ER:=@Option.map_none
abbrev FF:=@List.flatMap_append
abbrev FG:=@List.replicate_zero
abbrev FL:=@List.map_take
abbrev FM:=@List.map_drop
abbrev FT:=@List.map_map
abbrev GB:=@List.append_nil
abbrev GE:=@List.drop_drop
abbrev GM:=@cond_true
abbrev GP:=@Nat.sub_zero
abbrev GZ:=@List.nodup_nil
abbrev HB:=@Int.natCast_nonneg
abbrev HI:=@List.pairwise_iff_getElem
abbrev HS:=@List.mem_flatMap
abbrev HU:=@Option.elim_some
inductive AFz (h h2:Aa):AO->AO->Prop
 |same (x:AO):AFz h h2 x x
 |rows (g st:Nat) (rs rs':List (List AV)) (hl:rs.length=rs'.length) (hr:∀r∈rs',Cy st r) (hc:∀i j,i<rs.length->j<st->Fz h h2 (cell rs i j) (cell rs' i j)):AFz h h2 (.rows g st rs) (.rows g st rs')
def HFz (h h2:Aa):Prop:=∀o y,h2 o=some y->∃x,h o=some x/\AFz h h2 x y
variable{h:Aa}{h2:Aa}
def AFz.gen{x y:AO}(k:AFz h h2 x y):x.gen=y.gen:=by cases k<;>rfl
def HFz.subG(k:HFz h h2):Awb h2 h:=λo y e=>let ⟨x,h1,h2⟩:=k o y e;⟨x,h1,h2.gen⟩
def Sim.fz {P:Program}[GW P]{B:Base P}{mu:Mu}{h h2:Aa}{w:World}(s:Sim B mu h w)(k:HFz h h2):Sim B mu h2 w:=by
 refine⟨s.base,s.muOk,s.fin,?_,?_,?_,?_,s.glob,λo g x e=>by
  obtain⟨y,h1,A⟩:=k o _ e;cases A with
  |same _=>exact s.blks o g x h1⟩
 .obtain⟨N,Z⟩:=s.finh;refine⟨N,λo ho=>?_⟩;cases hq:h2 o with
  |none=>rfl
  |some y=>obtain⟨x,h1,_⟩:=k o y hq;rw[Z o ho]at h1;cases h1
 .intro o g st rs e;obtain⟨x,h1,A⟩:=k o _ e;cases A with
  |same _=>obtain⟨l,k1,k2,D,G,O,U⟩:=s.rows o g st rs h1;exact⟨l,k1,k2,D,G,O,λi j hi S=>let ⟨c,c1,c2⟩:=U i j hi S;⟨c,c1,Ps s k.subG (.same _) c2⟩⟩
  |rows _ _ V _ W hr hc=>obtain⟨l,k1,k2,D,G,O,U⟩:=s.rows o g st V h1;exact⟨l,k1,k2,D,by rw[<-W];exact G,hr,λi j hi S=>let ⟨c,c1,c2⟩:=U i j (W▸hi) S;⟨c,c1,Ps s k.subG (hc i j (W▸hi) S) c2⟩⟩
 .intro o g es e;obtain⟨x,h1,A⟩:=k o _ e;cases A with
  |same _=>obtain⟨l,k1,k2,ens,z,D,G,O⟩:=s.maps o g es h1;exact⟨l,k1,k2,ens,z,D,G,λi hi=>⟨Ps s k.subG (.same _) (O i hi).1,Ps s k.subG (.same _) (O i hi).2⟩⟩
 .intro o o' x x' l l' e e' h1 h2 hb;obtain⟨y,k1,k2⟩:=k _ _ e;obtain⟨y',X,Y⟩:=k _ _ e';exact s.inj o o' y y' l l' k1 X (by rw[k2.gen];exact h1) (by rw[Y.gen];exact h2) hb
variable{P:Program}{f:FuncId}{n:Nat}{d:FK}{fr:Nat→AV}{ds:List AD}{u:AU}{k:List Item}{todo:List Item}{fn:Func}
section
variable[GW P]{Q:QT}
def A88{fr':Nat->AV}(z:HFz h h2)(hz:∀t,Fz h h2 (fr t) (fr' t))(hr:E8 P f n d todo fr' ds h2 u Q):E8 P f n d todo fr ds h u Q:=by intro B mu w a cs p;exact(hr B mu w a cs ⟨p.size,λt=>Ps p.sim z.subG (hz t) (p.fr t),p.ds.ext (Ez.subG z.subG),p.sim.fz z,p.cs.ext (Ez.subG z.subG),p.rnd,p.fb⟩).ext (Ez.subG z.subG)
def Atl{vs:List AV}{v':AV}(hf:P.funcs[f]?=some fn)(O:Gc P h fr fn.results.toList=some vs)(A:HFz h h2)(hz:Fz h h2 (Hn vs) v')(G:d=false)(S:Q (.ret v') h2 u):Xl P f n d .ret fr [] h u Q:=by intro B mu w a cs todo mode p U;obtain⟨c,h1,D⟩:=Agh p.sim p.fr O;have V:a.defers=[]:=p.ds;have z:=U.ret_inv;refine⟨.returned c,w,cs,_,.ret v',h2,mu,u,S,Steps.refl P _,rfl,rfl,(by subst G;exact⟨z,V,fn,hf,h1⟩),Ps p.sim A.subG hz D,p.sim.fz A,(Ez.subG A.subG).g,?_⟩;subst G;rfl
end
inductive HL (h h2:Aa):List (Option AO)->List (Option AO)->Prop
 |nil:HL h h2 [] []
 |keep {x:Option AO} {xs ys:List (Option AO)} (r:HL h h2 xs ys):HL h h2 (x::xs) (x::ys)
 |drop {x:Option AO} {xs ys:List (Option AO)} (r:HL h h2 xs ys):HL h h2 (x::xs) (none::ys)
 |fz {g st:Nat} {row row':List AV} {xs ys:List (Option AO)} (hz:LF h h2 row row') (hl:row'.length=st) (hf:row'.all AV.flat=true) (r:HL h h2 xs ys):HL h h2 (some (.rows g st [row])::xs) (some (.rows g st [row'])::ys)
variable{xs:List (Option AO)}{ys:List (Option AO)}
def HL.get(k:HL h h2 xs ys):xs.length=ys.length/\∀(j:Nat) (y:AO),ys[j]?=some (some y)->∃x,xs[j]?=some (some x)/\AFz h h2 x y:=by
 induction k with
 |nil=>exact⟨rfl,λj y e=>by simp at e⟩
 |keep r z=>
  refine⟨by simp[z.1],λj y e=>?_⟩;cases j with
  |zero=>simp only[DX,AX]at e;subst e;exact⟨y,by simp,.same _⟩
  |succ j=>simpa using z.2 j y (by simpa using e)
 |drop r z=>
  refine⟨by simp[z.1],λj y e=>?_⟩;cases j with
  |zero=>simp at e
  |succ j=>simpa using z.2 j y (by simpa using e)
 |@fz g st row A xs ys hz D hf r z=>
  refine⟨by simp[z.1],λj y e=>?_⟩;cases j with
  |zero=>
   simp only[DX,AX]at e;subst e;refine⟨.rows g st [row],by simp only[DX],.rows g st [row] [A] rfl ?_ ?_⟩
   .intro r hr;rw[AM.1 hr];exact⟨D,λv G=>AJ.1 hf v G⟩
   .intro i j hi O;have:i=0:=by simpa using hi
    subst this;have:=hz.all.2 j (by rw[hz.all.1,D];exact O);simpa[cell]using this
  |succ j=>simpa using z.2 j y (by simpa using e)
variable{h0:Aa}{ids:List Nat}{N:Nat}
def HL.hfz(A:Ids h0 ids N)(D:xs.length=N)(k:HL (hp h0 ids xs) (hp h0 ids ys) xs ys):HFz (hp h0 ids xs) (hp h0 ids ys):=by
 intro o y e;obtain⟨k1,k2⟩:=k.get;by_cases G:o∈ids
 .obtain⟨j,O,rfl⟩:=DK.1 G;have S:ids[j]=ix ids j:=by simp[ix,List.getD,O]
  rw[S]at e ⊢;have z:j<ys.length:=by rw[<-k1,D,<-A.len];exact O
  have U:=A.at (xs:=ys) (j:=j) (x:=ys[j]) (by rw[<-k1,D]) (AA z);rw[U]at e;obtain⟨x,V,hz⟩:=k2 j y (by rw[AA z,e]);exact⟨x,A.at D V,hz⟩
 .rw[Aaa G]at e;exact⟨y,by rw[Aaa G];exact e,.same _⟩
variable{β:Type}{Q:Spec β}{m:R β}{l:List (Nat×AV)}{ops:List Oper}
section
variable[GW P]{all:List Oper}
def Aaw(ys:List (Option AO))(l':List (Nat×AV))(z:Ids h0 ids N)(A:xs.length=N)(D:HL (hp h0 ids xs) (hp h0 ids ys) xs ys)(hf:FrFz (hp h0 ids xs) (hp h0 ids ys) l l')(hr:WR P f n d Q m todo (Ac l') ds (hp h0 ids ys) u):WR P f n d Q m todo (Ac l) ds (hp h0 ids xs) u:=λG=>A88 (D.hfz z A) hf.get (hr G)
def Bme(ys:List (Option AO))(l':List (Nat×AV))(z:Ids h0 ids N)(A:xs.length=N)(D:HL (hp h0 ids xs) (hp h0 ids ys) xs ys)(hf:FrFz (hp h0 ids xs) (hp h0 ids ys) l l')(hr:WO P f n d Q k all m ops (Ac l') ds (hp h0 ids ys) u):WO P f n d Q k all m ops (Ac l) ds (hp h0 ids xs) u:=λG i hi=>A88 (D.hfz z A) hf.get (hr G i hi)
end
def S9:List Nat->List (Option AO)->List (Option AO)
 |[],xs=>xs
 |j::js,xs=>S9 js (xs.set j none)
def T8:List Nat->List (Option AO)->List (Option AO)->List (Option AO)
 |j::js,y::ys,xs=>(T8 js ys (xs.set j none)).set j y
 |_,_,xs=>xs
def Un (ids:List Nat):List Nat->List Nat
 |[]=>[]
 |j::js=>ix ids j::Un ids js
def V9 (N:Nat):List Nat->Bool
 |[]=>true
 |j::js=>Nat.blt j N&&!js.contains j&&V9 N js
def A4a:∀(js:List Nat) (xs:List (Option AO)),(S9 js xs).length=xs.length
 |[],_=>rfl
 |j::js,xs=>by rw[S9,A4a js];simp
def Az0:∀(js:List Nat) (ys xs:List (Option AO)),(T8 js ys xs).length=xs.length
 |[],_,_=>by simp[T8]
 |_::_,[],_=>by simp[T8]
 |j::js,y::ys,xs=>by rw[T8,FZ,Az0 js];simp
def A0q:∀(js:List Nat) (xs:List (Option AO)) (i:Nat),xs[i]?=some none->(S9 js xs)[i]?=some none
 |[],_,_,h=>h
 |j::js,xs,i,h=>A0q js _ i (by
  rw[FS];split
  .rename_i A;subst A;rw[if_pos];rcases CI j xs.length with z|z
   .exact z
   .rw[BA z]at h;cases h
  .exact h)
def A94:∀(js:List Nat) (xs:List (Option AO)) (i:Nat),i∈js->i<xs.length->(S9 js xs)[i]?=some none
 |j::js,xs,i,z,hi=>by
  rcases AN.1 z with rfl|z
  .exact A0q js _ i (by simp[hi])
  .exact A94 js _ i z (by simpa using hi)
variable{js:List Nat}
section
def Aq6 (z:Ids h0 ids N):∀{js:List Nat} {ys xs:List (Option AO)},xs.length=N->js.length=ys.length->V9 N js=true->hp (hp h0 ids (S9 js xs)) (Un ids js) ys=hp h0 ids (T8 js ys xs)
 |[],[],xs,_,_,_=>rfl
 |j::js,y::ys,xs,A,D,hk=>by simp only[V9,AK]at hk;simp only[Un,hp,S9,T8];rw[Aq6 z (js:=js) (ys:=ys) (xs:=xs.set j none) (by simpa using A) (by simpa using D) hk.2];rw[z.set (by rw[Az0];simpa using A) hk.1.1]
def Ids.sub'(hI:Ids h0 ids N)(hl:xs.length=N)(hk:V9 N js=true):Ids (hp h0 ids (S9 js xs)) (Un ids js) js.length:=by
 have hlt:∀{js:List Nat},V9 N js=true->∀j∈js,j<N:=by
  intro js;induction js with
  |nil=>intro _ j hj;cases hj
  |cons i js ih=>
   intro hk j hj;simp only[V9,AK]at hk;rcases AN.1 hj with rfl|hj
   .simpa using hk.1.1
   .exact ih hk.2 j hj
 have hmem:∀{js:List Nat} {o:Nat},o∈Un ids js->∃j∈js,o=ix ids j:=by
  intro js;induction js with
  |nil=>intro o ho;cases ho
  |cons i js ih=>
   intro o ho;rcases AN.1 ho with rfl|ho
   .exact⟨i,BE ..,rfl⟩
   .obtain⟨j,h1,h2⟩:=ih ho;exact⟨j,BC _ h1,h2⟩
 have hinj:∀{i j:Nat},i<N->j<N->ix ids i=ix ids j->i=j:=by
  intro i j hi hj e;rw[<-hI.len]at hi hj;simp only[ix,List.getD,AA hi,AA hj,BH]at e;rcases Nat.lt_trichotomy i j with hh|hh|hh
  .exact absurd e (HI.1 hI.nodup i j hi hj hh)
  .exact hh
  .exact absurd e.symm (HI.1 hI.nodup j i hj hi hh)
 refine⟨?_,?_,?_⟩
 .have key:∀{js:List Nat},V9 N js=true->(Un ids js).Nodup:=by
   intro js
   induction js with
   |nil=>intro _;exact GZ
   |cons i js ih=>intro hk;have hk':=hk;simp only[V9,AK]at hk;refine DY.2 ⟨λhm=>?_,ih hk.2⟩;obtain⟨j,h1,h2⟩:=hmem hm;have:=hinj (by simpa using hk.1.1) (hlt hk.2 j h1) h2;subst this;have:=hk.1.2;simp[h1]at this
  exact key hk
 .intro o ho;obtain⟨j,h1,rfl⟩:=hmem ho;exact hI.at (by rw[A4a];exact hl) (A94 js xs j h1 (by rw[hl];exact hlt hk j h1))
 .clear hk;induction js with
  |nil=>rfl
  |cons i js ih=>simp only[Un,BV];rw[ih]
end
variable{α:Type}
def Kn(S:α->AV->Aa->Prop)(h0:Aa)(m:R α):AR->Aa->Prop:=λr h'=>match m with
 |.ok a=>∃v,r=.ret v/\S a v h'
 |.pan v=>r=.panic v.av/\h'=h0
 |.bad=>False
def Zk(S:α->AV->Aa->Prop)(h0:Aa):Spec α:=⟨λm=>m≠.bad,λh=>h rfl,λm r h' _=>Kn S h0 m r h'⟩
def tkf (ids:List Nat):Nat->Nat->List Nat
 |0,_=>[]
 |k+1,j=>ix ids j::tkf ids k (j+1)
def A2n:∀(ids:List Nat) (k j:Nat),j+k<=ids.length->(ids.drop j).take k=tkf ids k j
 |ids,0,j,_=>by simp[tkf]
 |ids,k+1,j,h=>by
  have z:j<ids.length:=by omega
  rw[EG z,EL,tkf,A2n ids k (j+1) (by omega)];simp[ix,List.getD,z]
variable{S:α→AV→Aa→Prop}{c:Code}{args:List AV}{os0:List Nat}{v:AV}
section
variable[GW P]{m:R α}
def A8r{K:Nat}(N:Nat)(hf:P.funcs[f]?=some fn)(hb:fn.body=some c)(hn:fn.name≠"runtime.NumGoroutine")(hnt:fn.ntmps=n)(hl:Nat.ble args.length n=true)(hI0:Ids h0 os0 K)(hx:xs.length=K)(hr:∀ids,(∀j,Nat.blt j K=true→ix ids j=ix os0 j)→Ids h0 ids (K+N)→WR P f n false (Zk S h0) m [.code c] (Ac (Aa5 0 args)) [] (hp h0 ids (xs++List.replicate N none)) .ret):
  m≠.bad→Bs P f args (hp h0 os0 xs) (Kn S h0 m):=by
 intro hb'
 refine Tw hf hb hn hnt (by simpa using hl) ?_
 refine Aee N os0 fun os h1 h2 h3 h4=>?_
 have hout:∀o∈os,o∉os0:=fun o ho=>h4 o ho
 have hI:Ids h0 (os0++os) (K+N):=by
  refine⟨List.nodup_append.2 ⟨hI0.nodup,h2,fun a ha b hb hq=>hout b hb (hq▸ha)⟩,fun o ho=>?_,by simp[hI0.len,h1]⟩;rcases List.mem_append.1 ho with ho|ho
  ·exact hI0.fresh o ho
  ·have:=h3 o ho;rwa[Aaa (hout o ho)]at this
 have e:hp h0 (os0++os) (xs++List.replicate N none)=hp h0 os0 xs:=by rw[Ak0 (by rw[hI0.len,hx]),Rw fun o ho=>hI.fresh o (List.mem_append_right _ ho)]
 have:=hr (os0++os) (fun j hj=>by
  have hj':j<os0.length:=by rw[hI0.len];simpa using hj
  simp[ix,List.getD,List.getElem?_append_left hj']) hI hb'
 rw[e]at this
 refine R2 (fun t=>?_) this
 rcases T0 args 0 t with h|⟨_,h⟩
 ·exact .inl h
 ·exact .inr h
section
variable{K:Nat}
def Awe(z:Ids h0 ids (K+N))(A:ys.length=K):hp h0 ids (ys++List.replicate N none)=hp h0 (tkf ids K 0) ys:=by
 have e:=A2n ids K 0 (by rw[z.len];omega);rw[DV]at e;rw[<-e];have D:ids=ids.take K++ids.drop K:=(DH K ids).symm;conv=>lhs;rw[D]
 rw[Ak0 (by rw[BS,z.len,A];omega),Rw λo G=>z.fresh o (CK G)]
def Abi{a:α}{vs:List AV}(ys:List (Option AO))(hf:P.funcs[f]?=some fn)(z:Ids h0 ids (K+N))(A:xs.length=K+N)(hr:Gc P (hp h0 ids xs) (Ac l) fn.results.toList=some vs)(D:ys.length=K)(G:HL (hp h0 ids xs) (hp h0 ids (ys++List.replicate N none)) xs (ys++List.replicate N none))(hz:Fz (hp h0 ids xs) (hp h0 ids (ys++List.replicate N none)) (Hn vs) v)(O:S a v (hp h0 (tkf ids K 0) ys)):
  WR P f n false (Zk S h0) (.ok a) (.code .ret::k) (Ac l) [] (hp h0 ids xs) u:=λ_=>by
 refine Abo (Atl hf hr (G.hfz z A) hz rfl ⟨v,rfl,?_⟩)
 rw[Awe z D];exact O
def Al8{a:α}{vs:List AV}(ys:List (Option AO))(hf:P.funcs[f]?=some fn)(z:Ids h0 ids (K+N))(A:xs.length=K+N)(hr:Gc P (hp h0 ids xs) (Ac l) fn.results.toList=some vs)(D:ys.length=K)(G:HL (hp h0 ids xs) (hp h0 ids (ys++List.replicate N none)) xs (ys++List.replicate N none))(hz:Fz (hp h0 ids xs) (hp h0 ids (ys++List.replicate N none)) (Hn vs) v)(O:S a v (hp h0 (tkf ids K 0) ys)):
  WR P f n false (Zk S h0) (.ok a) [] (Ac l) [] (hp h0 ids xs) u:=λ_=>by
 refine Arf (Atl hf hr (G.hfz z A) hz rfl ⟨v,rfl,?_⟩)
 rw[Awe z D];exact O
def Cr{v:PV}(hf:P.funcs[f]?=some fn)(z:Ids h0 ids (K+N)):WU P f n false (Zk S h0) (.pan v) (.pan v.av false) fr [] (hp h0 ids xs) u:=λ_=>Aoj hf (z.sub xs) (.same _) ⟨rfl,rfl⟩
end
end
variable{γ:Type}{ty:TypeId}{after:Array Edge}{zs:List (Option AO)}{x:Operand}{as0:List Operand}{ts:Array TypeId}{fst:List AV}{cap:List AV}{gd:Option (Nat×Bool)}{mg:R α}{rest:α→R γ}{t:Nat}{pre:List (List Nat)}{plan:D5}{pend:Gn}{i:Nat}
section
variable[GW P]{F:γ→R β}{all r:List Oper}{pos:String}
def A5h(js:List Nat)(ys:List (Option AO))(z:Ids h0 ids N)(A:xs.length=N)(hk:V9 N js=true)(hz:js.length=zs.length)(e:T8 js zs xs=ys)(hr:WO P f n d Q k all m ops fr ds (hp h0 ids ys) u):
  WO P f n d Q k all m ops fr ds (hp (hp h0 ids (S9 js xs)) (Un ids js) zs) u:=by
 subst e
 rw[Aq6 z A hz hk];exact hr
def Dj{dst:Option Tmp}{g:FuncId}{A:List AV}(js:List Nat)(Y:Ids h0 ids N)(Z:xs.length=N)(hk:V9 N js=true)(V:mg≠.bad->Bs P g A (hp (hp h0 ids (S9 js xs)) (Un ids js) zs) (Kn S (hp h0 ids (S9 js xs)) mg))(hz:js.length=zs.length)(e2:T8 js zs xs=xs)(ht:Ee n dst=true)(hw:Cx all (Ac l) ⟨dst,.call ⟨.value x,⟨as0⟩,ts⟩,ty,pos,after,gd⟩=some true)(hx:ev (Ac l) x=.func (.func g) fst cap)(ha:fst++Ev (Ac l) as0++cap=A)(O:∀v,mg=.pan v->WU P f n d Q (.pan v) (.pan v.av false) (Ac l) ds (hp h0 ids (S9 js xs)) u)(hk:∀a,mg=.ok a->∀v h',S a v h'->WO P f n d Q k all ((rest a).bind F) r (Hq (Ac l) dst v) ds h' u):
  WO P f n d Q k all ((mg.bind rest).bind F) (⟨dst,.call ⟨.value x,⟨as0⟩,ts⟩,ty,pos,after,gd⟩::r) (Ac l) ds (hp h0 ids xs) u:=by
 rw[Aq6 Y Z hz ‹V9 N js=true›,e2]at V
 refine Anx (R.bind_assoc _ _ _) (Ow ht hw λz K U W X=>?_)
 simp only[Hr,hx]
 rw[ha]
 have D:mg≠.bad:=λq=>by rw[q]at z;exact Q.bad z
 refine(V D).mono λr' h' hr=>?_
 cases G:mg with
 |bad=>exact absurd G D
 |ok a=>rw[G]at hr z W;obtain⟨v,rfl,hS⟩:=hr;exact W _ _ _ _ (hk a G v h' hS)
 |pan v=>rw[G]at hr z X;obtain⟨rfl,rfl⟩:=hr;exact X _ _ _ _ _ (O v G z)
def D6(hr:WO P f n d Q k all m ops (Ac ((t,v)::l)) ds h u):WO P f n d Q k all m ops (Hq (Ac l) (some t) v) ds h u:=by rw[Db];exact hr
def R3{dst:Option Tmp}{g:FuncId}{A:List AV}(js:List Nat)(Y:Ids h0 ids N)(Z:xs.length=N)(hk:V9 N js=true)(V:mg≠.bad->Bs P g A (hp (hp h0 ids (S9 js xs)) (Un ids js) zs) (Kn S (hp h0 ids (S9 js xs)) mg))(hz:js.length=zs.length)(e2:T8 js zs xs=xs)(ho:all[i]?=some ⟨dst,.call ⟨.value x,⟨as0⟩,ts⟩,ty,pos,after,gd⟩)(ht:Ee n dst=true)(hw:Cx all (Ac l) ⟨dst,.call ⟨.value x,⟨as0⟩,ts⟩,ty,pos,after,gd⟩=some true)(hx:ev (Ac l) x=.func (.func g) fst cap)(ha:fst++Ev (Ac l) as0++cap=A)(O:∀v,mg=.pan v->∀fr,(∀t,(all.any λo=>o.dst==some t)=false->fr t=Ac l t)->WU P f n d Q (.pan v) (.pan v.av false) fr ds (hp h0 ids (S9 js xs)) u)(hk:∀a,mg=.ok a->∀v h',S a v h'->Eu P all pre i h' pend/\WP P f n d Q k all pre ((rest a).bind F) plan pend (Hq (Ac l) dst v) ds h' u):
  WP P f n d Q k all pre ((mg.bind rest).bind F) ((true,i)::plan) pend (Ac l) ds (hp h0 ids xs) u:=by
 rw[Aq6 Y Z hz ‹V9 N js=true›,e2]at V
 refine Atq (R.bind_assoc _ _ _) (Ajx ho ht hw λz K U W X=>?_)
 simp only[Hr,hx]
 rw[ha]
 have D:mg≠.bad:=λq=>by rw[q]at z;exact Q.bad z
 refine(V D).mono λr' h' hr=>?_
 cases G:mg with
 |bad=>exact absurd G D
 |ok a=>rw[G]at hr z W;obtain⟨v,rfl,hS⟩:=hr;obtain⟨k1,k2⟩:=hk a G v h' hS;exact W _ _ _ _ k1 k2
 |pan v=>rw[G]at hr z X;obtain⟨rfl,rfl⟩:=hr;exact X _ _ _ _ _ (λfr' hf=>O v G fr' hf z)
def Vg(js:List Nat)(ys:List (Option AO))(z:Ids h0 ids N)(A:xs.length=N)(hk:V9 N js=true)(hz:js.length=zs.length)(e:T8 js zs xs=ys)(hr:Eu P all pre i (hp h0 ids ys) pend/\WP P f n d Q k all pre m plan pend fr ds (hp h0 ids ys) u):
  Eu P all pre i (hp (hp h0 ids (S9 js xs)) (Un ids js) zs) pend/\WP P f n d Q k all pre m plan pend fr ds (hp (hp h0 ids (S9 js xs)) (Un ids js) zs) u:=by
 subst e
 rw[Aq6 z A hz hk];exact hr
def W6(hr:WP P f n d Q k all pre m plan pend (Ac ((t,v)::l)) ds h u):WP P f n d Q k all pre m plan pend (Hq (Ac l) (some t) v) ds h u:=by rw[Db];exact hr
end
variable{hdl:PV→R α}
def A17[GW P]{e:α->AV}{a:α}{vs:List AV}(hf:P.funcs[f]?=some fn)(z:Ids h0 ids N)(hr:Gc P (hp h0 ids xs) (Ac l) fn.results.toList=some vs)(hz:Fz (hp h0 ids xs) h0 (Hn vs) (e a)): WR P f n false (Ng e h0 hdl) (.ok a) (.code .ret::k) (Ac l) [] (hp h0 ids xs) u:=λ_=>Abo (Wa hf hr (z.sub xs) hz rfl ⟨rfl,rfl⟩)
def cut(l:List α)(a b:Int):List α:=(l.drop a.toNat).take (b.toNat-a.toNat)
variable{et:TypeId}{a:Nat}{b:Nat}{st:Nat}{z:List AV}{e:α→List AV}
section
variable[GW P]{t:TypeId}{E:TI}{s:List UInt8}{k k':IntKind}{lo hi:Int}{L:List α}
def Arj(h1:0<=lo)(h2:lo<=(n:Int))(d:Nat):Cq (some (.int k lo)) d n=some lo.toNat:=by simp only[Cq];rw[if_pos ⟨h1,h2⟩]
def Bbi (A:ti P t=some ⟨.str,a,b,z⟩)(D:0<=lo/\lo<=hi/\hi<=(s.length:Int)):Ec P h t (.str s) (some (.int k lo)) (some (.int k' hi)) none=some (.str (cut s lo hi)):=by obtain⟨h1,h2,G⟩:=D;simp only[Ec,A];rw[Arj (by omega) G];simp only;rw[Arj h1 (by omega)];rfl
def Avm (A:ti P t=some ⟨.str,a,b,z⟩)(D:0<=lo/\lo<=(s.length:Int)):Ec P h t (.str s) (some (.int k lo)) none none=some (.str (s.drop lo.toNat)):=by simp only[Ec,A,Cq];rw[if_pos D];simp only[AX,AV.str.injEq];rw[DD (by simp)]
def Bgf (D:ti P t=some ⟨.str,a,b,z⟩)(A:0<=hi/\hi<=(s.length:Int)):Ec P h t (.str s) none (some (.int k hi)) none=some (.str (s.take hi.toNat)):=by simp only[Ec,D];rw[Arj A.1 A.2];simp only[Cq,DV,GP]
def Bmn (A:ti P t=some ⟨.sl et,a,b,z⟩)(hE:ti P et=some E)(D:st=E.size)(G:0<=lo/\lo<=hi/\hi<=(L.length:Int)):Ec P h t (.sl st (L.map e)) (some (.int k lo)) (some (.int k' hi)) none=some (.sl st ((cut L lo hi).map e)):=by obtain⟨h1,h2,O⟩:=G;simp only[Ec,A,hE];rw[if_pos D,Arj (by omega) (by simpa using O)];simp only;rw[Arj h1 (by omega)];simp only[cut,FL,FM]
def Am0 (A:ti P t=some ⟨.sl et,a,b,z⟩)(hE:ti P et=some E)(D:st=E.size)(G:0<=lo/\lo<=(L.length:Int)):Ec P h t (.sl st (L.map e)) (some (.int k lo)) none none=some (.sl st ((L.drop lo.toNat).map e)):=by simp only[Ec,A,hE,Cq];rw[if_pos D];simp only[AL];rw[if_pos G];simp only[AX,AV.sl.injEq,true_and];rw[DD (by simp),FM]
def At3 (D:ti P t=some ⟨.sl et,a,b,z⟩)(hE:ti P et=some E)(G:st=E.size)(A:0<=hi/\hi<=(L.length:Int)):Ec P h t (.sl st (L.map e)) none (some (.int k hi)) none=some (.sl st ((L.take hi.toNat).map e)):=by simp only[Ec,D,hE];rw[if_pos G,Arj A.1 (by simpa using A.2)];simp only[Cq,DV,GP,FL]
def F2 {m o g r c:Nat}{i:Int}(j:Nat)(A:ti P t=some ⟨.arr m et,a,b,z⟩)(hE:ti P et=some E)(hi:i=(j:Int))(D:Nat.blt j m=true):Dl P h t (.ptr o g r c) (.int k i)=some (.ptr o g r (c+j*E.size)):=by
 subst hi;have:j<m:=by simpa using D
 simp only[Dl,A,hE];rw[if_pos ⟨by omega,by omega⟩,BI]
end
variable{j:Nat}{want:Bool}{op:Op}
section
variable[GW P]{F:γ→R β}{all:List Oper}
def Sn{p:Prop}[Decidable p]{A B:R γ}(ht:p->WO P f n d Q k all (A.bind F) ops fr ds h u)(hf:¬p->WO P f n d Q k all (B.bind F) ops fr ds h u):WO P f n d Q k all ((if p then A else B).bind F) ops fr ds h u:=by
 have e:(if p then A else B).bind F=if p then A.bind F else B.bind F:=by split<;>rfl
 rw[e];exact Bkm ht hf
section
variable{r:List Oper}{pos:String}
def Bj1{tj:Nat}(z:(all[j]?).bind (·.dst)=some tj)(A:Ac l tj=.bool want)(ht:Nat.blt t n=true)(D:∀(K:AV->List AD->Aa->AU->Prop) (U:AV->KT),Hr P d U (Ac l) ds h u op K=D3 P (Ac l) h op (λv h'=>K v ds h' u))(G:∀K:AV->Aa->Prop,(∀v h',WO P f n d Q k all m r (Ac ((t,v)::l)) ds h' u->K v h')->D3 P (Ac l) h op K):
  WO P f n d Q k all m (⟨some t,op,ty,pos,after,some (j,want)⟩::r) (Ac l) ds h u:=by
 refine Ow (by simpa[Ee]using ht) (C6 z A) λS K U O V=>?_
 rw[D]
 exact G _ λv h' hw=>O _ _ _ _ (by rw[Db];exact hw)
def A9h{tj:Nat}(z:all[i]?=some ⟨some t,op,ty,pos,after,some (j,want)⟩)(A:(all[j]?).bind (·.dst)=some tj)(D:Ac l tj=.bool want)(ht:Nat.blt t n=true)(h1:∀(K:AV->List AD->Aa->AU->Prop) (U:AV->KT),Hr P d U (Ac l) ds h u op K=D3 P (Ac l) h op (λv h'=>K v ds h' u))(G:∀K:AV->Aa->Prop,(∀v h',Eu P all pre i h' pend->WP P f n d Q k all pre m plan pend (Ac ((t,v)::l)) ds h' u->K v h')->D3 P (Ac l) h op K): WP P f n d Q k all pre m ((true,i)::plan) pend (Ac l) ds h u:=Ajx z (by simpa[Ee]using ht) (C6 A D) λS K U O V=>by rw[h1];exact G _ λv h' hp hw=>O _ _ _ _ hp (by rw[Db];exact hw)
end
def A4o{p:Prop}[Decidable p]{A:R γ}(hk:p->WR P f n d Q (A.bind F) todo fr ds h u):WR P f n d Q ((if p then A else .bad).bind F) todo fr ds h u:=by
 intro z;by_cases hp:p
 .simp only[if_pos hp]at z ⊢;exact hk hp z
 .simp only[if_neg hp]at z;exact absurd z Q.bad
def A0o:WO P f n d Q k all ((R.bad:R γ).bind F) ops fr ds h u:=λz=>absurd z Q.bad
def Ku{p:Prop}[Decidable p]{A B:R γ}(ht:p->WP P f n d Q k all pre (A.bind F) plan pend fr ds h u)(hf:¬p->WP P f n d Q k all pre (B.bind F) plan pend fr ds h u):WP P f n d Q k all pre ((if p then A else B).bind F) plan pend fr ds h u:=by
 intro z;by_cases hp:p
 .simp only[if_pos hp]at z ⊢;exact ht hp z
 .simp only[if_neg hp]at z ⊢;exact hf hp z
def Ajq:WP P f n d Q k all pre ((R.bad:R γ).bind F) plan pend fr ds h u:=λz=>absurd z Q.bad
end
def Wq (s:Al):List Int:=s.map λb=>(b.toNat:Int)
variable{z1:List AV}{z2:List AV}
section
variable[GW P]{s t e:TypeId}{c d:Nat}{E:TI}{L:List Int}
def Bjl[GW P]{K:AV->Aa->Prop}{S:Al}(A:ti P s=some ⟨.str,a,b,z1⟩)(D:ti P t=some ⟨.sl e,c,d,z2⟩)(hE:ti P e=some E)(hk:E.k=.int .u8)(G:ev fr x=.str S)(O:S.length<=Bj)(z:K (.sl 1 ((Wq S).map (rI .u8))) h):D3 P fr h (.convert s t x) K:=by
 simp only[D3,Amw,A,D,hE,G];refine⟨hk,O,?_⟩;have:(Wq S).map (rI .u8)=S.map λb=>[AV.int .u8 b.toNat]:=by simp[Wq,rI,Function.comp_def]
 rw[this]at z;exact z
end
section
variable[GW P]{all r:List Oper}{pos:String}
def Bl9{s T e:TypeId}{c A:Nat}{E:TI}{S:Al}(ht:Nat.blt t n=true)(D:ti P s=some ⟨.str,a,b,z1⟩)(G:ti P T=some ⟨.sl e,c,A,z2⟩)(hE:ti P e=some E)(hk:E.k=.int .u8)(O:ev (Ac l) x=.str S)(U:S.length<=Bj)(V:WO P f n d Q k all m r (Ac ((t,.sl 1 ((Wq S).map (rI .u8)))::l)) ds h u):WO P f n d Q k all m (⟨some t,.convert s T x,ty,pos,after,none⟩::r) (Ac l) ds h u:=R9 ht (λ_ _=>rfl) λK z=>Bjl D G hE hk O U (z _ _ V)
end
def A68 (v:AV)(b:Bool):Prop:=match b with
 |false=>v=.nili
 |true=>∃t x,v=.iface t x
def Bdb[GW P]{t:TypeId}{b:Bool}{s by':Nat}(A:ti P t=some ⟨.ifc,s,by',z⟩)(D:A68 v b):Ft P .neq t v .nili=some (.bool b):=by
 cases b with
 |false=>obtain rfl:v=.nili:=D;exact Ara A
 |true=>obtain⟨G,x,rfl⟩:∃t x,v=.iface t x:=D;exact An5 A
def Bbk[GW P]{o:BinOp}{t:TypeId}{c:Value}{b:Bool}(z:o=.eql\/o=.neq)(A:A68 v b):Pa P o t x (.const c) v .nili=true:=by
 cases b with
 |false=>obtain rfl:v=.nili:=A;rcases z with rfl|rfl<;>simp[Pa]
 |true=>obtain⟨D,x,rfl⟩:∃t x,v=.iface t x:=A;rcases z with rfl|rfl<;>rfl
variable{mu:Mu}{w:World}{cargs:Array Value}
section
variable[GW P][GW P]
def W3.mk {g:FuncId} {gf:Func} {gc:Code} (h1:P.funcs[g]?=some gf) (h2:gf.body=some gc) (h3:gf.name≠"runtime.NumGoroutine"):W3 P g:=⟨gf,gc,h1,h2,h3⟩
def Bkr (w:World)(v:AV)(mu:Mu)(h:Aa):Ending->World->Prop:=λe w'=>Go.RowKit.Below w.heap.size w w'/\∃c,e=.returned c/\RV h mu w' v c
theorem A9e{g:FuncId}{A:List AV}{m:R α}{e:α→AV}(G:W3 P g)(O:∀p,m≠.pan p)(S:∀a,m=.ok a→∀(B:Base P) mu h w (cargs:Array Value),Sim B mu h w→Ry h mu w A cargs.toList→Calls P g cargs w (Bkr w (e a) mu h)):CP P g A m e:=by
 refine⟨λh z=>?_⟩;refine⟨G,λB mu w cargs s U=>?_⟩;cases D:m with
 |bad=>exact absurd D z
 |pan p=>exact absurd D (O p)
 |ok a=>refine(S a D B mu h w cargs s U).mono ?_;rintro W w' ⟨k,c,rfl,V⟩;obtain⟨k1,k2⟩:=Below.ext s k;exact⟨.ret (e a),h,mu,⟨rfl,rfl⟩,k1,k2,V⟩
def Bj6{g:FuncId}{A:List AV}{m:R α}(O:W3 P g)(U:∀p,m≠.pan p)(V:∀a,m=.ok a->∀(B:Base P) mu w (cargs:Array Value),Sim B mu h w->Ry h mu w A cargs.toList->Calls P g cargs w λG w'=>Go.RowKit.Below w.heap.size w w'/\∃v c,G=.returned c/\S a v h/\RV h mu w' v c):m≠.bad->Bs P g A h (Kn S h m):=by
 intro z;refine⟨O,λB mu w cargs s W=>?_⟩;cases D:m with
 |bad=>exact absurd D z
 |pan p=>exact absurd D (U p)
 |ok a=>refine(V a D B mu w cargs s W).mono ?_;rintro G w' ⟨k,v,c,rfl,X,Y⟩;obtain⟨k1,k2⟩:=Below.ext s k;exact⟨.ret v,h,mu,⟨v,rfl,X⟩,k1,k2,Y⟩
def Ark{a:AV}(k:Ry h mu w [a] cargs.toList):∃c,cargs=#[c]/\RV h mu w a c:=by
 obtain⟨l⟩:=cargs;match l,k.1 with
 |[c],_=>exact⟨c,rfl,by simpa using k.2 0 (by simp)⟩
def Bgj{a b:AV}(k:Ry h mu w [a,b] cargs.toList):∃c d,cargs=#[c,d]/\RV h mu w a c/\RV h mu w b d:=by
 obtain⟨l⟩:=cargs;match l,k.1 with
 |[c,d],_=>exact⟨c,d,rfl,by simpa using k.2 0 (by simp),by simpa using k.2 1 (by simp)⟩
def Bbw{s:List UInt8}{c:Value}(k:RV h mu w (.str s) c):c=.string ⟨s.toArray⟩:=by cases k;rfl
def Azw{t:IntKind}{n:Int}{c:Value}(k:RV h mu w (.int t n) c):c=.int t n:=by cases k;rfl
end
inductive HM (h h2:Aa):List (Option AO)->List (Option AO)->Prop
 |nil:HM h h2 [] []
 |keep {x:Option AO} {xs ys:List (Option AO)} (r:HM h h2 xs ys):HM h h2 (x::xs) (x::ys)
 |drop {x:Option AO} {xs ys:List (Option AO)} (r:HM h h2 xs ys):HM h h2 (x::xs) (none::ys)
 |own {α:Type} {e:α->List AV} {L:List α} {v:AV} {g st i:Nat} {y:α} {row:List AV} {xs ys:List (Option AO)} (hr:∀x,Cy st (e x)) (hz:LF h h2 row (e y)) (r:HM h h2 xs ys):
   HM h h2 (Af v g st ((L.map e).set i row)::xs) (Af v g st ((L.set i y).map e)::ys)
def HM.get(k:HM h h2 xs ys):xs.length=ys.length/\∀(j:Nat) (y:AO),ys[j]?=some (some y)->∃x,xs[j]?=some (some x)/\AFz h h2 x y:=by
 induction k with
 |nil=>exact⟨rfl,λj y e=>by simp at e⟩
 |keep r D=>
  refine⟨by simp[D.1],λj y e=>?_⟩;cases j with
  |zero=>simp only[DX,AX]at e;subst e;exact⟨y,by simp,.same _⟩
  |succ j=>simpa using D.2 j y (by simpa using e)
 |drop r D=>
  refine⟨by simp[D.1],λj y e=>?_⟩;cases j with
  |zero=>simp at e
  |succ j=>simpa using D.2 j y (by simpa using e)
 |@own α e L v g st i y row xs ys hr hz r D=>
  refine⟨by simp[D.1],λj z A=>?_⟩;cases j with
  |succ j=>simpa using D.2 j z (by simpa using A)
  |zero=>
   simp only[DX,AX]at A ⊢;have key:AFz h h2 (.rows g st ((L.map e).set i row)) (.rows g st ((L.set i y).map e)):=by
    refine .rows g st _ _ (by simp) (λq V=>?_) λa b W X=>?_
    .obtain⟨w,_,rfl⟩:=CC.1 V;exact hr w
    .rw[List.map_set];by_cases G:i=a
     .subst G;have O:i<(L.map e).length:=by simpa using W
      simp only[cell];have S:((L.map e).set i row).getD i []=row:=by rw[CE,BO O];rfl
      have U:((L.map e).set i (e y)).getD i []=e y:=by rw[CE,BO O];rfl
      rw[S,U];exact hz.all.2 b (by rw[hz.all.1,(hr y).1];exact X)
     .simp only[cell];have S:((L.map e).set i row).getD a []=(L.map e).getD a []:=by simp[List.getD,EY G]
      have U:((L.map e).set i (e y)).getD a []=(L.map e).getD a []:=by simp[List.getD,EY G]
      rw[S,U];exact .same _
   unfold Af at A ⊢;split at A
   .cases A
   .rename_i Y;cases A;exact⟨_,rfl,key⟩
def HM.hfz(A:Ids h0 ids N)(D:xs.length=N)(k:HM (hp h0 ids xs) (hp h0 ids ys) xs ys):HFz (hp h0 ids xs) (hp h0 ids ys):=by
 intro o y e;obtain⟨k1,k2⟩:=k.get;by_cases G:o∈ids
 .obtain⟨j,O,rfl⟩:=DK.1 G;have S:ids[j]=ix ids j:=by simp[ix,List.getD,O]
  rw[S]at e ⊢;have z:j<ys.length:=by rw[<-k1,D,<-A.len];exact O
  have U:=A.at (xs:=ys) (j:=j) (x:=ys[j]) (by rw[<-k1,D]) (AA z);rw[U]at e;obtain⟨x,V,hz⟩:=k2 j y (by rw[AA z,e]);exact⟨x,A.at D V,hz⟩
 .rw[Aaa G]at e;exact⟨y,by rw[Aaa G];exact e,.same _⟩
def A2h(e:α->List AV)(v:Vector α n):(k:Nat)->k<=n->List AV->List AV
 |0,_,z=>z
 |k+1,h,z=>A2h e v k (Nat.le_of_succ_le h) (e (v[k]'(Nat.lt_of_succ_le h))++z)
def rV(e:α->List AV)(v:Vector α n):List AV:=A2h e v n (AF n) []
def A4b(e:α->List AV)(v:Vector α n):∀(k:Nat) (h:k<=n) (z:List AV),A2h e v k h z=(v.toList.take k).flatMap e++z
 |0,_,z=>by simp[A2h]
 |k+1,h,z=>by
  rw[A2h,A4b e v k _];have hk:k<v.toList.length:=by simp;omega
  rw[List.take_succ_eq_append_getElem hk];simp[FF]
def Azj(e:α->List AV)(v:Vector α n):rV e v=v.toList.flatMap e:=by rw[rV,A4b,DD (by simp),GB]
def Ap(v:Vector α n)(i:Nat)(z:α):α:=v.toList.getD i z
def Sf(v:Vector α n)(i:Nat)(x:α):Vector α n:=v.setIfInBounds i x
def G3(n:Nat)(x:α):Vector α n:=Vector.replicate n x
section
variable{E:α→AV}{v:Vector α n}
def Alp {s:Nat}(z:∀x,(e x).length=s):∀l:List α,(l.flatMap e).length=l.length*s
 |[]=>by simp
 |a::l=>by simp[z a,Alp z l,AI,HR]
def Oz {s m:Nat}(z:∀x,Cy s (e x))(D:n*s=m)(v:Vector α n):Cy m (rV e v):=by refine⟨by rw[Azj,Alp λx=>(z x).1];simpa using D,λa A=>?_⟩;rw[Azj]at A;obtain⟨x,_,G⟩:=HS.1 A;exact(z x).2 a G
def Cy.all {s:Nat}{r:List AV}(h:Cy s r):r.all AV.flat=true:=AJ.2 h.2
def Wn (z:∀x,e x=[E x]):rV e v=v.toList.map E:=by
 rw[Azj];induction v.toList with
 |nil=>rfl
 |cons a l A=>simp[z,A]
def Wm (z:∀x,e x=[E x])(x:α):rV e (G3 n x)=List.replicate n (E x):=by rw[Wn z];simp[G3]
def Et (D:∀x,e x=[E x])(hi:i<n)(z:α):Gm (rV e v) i 1 false=some (E (Ap v i z)):=by
 have A:i<v.toList.length:=by simpa using hi
 rw[Wn D];simp only[Gm,BD,if_false,AL,A,if_true,Ap];congr 1;simp[List.getD,AA A]
def Blv (A:∀x,e x=[E x])(hi:i<n)(x:α):Wb (rV e v) i [E x]=rV e (Sf v i x):=by
 have z:i<v.toList.length:=by simpa using hi
 rw[Wn A,Wn A,Avd _ _ _ (by simp;omega)];have:(Sf v i x).toList=v.toList.set i x:=by simp[Sf]
 rw[this];simp only[Fd];clear this;generalize v.toList=l at z;clear hi;induction l generalizing i with
 |nil=>simp at z
 |cons a l D=>
  cases i with
  |zero=>simp
  |succ i=>simpa using D (i:=i) (by simpa using z)
end
section
variable[GW P]{t:TypeId}{E:TI}{k:IntKind}
def C8{m o g:Nat}(A:ti P t=some ⟨.arr m et,a,b,z⟩)(hE:ti P et=some E)(h1:E.size=1)(hi:i<m):Dl P h t (.ptr o g 0 0) (.int k (i:Int))=some (.ptr o g 0 i):=by simp only[Dl,A,hE,h1];rw[if_pos ⟨HB _,by omega⟩];simp
def Ho {m o g:Nat}{i:Int}(A:ti P t=some ⟨.arr m et,a,b,z⟩)(hE:ti P et=some E)(h1:E.size=1)(hi:0<=i/\i<(m:Int)):Dl P h t (.ptr o g 0 0) (.int k i)=some (.ptr o g 0 i.toNat):=by simp only[Dl,A,hE,h1];rw[if_pos ⟨hi.1,by omega⟩];simp
def Axj {m:Nat}{row:List AV}{i:Int}(A:ti P t=some ⟨.arr m et,a,b,z⟩)(hE:ti P et=some E)(h1:E.size=1)(hi:0<=i/\i<(m:Int)):Dl P h t (.cp row 0) (.int k i)=some (.cp row i.toNat):=by simp only[Dl,A,hE,h1];rw[if_pos ⟨hi.1,by omega⟩];simp
def Dy {i:Int}{m:Nat}(h:0<=i/\i<(m:Int)):i.toNat<m:=by omega
end
variable{T:TI}
section
variable[GW P]{all r:List Oper}{pos:String}
def Yo{q g:Nat}{E:α->AV}{v:Vector α q}{x:α}{t:TypeId}(S:∀x,e x=[E x])(V:Ids h0 ids N)(W:xs.length=N)(z:Nat.blt j N=true)(X:xs[j]?=some (some (.rows g st [rV e v])))(Y:ti P t=some T)(U:T.size=1)(Z:q=st)(hi:i<q)(A:(E x).cells=[E x])(D:(E x).ok=true)(G:(E x).flat=true):
  Wv P (hp h0 ids xs) t (.ptr (ix ids j) g 0 i) (E x)=some (hp h0 ids (xs.set j (some (.rows g st [rV e (Sf v i x)])))):=by
 have O:(rV e v).length=st:=by rw[Azj,Alp (s:=1) λx=>by rw[S];rfl];simpa using Z
 rw[Iz (rr:=0) (row:=rV e v) V W z X rfl Y D (by rw[A,U];rfl) (by rw[U];simp;omega) O (by rw[A];simpa using G),A,Blv S hi]
 rfl
def O0{e:TypeId}{row:List AV}(A:Ids h0 ids N)(D:xs.length=N)(z:Nat.blt j N=true)(G:xs[j]?=some none)(ht:Nat.blt t n=true)(O:ti P e=some T)(hz:T.z=row)(hr:Cy st row)(hk:∀g,WO P f n d Q k all m r (Ac ((t,.ptr (ix ids j) g 0 0)::l)) ds (hp h0 ids (xs.set j (some (.rows g st [row])))) u):
  WO P f n d Q k all m (⟨some t,.alloc e,ty,pos,after,none⟩::r) (Ac l) ds (hp h0 ids xs) u:=by
 subst hz
 refine A1w A D z G ht O hr.all λg=>?_
 rw[hr.1];exact hk g
end
def Pp:∀l:List AV,LF h h2 l l
 |[]=>.nil
 |a::l=>.cons (.same a) (Pp l)
def R.np:R α->R α
 |.pan _=>.bad
 |m=>m
def R.np_ne(m:R α)(v:PV):m.np≠.pan v:=by cases m<;>simp[R.np]
@[simp] theorem R.np_ok(a:α):(R.ok a).np=.ok a:=rfl
variable{h':Aa}{mu':Mu}{params:Array Tmp}{assign:Code}{body:Code}{gf:FuncId}
section
variable[GW P]{Q:QT}
def Av0 {l o g:Nat}{r:Loop}(G:d.ro=some (l,o,g))(O:h o=some (.blk g (.loop r)))(U:r.state=.ready)(hr:E8 P f n d k fr ds (upd h o (some (.blk g (.loop {r with state:=.busy})))) u Q):
  E8 P f n d (.beginRound::k) fr ds h u Q:=by
 intro B mu w a cs p
 obtain⟨z,S,rfl⟩:=p.rnd _ _ _ G
 obtain⟨X,A,_,V⟩:=p.sim.blks _ _ _ O
 rw[S]at A;cases A
 have D:(Instr.beginRound z.b).run P w=.ok () {w with heap:=w.heap.setIfInBounds z.b (.loop {r with state:=.busy})}:=by simp[Instr.beginRound,Instr.getLoop,getObj,setObj,Sem.run,Sem.run_bind,V,U]
 obtain⟨s',e'⟩:=p.sim.setB (x':=.loop {r with state:=.busy}) O S (λ_ _ _ W=>by cases W)
 exact .ext e' (.head (stepR_beginRound (by simp[b0,G]) D) (hr B mu _ a cs (p.ext e' s')))
def Ah2 (fr:Nat->AV):List Nat->List AV->Nat->AV
 |p::ps,v::vs=>Ah2 (upd fr p v) ps vs
 |_,_=>fr
def A0b:∀(ps:List Nat) (args:List AV) (cargs:List Value) (fr:Nat->AV) (tmps:Array Value),tmps.size=n->(∀p∈ps,p<n)->(∀t,RV h mu w (fr t) (tmps.getD t undef))->Ry h mu w args cargs->
  (∀t,RV h mu w (Ah2 fr ps args t) (((ps.zip cargs).foldl (λtmps x=>tmps.setIfInBounds x.1 x.2) tmps).getD t undef))/\((ps.zip cargs).foldl (λtmps x=>tmps.setIfInBounds x.1 x.2) tmps).size=n
 |[],_,_,fr,tmps,z,_,hf,_=>⟨by simpa[Ah2]using hf,by simpa using z⟩
 |p::ps,[],[],fr,tmps,z,_,hf,_=>⟨by simpa[Ah2]using hf,by simpa using z⟩
 |p::ps,[],c::cs,fr,tmps,z,_,hf,A=>by have:=A.1;simp at this
 |p::ps,v::vs,[],fr,tmps,z,_,hf,A=>by have:=A.1;simp at this
 |p::ps,v::vs,c::cs,fr,tmps,z,hp,hf,A=>by
  have G:RV h mu w v c:=by simpa using A.2 0 (by simp)
  have D:=hp p (BE ..);refine A0b ps vs cs (upd fr p v) (tmps.setIfInBounds p c) (by simpa using z) (λq O=>hp q (BC _ O)) (λt=>?_) ⟨by have:=A.1;simpa using this,λi hi=>by simpa using A.2 (i+1) (by simpa using hi)⟩;unfold upd;by_cases ht:t=p
  .subst ht;rw[if_pos rfl];simp[z,D];exact G
  .rw[if_neg ht];have:=hf t;simpa[CB,CA (Ne.symm ht)]using this
def Bi9{M:Nat->Prop}{v:Value}(z:jav c≠.tup [])(h:Rv w mu M (jav c) v):v=jv c:=by
 cases c with
 |ret=>have h:Rv w mu M (.bool true) v:=h;cases h;rfl
 |exit id=>have h:Rv w mu M (.int .u64 id) v:=h;cases h;rfl
 |_=>exact absurd rfl z
def Bmk(z:Ac3 c k=true):jv c≠undef:=by cases c<;>simp[Ac3]at z<;>simp[jv,undef]
def Bji{z:Code}(G:Ac3 c k=true)(D:jav z≠.tup [])(h:jv z=jv c):c=z:=by
 cases c with
 |ret=>
  cases z with
  |ret=>rfl
  |exit id=>simp[jv]at h
  |_=>exact absurd rfl D
 |exit id=>
  cases z with
  |ret=>simp[jv]at h
  |exit A=>
   have h:(A:Int)=(id:Int):=by simpa[jv]using h
   rw[Int.ofNat.inj h]
  |_=>exact absurd rfl D
 |_=>simp[Ac3]at G
def Asa{y:YF}{o g:Nat}{r:Loop}{K E:AV->Aa->Prop}(ho:h o=some (.blk g (.loop r)))(aq:r.state=.ready)(ar:r.pending=none)(af:r.fn=f)(ag:r.tmps.size=n)(ah : ∀ p ∈ r.params.toList,p<n)(hy : ∀ {mu:Mu} {w:World} {l:Nat},y.F w mu (C0 h mu) l -> ∀ t,RV h mu w (fr t) (r.tmps.getD t undef))(au:args.length=r.params.size)(aa : ∀ l,E8 P f n ⟨false,some (l,o,g)⟩ [.code r.assign,.beginRound,.code r.body] (Ah2 fr r.params.toList args) [] h .ret (λG h' _=>match G with
   |.ret v=>h' o=some (.blk g (.loop {r with state:=.busy}))/\((v=.tup []/\K (.bool true) (upd h' o (some (.blk g (.loop r)))))\/∃c,v=jav c/\jav c≠.tup []/\K (.bool false) (upd h' o (some (.blk g (.loop {r with state:=.done,pending:=some c})))))
   |.panic v=>E v h')):Am1 P y o g args h K E:=by
 intro B mu w A cargs s hl ai ha
 obtain⟨l0,ab,_,hb⟩:=s.blks _ _ _ ho
 rw[hl]at ab;cases ab
 have aj:cargs.size=r.params.size:=by have:=ha.1;simp at this;omega
 refine⟨r,hb,aj,λc cs=>?_⟩
 have hz:(r.params.zip cargs).foldl (λtmps (t,a)=>tmps.setIfInBounds t a) r.tmps=(r.params.toList.zip cargs.toList).foldl (λtmps x=>tmps.setIfInBounds x.1 x.2) r.tmps:=by
  rw[<-HA,Array.toList_zip]
 obtain⟨q1,q2⟩:=A0b (n:=n) r.params.toList args cargs.toList fr r.tmps ag ah (hy ai) ha
 rw[<-hz]at q1 q2
 generalize (r.params.zip cargs).foldl (λtmps (t,a)=>tmps.setIfInBounds t a) r.tmps=tmps at q1 q2
 subst af
 obtain⟨e,w',ak,z,G,h',mu',u',a1,a2,a3,a4,a5,Z,a7,a8,a9⟩:=aa A.b ⟨B.n,w.heap.size⟩ mu w {tmps:=tmps,defers:=[]} (c::cs) ⟨q2,q1,rfl,s.rebase rfl,trivial,(λl' o' g' S=>by cases S;exact⟨A,hl,rfl⟩),s.base,AF _⟩
 have al:ak=c::cs:=a9
 subst al
 replace a7:Sim B mu' h' w':=a7.rebase rfl
 replace a8:=a8.ext
 have am:(b0 r.fn ⟨false,some (A.b,o,g)⟩).atR {tmps:=tmps,defers:=[]} [.code r.assign,.beginRound,.code r.body]=Frame.round A.b r.fn tmps r.assign r.body .normal:=by
  simp[Frame.round,Frame.atR,b0,KD]
 rw[am]at a2
 cases e with
 |outgrown=>cases G<;>exact Z.elim
 |returned v=>
  cases G with
  |panic _=>exact Z.elim
  |ret v'=>
   obtain⟨g1,g2,g4,g3⟩:=(a5:z.roundOf=some A.b/\z.mode=.run/\z.defers=[]/\((v=undef/\z.todo=[])\/∃c k,z.todo=.code c::k/\Ac3 c k=true/\v=jv c))
   obtain⟨k1,k2⟩:=a1
   have U:=a8.mu _ _ _ hl
   obtain⟨l1,ac,_,ad⟩:=a7.blks _ _ _ k1
   rw[U]at ac;cases ac
   have hk:z.kind=.normal:=by rw[a4];rfl
   rcases k2 with⟨rfl,k2⟩|⟨jc,rfl,V,k2⟩
   .
    have hv:v=undef:=by
     have S:RV h' mu' w' (.tup []) v:=Z
     cases S with
     |tup vs cs ae _=>
      have:cs=[]:=by simpa using ae.symm
      subst this;rfl
    have W:z.todo=[]:=by
     rcases g3 with⟨_,h⟩|⟨c',k',_,X,an⟩
     .exact h
     .exact absurd (an.symm.trans hv) (Bmk X)
    have D:(Instr.endRound A.b none).run P w'=.ok (.bool true) {w' with heap:=w'.heap.setIfInBounds A.b (.loop r)}:=by
     have:({r with state:=.ready,pending:=none}:Loop)=r:=by
      cases r;simp_all
     simp[Instr.endRound,Instr.getLoop,getObj,setObj,Sem.run,Sem.run_bind,ad]
     rw[<-this]
    obtain⟨s',e'⟩:=a7.setB (x':=.loop r) k1 U (λ_ _ _ S=>by cases S)
    have O:z=z.atR {tmps:=z.tmps,defers:=[]} []:=by
     cases z;simp_all[Frame.atR]
    refine⟨.returned (.bool true),_,.ret (.bool true),_,mu',k2,s',a8.trans e',.bool true,?_⟩
    refine Steps.trans a2 (.one ?_)
    rw[O]
    exact stepR_round_end (b:=z) g1 hk D
   .
    have hv:v=jv jc:=Bi9 V Z
    obtain⟨c',k',W,X,ao⟩:∃c k,z.todo=.code c::k/\Ac3 c k=true/\v=jv c:=by
     rcases g3 with⟨h,_⟩|h
     .exfalso
      rw[hv]at h
      cases jc with
      |ret=>simp[jv,undef]at h
      |exit id=>simp[jv,undef]at h
      |_=>exact V rfl
     .exact h
    have ap:c'=jc:=Bji X V (hv.symm.trans ao)
    subst ap
    have D:(Instr.endRound A.b (some c')).run P w'=.ok (.bool false) {w' with heap:=w'.heap.setIfInBounds A.b (.loop {r with state:=.done,pending:=some c'})}:=by
     simp[Instr.endRound,Instr.getLoop,getObj,setObj,Sem.run,Sem.run_bind,ad]
    obtain⟨s',e'⟩:=a7.setB (x':=.loop {r with state:=.done,pending:=some c'}) k1 U (λ_ _ _ S=>by cases S)
    have O:z=z.atR {tmps:=z.tmps,defers:=[]} (.code c'::k'):=by
     cases z;simp_all[Frame.atR]
    refine⟨.returned (.bool false),_,.ret (.bool false),_,mu',k2,s',a8.trans e',.bool false,?_⟩
    refine Steps.trans a2 (.one ?_)
    unfold Ac3 at X
    split at X
    .rw[O]
     exact stepR_round_ret (b:=z) g1 hk D
    .rw[O]
     exact stepR_round_exit (b:=z) g1 hk (by simpa using X) D
    .cases X
 |panicked Y=>
  cases G with
  |ret _=>exact Z.elim
  |panic v=>
   exact⟨.panicked Y,w',.panic v,h',mu',a1,a7,a8,Z,Steps.trans a2 (.one (step_leave_panicked a5))⟩
def Sim.take{B:Base P}{x:Option (List Deferred)}(s:Sim B mu h w)(V:w.heap[b]?=some (.deferred x))(hm:¬C0 h mu b)(hn:B.n<=b){Y:Nat}(Z:Y<=b):
  Sim B mu h {w with heap:=w.heap.setIfInBounds b (.deferred none)}/\Asw Y h mu w h mu {w with heap:=w.heap.setIfInBounds b (.deferred none)}:=by
 have aa:b<w.heap.size:=by
  rcases CI b w.heap.size with hh|hh
  .exact hh
  .rw[CU hh]at V;cases V
 have z:∀k,k≠b->(w.heap.setIfInBounds b (.deferred none))[k]?=w.heap[k]?:=λk hk=>CA (Ne.symm hk)
 have A:(w.heap.setIfInBounds b (.deferred none))[b]?=some (.deferred none):=by simp[aa]
 have ext:Asw Y h mu w h mu {w with heap:=w.heap.setIfInBounds b (.deferred none)}:=
  ⟨rfl,rfl,rfl,by simp,λk hk ab=>⟨by
   by_cases D:k=b
   .subst D;exact .inr ⟨Z,_,_,V,A⟩
   .exact .inl (z k D),ab⟩,λ_ _ _ h=>h⟩
 have O:∀a:Addr,({w with heap:=w.heap.setIfInBounds b (.deferred none)}:World).cell? a=w.cell? a:=λa=>by
  by_cases D:a.block=b
  .unfold World.cell?;show(match(w.heap.setIfInBounds b (.deferred none))[a.block]? with|some (.cells cells _ _)=>_|_=>_)=_;rw[D,A,V]
  .exact cell?_of_heap (z _ D)
 have W:∀{o x l},h o=some x->mu o x.gen=some l->l.b≠b:=λh1 h2 D=>hm ⟨_,_,_,h1,h2,D⟩
 refine⟨⟨by simpa using s.base,λo g l hl=>?_,s.fin,s.finh,λo g st rs S=>?_,λo g es S=>?_,s.inj,GW.step s.glob λk hk=>z k (by omega),λo g x S=>?_⟩,ext⟩
 .obtain⟨h1,h2,G⟩:=s.muOk o g l hl;refine⟨h1,by simpa using h2,λhc=>?_⟩;obtain⟨cells,e,f,k1,k2,k3⟩:=G hc;have:l.b≠b:=λD=>by rw[D,V]at k1;cases k1
  exact⟨cells,e,f,(z _ this).trans k1,k2,k3⟩
 .obtain⟨l,h1,h2,G,h4,X,h6⟩:=s.rows o g st rs S;refine⟨l,h1,h2,G,h4,X,λi j hi hj=>?_⟩;obtain⟨c,ac,ad⟩:=h6 i j hi hj;exact⟨c,(O _).trans ac,ad.extG ext⟩
 .obtain⟨l,h1,h2,ens,U,G,h4,X⟩:=s.maps o g es S;exact⟨l,h1,h2,ens,U,⟨(z _ (W S h1)).trans G.1,G.2⟩,h4,λi hi=>⟨(X i hi).1.extG ext,(X i hi).2.extG ext⟩⟩
 .obtain⟨l,h1,h2,G⟩:=s.blks o g x S;exact⟨l,h1,h2,(z _ (W S h1)).trans G⟩
def Ry.extG{w':World}(e:Asw n h mu w h' mu' w'){l:List AV}{cs:List Value}(k:Ry h mu w l cs):Ry h' mu' w' l cs:=⟨k.1,λi hi=>(k.2 i hi).extG e⟩
def Xp.extG{w':World}(e:Asw n h mu w h' mu' w'){m:FrameMode}(k:Xp h mu w u m):Xp h' mu' w' u m:=by
 unfold Xp at k ⊢;split at k
 .trivial
 .exact⟨k.1,k.2.1,k.2.2.extG e⟩
 .exact k.elim
def Bev {m:AU}(hr:Xl P f n d m fr ds h u Q)(Z:ds.all (λd=>!d.isStar)=true:=by rfl):Xl P f n d m fr (AD.star::ds) h u Q:=by
 intro B mu w a cs todo mode p X;have hp:=p.ds;unfold Yg at hp;obtain⟨c1,c2,D,⟨G,S,z,A⟩,U⟩:=hp;have aa:mode≠.run:=by intro V;subst V;cases m<;>simp[Xp]at X
 have keep:∀{mu:Mu} {w w':World} {n0 fb:Nat} (e:Asw n0 h mu w h mu w') (ds:List AD) (cs:List Deferred),ds.all (λd=>!d.isStar)=true->Yg h mu w fb ds cs->Yg h mu w' fb ds cs:=by
  intro mu w w' n0 fb e ds;induction ds with
  |nil=>intro cs _ V;exact V
  |cons d ds ih=>intro cs W V;simp only[DU,AK,CZ]at W;unfold Yg at V ⊢;rw[W.1]at V ⊢;obtain⟨c,c2,h1,⟨cap,h2,ab⟩,h3⟩:=V;exact⟨c,c2,h1,⟨cap,h2,ab.extG e⟩,ih c2 W.2 h3⟩
 have key:∀(G:List Nat) (w:World) (c1:List Deferred) (a:Act),Pre n d fr ds h u B mu w {a with defers:=c2} cs->Xp h mu w m mode->a.defers=c1++c2->G.Nodup->c1.map (·.target)=G.map (λb=>.collected b)->
   (∀b∈G,b<w.heap.size/\¬C0 h mu b/\B.fb<=b/\w.heap[b]?=some (.deferred (some [])))->U5 P f d B h mu w cs Q (lone {(b0 f d).atR a todo with mode:=mode} cs w):=by
  intro G
  induction G with
  |nil=>
   intro w c1 a p X D _ z _;have:c1=[]:=by simpa using z
   subst this;have ha:({a with defers:=c2}:Act)=a:=by cases a;simp at D;subst D;rfl
   rw[ha]at p;exact hr B mu w a cs todo mode p X
  |cons b G ih=>
   intro w c1 a p X D S z A;match c1,z with
   |dc::c1,z=>
    simp only[BM,CN]at z;obtain⟨k1,k2,k3,k4⟩:=A b (BE ..);obtain⟨s',e'⟩:=p.sim.take k4 k2 (CR p.fb.1 k3) k3;have hk:(Instr.takeDeferred b).run P w=.ok [] {w with heap:=w.heap.setIfInBounds b (.deferred none)}:=by simp[Instr.takeDeferred,getObj,setObj,Sem.run,Sem.run_bind,k4]
    have h1:=step_collected (P:=P) (fr:={(b0 f d).atR a todo with mode:=mode}) (cs:=cs) (w:=w) aa (d:=dc) (ds:=c1++c2) (by simpa[Frame.atR]using D) z.1 hk;have p':Pre n d fr ds h u B mu {w with heap:=w.heap.setIfInBounds b (.deferred none)} {a with defers:=c2} cs:=
     ⟨p.size,λt=>(p.fr t).extG e',keep e' ds c2 Z p.ds,s',by
      obtain⟨q,ro⟩:=d;cases q with
      |false=>trivial
      |true=>obtain⟨c,r,h1,h2⟩:=p.cs;exact⟨c,r,h1,h2.extG e'⟩,p.rnd,p.fb.1,by simpa using p.fb.2⟩
    have O:=DY.1 S;exact .extG e' (.head h1 (ih _ c1 {a with defers:=c1++c2} p' (X.extG e') rfl O.2 z.2 (λb' Y=>by obtain⟨q1,q2,q3,q4⟩:=A b' (BC _ Y);refine⟨by simpa using q1,q2,q3,?_⟩;have ac:b'≠b:=λD=>O.1 (D▸Y);exact(CA (Ne.symm ac)).trans q4)))
 exact key G w c1 a ⟨p.size,p.fr,U,p.sim,p.cs,p.rnd,p.fb⟩ X D S z A
def A1p(hr:E8 P f n d todo fr (AD.star::ds) h u Q):E8 P f n d todo fr ds h u Q:=λB mu w a cs p=>hr B mu w a cs ⟨p.size,p.fr,⟨[],a.defers,rfl,⟨[],GZ,rfl,λb z=>by cases z⟩,p.ds⟩,p.sim,p.cs,p.rnd,p.fb⟩
structure LpOk (f n:Nat)(params:Array Tmp)(assign body:Code)(r:Loop):Prop where
 ready:r.state=.ready
 pend:r.pending=none
 fn:r.fn=f
 size:r.tmps.size=n
 params:r.params=params
 assign:r.assign=assign
 body:r.body=body
def Aoz(z:Nat)(a0:d.ro=none)(hx:ev fr x=.func (.func gf) [] cap)(a3:h z=none)(a4 : ∀ (D:Nat) (y:YF) (r:Loop),LpOk f n params assign body r->(∀ {mu:Mu} {w:World} {M:Nat->Prop} {l:Nat},y.F w mu M l -> ∀ t,Rv w mu M (fr t) (r.tmps.getD t undef)) ->
   Bs P gf ([.yld y z D]++cap) (upd h z (some (.blk D (.loop r)))) (λaa h'=>match aa with
    |.ret _=>∃r':Loop,h' z=some (.blk D (.loop r'))/\r'.state≠.busy/\E8 P f n d ((r'.pending.map Item.code).toList++k) fr (AD.star::ds) (upd h' z none) u Q
    |.panic v=>Xl P f n d (.pan v false) fr (AD.star::ds) (upd h' z none) u Q)):
  E8 P f n d (.code (.rangeFunc x params assign body)::k) fr (AD.star::ds) h u Q:=by
 intro B mu w a cs p
 obtain⟨s1,e1⟩:=p.sim.junk (.deferred (some []))
 obtain⟨D,a5⟩:=s1.fresh z
 generalize hr:({state:=.ready,pending:=none,fn:=f,tmps:=a.tmps,params:=params,assign:=assign,body:=body,defers:=w.heap.size}:Loop)=r
 obtain⟨s2,e2⟩:=s1.pushB (.loop r) a3 a5
 have ae:=e1.trans e2
 have G:(w.alloc (.deferred (some []))).heap.size=w.heap.size+1:=Ey ..
 have al:(Instr.enterLoop (b0 f d).fn a.tmps params assign body (b0 f d).roundOf).run P w=.ok (w.heap.size+1,[{target:=.collected w.heap.size,args:=#[]}]) ((w.alloc (.deferred (some []))).alloc (.loop r)):=by
  have am:(b0 f d).roundOf=none:=by simp[b0,a0]
  rw[am,<-hr,<-G]
  rfl
 have p2:=p.ext ae s2
 let y:YF:=⟨λw mu M l=>∀t,Rv w mu M (fr t) (a.tmps.getD t undef),λe U t=>(U t).extG e⟩
 have V:=a4 D y r (by subst hr;exact⟨rfl,rfl,rfl,p.size,rfl,rfl,rfl⟩) (λU t=>by subst hr;exact U t)
 obtain⟨hb,V⟩:=V
 have an:=T7 p2.fr x
 rw[hx]at an
 obtain⟨f2,c2,ao,a6,a7⟩:=Aoo an
 have ap:f2=[]:=by have:=a6.1;simp at this;exact CQ.1 this.symm
 subst ap
 have ab:((resolve a.eval (rangeCall x (w.heap.size+1)) 0)>>=λd=>invoke d.target d.args).run P ((w.alloc (.deferred (some []))).alloc (.loop r))=.ok (.enter gf (#[]++#[Value.func (.yield (w.heap.size+1)) #[] #[]]++c2.toArray)) ((w.alloc (.deferred (some []))).alloc (.loop r)):=by
  have:=Asi (P:=P) (ρ:=a.eval) (x:=x) (args:=#[.const (.func (.yield (w.heap.size+1)) #[] #[])]) (ts:=#[]) (ty:=0) (w:=(w.alloc (.deferred (some []))).alloc (.loop r)) ao hb
  simpa[rangeCall,Act.eval]using this
 have aq:∃dd,(resolve a.eval (rangeCall x (w.heap.size+1)) 0).run P ((w.alloc (.deferred (some []))).alloc (.loop r))=.ok dd ((w.alloc (.deferred (some []))).alloc (.loop r))/\(invoke dd.target dd.args).run P ((w.alloc (.deferred (some []))).alloc (.loop r))=.ok (.enter gf (#[]++#[Value.func (.yield (w.heap.size+1)) #[] #[]]++c2.toArray)) ((w.alloc (.deferred (some []))).alloc (.loop r)):=by
  rw[Sem.run_bind]at ab
  have a8:∃dd,(resolve a.eval (rangeCall x (w.heap.size+1)) 0).run P ((w.alloc (.deferred (some []))).alloc (.loop r))=.ok dd ((w.alloc (.deferred (some []))).alloc (.loop r)):=by
   simp[rangeCall,resolve,ao,Deferred.ofValue]
  obtain⟨dd,ar⟩:=a8
  refine⟨dd,ar,?_⟩
  rw[ar]at ab
  simpa using ab
 obtain⟨dd,a9,ba⟩:=aq
 have X:=stepR_rangeFunc (P:=P) (b:=b0 f d) (a:=a) (k:=k) (cs:=cs) (w:=w) al a9 ba
 have ag:Dm mu z D ⟨(w.alloc (.deferred (some []))).heap.size,0,0,0,false⟩ z D=some ⟨(w.alloc (.deferred (some []))).heap.size,0,0,0,false⟩:=by
  simp[Dm]
 have ah:Ry (upd h z (some (.blk D (.loop r)))) (Dm mu z D ⟨(w.alloc (.deferred (some []))).heap.size,0,0,0,false⟩) ((w.alloc (.deferred (some []))).alloc (.loop r)) ([.yld y z D]++cap) (#[]++#[Value.func (.yield (w.heap.size+1)) #[] #[]]++c2.toArray).toList:=by
  simp only[GX,CM]
  refine Ry.append ⟨rfl,λi hi=>?_⟩ a7
  have:i=0:=by simpa using hi
  subst this
  have hv:=Rv.yld (w:=(w.alloc (.deferred (some []))).alloc (.loop r)) (M:=C0 (upd h z (some (.blk D (.loop r)))) (Dm mu z D ⟨(w.alloc (.deferred (some []))).heap.size,0,0,0,false⟩)) y z D _ ag (λt=>p2.fr t)
  show Rv _ _ _ (.yld y z D) (.func (.yield (w.heap.size+1)) #[] #[])
  rw[<-G]
  exact hv
 obtain⟨e,w',bi,⟨aa,h',mu',hQ,ac,A,hE⟩,Y,bj,Z⟩:=V B _ _ _ s2 ah ((b0 f d).atR {a with defers:=[{target:=.collected w.heap.size,args:=#[]}]++a.defers} (.inRangeFunc (w.heap.size+1)::k)::cs)
 have p3:=p2.ext A ac
 have O:Hv (upd h' z none) h':=λo' y' U=>by
  unfold upd at U
  split at U
  .cases U
  .exact U
 have ai:Yg h' mu' w' B.fb (AD.star::ds) ([{target:=.collected w.heap.size,args:=#[]}]++a.defers):=by
  have au:=p.ds
  unfold Yg at au ⊢
  obtain⟨c1,c2,hq,⟨bs,k1,k2,k3⟩,aj⟩:=au
  have E:=ae.trans A
  have hD:(w.alloc (.deferred (some []))).heap[w.heap.size]?=some (.deferred (some [])):=Rc
  have bb:((w.alloc (.deferred (some []))).alloc (.loop r)).heap[w.heap.size]?=some (.deferred (some [])):=by rw[Ds (by rw[G];omega)];exact hD
  have bc:¬C0 (upd h z (some (.blk D (.loop r)))) (Dm mu z D ⟨(w.alloc (.deferred (some []))).heap.size,0,0,0,false⟩) w.heap.size:=by
   rintro⟨o1,x1,l1,q1,q2,q3⟩
   by_cases ak:o1=z
   .subst ak
    rw[A09]at q1;cases q1
    rw[show(AO.blk D (.loop r)).gen=D from rfl,ag]at q2;cases q2
    simp only at q3;rw[G]at q3;omega
   .rw[Auc _ _ _ ak]at q1
    have:mu o1 x1.gen=some l1:=by
     have:Dm mu z D ⟨(w.alloc (.deferred (some []))).heap.size,0,0,0,false⟩ o1 x1.gen=mu o1 x1.gen:=by simp[Dm,ak]
     rw[<-this];exact q2
    have:=(p.sim.muOk _ _ _ this).2.1
    omega
  have af:((w.alloc (.deferred (some []))).alloc (.loop r)).heap.size=w.heap.size+2:=by rw[Ey,G]
  obtain⟨j1,j2⟩:=A.same w.heap.size (by rw[af];omega) bc
  refine⟨{target:=.collected w.heap.size,args:=#[]}::c1,c2,by rw[hq];rfl,⟨w.heap.size::bs,DY.2 ⟨λhm=>by have:=(k3 _ hm).1;omega,k1⟩,by simp[k2],λb hb=>?_⟩,aj.ext E⟩
  rcases AN.1 hb with rfl|hb
  .exact⟨AW (by rw[af];omega) A.size,j2,p.fb.2,j1.trans bb⟩
  .obtain⟨q1,q2,q3,q4⟩:=k3 b hb
   obtain⟨s1,s2⟩:=E.same b q1 q2
   exact⟨AW q1 E.size,s2,q3,s1.trans q4⟩
 have p4:Pre n d fr (AD.star::ds) h' u B mu' w' {a with defers:=[{target:=.collected w.heap.size,args:=#[]}]++a.defers} cs:=⟨p3.size,p3.fr,ai,ac,p3.cs,p3.rnd,p3.fb⟩
 cases e with
 |outgrown=>cases aa<;>exact hE.elim
 |returned c=>
  cases aa with
  |panic v=>exact hE.elim
  |ret v=>
   obtain⟨r',av,aw,ax⟩:=hQ
   have S:=step_leave_returned Z (c:=(b0 f d).atR {a with defers:=[{target:=.collected w.heap.size,args:=#[]}]++a.defers} (.inRangeFunc (w.heap.size+1)::k)) (cs:=cs)
   rw[finish_atR_inRangeFunc]at S
   have ad:=A.mu _ _ _ ag
   rw[G]at ad
   obtain⟨l1,ay,_,bd⟩:=ac.blks _ _ _ av
   rw[ad]at ay;cases ay
   have az:(Instr.endLoop (w.heap.size+1)).run P w'=.ok r'.pending {w' with heap:=w'.heap.setIfInBounds (w.heap.size+1) (.loop {r' with state:=.exhausted})}:=by
    have be:(r'.state==.busy)=false:=by
     cases hq:r'.state with
     |busy=>exact absurd hq aw
     |ready=>rfl
     |done=>rfl
     |exhausted=>rfl
    simp[Instr.endLoop,Instr.getLoop,getObj,setObj,Sem.run,Sem.run_bind,bd,be,aw]
   obtain⟨s5,e5⟩:=ac.setB (x':=.loop {r' with state:=.exhausted}) av ad (λ_ _ _ U=>by cases U)
   have W:Hv (upd h' z none) (upd h' z (some (.blk D (.loop {r' with state:=.exhausted})))):=λo' y' U=>by
    unfold upd at U ⊢
    split at U
    .cases U
    .rename_i hq;rw[if_neg hq];exact U
   have p5:=(p4.ext e5 s5).ext (ED W) (s5.sub W)
   exact .ext (ae.trans A) (.ext e5 (.ext (ED W) (.steps (.head X (Steps.trans Y (.head S (.one (stepR_endRangeFunc az))))) (ax B mu' _ _ cs p5))))
 |panicked bf=>
  cases aa with
  |ret v=>exact hE.elim
  |panic v=>
   have S:=step_leave_panicked Z (c:=(b0 f d).atR {a with defers:=[{target:=.collected w.heap.size,args:=#[]}]++a.defers} (.inRangeFunc (w.heap.size+1)::k)) (cs:=cs)
   obtain⟨x',bg,x1,x2,x3⟩:=hE.panic_inv
   cases bg
   rw[Frame.raise_atR]at S
   have p5:=p4.ext (ED O) (ac.sub O)
   have bh:Xp (upd h' z none) mu' w' (.pan v false) (.panicking [x']):=⟨x1,x2,x3.ext (ED O)⟩
   exact .ext (ae.trans A) (.ext (ED O) (.steps (.head X (Steps.trans Y (.one S))) (hQ B mu' w' _ cs _ _ p5 bh)))
end
variable{σ:Type}
def Am6(z:σ->Aa->Prop)(m:R σ):AR->Aa->Prop:=λr h'=>match m with
 |.ok s=>(∃v,r=.ret v)/\z s h'
 |.pan v=>r=.panic v.av/\∃s,z s h'
 |.bad=>False
def Ay9(z:σ->Aa->Prop):Spec σ:=⟨λm=>m≠.bad,λh=>h rfl,λm r h' _=>Am6 z m r h'⟩
variable{jL:Nat}
section
variable[GW P]{St:σ→Aa→Prop}{m:R σ}
def Ans(hf:P.funcs[f]?=some fn)(hb:fn.body=some c)(hn:fn.name≠"runtime.NumGoroutine")(hnt:fn.ntmps=n)(hl:Nat.ble args.length n=true)(hr:WR P f n false (Ay9 St) m [.code c] (Ac (Aa5 0 args)) [] h .ret)(hm:m≠.bad):Bs P f args h (Am6 St m):=by
 refine Tw hf hb hn hnt (by simpa using hl) ?_;refine R2 (fun t=>?_) (hr hm);rcases T0 args 0 t with h|⟨_,h⟩
 ·exact .inl h
 ·exact .inr h
def Bgz{s:σ}{vs:List AV}(hf:P.funcs[f]?=some fn)(hr:Gc P h fr fn.results.toList=some vs)(z:St s h):WR P f n false (Ay9 St) (.ok s) (.code .ret::k) fr [] h u:=λ_=>Abo (Avx hf hr ⟨⟨_,rfl⟩,z⟩)
def Arn{s:σ}{vs:List AV}(hf:P.funcs[f]?=some fn)(hr:Gc P h fr fn.results.toList=some vs)(z:St s h):WR P f n false (Ay9 St) (.ok s) [] fr [] h u:=λ_=>Arf (Avx hf hr ⟨⟨_,rfl⟩,z⟩)
def Avu{v:PV}{s:σ}(hf:P.funcs[f]?=some fn)(z:St s h):WU P f n false (Ay9 St) (.pan v) (.pan v.av false) fr [] h u:=λ_=>Bgt hf ⟨rfl,s,z⟩
def YOk (P:Program)[GW P](y:YF)(o g:Nat)(A:List AV)(z:σ->Aa->Prop)(b:σ->R σ):Prop:=∀s h,z s h->∀s',b s=.ok s'->Am1 P y o g A h (λv h'=>v=.bool true/\z s' h') (λ_ _=>False)
section
variable{all r:List Oper}{pos:String}{F:γ→R β}
def Bec{y:YF}{o g:Nat}{A:List AV}{b:σ->R σ}{s:σ}{rest:σ->R γ}(ht:Nat.blt t n=true)(W:ev (Ac l) x=.yld y o g)(X:Ev (Ac l) as0=A)(Y:St s h)(Z:YOk P y o g A St b)(D:∀v,b s≠.pan v)(hk:∀s',b s=.ok s'->∀h',St s' h'->WO P f n d Q k all ((rest s').bind F) r (Ac ((t,.bool true)::l)) ds h' u):
  WO P f n d Q k all (((b s).bind rest).bind F) (⟨some t,.call ⟨.value x,⟨as0⟩,ts⟩,ty,pos,after,none⟩::r) (Ac l) ds h u:=by
 refine Anx (R.bind_assoc _ _ _) (Ow (by simpa[Ee]using ht) rfl λS K U V hU=>?_)
 simp only[Hr,W]
 rw[X]
 cases z:b s with
 |bad=>rw[z]at S;exact absurd S Q.bad
 |pan v=>exact absurd z (D v)
 |ok s'=>have G:=hk s' z;rw[z]at V;refine Aaq (λv h' hv=>?_) (λ_ _ hf=>hf.elim) (Z s h Y s' z);obtain⟨rfl,O⟩:=hv;exact V _ _ _ _ (by rw[Db];exact G h' O)
def A2c{y:YF}{o g:Nat}{A:List AV}{b:σ->R σ}{s:σ}{rest:σ->R γ}(W:all[i]?=some ⟨some t,.call ⟨.value x,⟨as0⟩,ts⟩,ty,pos,after,gd⟩)(ht:Nat.blt t n=true)(X:ev (Ac l) x=.yld y o g)(Y:Ev (Ac l) as0=A)(Z:St s h)(hy:YOk P y o g A St b)(D:∀v,b s≠.pan v)(hpd:∀h',Eu P all pre i h' pend)(hk:∀s',b s=.ok s'->∀h',St s' h'->WP P f n d Q k all pre ((rest s').bind F) plan pend (Ac ((t,.bool true)::l)) ds h' u)(hw:Cx all (Ac l) ⟨some t,.call ⟨.value x,⟨as0⟩,ts⟩,ty,pos,after,gd⟩=some true:=by exact rfl):
  WP P f n d Q k all pre (((b s).bind rest).bind F) ((true,i)::plan) pend (Ac l) ds h u:=by
 refine Atq (R.bind_assoc _ _ _) (Ajx W (by simpa[Ee]using ht) hw λS K U V hU=>?_)
 simp only[Hr,X]
 rw[Y]
 cases z:b s with
 |bad=>rw[z]at S;exact absurd S Q.bad
 |pan v=>exact absurd z (D v)
 |ok s'=>have G:=hk s' z;rw[z]at V;refine Aaq (λv h' hv=>?_) (λ_ _ hf=>hf.elim) (hy s h Z s' z);obtain⟨rfl,O⟩:=hv;exact V _ _ _ _ (hpd h') (by rw[Db];exact G h' O)
end
def A1d(o g:Nat)(r:Loop)(z:σ->Aa->Prop):Spec σ:=⟨λm=>∃s:σ,m=.ok s,(λh=>by obtain⟨s,h⟩:=h;cases h),λm a h' _=>∃s:σ,m=.ok s/\a=.ret (.tup [])/\h' o=some (.blk g (.loop {r with state:=.busy}))/\z s (upd h' o (some (.blk g (.loop r))))⟩
def Biv{lo:Nat×Nat×Nat}{o g:Nat}{r:Loop}{s:σ}(z:h o=some (.blk g (.loop {r with state:=.busy})))(A:St s (upd h o (some (.blk g (.loop r))))):
  WR P f n ⟨false,some lo⟩ (A1d o g r St) (.ok s) [] fr [] h u:=by
 intro G B mu w a cs p
 have D:a.defers=[]:=p.ds
 refine⟨.returned undef,w,cs,_,.ret (.tup []),h,mu,u,⟨s,rfl,rfl,z,A⟩,Steps.refl P _,rfl,rfl,?_,.und,p.sim,(DQ _ _ _).g,.refl p.cs⟩
 exact⟨rfl,rfl,D,.inl ⟨rfl,rfl⟩⟩
def Aky{y:YF}{o g:Nat}{r:Loop}{A:List AV}{b:σ->R σ}(z:LpOk f n params assign body r)(D:params.toList.all (λp=>Nat.blt p n)=true)(G:A.length=params.size)(X:∀{mu:Mu} {w:World} {M:Nat->Prop} {lo:Nat},y.F w mu M lo->∀t,Rv w mu M (Ac l t) (r.tmps.getD t undef))(O:∀s h,St s h->h o=some (.blk g (.loop r)))(hr:∀(lo:Nat) (s:σ) (h:Aa),St s h->WR P f n ⟨false,some (lo,o,g)⟩ (A1d o g r St) (b s) [.code assign,.beginRound,.code body] (Ah2 (Ac l) params.toList A) [] h .ret):YOk P y o g A St b:=by intro s h V s' W;obtain⟨h1,h2,Y,Z,rfl,rfl,rfl⟩:=z;refine Asa (f:=f) (n:=n) (fr:=Ac l) (O s h V) h1 h2 Y Z (λp hp=>by have:=AJ.1 D p hp;simpa using this) (λhF t=>X hF t) G λlo=>?_;refine As8 (hr lo s h V ⟨s',W⟩) λa h' u' hq=>?_;obtain⟨s2,e,rfl,S,U⟩:=hq;rw[W]at e;cases e;exact⟨S,.inl ⟨rfl,rfl,U⟩⟩
def Abl:∀(ps:List Nat) (A:List AV) (l:List (Nat×AV)),Ah2 (Ac l) ps A=Ac ((ps.zip A).reverse++l)
 |[],_,l=>rfl
 |p::ps,[],l=>rfl
 |p::ps,v::A,l=>by rw[Ah2];have:upd (Ac l) p v=Ac ((p,v)::l):=Db l p v;rw[this,Abl ps A];simp
section
variable{F:γ→R β}
def Ax7{lo:Nat×Nat×Nat}{o g:Nat}{r:Loop}(hr:WR P f n ⟨false,some lo⟩ (A1d o g r St) m todo fr ds h u):WR P f n ⟨false,some lo⟩ (A1d o g r St) m.np todo fr ds h u:=by
 intro z;cases m with
 |ok s=>exact hr z
 |pan v=>obtain⟨s,h⟩:=z;cases h
 |bad=>obtain⟨s,h⟩:=z;cases h
def Apx{m:R β}(l':List (Nat×AV))(e:fr=Ac l')(hr:WR P f n d Q m todo (Ac l') ds h u):WR P f n d Q m todo fr ds h u:=e▸hr
def Uz{m:R β}{z g:Nat}{r:Loop}(A:Ids h0 ids N)(D:xs.length=N)(G:Nat.blt jL N=true)(O:xs[jL]?=some (some (.blk g (.loop r))))(S:r.state=.ready)(hr:WR P f n ⟨false,some (z,ix ids jL,g)⟩ Q m k fr ds (hp h0 ids (xs.set jL (some (.blk g (.loop {r with state:=.busy}))))) u):WR P f n ⟨false,some (z,ix ids jL,g)⟩ Q m (.beginRound::k) fr ds (hp h0 ids xs) u:=λU=>Av0 rfl (A.at D O) S (by rw[A.set D G];exact hr U)
def Ai5{lo:Nat×Nat×Nat}{g:Nat}{r:Loop}{s:σ}(z:Ids h0 ids N)(A:xs.length=N)(D:Nat.blt jL N=true)(G:xs[jL]?=some (some (.blk g (.loop {r with state:=.busy}))))(O:St s (hp h0 ids (xs.set jL (some (.blk g (.loop r)))))): WR P f n ⟨false,some lo⟩ (A1d (ix ids jL) g r St) (.ok s) [] fr [] (hp h0 ids xs) u:=Biv (z.at A G) (by rw[z.set A D];exact O)
def Amk{m:R β}{y:Option AO}(ys:List (Option AO))(z:Ids h0 ids N)(A:xs.length=N)(D:Nat.blt j N=true)(e:xs.set j y=ys)(hr:WR P f n d Q m todo fr ds (hp h0 ids ys) u):WR P f n d Q m todo fr ds (upd (hp h0 ids xs) (ix ids j) y) u:=by rw[z.set A D,e];exact hr
def Amd{m:R β}{a:AU}{y:Option AO}(ys:List (Option AO))(z:Ids h0 ids N)(A:xs.length=N)(D:Nat.blt j N=true)(e:xs.set j y=ys)(hr:WU P f n d Q m a fr ds (hp h0 ids ys) u):WU P f n d Q m a fr ds (upd (hp h0 ids xs) (ix ids j) y) u:=by rw[z.set A D,e];exact hr
end
def A0c{rest:σ->R β}(jL:Nat)(S:Nat->Loop->σ->Aa->Prop)(W:d.ro=none)(hx:ev (Ac l) x=.func (.func gf) [] cap)(hI:Ids h0 ids N)(hl:xs.length=N)(X:Nat.blt jL N=true)(Y:xs[jL]? = some none)(Z : ∀ (z:Nat) (y:YF) (r:Loop),LpOk f n params assign body r->(∀ {mu:Mu} {w:World} {M:Nat->Prop} {lo:Nat},y.F w mu M lo -> ∀ t,Rv w mu M (Ac l t) (r.tmps.getD t undef)) ->
   (m≠.bad->Bs P gf ([.yld y (ix ids jL) z]++cap) (hp h0 ids (xs.set jL (some (.blk z (.loop r))))) (Am6 (S z r) m))/\
   (∀s h',S z r s h'->h' (ix ids jL)=some (.blk z (.loop r)))/\
   (∀s,m=.ok s->∀h',S z r s h'->WR P f n d Q (rest s) k (Ac l) (AD.star::ds) (upd h' (ix ids jL) none) u)/\
   (∀v,m=.pan v->∀s h',S z r s h'->WU P f n d Q (.pan v) (.pan v.av false) (Ac l) (AD.star::ds) (upd h' (ix ids jL) none) u)):
  WR P f n d Q (m.bind rest) (.code (.rangeFunc x params assign body)::k) (Ac l) (AD.star::ds) (hp h0 ids xs) u:=by
 intro G
 refine Aoz (ix ids jL) W hx (hI.at hl Y) λz y r A aa=>?_
 obtain⟨c1,c2,c3,c4⟩:=Z z y r A aa
 rw[hI.set hl X]
 have O:m≠.bad:=λe=>by rw[e]at G;exact Q.bad G
 refine(c1 O).mono λab h' U=>?_
 cases D:m with
 |bad=>exact absurd D O
 |ok s=>
  rw[D]at U
  obtain⟨⟨v,rfl⟩,V⟩:=U
  refine⟨r,c2 s h' V,by rw[A.ready];exact λe=>(by cases e),?_⟩
  rw[A.pend]
  refine c3 s D h' V ?_
  rw[D]at G;exact G
 |pan v=>
  rw[D]at U
  obtain⟨rfl,s,V⟩:=U
  refine c4 v D s h' V ?_
  rw[D]at G;exact G
def Acd{rest:σ->R γ}{F:γ->R β}(jL:Nat)(A:Nat->Loop->σ->Aa->Prop)(D:d.ro=none)(U:ev (Ac l) x=.func (.func gf) [] cap)(V:Ids h0 ids N)(W:xs.length=N)(G:Nat.blt jL N=true)(O:xs[jL]? = some none)(S : ∀ (z:Nat) (y:YF) (r:Loop),LpOk f n params assign body r->(∀ {mu:Mu} {w:World} {M:Nat->Prop} {lo:Nat},y.F w mu M lo -> ∀ t,Rv w mu M (Ac l t) (r.tmps.getD t undef)) ->
   (m≠.bad->Bs P gf ([.yld y (ix ids jL) z]++cap) (hp h0 ids (xs.set jL (some (.blk z (.loop r))))) (Am6 (A z r) m))/\
   (∀s h',A z r s h'->h' (ix ids jL)=some (.blk z (.loop r)))/\
   (∀s,m=.ok s->∀h',A z r s h'->WR P f n d Q ((rest s).bind F) k (Ac l) (AD.star::ds) (upd h' (ix ids jL) none) u)/\
   (∀v,m=.pan v->∀s h',A z r s h'->WU P f n d Q (.pan v) (.pan v.av false) (Ac l) (AD.star::ds) (upd h' (ix ids jL) none) u)):
  WR P f n d Q ((m.bind rest).bind F) (.code (.rangeFunc x params assign body)::k) (Ac l) (AD.star::ds) (hp h0 ids xs) u:=by
 rw[R.bind_assoc]
 exact A0c jL A D U V W G O S
def H5{m:R β}{a:AU}(hr:WU P f n d Q m a fr ds h u)(z:ds.all (λd=>!d.isStar)=true:=by rfl):WU P f n d Q m a fr (AD.star::ds) h u:=λA=>Bev (hr A) z
def Av9{m:R β}(hr:WR P f n d Q m k fr (AD.star::ds) h u):WR P f n d Q m k fr ds h u:=λz=>A1p (hr z)
def Ais{m:R β}(hr:WU P f n d Q m .ret fr ds h u)(z:d.ro=none:=by rfl):WR P f n d Q m (.code .ret::k) fr ds h u:=λA=>Abo (hr A) z
def A5t{all:List Oper}{m:R β}(hr:WO P f n d Q k all m ops fr (AD.star::ds) h u):WO P f n d Q k all m ops fr ds h u:=λz i hi=>A1p (hr z i hi)
end
section
variable[GW P]{K:Nat}{e:α→AV}
def Bba{a:α}{vs:List AV}(hf:P.funcs[f]?=some fn)(z:Ids h0 ids N)(hr:Gc P (hp h0 ids xs) (Ac l) fn.results.toList=some vs)(hz:Fz (hp h0 ids xs) h0 (Hn vs) (e a)): WU P f n false (Zy e h0) (.ok a) .ret (Ac l) [] (hp h0 ids xs) u:=λ_=>Wa hf hr (z.sub xs) hz rfl ⟨rfl,rfl⟩
def A4r{a:α}{vs A:List AV}{g:FuncId}(hf:P.funcs[f]?=some fn)(D:Ids h0 ids N)(G:I1 P g A .ret (hp h0 ids xs) (Ys (λ_:Unit=>hp h0 ids xs) .ret (.ok ())))(hr:Gc P (hp h0 ids xs) (Ac l) fn.results.toList=some vs)(hz:Fz (hp h0 ids xs) h0 (Hn vs) (e a))(z:AD.isStar ⟨g,A⟩=false:=by rfl): WU P f n false (Ng e h0 hdl) (.ok a) .ret (Ac l) [⟨g,A⟩] (hp h0 ids xs) .ret:=λ_=>Apo (G.mono λr h' u O=>by obtain⟨_,_,rfl,rfl,rfl⟩:=O;exact Wa hf hr (D.sub xs) hz rfl ⟨rfl,rfl⟩) z
def Bi2{a:α}{vs:List AV}(ys:List (Option AO))(hf:P.funcs[f]?=some fn)(z:Ids h0 ids (K+N))(A:xs.length=K+N)(hr:Gc P (hp h0 ids xs) (Ac l) fn.results.toList=some vs)(D:ys.length=K)(G:HL (hp h0 ids xs) (hp h0 ids (ys++List.replicate N none)) xs (ys++List.replicate N none))(hz:Fz (hp h0 ids xs) (hp h0 ids (ys++List.replicate N none)) (Hn vs) v)(O:S a v (hp h0 (tkf ids K 0) ys)):
  WU P f n false (Zk S h0) (.ok a) .ret (Ac l) [] (hp h0 ids xs) u:=λ_=>by
 refine Atl hf hr (G.hfz z A) hz rfl ⟨v,rfl,?_⟩
 rw[Awe z D];exact O
end
variable{ε:Type}{r1:σ→R γ}{jm:ε→Code}{id:Nat}
section
variable[GW P]{St:σ ⊕ ε→Aa→Prop}
def Bc5 (P:Program)[GW P](y:YF)(o g:Nat)(A:List AV)(z:σ ⊕ ε->Aa->Prop)(b:σ->R (σ ⊕ ε)):Prop:=∀s h,z (.inl s) h->∀x,b s=.ok x->Am1 P y o g A h (λv h'=>v=.bool x.isLeft/\z x h') (λ_ _=>False)
section
variable{all r:List Oper}{pos:String}{F:γ→R β}
def A81{y:YF}{o g:Nat}{A:List AV}{b:σ->R (σ ⊕ ε)}{s:σ}{r2:ε->R γ}(ht:Nat.blt t n=true)(Y:ev (Ac l) x=.yld y o g)(Z:Ev (Ac l) as0=A)(hs:St (.inl s) h)(hy:Bc5 P y o g A St b)(O:∀v,b s≠.pan v)(S:∀s',b s=.ok (.inl s')->∀h',St (.inl s') h'->WO P f n d Q k all ((r1 s').bind F) r (Ac ((t,.bool true)::l)) ds h' u)(V:∀e,b s=.ok (.inr e)->∀h',St (.inr e) h'->WO P f n d Q k all ((r2 e).bind F) r (Ac ((t,.bool false)::l)) ds h' u):
  WO P f n d Q k all (((b s).bind (alt r1 r2)).bind F) (⟨some t,.call ⟨.value x,⟨as0⟩,ts⟩,ty,pos,after,none⟩::r) (Ac l) ds h u:=by
 refine Anx (R.bind_assoc _ _ _) (Ow (by simpa[Ee]using ht) rfl λX K U W hU=>?_)
 simp only[Hr,Y]
 rw[Z]
 cases D:b s with
 |bad=>rw[D]at X;exact absurd X Q.bad
 |pan v=>exact absurd D (O v)
 |ok z=>
  rw[D]at W;refine Aaq (λv h' hv=>?_) (λ_ _ hf=>hf.elim) (hy s h hs z D);obtain⟨rfl,G⟩:=hv;cases z with
  |inl s'=>exact W _ _ _ _ (by rw[Db];exact S s' D h' G)
  |inr e=>exact W _ _ _ _ (by rw[Db];exact V e D h' G)
end
def Aku(o g:Nat)(r:Loop)(z:σ ⊕ ε->Aa->Prop)(jm:ε->Code):Spec (σ ⊕ ε):=⟨λm=>∃s,m=.ok s,(λh=>by obtain⟨s,h⟩:=h;cases h),λm a h' _=>∃s,m=.ok s/\h' o=some (.blk g (.loop {r with state:=.busy}))/\
 match s with
 |.inl _=>a=.ret (.tup [])/\z s (upd h' o (some (.blk g (.loop r))))
 |.inr e=>a=.ret (jav (jm e))/\jav (jm e)≠.tup []/\z s (upd h' o (some (.blk g (.loop {r with state:=.done,pending:=some (jm e)}))))⟩
section
variable{lo:Nat×Nat×Nat}{o g:Nat}{r:Loop}
def Bet {s:σ}(z:h o=some (.blk g (.loop {r with state:=.busy})))(A:St (.inl s) (upd h o (some (.blk g (.loop r))))):
  WR P f n ⟨false,some lo⟩ (Aku o g r St jm) (.ok (.inl s)) [] fr [] h u:=by
 intro G B mu w a cs p
 have D:a.defers=[]:=p.ds
 refine⟨.returned undef,w,cs,_,.ret (.tup []),h,mu,u,⟨_,rfl,z,rfl,A⟩,Steps.refl P _,rfl,rfl,?_,.und,p.sim,(DQ _ _ _).g,.refl p.cs⟩
 exact⟨rfl,rfl,D,.inl ⟨rfl,rfl⟩⟩
def Baj{e:ε}(A:exitTo id k=none)(z:jm e=.exit id)(D:h o=some (.blk g (.loop {r with state:=.busy})))(G:St (.inr e) (upd h o (some (.blk g (.loop {r with state:=.done,pending:=some (.exit id)}))))):
  WR P f n ⟨false,some lo⟩ (Aku o g r St jm) (.ok (.inr e)) (.code (.exit id)::k) fr [] h u:=by
 intro S B mu w a cs p
 have O:a.defers=[]:=p.ds
 refine⟨.returned (.int .u64 id),w,cs,_,.ret (.int .u64 id),h,mu,u,⟨_,rfl,D,by rw[z];rfl,by rw[z];simp[jav],by rw[z];exact G⟩,Steps.refl P _,rfl,rfl,?_,.int _ _,p.sim,(DQ _ _ _).g,.refl p.cs⟩
 exact⟨rfl,rfl,O,.inr ⟨.exit id,k,rfl,by simp[Ac3,A],rfl⟩⟩
def Be5 {v:PV}{m:AU}:WU P f n ⟨false,some lo⟩ (Aku o g r St jm) (.pan v) m fr ds h u:=λz=>by obtain⟨s,h⟩:=z;cases h
def Bke{m:R (σ ⊕ ε)}(hr:WR P f n ⟨false,some lo⟩ (Aku o g r St jm) m todo fr ds h u):WR P f n ⟨false,some lo⟩ (Aku o g r St jm) m.np todo fr ds h u:=by
 intro z;cases m with
 |ok s=>exact hr z
 |pan v=>obtain⟨s,h⟩:=z;cases h
 |bad=>obtain⟨s,h⟩:=z;cases h
end
def A56{y:YF}{o g:Nat}{r:Loop}{A:List AV}{b:σ->R (σ ⊕ ε)}(G:LpOk f n params assign body r)(O:params.toList.all (λp=>Nat.blt p n)=true)(S:A.length=params.size)(Y:∀{mu:Mu} {w:World} {M:Nat->Prop} {lo:Nat},y.F w mu M lo->∀t,Rv w mu M (Ac l t) (r.tmps.getD t undef))(U:∀s h,St (.inl s) h->h o=some (.blk g (.loop r)))(hr:∀(lo:Nat) (s:σ) (h:Aa),St (.inl s) h->WR P f n ⟨false,some (lo,o,g)⟩ (Aku o g r St jm) (b s) [.code assign,.beginRound,.code body] (Ah2 (Ac l) params.toList A) [] h .ret):Bc5 P y o g A St b:=by
 intro s h W x X;obtain⟨h1,h2,Z,h4,rfl,rfl,rfl⟩:=G;refine Asa (f:=f) (n:=n) (fr:=Ac l) (U s h W) h1 h2 Z h4 (λp hp=>by have:=AJ.1 O p hp;simpa using this) (λhF t=>Y hF t) S λlo=>?_;refine As8 (hr lo s h W ⟨x,X⟩) λa h' u' hq=>?_;obtain⟨s2,e,D,z⟩:=hq;rw[X]at e;cases e;cases x with
 |inl s'=>obtain⟨rfl,z⟩:=z;exact⟨D,.inl ⟨rfl,rfl,z⟩⟩
 |inr e=>obtain⟨rfl,V,z⟩:=z;exact⟨D,.inr ⟨_,rfl,V,rfl,z⟩⟩
section
variable{lo:Nat×Nat×Nat}{g:Nat}{r:Loop}
def A8v {s:σ}(z:Ids h0 ids N)(A:xs.length=N)(D:Nat.blt jL N=true)(G:xs[jL]?=some (some (.blk g (.loop {r with state:=.busy}))))(O:St (.inl s) (hp h0 ids (xs.set jL (some (.blk g (.loop r)))))): WR P f n ⟨false,some lo⟩ (Aku (ix ids jL) g r St jm) (.ok (.inl s)) [] fr [] (hp h0 ids xs) u:=Bet (z.at A G) (by rw[z.set A D];exact O)
def A7b{e:ε}(z:exitTo id k=none)(A:jm e=.exit id)(D:Ids h0 ids N)(G:xs.length=N)(O:Nat.blt jL N=true)(S:xs[jL]?=some (some (.blk g (.loop {r with state:=.busy}))))(U:St (.inr e) (hp h0 ids (xs.set jL (some (.blk g (.loop {r with state:=.done,pending:=some (.exit id)})))))): WR P f n ⟨false,some lo⟩ (Aku (ix ids jL) g r St jm) (.ok (.inr e)) (.code (.exit id)::k) fr [] (hp h0 ids xs) u:=Baj z A (D.at G S) (by rw[D.set G O];exact U)
end
def Ax3{m:R (σ ⊕ ε)}{r2:ε->R γ}{F:γ->R β}(jL:Nat)(jm:ε->Code)(G:Nat->Loop->σ ⊕ ε->Aa->Prop)(W:d.ro=none)(hx:ev (Ac l) x=.func (.func gf) [] cap)(hI:Ids h0 ids N)(hl:xs.length=N)(X:Nat.blt jL N=true)(Y:xs[jL]? = some none)(Z : ∀ (z:Nat) (y:YF) (r:Loop),LpOk f n params assign body r->(∀ {mu:Mu} {w:World} {M:Nat->Prop} {lo:Nat},y.F w mu M lo -> ∀ t,Rv w mu M (Ac l t) (r.tmps.getD t undef)) ->
   (m≠.bad->Bs P gf ([.yld y (ix ids jL) z]++cap) (hp h0 ids (xs.set jL (some (.blk z (.loop r))))) (Am6 (G z r) m))/\
   (∀s h',G z r (.inl s) h'->h' (ix ids jL)=some (.blk z (.loop r)))/\
   (∀e h',G z r (.inr e) h'->h' (ix ids jL)=some (.blk z (.loop {r with state:=.done,pending:=some (jm e)})))/\
   (∀s h',G z r (.inl s) h'->WR P f n d Q ((r1 s).bind F) k (Ac l) (AD.star::ds) (upd h' (ix ids jL) none) u)/\
   (∀e h',G z r (.inr e) h'->WR P f n d Q ((r2 e).bind F) (.code (jm e)::k) (Ac l) (AD.star::ds) (upd h' (ix ids jL) none) u)/\
   (∀v,m=.pan v->∀s h',G z r s h'->WU P f n d Q (.pan v) (.pan v.av false) (Ac l) (AD.star::ds) (upd h' (ix ids jL) none) u)):
  WR P f n d Q ((m.bind (alt r1 r2)).bind F) (.code (.rangeFunc x params assign body)::k) (Ac l) (AD.star::ds) (hp h0 ids xs) u:=by
 rw[R.bind_assoc]
 intro A
 refine Aoz (ix ids jL) W hx (hI.at hl Y) λz y r D aa=>?_
 obtain⟨c1,c2,ab,c3,ac,c4⟩:=Z z y r D aa
 rw[hI.set hl X]
 have U:m≠.bad:=λe=>by rw[e]at A;exact Q.bad A
 refine(c1 U).mono λad h' V=>?_
 cases O:m with
 |bad=>exact absurd O U
 |ok s=>
  rw[O]at V
  obtain⟨⟨v,rfl⟩,S⟩:=V
  rw[O]at A
  cases s with
  |inl s=>
   refine⟨r,c2 s h' S,by rw[D.ready];exact λe=>(by cases e),?_⟩
   rw[D.pend]
   exact c3 s h' S A
  |inr e=>
   refine⟨_,ab e h' S,λhh=>(by cases hh),?_⟩
   exact ac e h' S A
 |pan v=>
  rw[O]at V
  obtain⟨rfl,s,S⟩:=V
  refine c4 v O s h' S ?_
  rw[O]at A;exact A
end
end Go.Am
namespace Go.Am
variable{α:Type}{β:Type}{γ:Type}{δ:Type}{ε:Type}
@[reducible] def un9{ζ η θ ι ω:Type}(f:α->β->γ->δ->ε->ζ->η->θ->ι->ω):α×β×γ×δ×ε×ζ×η×θ×ι->ω|(x0,x1,x2,x3,x4,x5,x6,x7,x8)=>f x0 x1 x2 x3 x4 x5 x6 x7 x8
@[simp] theorem Boc{ζ η θ ι ω:Type}(f:α->β->γ->δ->ε->ζ->η->θ->ι->ω)(z:α)(A:β)(D:γ)(G:δ)(O:ε)(S:ζ)(U:η)(V:θ)(W:ι):un9 f (z,A,D,G,O,S,U,V,W)=f z A D G O S U V W:=rfl
open Go Go.ChangeShapes Go.WideShapes Go.RowKit
abbrev mu0:Mu:=λ_ _=>none
abbrev M0:Nat->Prop:=λ_=>False
def LR (w:World)(l:List AV)(cs:List Value):Prop:=l.length=cs.length/\∀i,i<l.length->Rv w mu0 M0 (l.getD i .und) (cs.getD i undef)
structure Bulk {H:Type}(bk:DataW H->Nat)(bks:List (DataW H)->Nat):Prop where
 one:∀d,1<=bk d
 str:∀l,bk (.lit (.string l))=l.length+1
 sl:∀e s,bks e+1<=bk (.slice e s)
 agg:∀l,bk (.agg l)=bks l+1
 nil:bks []=0
 cons:∀d l,bks (d::l)=bk d+bks l
structure Ty (τ:Type) where
 e:τ->List AV
 good:τ->Prop
 bulk:τ->Nat
variable{P:Program}{τ:Type}{w:World}{H:Type}{bk:DataW H→Nat}{bks:List (DataW H)→Nat}{st:Nat}{off:Nat}{tot:Nat}{σ:Type}
section
variable[GW P]
def Bfl(P:Program)[GW P](t:TypeId)(T:Ty τ):Prop:=∀{H:Type} (enc:TypeId×Value->H) (w:World) (sp:Nat->Bool) (z:Bool) (fuel:Nat) (cs:List Value) (x:DataW H×List MemPlace) (bk:DataW H->Nat) (bks:List (DataW H)->Nat),Bulk bk bks->DataW.trod enc P w 0 sp z fuel t cs=some x->bk x.1<=Bj->∃a:τ,LR w (T.e a) cs/\T.good a/\T.bulk a<=bk x.1
def LR.nil:LR w [] []:=⟨rfl,λ_ h=>absurd h (DN _)⟩
def LR.one{a:AV}{c:Value}(h:Rv w mu0 M0 a c):LR w [a] [c]:=⟨rfl,λi hi=>by
 have:i=0:=by simpa using hi
 subst this;exact h⟩
def LR.cons {w:World}{a:AV}{c:Value}{l:List AV}{cs:List Value}(h:Rv w mu0 M0 a c)(k:LR w l cs):LR w (a::l) (c::cs):=⟨by simp[k.1],λi hi=>by
 cases i with
 |zero=>exact h
 |succ i=>simpa using k.2 i (by simpa using hi)⟩
def LR.append:∀{l:List AV} {cs:List Value} {l':List AV} {z:List Value},LR w l cs->LR w l' z->LR w (l++l') (cs++z)
 |[],[],_,_,_,h=>h
 |[],_::_,_,_,h,_=>by simp[LR]at h
 |_::_,[],_,_,h,_=>by simp[LR]at h
 |a::l,c::cs,l',z,h,h'=>by refine LR.cons (by simpa using h.2 0 (by simp)) (LR.append (l:=l) (cs:=cs) ⟨by simpa using h.1,λi hi=>by simpa using h.2 (i+1) (by simpa using hi)⟩ h')
def Cj (k:IntKind):Ty Int:=⟨λn=>[.int k n],λn=>(Lit.int k n).wf=true,λ_=>1⟩
def A1i:Ty (List UInt8):=⟨λs=>[.str s],λ_=>True,λs=>s.length+1⟩
def Ej(st:Nat)(T:Ty τ):Ty (List τ):=⟨λl=>[.sl st (l.map T.e)],λl=>∀a∈l,T.good a,λl=>(l.map T.bulk).sum+1⟩
def Apm:Ty Unit:=⟨λ_=>[],λ_=>True,λ_=>0⟩
def Du(A:Ty α)(B:Ty β):Ty (α×β):=⟨λp=>A.e p.1++B.e p.2,λp=>A.good p.1/\B.good p.2,λp=>A.bulk p.1+B.bulk p.2⟩
def B57 {t:TypeId}{k:IntKind}(ht:P.underlying t=some (.int k)):Bfl P t (Cj k):=by intro H enc w sp z fuel cs x bk bks B h A;obtain⟨n,rfl,rfl,hw⟩:=DataW.trod_int ht h;exact⟨n,LR.one (.int k n),hw,B.one _⟩
def Ba5 {t:TypeId}(ht:P.underlying t=some .string):Bfl P t A1i:=by
 intro H enc w sp z fuel cs x bk bks B h A;obtain⟨s,rfl,rfl,D⟩:=DataW.trod_string ht h;refine⟨s.data.toList,LR.one ?_,trivial,by rw[B.str];exact AF _⟩;have:s=⟨s.data.toList.toArray⟩:=by cases s;simp
 exact this▸Rv.str s.data.toList
def B2o{Q:Nat->α->Prop}:∀(n:Nat),(∀i,i<n->∃a,Q i a)->∃l:List α,l.length=n/\∀i a,l[i]?=some a->Q i a
 |0,_=>⟨[],rfl,λi a h=>by simp at h⟩
 |n+1,h=>by
  obtain⟨l,A,G⟩:=B2o n λi hi=>h i (Nat.lt_succ_of_lt hi);obtain⟨a,O⟩:=h n (Nat.lt_succ_self n);refine⟨l++[a],by simp[A],λi b z=>?_⟩;by_cases hi:i<n
  .rw[CT (by omega)]at z;exact G i b z
  .have D:=(BZ.1 z).1;have:i=n:=by simp[A]at D;omega
   subst this;rw[CO (by omega),A]at z;simp at z;subst z;exact O
def B30(B:Bulk bk bks){d:DataW H}:∀{l:List (DataW H)},d∈l->bk d<=bks l
 |[],h=>by simp at h
 |x::l,h=>by
  rw[B.cons];rcases AN.1 h with rfl|h
  .omega
  .have:=B30 B h;omega
def B3y(B:Bulk bk bks):∀(l:List (DataW H)),l.length<=bks l
 |[]=>by simp
 |x::l=>by rw[B.cons];have h1:=B.one x;have h2:=B3y B l;simp;omega
def B3u(B:Bulk bk bks){f:τ->Nat}:∀(l:List τ) (ds:List (DataW H)),l.length=ds.length->(∀(i:Nat) a d,l[i]?=some a->ds[i]?=some d->f a<=bk d)->(l.map f).sum<=bks ds
 |[],[],_,_=>by simp
 |[],_::_,h,_=>by simp at h
 |_::_,[],h,_=>by simp at h
 |a::l,d::ds,h,z=>by rw[B.cons];have h1:=z 0 a d (by simp) (by simp);have h2:=B3u B l ds (by simpa using h) λi a' A D G=>z (i+1) a' A (by simpa using D) (by simpa using G);simp only[BM,List.sum_cons];omega
def Pz{t e:TypeId}{T:Ty τ}(ht:P.underlying t=some (.slice e))(ac:P.cellsOf e=st)(V:0<st)(ad:∀a,Cy st (T.e a))(h:Bfl P e T):Bfl P t (Ej st T):=by
 intro H enc w sp X fuel cs x bk bks B hx hl;rcases DataW.trod_slice ht hx with⟨rfl,rfl⟩|⟨a,len,cap,z,rest,n,_,rfl,rfl,_,Y,_,Z,aa,_⟩
 .exact⟨[],LR.one (.sl0 st none 0),λ_ h=>absurd h (BW),by simpa[Ej]using B.one _⟩
 .rw[ac]at aa;have hb:=B.sl (z.map (·.1)) (rest.map (·.1));have W:len<=Bj:=by have:=B3y B (z.map (·.1));simp only[AL]at this;simp only at hl;omega
  have key:∀i,i<len->∃a1:τ,∃A y,w.cells? 0 (a.add (i*st)) st=some A/\z[i]?=some y/\LR w (T.e a1) A/\T.good a1/\T.bulk a1<=bk y.1:=by
   intro i hi;have hE:=aa i hi;have hi':i<z.length:=by omega
   rw[AA hi',Option.bind_eq_some_iff]at hE;obtain⟨A,D,ae⟩:=hE;have aj:bk (z[i]).1<=bks (z.map (·.1)):=B30 B (CC.2 ⟨_,BK hi',rfl⟩);obtain⟨a1,h1,h2,h3⟩:=h enc w sp X n A _ bk bks B ae (by simp only at hl;omega);exact⟨a1,A,_,D,AA hi',h1,h2,h3⟩
  obtain⟨l,O,hq⟩:=B2o len key;refine⟨l,LR.one ?_,λa1 hm=>?_,?_⟩
  .by_cases h0:len=0
   .subst h0;have:l=[]:=CQ.1 O;subst this;exact .sl0 st (some a) cap
   .have U:a.spot=none:=by
     obtain⟨a1,A,y,D,_⟩:=key 0 (by omega)
     obtain⟨_,af,hc⟩:=World.cells?_some D
     have G:=hc 0 V
     simp only[Nat.zero_mul,Addr.add,if_true]at G
     rw[AA (by omega)]at G
     unfold World.cell? at G
     split at G
     .split at G
      .cases G
      .rename_i hh;simpa using hh
     .cases G
    have ag:a.block<w.heap.size:=by obtain⟨a1,A,y,D,_⟩:=key 0 (by omega);have:=World.cells?_block D V;simpa[Addr.add]using this
    have ab:∀i j,(a.add (i*st)).add j=⟨a.block,a.off+i*st+j,none⟩:=by intro i j;obtain⟨b,off,s⟩:=a;simp only at U;subst U;unfold Addr.add;split<;>split<;>simp_all
    have S:∀i j,i<l.length->j<st->∃a1 v,l[i]?=some a1/\w.cell? ⟨a.block,a.off+i*st+j,none⟩=some v/\Rv w mu0 M0 ((T.e a1).getD j .und) v:=by intro i j hi hj;obtain⟨A,y,D,_,h1,_,_⟩:=hq i _ (AA hi);obtain⟨_,af,hc⟩:=World.cells?_some D;have:=hc j hj;rw[ab,AA (by omega)]at this;refine⟨_,_,AA hi,this,?_⟩;have hr:=h1.2 j (by rw[h1.1];omega);rwa[CE,CE,AA (l:=A) (by omega),BH,<-CE]at hr
    have:=Rv.sl (w:=w) (mu:=mu0) (M:=M0) st (l.map T.e) a.block a.off cap (λi j=>(w.cell? ⟨a.block,a.off+i*st+j,none⟩).getD undef) (by simpa[O]using Y) (by simpa[O]using W)
     (λi j hi hj=>by obtain⟨_,v,_,hv,_⟩:=S i j (by simpa using hi) hj;rw[hv];rfl)
     (λi j hi hj=>by obtain⟨a1,v,ah,hv,hr⟩:=S i j (by simpa using hi) hj;rw[hv];simp only[cell,CE,CJ,ah,AQ,BH]at hr ⊢;exact hr)
     (λr hr=>by obtain⟨a1,_,rfl⟩:=CC.1 hr;exact ad a1) (λh=>h) ag
    rw[show(l.map T.e).length=len by simp[O]]at this
    have e:a=⟨a.block,a.off,none⟩:=by cases a;simp only at U;subst U;rfl
    rw[e]
    exact this
  .obtain⟨i,hi,rfl⟩:=DK.1 hm;obtain⟨_,_,_,_,_,hg,_⟩:=hq i _ (AA hi);exact hg
  .have:=B3u B (f:=T.bulk) l (z.map (·.1)) (by simp[O,Z]) λi a1 d ha hd=>by
    obtain⟨A,y,_,hy,_,_,ai⟩:=hq i a1 ha
    rw[CJ,hy]at hd
    simp only[AQ,AX]at hd
    subst hd
    exact ai
   show(l.map T.bulk).sum+1<=_
   simp only
   omega
def B18(P:Program)[GW P](off:Nat)(fs:List Field)(T:Ty τ)(tot:Nat):Prop:=∀{H:Type} (enc:TypeId×Value->H) (w:World) (sp:Nat->Bool) (z:Bool) (n:Nat) (cs:List Value) (xs:List (DataW H×List MemPlace)) (bk:DataW H->Nat) (bks:List (DataW H)->Nat),Bulk bk bks->xs.length=fs.length->(∀(i:Nat) (f:Field),fs[i]?=some f->DataW.trod enc P w 0 sp z n f.type ((cs.drop f.offset).take (P.cellsOf f.type))=xs[i]?)->cs.length=tot->bks (xs.map (·.1))<=Bj->∃a:τ,LR w (T.e a) (cs.drop off)/\T.good a/\T.bulk a<=bks (xs.map (·.1))
def Aiy(h:off=tot):B18 P off [] Apm tot:=by intro H enc w sp z n cs xs bk bks B A D G O;subst h;refine⟨(),?_,trivial,DA _⟩;rw[List.drop_of_length_le (by omega)];exact LR.nil
def Bt{c:Nat}{f:Field}{fs:List Field}{T:Ty τ}{S:Ty σ}{t:TypeId}(hf:f.offset=off)(ht:f.type=t)(U:P.cellsOf t=c)(A:Nat.ble (off+c) tot=true)(h:Bfl P t T)(k:B18 P (off+c) fs S tot):
  B18 P off (f::fs) (Du T S) tot:=by
 intro H enc w sp z n cs xs bk bks B G O D V
 subst ht
 cases xs with
 |nil=>simp at G
 |cons x xs=>
  have A:off+c<=tot:=by simpa using A
  have h0:=O 0 f rfl;rw[hf,U]at h0;simp only[BM,B.cons]at V;obtain⟨a,h1,h2,X⟩:=h enc w sp z n _ x bk bks B h0 (by omega);obtain⟨b,k1,k2,Y⟩:=k enc w sp z n cs xs bk bks B (by simpa using G) (λi g W=>by simpa using O (i+1) g (by simpa using W)) D (by omega);refine⟨(a,b),?_,⟨h2,k2⟩,by simp only[BM,B.cons,Du];omega⟩;have e:cs.drop off=(cs.drop off).take c++cs.drop (off+c):=by rw[<-GE,DH]
  rw[e];exact LR.append h1 k1
def Uc{t:TypeId}{fs:Array Field}{T:Ty τ}{S:Ty σ}(ht:P.underlying t=some (.struct fs))(V:P.cellsOf t=tot)(k:B18 P 0 fs.toList T tot)(mk:τ->σ)(A:∀p,S.e (mk p)=T.e p)(D:∀p,T.good p->S.good (mk p))(G:∀p,S.bulk (mk p)<=T.bulk p+1):Bfl P t S:=by
 intro H enc w sp z fuel cs x bk bks B h O;obtain⟨xs,n,rfl,rfl,h1,h2,U⟩:=DataW.trod_struct ht h;simp only[B.agg]at O;obtain⟨a,k1,k2,W⟩:=k enc w sp z n cs xs bk bks B (by simpa using h2) (λi f hf=>U i f (by simpa using hf)) (by omega) (by omega);refine⟨mk a,?_,D _ k2,?_⟩
 .rw[A];simpa using k1
 .have:=G a;simp only[B.agg];omega
end
variable{mu':Mu}
def Bnr{w':World}{M':Nat->Prop}(h:Ext w mu0 M0 w' mu' M'):w.keptBut w' (λ_=>False)/\(∀b,b<w.heap.size->w'.heap[b]?=w.heap[b]?):=by
 refine⟨⟨h.os,h.output,λi hi=>?_⟩,λb z=>(h.same b z (λh=>h)).1⟩;rw[(h.same i hi (λh=>h)).1];cases w.heap[i]? with
 |none=>trivial
 |some o=>cases o<;>simp
def Bnt[GW P](w:World)(z:GW.n P<=w.heap.size/\GW.G P w.heap.size w):Sim (P:=P) ⟨w.heap.size,w.heap.size⟩ mu0 (λ_=>none) w:=⟨AF _,λ_ _ _ h=>(by cases h),⟨0,λ_ _ _=>rfl⟩,⟨0,λ_ _=>rfl⟩,λ_ _ _ _ h=>(by cases h),λ_ _ _ h=>(by cases h),λ_ _ _ _ _ _ h=>(by cases h),z,λ_ _ _ h=>(by cases h)⟩
variable{f:FuncId}
def Bbq[GW P]{A:List AV}{m:R Bool}{args:Array Value}(U:CP P f A m (λb=>AV.bool b))(V:GW.n P<=w.heap.size/\GW.G P w.heap.size w)(z:m=.ok true)(S:LR w A args.toList):
  Calls P f args w λe w'=>e=.returned (.bool true)/\w.keptBut w' (λ_=>False)/\(∀b,b<w.heap.size->w'.heap[b]?=w.heap[b]?):=by
 subst z
 have h:=(U (λ_=>none) (by simp)).2 ⟨w.heap.size,w.heap.size⟩ mu0 w args (Bnt w V) ⟨S.1,λi hi=>(S.2 i hi).less (λb D=>by obtain⟨_,_,_,h,_⟩:=D;cases h)⟩
 refine h.mono λe w' ⟨r,h',mu',a1,a2,a3,G⟩=>?_
 obtain⟨_,hr⟩:=a1
 simp only at hr
 subst hr
 refine⟨?_,Bnr (mu':=mu') (M':=C0 h' mu') ⟨a3.os,a3.tape,a3.output,a3.size,λb D _=>a3.same b D (λz=>by obtain⟨_,_,_,h,_⟩:=z;cases h),a3.mu⟩⟩
 cases e with
 |returned v=>have O:Rv w' mu' (C0 h' mu') (.bool true) v:=G;cases O;rfl
 |panicked v=>exact G.elim
 |outgrown=>exact G.elim
def B17{l:List AV}{c:Array Value}(h:LR w l (Value.agg c).cells.toList):Rv w mu0 M0 (.agg l) (.agg c):=by have h':LR w l c.toList:=h;have:=Rv.agg (w:=w) (mu:=mu0) (M:=M0) l c.toList h'.1 h'.2;simpa using this
variable{enc:TypeId×Value→H}{W:World}
def Axh[GW P](D:laidOutB P=true){G:World}{A:Nat->Bool}:∀{ts:List TypeId} {vs:List Value} {ds:List (DataW H)} {ps:List MemPlace},
  (∀t∈ts,P.readableRec t=true/\t<P.types.size)->DataW.TrodAll enc P W 0 (λ_=>true) true ts vs ds ps->(∀p∈ps,W.sameAt G p)->(∀p∈ps,A p.block=true)->DataW.TrodAll enc P G 0 A true ts vs ds ps
 |[],[],[],_,_,h,_,_=>h
 |[],_::_,_,_,_,h,_,_=>h.elim
 |[],[],_::_,_,_,h,_,_=>h.elim
 |_::_,[],_,_,_,h,_,_=>h.elim
 |_::_,_::_,[],_,_,h,_,_=>h.elim
 |t::ts,v::vs,d::ds,ps,hr,h,O,hp=>by obtain⟨p,q,h1,h2,rfl⟩:=h;refine⟨p,q,?_,Axh D (λt ht=>hr t (BC _ ht)) h2 (λx z=>O x (List.mem_append_right _ z)) (λx z=>hp x (List.mem_append_right _ z)),rfl⟩;obtain⟨a,b⟩:=hr t (BE ..);exact Go.WideElems.Trod_stays D a b h1 (λx z=>O x (List.mem_append_left _ z)) (λx z=>hp x (List.mem_append_left _ z))
variable{fn:Func}
def Bcs[GW P]{s:ChangeSpec}{args:Array Value}{ds gs:List (DataW H)}{z:List MemPlace}{tb:TypeId}(Y:DataW.Whole enc P fn.params.toList s.vars false W args.toList ds gs z)(hl:laidOutB P=true)(hr:∀t∈fn.params.toList,P.readableRec t=true/\t<P.types.size)(Z:s.vars=[])(aa:fn.resultTypes=#[tb])(ab:P.underlying tb=some .bool)(ae:∀ds:List (DataW H),ds.length=fn.params.size->s.fn H ds={results:=[.lit (.bool true)],args:=ds})(hc:Calls P f args W λe w'=>e=.returned (.bool true)/\W.keptBut w' (λ_=>False)/\(∀b,b<W.heap.size->w'.heap[b]?=W.heap[b]?)):
  Calls P f args W λe X=>∃v,e=.returned v/\s.post enc P fn false true false false W args v X:=by
 refine hc.mono λe X ⟨he,hk,hs⟩=>?_
 subst he
 refine⟨_,rfl,?_⟩
 have G:∀p∈z,(λb=>decide (b<W.heap.size)) p.block=true:=λp hp=>by simpa using Y.lt p hp
 obtain⟨O,pv,hA,hV,rfl,hz,hn⟩:=id Y
 rw[Z]at hV
 cases gs with
 |cons g gs=>exact hV.elim
 |nil=>
 have af:pv=[]:=hV
 subst af
 have ac:ds.length=fn.params.size:=by
  have:∀{ts:List TypeId} {vs:List Value} {ds:List (DataW H)} {ps:List MemPlace},DataW.TrodAll enc P W 0 (λ_=>true) true ts vs ds ps->ds.length=ts.length:=by
   intro ts;induction ts with
   |nil=>intro vs ds ps h;cases vs<;>cases ds<;>first|rfl|exact h.elim
   |cons t ts ih=>
    intro vs ds ps h;cases vs with
    |nil=>exact h.elim
    |cons v vs=>
     cases ds with
     |nil=>exact h.elim
     |cons d ds=>obtain⟨_,_,_,h2,_⟩:=h;simp[ih h2]
  simpa using this hA
 have U:s.fn H (ds++[])={results:=[.lit (.bool true)],args:=ds}:=by rw[GB];exact ae ds ac
 have V:∀p∈O++[],W.sameAt X p:=λp hp=>by
  have hb:=hs p.block (Y.lt p hp);cases p with
  |cell b off=>exact cell?_of_heap (a:=⟨b,off,none⟩) hb
  |map b=>exact hb
 have S:∀(b:Nat) (sp:Nat->Bool) (hd:Bool),DataW.TrodAll enc P X b sp hd fn.resultTypes.toList ((Value.bool true).resultList fn.resultTypes.size) (s.fn H (ds++[])).results []:=by intro b sp hd;rw[U,aa];exact trodAll_cons_mk (shut_bool ab _) trodAll_mk0
 have A:∀sp:Nat->Bool,(∀p∈O++[],sp p.block=true)->DataW.TrodAll enc P X 0 sp true fn.params.toList args.toList (s.fn H (ds++[])).args O:=by intro sp ad;rw[U];exact Axh hl hr hA (λp hp=>V p (by simpa using hp)) (λp hp=>ad p (by simpa using hp))
 have D:∀sp:Nat->Bool,(∀p∈O++[],sp p.block=true)->DataW.TrodVars enc P X sp s.vars (s.fn H (ds++[])).vars []:=by intro sp _;rw[U,Z];rfl
 refine⟨ds,[],O++[],[],O,[],Y,S _ _ _,A _ G,D _ G,World.keptBut_mono (λp hp=>hp.elim) hk,λ_=>?_⟩
 refine⟨ok_one aa rfl (okWide_bool_mk ab _),_,_,([]++O)++[],⟨[]++O,[],trodAll_append (A _ (λ_ _=>rfl)) (S _ _ _),D _ (λ_ _=>rfl),rfl,?_,?_⟩,?_⟩
 .intro b off hp;have hb:=hs b (Y.lt (.cell b off) (by simpa using hp));have:=hz b off (by simpa using hp);unfold World.frozen? at this ⊢;rw[hb];exact this
 .intro ha;cases ha
 .intro p hp _;simpa using hp
end Go.Am
namespace Go.Am
open Go
variable{P:Program}{W:World}{name:String}{n:Nat}
def Ave{k:IntKind}{zs:List Int}{g:Nat}{t e:TypeId}(U:P.globalNamed name=some g)(A:(P.globals[g]?).map (·.type)=some t)(ht:P.underlying t=some (.array n e))(V:P.underlying e=some (.int k))(D:P.cellsOf e=1)(G:P.cellsOf t=n)(h:Lib.VarReads P W name (Lib.tabData k zs)):Lib.TabIs P W name k zs:=by obtain⟨g',Y,cs,fuel,p,O,S,z,X⟩:=h;obtain rfl:=AS (U.symm.trans O);obtain rfl:=AS (A.symm.trans S);unfold Lib.TabIs;rw[z,<-Lib.cells_of_tab ht V D G X]
def Aw9{u:String}{d:DataW Unit}{g:Nat}{t:TypeId}{U:Array _}(V:P.globalNamed name=some g)(D:(P.globals[g]?).map (·.type)=some t)(ht:P.underlying t=some (.interface U))(h:Lib.VarReads P W name (.iface u d)):∃G p,W.var? P name=some #[.iface G p]:=by
 obtain⟨g',X,cs,fuel,p,O,S,z,A⟩:=h;obtain rfl:=AS (V.symm.trans O);obtain rfl:=AS (D.symm.trans S);cases fuel with
 |zero=>simp[DataW.trod]at A
 |succ fuel=>
  obtain⟨cs⟩:=cs;cases cs with
  |nil=>simp[DataW.trod,ht]at A
  |cons v rest=>
   cases rest with
   |cons a b=>simp[DataW.trod,ht]at A
   |nil=>
    cases v with
    |iface G q=>exact⟨G,q,z⟩
    |_=>simp[DataW.trod,ht]at A
def Blh{g:Nat}{d:DataW Unit}(D:P.globalNamed name=some g)(h:Lib.VarReads P W name d):g<W.heap.size:=by
 obtain⟨g',O,cs,fuel,p,A,G,z,S⟩:=h;obtain rfl:=AS (D.symm.trans A);unfold World.var? at z;rw[D]at z;rcases CI g W.heap.size with h|h
 .exact h
 .simp[CU h]at z
variable{H:Type}{enc:TypeId×Value→H}{f:FuncId}{fn:Func}
def Ap2{C:Checked}{os:Os}{s:OpenSpec}{z:List PathCond}{A:Bool}{D:List (String×DataW Unit)}(modest:Bool)(G:World)(args:Array Value)(U:G.os=os)(V:(G.forCall (λ_ _=>0) ⟨#[],args,[]⟩).Shaped C.prog)(O:Input.okWideB C.prog (G.forCall (λ_ _=>0) ⟨#[],args,[]⟩) f ⟨#[],args,[]⟩=true)(S:s.preRow enc C.prog fn z A D (G.forCall (λ_ _=>0) ⟨#[],args,[]⟩).memory args): ∃(w:World) (tape:Tape) (i:Input),w.os=os/\(w.forCall tape i).Shaped C.prog/\i.vars=[]/\Input.okWide C.prog (w.forCall tape i) .any w.heap.size f i/\s.preRow enc C.prog fn z A D (w.forCall tape i).memory i.args/\({modest:=modest}:Assume).holds C.prog (lone (Frame.enter C.prog f i.args .normal) [] (w.forCall tape i)):=⟨G,λ_ _=>0,⟨#[],args,[]⟩,U,V,(Input.okWide_of_okWideB (base:=0) O).1,(Input.okWide_of_okWideB O).2,S,by simp only[Assume.holds];exact⟨by simp,by simp,λ_=>Modest.zero,by simp,by simp⟩⟩
variable{h:Aa}{T:TI}{b:Nat}{v:AV}{kt:TypeId}{et:TypeId}{a:Nat}{z:List AV}{ET:TI}{es:List (Al×AV)}
section
variable[GW P]
def Bfs{t:TypeId}{c:Nat}{row:List AV}(hr:GW.row P b=some row)(z:ti P t=some T)(A:Gm row c T.size T.k.agg=some v):O6 P h t (.gptr ⟨b,c,none⟩)=some v:=by simp only[O6,z,hr,A]
def Vj{t:TypeId}{K:TI}{s c:Al}{q:Al×AV}(A:ti P t=some ⟨.map kt et,a,b,z⟩)(D:ti P kt=some K)(hk:K.k=.str)(hE:ti P et=some ET)(G:(s==c)=true)(hf:es.find? (λp=>c==p.1)=some q):
  Sq P h t (.mapc es) (.str s) true=some (.tup [q.2,.bool true]):=by
 obtain rfl:=eq_of_beq G
 obtain⟨r,h1,h2⟩:=Aj1 (k:=s) es 0
 rw[hf]at h2
 obtain⟨j,v,rfl⟩:∃j v,r=some (j,v):=by cases r with|none=>simp at h2|some q=>exact⟨q.1,q.2,rfl⟩
 obtain rfl:v=q.2:=by simpa using h2
 simp only[Sq,A,D,hE,Afp,hk,Aic,if_true,h1]
def Bey{t:TypeId}{K:TI}{s:Al}(A:ti P t=some ⟨.map kt et,a,b,z⟩)(D:ti P kt=some K)(hk:K.k=.str)(hE:ti P et=some ET)(hz:Gm ET.z 0 ET.size ET.k.agg=some v)(hf:es.find? (λp=>s==p.1)=none):
  Sq P h t (.mapc es) (.str s) true=some (.tup [v,.bool false]):=by
 obtain⟨r,h1,h2⟩:=Aj1 (k:=s) es 0
 rw[hf]at h2
 obtain rfl:r=none:=by simpa using h2
 simp only[Sq,A,D,hE,Afp,hk,Aic,if_true,h1,hz]
def Ac1{s c:Al}(h:(s==c)=false)(r:es.find? (λp=>s==p.1)=none):((c,v)::es).find? (λp=>s==p.1)=none:=by rw[FP];simp only[h];exact r
end
variable{γ:Type}{u:AU}{h0:Aa}{c:Code}{args:List AV}{os0:List Nat}{xs:List (Option AO)}
section
variable[GW P]{m:R γ}{u':AU}
def Bag{K:Nat}{ysf:γ→List (Option AO)}(N:Nat)(hf:P.funcs[f]?=some fn)(hb:fn.body=some c)(hn:fn.name≠"runtime.NumGoroutine")(hnt:fn.ntmps=n)(hl:Nat.ble args.length n=true)(hI0:Ids h0 os0 K)(hx:xs.length=K)(hy:∀a,(ysf a).length=K)(hr:∀ids,(∀j,Nat.blt j K=true→ix ids j=ix os0 j)→Ids h0 ids (K+N)→WR P f n true (A7h (fun a=>hp h0 ids (ysf a++List.replicate N none)) u') m [.code c] (Ac (Aa5 0 args)) [] (hp h0 ids (xs++List.replicate N none)) u):
  (∃a,m=.ok a)→I1 P f args u (hp h0 os0 xs) (Ys (fun a=>hp h0 os0 (ysf a)) u' m):=by
 intro hm
 refine Asb hf hb hn hnt (by simpa using hl) ?_
 refine Aee N os0 fun os h1 h2 h3 h4=>?_
 have hout:∀o∈os,o∉os0:=fun o ho=>h4 o ho
 have hI:Ids h0 (os0++os) (K+N):=by
  refine⟨List.nodup_append.2 ⟨hI0.nodup,h2,fun a ha b hb hq=>hout b hb (hq▸ha)⟩,fun o ho=>?_,by simp[hI0.len,h1]⟩;rcases List.mem_append.1 ho with ho|ho
  ·exact hI0.fresh o ho
  ·have:=h3 o ho;rwa[Aaa (hout o ho)]at this
 have e:∀zs:List (Option AO),zs.length=K→hp h0 (os0++os) (zs++List.replicate N none)=hp h0 os0 zs:=fun zs hz=>by rw[Ak0 (by rw[hI0.len,hz]),Rw fun o ho=>hI.fresh o (List.mem_append_right _ ho)]
 have:=hr (os0++os) (fun j hj=>by
  have hj':j<os0.length:=by rw[hI0.len];simpa using hj
  simp[ix,List.getD,List.getElem?_append_left hj']) hI hm
 rw[e xs hx]at this
 refine R2 (fun t=>?_) (As8 this ?_)
 ·rcases T0 args 0 t with h|⟨_,h⟩
  ·exact .inl h
  ·exact .inr h
 ·rintro r h' u1 ⟨a,h1,h2,h3,h4⟩;exact⟨a,h1,h2,h3.trans (e _ (hy a)),h4⟩
end
def K4 (l:List (Al×Al×FuncId)):List (Al×AV):=l.map λx=>(x.1,.func (.func x.2.2) [] [])
def Am7 (l:List (Al×Al×FuncId)):DataW (List UInt8):=.map (l.map λx=>(.string x.1,.held x.2.1))
def Bk8 (P:Program)(l:List (Al×Al×FuncId)):Bool:=l.all λx=>!x.2.1.isEmpty&&((List.range P.funcs.size).filter λf=>(P.funcs[f]?).any (·.name.toUTF8.data.toList==x.2.1))==[x.2.2]
structure FMapAt (w:World)(m g:Nat)(es:List (Al×AV)):Prop where
 ex:∃(b:Nat) (ens:Array MapEntry) (clock:Nat) (es2:List (Al×AV)),w.cell? ⟨g,0,none⟩=some (.map (some b))/\b<m/\w.heap[b]?=some (.map ens clock)/\es2.Perm es/\es2.length=ens.size/\
  ∀i,i<es2.length->(ens.getD i default).key=.string ⟨(es2.getD i ([],.und)).1.toArray⟩/\∃k,(es2.getD i ([],.und)).2=.func (.func k) [] []/\(ens.getD i default).val=.func (.func k) #[] #[]
 nd:(es.map (·.1)).Nodup
variable{w:World}
def FMapAt.keep{w':World}{m g:Nat}(k:FMapAt w m g es)(G:g<m)(e:∀b,b<m->w'.heap[b]?=w.heap[b]?):FMapAt w' m g es:=by obtain⟨⟨b,ens,z,A,h1,h2,O,S,U,V⟩,D⟩:=k;exact⟨⟨b,ens,z,A,by rw[cell?_of_heap (w:=w) (a:=⟨g,0,none⟩) (e g G)];exact h1,h2,by rw[e b h2];exact O,S,U,V⟩,D⟩
variable{mu:Mu}
def FMapAt.rv{m g:Nat}(k:FMapAt w m g es)(Z:m<=w.heap.size){M:Nat->Prop}(O:∀b,M b->m<=b):∃x,w.cell? ⟨g,0,none⟩=some x/\Rv w mu M (.mapc es) x:=by obtain⟨⟨b,ens,z,A,h1,h2,S,U,V,G⟩,D⟩:=k;refine⟨_,h1,.mapc es A U D b ens z S V (λi hi=>(G i hi).1) (λi hi=>?_) (λW=>by have:=O b W;omega) (by omega)⟩;obtain⟨_,k,X,Y⟩:=G i hi;rw[X,Y];exact .func _ [] [] [] [] rfl rfl (λi hi=>by simp at hi) (λi hi=>by simp at hi)
open Go.ChangeShapes Go.WideShapes Go.WideElems
variable{ps:Array TypeId}{va:Bool}
def A9s{e:TypeId}{rs:Array TypeId}{v c:Value}(z:P.underlying e=some (.func ps rs va))(hf:v.formed P e=true)(A:v.cells.toList=[c]):v=c:=by
 cases v with
 |agg a=>simp[Value.formed,z]at hf
 |_=>simpa[Value.cells]using A
def Bh1{d:DataW Unit}{l:List (Al×Al×FuncId)}{g:Nat}{t k e:TypeId}{rs:Array TypeId}(h:funcsAt P W name d)(hd:d.funcsOut=Am7 l)(hg:P.globalNamed name=some g)(ae:(P.globals[g]?).map (·.type)=some t)(ht:P.underlying t=some (.map k e))(hk:P.underlying k=some .string)(he:P.underlying e=some (.func ps rs va))(X:Bk8 P l=true)(af:((K4 l).map (·.1)).Nodup):FMapAt W W.heap.size g (K4 l):=by
 obtain⟨g',t',cs,fuel,p,ag,ah,aa,hr⟩:=h;obtain rfl:=AS (hg.symm.trans ag);obtain rfl:=AS (ae.symm.trans ah);rw[hd]at hr;rcases open_map ht hr with⟨_,hx⟩|⟨b,ens,Y,n,rfl,ai,hb,_,F,hx⟩
 .simp[Am7]at hx
 .refine⟨?_,af⟩;have V:Am7 l=.map ((ens.toList.map (rg P k (elemAt (funcToken P) P W 0 (λ_=>true) true n e))).foldr DataW.insert []):=congrArg Prod.fst hx;have D:(ens.toList.map (rg P k (elemAt (funcToken P) P W 0 (λ_=>true) true n e))).Perm (l.map λx=>(Lit.string x.1,DataW.held x.2.1)):=by have h1:=sorted_perm (ens.toList.map (rg P k (elemAt (funcToken P) P W 0 (λ_=>true) true n e)));unfold Am7 at V;rw[<-DataW.map.inj V]at h1;exact h1.symm
  have ab:∀x∈ens.toList,∃y∈l,x.key=.string ⟨y.1.toArray⟩/\x.val=.func (.func y.2.2) #[] #[]/\rg P k (elemAt (funcToken P) P W 0 (λ_=>true) true n e) x=(Lit.string y.1,DataW.held y.2.1):=by
   intro x hx;have hm:=D.mem_iff.1 (CC.2 ⟨x,hx,rfl⟩);obtain⟨y,S,ac⟩:=CC.1 hm;obtain⟨z,hz⟩:=F.reads x hx;rw[rg_of hz]at ac;subst ac;refine⟨y,S,?_,?_,by rw[rg_of hz]⟩
   .have h1:=rd_key hz;rw[keyOf_string hk]at h1;unfold mapKey at h1;rw[hk]at h1;generalize x.key=kv at h1;cases kv<;>simp at h1;rename_i s;obtain⟨_,h1⟩:=h1;obtain⟨⟨sl⟩⟩:=s;simp at h1;rw[<-h1]
   .obtain⟨v,O,Z⟩:=rd_val hz;have A:=AJ.1 X y S;simp only[AK,CX,CZ]at A;obtain⟨v1,v2⟩:=v;simp only at Z;unfold elemAt at O;split at O
    .cases G:n with
     |zero=>rw[G]at O;simp[DataW.trod]at O
     |succ n'=>
      have U:∃v0,x.val.cells.toList=[v0]:=by
       have:=O;rw[G,DataW.trod_step]at this;unfold DataW.trodStep at this;rw[he]at this;generalize x.val.cells.toList=cl at this;match cl,this with
       |[v0],_=>exact⟨v0,rfl⟩
       |[],h=>simp at h
       |_::_::_,h=>simp at h
      obtain⟨v0,ad⟩:=U;rw[ad]at O;obtain⟨y1,y2,y3⟩:=y;simp only at Z A O;cases y2 with
      |nil=>simp at A
      |cons b0 r0=>rw[<-Z]at O;have hf:=func_of_trod he A.2 O;subst hf;refine A9s he ?_ ad;assumption
    .cases O
  let θ:Lit×DataW (List UInt8)->Al×AV:=λp=>match p with
   |(.string s,.held nm)=>(s,match l.find? (λy=>y.2.1==nm)with
    |some y=>.func (.func y.2.2) [] []
    |none=>.und)
   |_=>([],.und)
  have hθ:∀y∈l,θ (Lit.string y.1,DataW.held y.2.1)=(y.1,.func (.func y.2.2) [] []):=by
   intro y S;show(y.1,_)=_;cases hq:l.find? (λz=>z.2.1==y.2.1)with
   |none=>rw[List.find?_eq_none]at hq;exact absurd (by simp) (hq y S)
   |some z=>
    have aj:=HG hq;have ak:z.2.1=y.2.1:=by simpa using List.find?_some hq
    have k1:=AJ.1 X y S;have k2:=AJ.1 X z aj;simp only[AK,CX]at k1 k2;rw[ak,k1.2]at k2;have:y.2.2=z.2.2:=by simpa using k2.2
    simp only[this]
  refine⟨b,ens,Y,ens.toList.map λx=>θ (rg P k (elemAt (funcToken P) P W 0 (λ_=>true) true n e) x),?_,?_,hb,?_,by simp,λi hi=>?_⟩
  .have:=World.var?_cell hg aa 0;rw[Array.eq_one_of_toList ai]at this;simpa using this
  .rcases CI b W.heap.size with h|h
   .exact h
   .simp[CU h]at hb
  .have:=D.map θ;rw[FT,FT]at this;refine this.trans (List.Perm.of_eq (EJ λy S=>hθ y S))
  .have hi':i<ens.toList.length:=by simpa using hi
   have hm:ens.toList[i]∈ens.toList:=BK hi'
   obtain⟨y,S,e1,e2,e3⟩:=ab _ hm
   have g1:ens.getD i default=ens.toList[i]:=by rw[<-Aal,Do (AA hi')]
   have g2:(ens.toList.map λx=>θ (rg P k (elemAt (funcToken P) P W 0 (λ_=>true) true n e) x)).getD i ([],.und)=(y.1,.func (.func y.2.2) [] []):=by rw[Do (x:=θ (rg P k (elemAt (funcToken P) P W 0 (λ_=>true) true n e) ens.toList[i])) (by rw[CJ,AA hi',AQ]),e3,hθ y S]
   rw[g1,g2]
   exact⟨e1,_,rfl,e2⟩
end Go.Am
namespace Go.Am
open Go
abbrev AV.q (ids:List Nat)(j g:Nat):AV:=.ptr (ix ids j) g 0 0
abbrev AV.I (n:Int):AV:=.int .i64 n
abbrev Sc.I (n:Int):Sc:=.int .i64 n
section
variable(P:Program)[GW P]
def A37:Op->Bool
 |.move _=>true
 |.assign _=>true
 |.pick _ _ _=>true
 |.build _ _=>true
 |.nilCheck _=>true
 |.binOp _ _ _ _ _=>true
 |.unOp _ _ _=>true
 |.makeInterface _ _=>true
 |.makeFunc _ _ _=>true
 |.fieldAddr _ _ _=>true
 |.field _ _ _=>true
 |.typeAssert _ _ _ _=>true
 |.extract _ _=>true
 |_=>false
def A02 (xs:List (Option AO))(fr:Nat->AV)(j:Nat)(op:Op):Option (AV×Option (Nat×Nat×Nat)):=
 match op with
 |.load t a=>match ev fr a with
  |.ptr o g r c=>match ti P t,xs[j]? with
   |some T,some (some (.rows g' st rs))=>match rs[r]? with
    |some row=>(Gm row c T.size T.k.agg).map λv=>(v,some (o,g,g'))
    |none=>none
   |_,_=>none
  |.cp row c=>match ti P t with
   |some T=>(Gm row c T.size T.k.agg).map λv=>(v,none)
   |none=>none
  |_=>none
 |op=>if A37 op then(B5 P fr hE op).map λv=>(v,none)else none
def V3 (n:Nat)(all:List Oper)(xs:List (Option AO)):List Oper->List Nat->List (Nat×AV)->Option (List (Nat×AV)×List (Nat×Nat)×List (Nat×Nat))
 |[],_,l=>some (l,[],[])
 |o::ops,z,l=>if Ee n o.dst then match Cx all (Ac l) o,o.dst with
   |some true,some t=>match A02 P xs (Ac l) (z.headD 0) o.op with
    |some (v,none)=>V3 n all xs ops z ((t,v)::l)
    |some (v,some (A,g,g'))=>(V3 n all xs ops z.tail ((t,v)::l)).map λr=>(r.1,(A,g)::r.2.1,(z.headD 0,g')::r.2.2)
    |none=>none
   |some false,some t=>V3 n all xs ops z ((t,.und)::l)
   |some false,none=>V3 n all xs ops z l
   |_,_=>none
  else none
def A40 (ops:List Oper)(ks:List Nat)(l:List (Nat×AV)):Bool:=ops.all λo=>match o.dst with
 |none=>true
 |some t=>ks.contains t||!(l.any λp=>Nat.beq t p.1)
end
variable{P:Program}{f:FuncId}{n:Nat}{d:FK}{β:Type}{γ:Type}{Q:Spec β}{m:R β}{ds:List AD}{h:Aa}{u:AU}{k:List Item}{l:List (Nat×AV)}{h0:Aa}{ids:List Nat}{xs:List (Option AO)}{N:Nat}{fr:Nat→AV}{j:Nat}{op:Op}{v:AV}{ops:List Oper}{t:Nat}{zs:List (Option AO)}{ys:List (Option AO)}{todo:List Item}{l':List (Nat×AV)}
section
variable[GW P]{F:γ→R β}{all:List Oper}
def Y3{q:Option (Nat×Nat×Nat)}(G:Ids h0 ids N)(O:xs.length=N)(z:A02 P xs fr j op=some (v,q))(S:∀o g g',q=some (o,g,g')->o=ix ids j/\g=g'):B5 P fr (hp h0 ids xs) op=some v:=by
 unfold A02 at z;split at z
 .rename_i t a;show O6 P _ t (ev fr a)=_;split at z
  .rename_i o g r c A;rw[A];split at z
   .rename_i T g' st rs D U;split at z
    .rename_i row hr;simp only[BP,AP]at z;obtain⟨v',h1,rfl,rfl⟩:=z;obtain⟨rfl,rfl⟩:=S _ _ _ rfl;exact Ar G O U hr D h1
    .cases z
   .cases z
  .rename_i row c A;rw[A];split at z
   .rename_i T D;simp only[BP,AP]at z;obtain⟨v',h1,rfl,rfl⟩:=z;exact Y9 D h1
   .cases z
  .cases z
 split at z
 .rename_i hp;simp only[BP,AP]at z;obtain⟨v',h1,rfl,rfl⟩:=z;revert h1;cases op<;>first
   |exact id
   |(simp[A37]at hp)
 .cases z
def Apu {rest:List Oper}:∀{ops:List Oper} {V:List Nat} {l l':List (Nat×AV)} {A B:List (Nat×Nat)},V3 P n all xs ops V l=some (l',A,B)->A=B.map (λq=>(ix ids q.1,q.2))->Ids h0 ids N->xs.length=N->
  WO P f n d Q k all m rest (Ac l') ds (hp h0 ids xs) u->WO P f n d Q k all m (ops++rest) (Ac l) ds (hp h0 ids xs) u
 |[],V,l,l',A,B,z,D,G,O,hk=>by simp only[V3,AX,AP]at z;obtain⟨rfl,rfl,rfl⟩:=z;exact hk
 |o::ops,V,l,l',A,B,z,D,G,O,hk=>by
  unfold V3 at z;split at z
  .rename_i S;split at z
   .rename_i t hw ht;rw[ht]at S;have step:∀{v:AV},B5 P (Ac l) (hp h0 ids xs) o.op=some v->WO P f n d Q k all m (ops++rest) (Ac ((t,v)::l)) ds (hp h0 ids xs) u->WO P f n d Q k all m (o::ops++rest) (Ac l) ds (hp h0 ids xs) u:=by intro v X W;refine Ow (by rw[ht];exact S) hw λhb K U Y hU=>Arb (t:=ds) X (Y _ _ _ _ ?_);rw[ht,Db];exact W
    split at z
    .rename_i v hr;exact step (Y3 G O hr (λ_ _ _ h=>by cases h)) (Apu z D G O hk)
    .rename_i v ob g g' hr;simp only[BP,AP]at z;obtain⟨⟨l1,A1,B1⟩,z,rfl,rfl,rfl⟩:=z;simp only[BM,CN,AP]at D;exact step (Y3 G O hr (λo2 g2 Z h=>by cases h;exact D.1)) (Apu z D.2 G O hk)
    .cases z
   .rename_i t hw ht;rw[ht]at S;exact Aro (by rw[ht];exact S) hw (by rw[ht,Db];exact Apu z D G O hk)
   .rename_i hw ht;exact Aro (by rw[ht];rfl) hw (by rw[ht];exact Apu z D G O hk)
   .cases z
  .cases z
def Amj{ks:List Nat}{news:List (Nat×AV)}:∀{hs:List Nat} {l l':List (Nat×AV)} {A B:List (Nat×Nat)} {ops:List Oper},V3 P n all xs ops hs l=some (l',A,B)->∀t,(∀o∈ops,o.dst≠some t)->Ac l' t=Ac l t
 |hs,l,l',A,B,[],z,t,S=>by simp only[V3,AX,AP]at z;obtain⟨rfl,rfl,rfl⟩:=z;rfl
 |hs,l,l',A,B,o::ops,z,t,S=>by
  have D:∀o∈ops,o.dst≠some t:=λq U=>S q (BC _ U);have O:∀{G:Nat} {v:AV},o.dst=some G->Ac ((G,v)::l) t=Ac l t:=by
   intro G v h;have:t≠G:=λe=>S o (BE ..) (e▸h);simp only[Ac];have:Nat.beq t G=false:=by
    cases U:Nat.beq t G with
    |false=>rfl
    |true=>exact absurd (AY U) this
   rw[this];rfl
  unfold V3 at z;split at z
  .split at z
   .rename_i G hw ht;split at z
    .rw[Amj (ks:=ks) (news:=news) (ops:=ops) z t D,O ht]
    .simp only[BP,AP]at z;obtain⟨⟨V,W,X⟩,z,rfl,rfl,rfl⟩:=z;rw[Amj (ks:=ks) (news:=news) (ops:=ops) z t D,O ht]
    .cases z
   .rename_i G hw ht;rw[Amj (ks:=ks) (news:=news) (ops:=ops) z t D,O ht]
   .exact Amj (ks:=ks) (news:=news) (ops:=ops) z t D
   .cases z
  .cases z
def Bnq(K:Nat)(z:List Nat)(news:List (Nat×AV))(X:Ids h0 ids N)(Y:xs.length=N)(D:(V3 P n all xs (ops.take K) z l).map (λr=>(news.map (λp=>Ac r.1 p.1),r.2.1,A40 (ops.take K) (news.map (·.1)) l))=some (news.map (·.2),((V3 P n all xs (ops.take K) z l).elim [] λr=>r.2.2.map λq=>(ix ids q.1,q.2)),true))(hk:WO P f n d Q k all m (ops.drop K) (Ac (news++l)) ds (hp h0 ids xs) u):WO P f n d Q k all m ops (Ac l) ds (hp h0 ids xs) u:=by
 cases hr:V3 P n all xs (ops.take K) z l with
 |none=>rw[hr]at D;cases D
 |some r=>
  obtain⟨l',A,B⟩:=r;rw[hr]at D;simp only[AQ,HU,AX,AP]at D;obtain⟨h1,h2,Z⟩:=D;have:=Apu (rest:=ops.drop K) hr h2 X Y (f:=f) (d:=d) (Q:=Q) (k:=k) (m:=m) (ds:=ds) (u:=u) (λhb i hi=>R2 (λt=>?_) (hk hb i hi))
  .rwa[DH]at this
  .
   have key:∀(ns:List (Nat×AV)),ns.map (λp=>Ac l' p.1)=ns.map (·.2)->(∀s,s∈ns.map (·.1)->s∈news.map (·.1))->(∀s,s∈news.map (·.1)->s=t->s∈ns.map (·.1))->Ac (ns++l) t=.any\/Ac (ns++l) t=Ac l' t:=by
    intro ns;induction ns with
    |nil=>
     intro _ _ S;simp only[CM];by_cases G:l.any (λp=>Nat.beq t p.1)=true
     .right;symm;refine Amj (ks:=[]) (news:=[]) (ops:=ops.take K) hr t λo ho hd=>?_;have:=AJ.1 Z o ho;rw[hd]at this;simp only[BU,CZ,DP]at this;rcases this with D|D
      .exact absurd (S t D rfl) (by simp)
      .rw[D]at G;cases G
     .left;have:∀l:List (Nat×AV),l.any (λp=>Nat.beq t p.1)≠true->Ac l t=.any:=by
       intro l;induction l with
       |nil=>intro _;rfl
       |cons p l V=>
        intro O;simp only[List.any_cons]at O;simp only[Ac];have h1:Nat.beq t p.1=false:=by cases U:Nat.beq t p.1 with|false=>rfl|true=>exact absurd (by rw[U];rfl) O
        rw[h1];exact V (λh=>O (by rw[h,h1];rfl))
      exact this l G
    |cons p ns V=>
     intro W h4 h5;simp only[BM,CN]at W;simp only[DS,Ac];cases U:Nat.beq t p.1 with
     |true=>right;have:t=p.1:=AY U;subst this;exact W.1.symm
     |false=>
      refine V W.2 (λs z=>h4 s (by simp[z])) (λs z e=>?_);rcases AN.1 (h5 s z e)with h|h
      .subst e;rw[h]at U;simp at U
      .exact h
   exact key news h1 (λs z=>z) (λs z _=>z)
def Ao(K:Nat)(z:List Nat)(news:List (Nat×AV))(hk:WO P f n d Q k all m (ops.drop K) (Ac (news++l)) ds (hp h0 ids xs) u)(A:Ids h0 ids N:=by assumption)(D:xs.length=N:=by rfl)(G:(V3 P n all xs (ops.take K) z l).map (λr=>(news.map (λp=>Ac r.1 p.1),r.2.1,A40 (ops.take K) (news.map (·.1)) l))=some (news.map (·.2),((V3 P n all xs (ops.take K) z l).elim [] λr=>r.2.2.map λq=>(ix ids q.1,q.2)),true):=by kernel_rfl):WO P f n d Q k all m ops (Ac l) ds (hp h0 ids xs) u:=Bnq K z news A D G hk
def Ale{b b':Bool}(z:b=b')(ht:Ac l t=.bool b)(hk:WO P f n d Q k all m ops (Ac ((t,.bool b')::l)) ds h u):WO P f n d Q k all m ops (Ac l) ds h u:=by
 subst z;refine λA i hi=>R2 (λs=>?_) (hk A i hi);right;simp only[Ac];cases D:Nat.beq s t with
 |true=>rw[AY D,ht];rfl
 |false=>rfl
def Gj(js:List Nat)(z:Ids h0 ids N)(A:xs.length=N)(hk:V9 N js=true)(hz:js.length=zs.length)(hr:WO P f n d Q k all m ops fr ds (hp h0 ids ys) u)(e:T8 js zs xs=ys:=by first|(simp only[EE,EF,DS,CM,EK,FG,T8,Wb,Aav,AV.cells,AV.I,AV.q];rfl)|rfl):WO P f n d Q k all m ops fr ds (hp (hp h0 ids (S9 js xs)) (Un ids js) zs) u:=A5h js ys z A hk hz e hr
def D1(hr:WR P f n d Q m todo (Ac l') ds h u)(z:FrIs l l':=by repeat (first|exact .nil|refine .cons rfl ?_)):WR P f n d Q m todo (Ac l) ds h u:=Xm l' z hr
def Bv(hr:WR P f n d Q m todo fr ds (hp h0 ids ys) u)(e:xs=ys:=by first|(simp only[EE,EF,DS,CM,EK,FG,T8,Wb,Aav,AV.cells,AV.I,AV.q];rfl)|rfl): WR P f n d Q m todo fr ds (hp h0 ids xs) u:=e▸hr
end
variable{pre:List (List Nat)}{pend:Gn}{i:Nat}{a:Nat}{b:Nat}
section
variable[GW P]{all:List Oper}{c d e f g o:Nat}{fa fb fc fd fe ff fg fo:Nat→AV}{va vb vc vd ve vf vg vo:AV}
def Q7 (z:(cl pre i a&&cl pre i b)=true)(hr:Eu P all pre i h pend):Eu P all pre i h ((a,fa,va)::(b,fb,vb)::pend):=by rw[AK]at z;exact Mc z.1 (Mc z.2 hr)
def Aej (z:((cl pre i a&&cl pre i b)&&(cl pre i c&&cl pre i d))=true)(hr:Eu P all pre i h pend):Eu P all pre i h ((a,fa,va)::(b,fb,vb)::(c,fc,vc)::(d,fd,vd)::pend):=by rw[AK]at z;exact Q7 z.1 (Q7 z.2 hr)
def Zc (z:(((cl pre i a&&cl pre i b)&&(cl pre i c&&cl pre i d))&&((cl pre i e&&cl pre i f)&&(cl pre i g&&cl pre i o)))=true)(hr:Eu P all pre i h pend):
  Eu P all pre i h ((a,fa,va)::(b,fb,vb)::(c,fc,vc)::(d,fd,vd)::(e,fe,ve)::(f,ff,vf)::(g,fg,vg)::(o,fo,vo)::pend):=by
 rw[AK]at z
 exact Aej z.1 (Aej z.2 hr)
end
variable{fs:List (Nat×TypeId)}{z:List AV}
section
variable[GW P]{s ft:TypeId}{F:TI}
def O1 {o g r:Nat}(c off i:Nat)(A:ti P s=some ⟨.st fs,a,b,z⟩)(hf:fs[i]?=some (off,ft))(D:ti P ft=some F)(h0:Nat.beq F.size 0=false):J7 P s (.ptr o g r c) i=some (.ptr o g r (c+off)):=Ba7 A hf D h0
end
def O {α:Sort _}{a:α}:a=a:=rfl
def FI(h:l'.map (λp=>Ac l p.1)=l'.map (·.2)):FrIs l l':=by
 induction l' with
 |nil=>exact .nil
 |cons p r z=>rw[BM,BM]at h;injection h with h1 h2;exact .cons h1 (z h2)
end Go.Am
namespace Go.Am
open Go Go.ChangeShapes Go.WideShapes Go.RowKit
end Go.Am
namespace Go.Am
open Go
abbrev rJ:Int->List AV:=rI .i64
variable{n:Nat}
abbrev rU:Vector Int n->List AV:=rV (rI .u8)
abbrev AV.K (l:List Int):AV:=.sl 1 (List.map (rI .i64) l)
abbrev AV.M(l:List (Vector Int n)):AV:=.sl 32 (List.map (rV (rI .u8)) l)
variable{α:Type}
abbrev AV.L(n:Nat)(f:α->List AV)(l:List α):AV:=.sl n (List.map f l)
abbrev AV.B (b:Bool):AV:=.bool b
abbrev AV.A (l:List AV):AV:=.agg l
abbrev wi (n:Int):Int:=IntKind.wrap .i64 n
abbrev wU (n:Int):Int:=IntKind.wrap .u32 n
def cb {a b:Bool}(h:a=b):AV.bool a=AV.bool b:=congrArg AV.bool h
variable{l:List (Nat×AV)}{t:Nat}
def FrIs.r{r:List (Nat×AV)}(hr:FrIs l r):FrIs l ((t,Ac l t)::r):=.cons rfl hr
variable{a:Nat}{b:Nat}
def FrIs.r2{r:List (Nat×AV)}(hr:FrIs l r):FrIs l ((a,Ac l a)::(b,Ac l b)::r):=.cons rfl (.cons rfl hr)
def FrIs.r4{r:List (Nat×AV)}{c e:Nat}(hr:FrIs l r):FrIs l ((a,Ac l a)::(b,Ac l b)::(c,Ac l c)::(e,Ac l e)::r):=.cons rfl (.cons rfl (.cons rfl (.cons rfl hr)))
variable{v:AV}
def FrIs.o(z:Ac l t=v):FrIs l [(t,v)]:=.cons z .nil
variable{h:Aa}{h2:Aa}
def LF.s{a:AV}{l l':List AV}(hr:LF h h2 l l'):LF h h2 (a::l) (a::l'):=.cons (.same _) hr
def LF.s2{a b:AV}:LF h h2 [a,b] [a,b]:=.cons (.same _) (.cons (.same _) .nil)
def LF.s1{a:AV}:LF h h2 [a] [a]:=.cons (.same _) .nil
def RowSim.s {a:AV}{l l':List AV}(hr:RowSim l l'):RowSim (a::l) (a::l'):=.cons (.same _) hr
def RowSim.s2 {a b:AV}:RowSim [a,b] [a,b]:=.cons (.same _) (.cons (.same _) .nil)
def RowSim.s1 {a:AV}:RowSim [a] [a]:=.cons (.same _) .nil
def FrFz.s{r:List (Nat×AV)}(hr:FrFz h h2 l r):FrFz h h2 l ((t,Ac l t)::r):=.cons (.same _) hr
def FrFz.s2{s:Nat}:FrFz h h2 l [(t,Ac l t),(s,Ac l s)]:=.cons (.same _) (.cons (.same _) .nil)
def FrFz.s1:FrFz h h2 l [(t,Ac l t)]:=.cons (.same _) .nil
variable{j:Nat}
def ic{L:List α}{x:α}(z:L[j]?=some x)(A:L.length<=Bj):AV.int .i64 (IntKind.i64.wrap ((j:Int)+1))=.int .i64 ((j+1:Nat):Int):=Vf (A6 z) A
abbrev Ab (g st:Nat)(rs:List (List AV)):Option AO:=some (.rows g st rs)
variable{P:Program}{f:FuncId}{d:FK}{β:Type}{Q:Spec β}{m:R β}{ds:List AD}{u:AU}{k:List Item}{ty:TypeId}{after:Array Edge}{id:Nat}{ops:List Oper}{y:Code}{fr:Nat→AV}{x:Operand}
section
variable[GW P]{all r:List Oper}{pos:String}
def Ah(z:WO P f n d Q (.code y::k) ops m ops fr ds h u):WR P f n d Q m (.code (.seq (.region id ⟨ops⟩ false) y)::k) fr ds h u:=Ai (A4 z)
def Bp(v:AV)(hk:WO P f n d Q k all m r (Ac ((t,v)::l)) ds h u)(ht:Nat.blt t n=true:=by exact rfl)(z:ev (Ac l) x=v:=by exact rfl):WO P f n d Q k all m (⟨some t,.move x,ty,pos,after,none⟩::r) (Ac l) ds h u:=Au v ht (by rw[B0,z]) hk
def Cm(v:AV)(hk:WO P f n d Q k all m r (Ac ((t,v)::l)) ds h u)(ht:Nat.blt t n=true:=by exact rfl)(z:ev (Ac l) x=v:=by exact rfl):WO P f n d Q k all m (⟨some t,.assign x,ty,pos,after,none⟩::r) (Ac l) ds h u:=Au v ht (by rw[Bbj,z]) hk
end
def A7l:Nat->Nat->Nat->List Nat
 |0,_,_=>[]
 |f+1,i,m=>bif Nat.beq (m%2) 1 then i::A7l f (i+1) (m/2)else A7l f (i+1) (m/2)
abbrev prL (A:List Nat):List (List Nat):=A.map (A7l A.length 0)
section
variable(P:Program)[GW P]
def Ahz (all:List Oper)(pre:List (List Nat))(i:Nat)(xs:List (Option AO)):Gn->List Nat->Option (List AV×List (Nat×Nat)×List (Nat×Nat))
 |[],_=>some ([],[],[])
 |(j,fr,v)::r,z=>if cl pre i j then Ahz all pre i xs r z else match all[j]? with
  |none=>none
  |some o=>match Cx all fr o with
   |some true=>match A02 P xs fr (z.headD 0) o.op with
    |some (w,none)=>(Ahz all pre i xs r z).map λq=>(w::q.1,q.2)
    |some (w,some (A,g,g'))=>(Ahz all pre i xs r z.tail).map λq=>(w::q.1,(A,g)::q.2.1,(z.headD 0,g')::q.2.2)
    |none=>none
   |some false=>(Ahz all pre i xs r z).map λq=>(.und::q.1,q.2)
   |none=>none
def Auh (pre:List (List Nat))(i:Nat):Gn->List AV
 |[]=>[]
 |(j,_,v)::r=>if cl pre i j then Auh pre i r else v::Auh pre i r
def Bga (pre:List (List Nat))(i:Nat)(pend:Gn):Bool:=pend.all λp=>cl pre i p.1
end
variable{γ:Type}{h0:Aa}{ids:List Nat}{xs:List (Option AO)}{N:Nat}{pre:List (List Nat)}{i:Nat}{plan:D5}{pend:Gn}
section
variable[GW P]{F:γ→R β}{all:List Oper}
def Bh (z:Bga pre i pend=true:=by kernel_rfl):Eu P all pre i h pend:=by
 induction pend with
 |nil=>exact Ef
 |cons p r A=>simp only[Bga,DU,AK]at z;exact Mc z.1 (A z.2)
def Aqv:∀{pend:Gn} {V:List Nat} {A B:List (Nat×Nat)},Ahz P all pre i xs pend V=some (Auh pre i pend,A,B)->A=B.map (λq=>(ix ids q.1,q.2))->Ids h0 ids N->xs.length=N->Eu P all pre i (hp h0 ids xs) pend
 |[],_,_,_,_,_,_,_=>Ef
 |(j,fr,v)::r,V,A,B,z,D,G,O=>by
  unfold Ahz Auh at z;by_cases S:cl pre i j=true
  .rw[if_pos S,if_pos S]at z;exact Mc S (Aqv z D G O)
  .rw[if_neg S,if_neg S]at z;refine⟨?_,?_⟩
   .rw[if_neg S];split at z
    .cases z
    rename_i o ho;rw[ho];simp only[aF];split at z
    .rename_i hw;rw[hw];simp only;split at z
     .rename_i w hr;simp only[BP,AP,CN]at z;obtain⟨q,_,⟨rfl,_⟩,_⟩:=z;exact Y3 G O hr (λ_ _ _ h=>by cases h)
     .rename_i w ob g g' hr;simp only[BP,AP,CN]at z;obtain⟨q,_,⟨rfl,_⟩,rfl,rfl⟩:=z;simp only[BM,CN,AP]at D;exact Y3 G O hr (λo2 g2 aa h=>by cases h;exact D.1)
     .cases z
    .rename_i hw;rw[hw];simp only[BP,AP,CN]at z;obtain⟨q,_,⟨rfl,_⟩,_⟩:=z;rfl
    .cases z
   .split at z
    .cases z
    split at z
    .split at z
     .simp only[BP,AP,CN]at z;obtain⟨⟨W,X,Y⟩,U,⟨_,h1⟩,h2⟩:=z;simp only at h1 h2;subst h1;cases h2;exact Aqv U D G O
     .simp only[BP,AP,CN]at z;obtain⟨⟨W,X,Y⟩,U,⟨_,h1⟩,h2,Z⟩:=z;simp only at h1 h2 Z;subst h1;subst h2;subst Z;simp only[BM,CN,AP]at D;exact Aqv U D.2 G O
     .cases z
    .simp only[BP,AP,CN]at z;obtain⟨⟨W,X,Y⟩,U,⟨_,h1⟩,h2⟩:=z;simp only at h1 h2;subst h1;cases h2;exact Aqv U D G O
    .cases z
def A9 (D:List Nat)(G:Ids h0 ids N:=by assumption)(O:xs.length=N:=by rfl)
  (z:(Ahz P all pre i xs pend D).map (λr=>(r.1,r.2.1))=some (Auh pre i pend,((Ahz P all pre i xs pend D).elim [] λr=>r.2.2.map λq=>(ix ids q.1,q.2))):=by kernel_rfl):Eu P all pre i (hp h0 ids xs) pend:=by
 cases hr:Ahz P all pre i xs pend D with
 |none=>rw[hr]at z;cases z
 |some r=>obtain⟨a,A,B⟩:=r;rw[hr]at z;simp only[AQ,HU,AX,AP]at z;obtain⟨rfl,h2⟩:=z;exact Aqv hr h2 G O
def U2{b b':Bool}(z:b=b')(ht:Ac l t=.bool b)(hk:WP P f n d Q k all pre m plan pend (Ac ((t,.bool b')::l)) ds h u):WP P f n d Q k all pre m plan pend (Ac l) ds h u:=by
 subst z;have e:Ac ((t,.bool b)::l)=Ac l:=by
  funext s;simp only[Ac];cases A:Nat.beq s t with
  |true=>rw[AY A,ht];rfl
  |false=>rfl
 rw[e]at hk;exact hk
end
inductive FAt:List (Nat×AV)->Nat->AV->Prop
 |here {k:Nat} {v:AV} {l:List (Nat×AV)}:FAt ((k,v)::l) k v
 |there {k a:Nat} {v w:AV} {l:List (Nat×AV)} (h:Nat.beq k a=false) (hr:FAt l k v):FAt ((a,w)::l) k v
inductive Kf (l:List (Nat×AV)):List Nat->List (Nat×AV)->Prop
 |nil:Kf l [] []
 |cons {k:Nat} {v:AV} {ks:List Nat} {r:List (Nat×AV)} (hx:FAt l k v) (hr:Kf l ks r):Kf l (k::ks) ((k,v)::r)
def FAt.get{k:Nat}(h:FAt l k v):Ac l k=v:=by
 induction h with
 |@here k v l=>simp only[Ac,Nat.beq_refl,GM]
 |there h hr z=>simp only[Ac,h,GO,z]
def Kf.is{ks:List Nat}{r:List (Nat×AV)}(h:Kf l ks r):FrIs l r:=by
 induction h with
 |nil=>exact .nil
 |cons z hr A=>exact .cons z.get A
def dpL:Nat->List (Option AO)->List (Option AO)
 |_,[]=>[]
 |m,x::xs=>(bif Nat.beq (m%2) 1 then none else x)::dpL (m/2) xs
def Aqx:∀(m:Nat) (xs:List (Option AO)),Drops xs (dpL m xs)
 |_,[]=>.nil
 |m,x::xs=>by
  unfold dpL;cases Nat.beq (m%2) 1 with
  |true=>exact .drop (Aqx _ xs)
  |false=>exact .keep (Aqx _ xs)
variable{op:Op}{e:α→List AV}{st:Nat}{tt:TypeId}{fn:Func}{aS:List Operand}{ts:Array TypeId}{fst:List AV}{cap:List AV}{gd:Option (Nat×Bool)}{e':α→AV}{mg:R α}{rest:α→R γ}{rr:Nat}{T:TI}{todo:List Item}{l':List (Nat×AV)}
section
variable[GW P]{F:γ→R β}{all r:List Oper}{pos:String}
def Bl(v:AV)(hk:WO P f n d Q k all m r (Ac ((t,v)::l)) ds h u)(ht:Nat.blt t n=true:=by exact rfl)(z:B5 P (Ac l) h op=some v:=by kernel_rfl): WO P f n d Q k all m (⟨some t,op,ty,pos,after,none⟩::r) (Ac l) ds h u:=Au v ht z hk
def E7(L:List α)(hk:WO P f n d Q k all m r (Ac ((t,.int .i64 (L.length:Int))::l)) ds h u)(ht:Nat.blt t n=true:=by exact rfl)(G:ev (Ac l) x=.sl st (L.map e):=by exact rfl)(A:((ti P tt).any λT=>match T.k with|.sl _=>true|_=>false)=true:=by kernel_rfl):
  WO P f n d Q k all m (⟨some t,.call ⟨.builtin .len,⟨[x]⟩,⟨[tt]⟩⟩,ty,pos,after,none⟩::r) (Ac l) ds h u:=by
 refine Au _ ht (D4 ?_) hk
 rw[G]
 cases D:ti P tt with
 |none=>rw[D]at A;cases A
 |some T=>obtain⟨K,a,b,z⟩:=T;rw[D]at A;cases K<;>first|exact Jy D|cases A
def oc{g:FuncId}{A:List AV}{e:β->AV}(D:mg≠.bad->Bs P g A (hp h0 ids xs) (Yd e' (hp h0 ids xs) mg))(hk:∀a,mg=.ok a->WO P f n false (Zy e h0) k all ((rest a).bind F) r (Ac ((t,e' a)::l)) ds (hp h0 ids xs) u)(hf:P.funcs[f]?=some fn:=by assumption)(z:Ids h0 ids N:=by assumption)(G:ev (Ac l) x=.func (.func g) fst cap:=by exact rfl)(O:fst++Ev (Ac l) aS++cap=A:=by exact rfl)(ht:Nat.blt t n=true:=by exact rfl)(hw:Cx all (Ac l) ⟨some t,.call ⟨.value x,⟨aS⟩,ts⟩,ty,pos,after,gd⟩=some true:=by exact rfl)(S:ds=[]\/ds=[AD.star]:=by first|exact .inl rfl|exact .inr rfl):
  WO P f n false (Zy e h0) k all ((mg.bind rest).bind F) (⟨some t,.call ⟨.value x,⟨aS⟩,ts⟩,ty,pos,after,gd⟩::r) (Ac l) ds (hp h0 ids xs) u:=
 Cb A ht hw G O D (λv _=>by
  rcases S with rfl|rfl
  .exact Es hf z
  .exact H5 (Es hf z)) hk
def Ll{g:FuncId}{A:List AV}{e:β->AV}(D:mg≠.bad->Bs P g A (hp h0 ids xs) (Yd e' (hp h0 ids xs) mg))(hk:∀a,mg=.ok a->WP P f n false (Zy e h0) k all pre ((rest a).bind F) plan pend (Ac ((t,e' a)::l)) ds (hp h0 ids xs) u)(hf:P.funcs[f]?=some fn:=by assumption)(z:Ids h0 ids N:=by assumption)(G:all[i]?=some ⟨some t,.call ⟨.value x,⟨aS⟩,ts⟩,ty,pos,after,gd⟩:=by exact rfl)(O:ev (Ac l) x=.func (.func g) fst cap:=by exact rfl)(S:fst++Ev (Ac l) aS++cap=A:=by exact rfl)(hw:Cx all (Ac l) ⟨some t,.call ⟨.value x,⟨aS⟩,ts⟩,ty,pos,after,gd⟩=some true:=by exact rfl)(ht:Nat.blt t n=true:=by exact rfl)(hpd:Eu P all pre i (hp h0 ids xs) pend:=by exact Bh)(U:ds=[]\/ds=[AD.star]:=by first|exact .inl rfl|exact .inr rfl):
  WP P f n false (Zy e h0) k all pre ((mg.bind rest).bind F) ((true,i)::plan) pend (Ac l) ds (hp h0 ids xs) u:=
 D7 A G hw ht O S D (λv _ fr _=>by
  rcases U with rfl|rfl
  .exact Es hf z
  .exact H5 (Es hf z)) hpd hk
def Bm8{t:TypeId}{g c:Nat}{rs:List (List AV)}{row:List AV}(D:Ids h0 ids N)(G:xs.length=N)(O:xs[j]?=some (some (.rows g st rs)))(hr:rs[rr]?=some row)(A:(Nat.blt j N&&(ti P t).any (λT=>Nat.beq v.cells.length T.size&&Nat.ble (c+T.size) st)&&v.ok&&Nat.beq row.length st&&v.cells.all AV.flat)=true):
  Wv P (hp h0 ids xs) t (.ptr (ix ids j) g rr c) v=some (hp h0 ids (xs.set j (some (.rows g st (rs.set rr (Wb row c v.cells)))))):=by
 simp only[AK]at A
 obtain⟨⟨⟨⟨h1,h2⟩,S⟩,U⟩,V⟩:=A
 cases z:ti P t with
 |none=>rw[z]at h2;cases h2
 |some T=>rw[z]at h2;simp only[Option.any_some,AK]at h2;exact Iz D G h1 O hr z S (AY h2.1) h2.2 (AY U) V
def Gk{t:TypeId}{a:Operand}{g c:Nat}{rs:List (List AV)}{row:List AV}(v:AV)(hk:WO P f n d Q k all m r (Ac l) ds (hp h0 ids (xs.set j (some (.rows g st (rs.set rr (Wb row c v.cells)))))) u)(z:Ids h0 ids N:=by assumption)(A:xs.length=N:=by exact rfl)(D:ev (Ac l) a=.ptr (ix ids j) g rr c:=by exact rfl)(G:ev (Ac l) x=v:=by exact rfl)(O:xs[j]?=some (some (.rows g st rs)):=by exact rfl)(hr:rs[rr]?=some row:=by exact rfl)(S:(Nat.blt j N&&(ti P t).any (λT=>Nat.beq v.cells.length T.size&&Nat.ble (c+T.size) st)&&v.ok&&Nat.beq row.length st&&v.cells.all AV.flat)=true:=by kernel_rfl): WO P f n d Q k all m (⟨none,.store t a x,ty,pos,after,none⟩::r) (Ac l) ds (hp h0 ids xs) u:=Cw (by rw[D,G];exact Bm8 z A O hr S) hk
def Ip{e:TypeId}(j:Nat)(v:AV)(hk:∀g,WO P f n d Q k all m r (Ac ((t,.ptr (ix ids j) g 0 0)::l)) ds (hp h0 ids (xs.set j (some (.rows g v.cells.length [v.cells])))) u)(G:Ids h0 ids N:=by assumption)(O:xs.length=N:=by exact rfl)(z:Nat.blt j N=true:=by exact rfl)(S:xs[j]?=some none:=by exact rfl)(ht:Nat.blt t n=true:=by exact rfl)(U:ev (Ac l) x=v:=by exact rfl)(A:v.ok=true:=by exact rfl)(D:v.cells.all AV.flat=true:=by exact rfl): WO P f n d Q k all m (⟨some t,.box e x,ty,pos,after,none⟩::r) (Ac l) ds (hp h0 ids xs) u:=Bky G O z S ht U A D hk
def D9{e:TypeId}(j:Nat)(D:ti P e=some T)(hk:∀g,WO P f n d Q k all m r (Ac ((t,.ptr (ix ids j) g 0 0)::l)) ds (hp h0 ids (xs.set j (some (.rows g T.z.length [T.z])))) u)(G:Ids h0 ids N:=by assumption)(O:xs.length=N:=by exact rfl)(z:Nat.blt j N=true:=by exact rfl)(S:xs[j]?=some none:=by exact rfl)(ht:Nat.blt t n=true:=by exact rfl)(A:T.z.all AV.flat=true:=by exact rfl): WO P f n d Q k all m (⟨some t,.alloc e,ty,pos,after,none⟩::r) (Ac l) ds (hp h0 ids xs) u:=A1w G O z S ht D A hk
def Gh(ks:List Nat)(hr:WR P f n d Q m todo (Ac l') ds h u)(z:Kf l ks l':=by repeat (first|exact Kf.nil|exact FAt.here|apply FAt.there rfl|apply Kf.cons)):WR P f n d Q m todo (Ac l) ds h u:=Xm _ z.is hr
def Ck(b:Nat)(hr:WR P f n d Q m todo fr ds (hp h0 ids (dpL b xs)) u)(z:Ids h0 ids N:=by assumption)(A:xs.length=N:=by exact rfl): WR P f n d Q m todo fr ds (hp h0 ids xs) u:=Bhx _ z A (Aqx b xs) hr
end
variable{m':R α}{args:List AV}
section
variable[GW P]{e:α→AV}{m:R α}
theorem ci(n N:Nat)(hf:P.funcs[f]?=some fn)(hm:m=m')(hr:∀(h0:Aa) (ids:List Nat),Ids h0 ids N→P.funcs[f]?=some fn→WR P f n false (Zy e h0) (m'.bind R.ok) [.code (fn.body.getD .skip)] (Ac (Aa5 0 args)) [] (hp h0 ids (List.replicate N none)) .ret)(hb:fn.body.isSome=true:=by exact rfl)(hn:fn.name≠"runtime.NumGoroutine":=by decide)(hnt:fn.ntmps=n:=by exact rfl)(hl:Nat.ble args.length n=true:=by exact rfl):CP P f args m e:=by
 subst hm;refine Bct N hf (c:=fn.body.getD .skip) ?_ hn hnt hl fun h0 ids hI=>D8 (hr h0 ids hI hf);cases hq:fn.body with
 |none=>rw[hq]at hb;cases hb
 |some c=>rfl
def rt{a:α}{vs:List AV}(hf:P.funcs[f]?=some fn:=by assumption)(z:Ids h0 ids N:=by assumption)(hr:Gc P (hp h0 ids xs) (Ac l) fn.results.toList=some vs:=by exact rfl)(hz:Fz (hp h0 ids xs) h0 (Hn vs) (e a):=by exact .same _): WR P f n false (Zy e h0) (.ok a) (.code .ret::k) (Ac l) [] (hp h0 ids xs) u:=Vi hf z hr hz
end
section
variable[GW P]{F:γ→R β}{all:List Oper}
def Oc{b:Bool}(i c t:Nat)(ks:List Nat)(v:AV)(A:Ac l c=.bool b)(hk:WO P f n d Q k all m (ops.drop i) (Ac (l'++[(t,v)])) ds h u)(ht:b=true->∀r0,WO P f n d Q k all m r0 (Ac (l'++[(t,v)])) ds h u->WO P f n d Q k all m (ops.take i++r0) (Ac ((c,.bool true)::l)) ds h u)(hf:b=false->∀r0,WO P f n d Q k all m r0 (Ac (l'++[(t,v)])) ds h u->WO P f n d Q k all m (ops.take i++r0) (Ac ((c,.bool false)::l)) ds h u)(D:Kf l ks l':=by repeat (first|exact Kf.nil|exact FAt.here|apply FAt.there rfl|apply Kf.cons)):WO P f n d Q k all m ops (Ac l) ds h u:=by rw[<-DH i ops];exact Bdt b (λz=>Ale z A (ht z _ hk)) (λz=>Ale z A (hf z _ hk))
def G9{b:Bool}{A B:R α}(i c t:Nat)(ks:List Nat)(E:α->AV)(D:Ac l c=.bool b)(hk:∀p,WO P f n d Q k all ((rest p).bind F) (ops.drop i) (Ac (l'++[(t,E p)])) ds h u)(ht:b=true->∀r0,(∀p,WO P f n d Q k all ((rest p).bind F) r0 (Ac (l'++[(t,E p)])) ds h u)->WO P f n d Q k all (A.bind (X2 rest F)) (ops.take i++r0) (Ac ((c,.bool true)::l)) ds h u)(hf:b=false->∀r0,(∀p,WO P f n d Q k all ((rest p).bind F) r0 (Ac (l'++[(t,E p)])) ds h u)->WO P f n d Q k all (B.bind (X2 rest F)) (ops.take i++r0) (Ac ((c,.bool false)::l)) ds h u)(G:Kf l ks l':=by repeat (first|exact Kf.nil|exact FAt.here|apply FAt.there rfl|apply Kf.cons)):WO P f n d Q k all (((if b then A else B).bind rest).bind F) ops (Ac l) ds h u:=by rw[<-DH i ops];exact Ba3 (λz=>Ale z D (ht z _ hk)) (λz=>Ale z D (hf z _ hk))
def A6m{a:α}(hr:WO P f n d Q k all ((rest a).bind F) ops (Ac l') ds h u)(z:FrIs l l':=by repeat (first|exact .nil|refine .cons rfl ?_)):WO P f n d Q k all ((R.ok a).bind (X2 rest F)) ops (Ac l) ds h u:=Ath (Aye l' z hr)
end
variable{σ:Type}
def Lf(body:α->σ->R σ):List α->σ->R σ
 |[],s=>.ok s
 |a::l,s=>(body a s).bind λs'=>Lf body l s'
section
def A0n (o:Nat)(E:α->AV×AV)(M:List α)(v:AV)(x:AO)(R:List α):Prop:=(∃(g b z:Nat) (ens:Array MapEntry) (seen:Array Nat) (I:List Nat),v=.itm o g b z ens (M.map E)/\x=.blk g (.mapIter (some b) z seen z)/\(ens.toList.map (·.born)).Nodup/\M.length=ens.size/\I.Nodup/\(∀i,i∈I↔i<M.length/\(ens.getD i default).born∉seen)/\R.Perm (I.filterMap (M[·]?)))\/(M=[]/\R=[]/\∃g,v=.it o g/\x=.blk g (.mapIter none 0 #[] 0))
def Ayw (o:Nat)(E:α->AV×AV)(M:List α)(v:AV)(x:AO)(R:List α)(a:α):Prop:=A0n o E M v x R/\∃(g b z:Nat) (ens:Array MapEntry) (seen:Array Nat) (i:Nat),v=.itm o g b z ens (M.map E)/\M[i]?=some a/\x=.blk g (.mapIter (some b) z (seen.push (ens.getD i default).born) z)
def Ayw.ok{o:Nat}{E:α->AV×AV}{M:List α}{x:AO}{R:List α}{a:α}(h:Ayw o E M v x R a):A0n o E M v x R:=h.1
def A64 (M:List α):M.Perm ((List.range M.length).filterMap (M[·]?)):=by
 have:(List.range M.length).filterMap (M[·]?)=M:=by
  apply EH;intro i;induction M generalizing i with
  |nil=>simp
  |cons a M ih=>
   rw[BV,List.range_succ_eq_map,List.filterMap_cons];simp only[DX,List.filterMap_map];cases i with
   |zero=>rfl
   |succ i=>rw[FJ,FJ,<-ih i];rfl
 rw[this]
def Bda{ens:Array MapEntry}(z:(ens.toList.map (·.born)).Nodup)(hi:i<ens.size)(A:j<ens.size)(e:(ens.getD i default).born=(ens.getD j default).born):i=j:=by
 have h1:(ens.toList.map (·.born))[i]?=some (ens.getD i default).born:=by simp[Array.getD,hi]
 have h2:(ens.toList.map (·.born))[j]?=some (ens.getD j default).born:=by simp[Array.getD,A]
 rw[<-e]at h2;exact(List.getElem?_inj (by simpa using hi) z).1 (h1.trans h2.symm)
end
variable{kt:TypeId}{et:TypeId}{z:List AV}{xo:AO}{c:Code}
section
variable[GW P]{F:γ→R β}{all r:List Oper}{pos:String}{E:α→AV×AV}{M:List α}
def Bb3{m m':R γ}(e:m=m')(hr:WO P f n d Q k all (m'.bind F) ops fr ds h u):WO P f n d Q k all (m.bind F) ops fr ds h u:=e▸hr
def Bcl{mt:TypeId}(S:Ids h0 ids N)(U:xs.length=N)(G:Nat.blt j N=true)(W:xs[j]?=some none)(ht:Nat.blt t n=true)(X:ti P mt=some ⟨.map kt et,a,b,z⟩)(Y:ev (Ac l) x=.mapi (M.map E))(hk:∀v xo,A0n (ix ids j) E M v xo M->WO P f n d Q k all m r (Ac ((t,v)::l)) ds (hp h0 ids (xs.set j (some xo))) u):
  WO P f n d Q k all m (⟨some t,.range mt x,ty,pos,after,none⟩::r) (Ac l) ds (hp h0 ids xs) u:=by
 refine R9 ht (λ_ _=>rfl) λK V=>?_
 simp only[D3,Y,Aqy]
 refine⟨⟨_,X,_,_,rfl⟩,ix ids j,S.at U W,λg=>⟨λb A ens Z O=>V _ _ ?_,λhe=>V _ _ ?_⟩⟩
 .rw[S.set U G];have D:M.length=ens.size:=by simpa using O
  exact hk _ _ (.inl ⟨g,b,A,ens,#[],List.range M.length,rfl,rfl,Z.2.1,D,List.nodup_range,λi=>by simp,A64 M⟩)
 .rw[S.set U G];have:M=[]:=by simpa using he
  subst this;exact hk _ _ (.inr ⟨rfl,rfl,g,rfl,rfl⟩)
def Bgc{R:List α}(W:Ids h0 ids N)(X:xs.length=N)(Y:Nat.blt j N=true)(hj:xs[j]?=some (some xo))(ht:Nat.blt t n=true)(hv:ev (Ac l) x=v)(hi:A0n (ix ids j) E M v xo R)(G:R=[]->WO P f n d Q k all m r (Ac ((t,.tup [.bool false])::l)) ds (hp h0 ids xs) u)(Z:∀a R' O,R.Perm (a::R')->Ayw (ix ids j) E M v O R' a->WO P f n d Q k all m r (Ac ((t,.tup [.bool true,(E a).1,(E a).2])::l)) ds (hp h0 ids (xs.set j (some O))) u):
  WO P f n d Q k all m (⟨some t,.next x false,ty,pos,after,none⟩::r) (Ac l) ds (hp h0 ids xs) u:=by
 refine R9 ht (λ_ _=>rfl) λK hK=>?_
 simp only[D3,hv]
 rcases hi with⟨g,b,z,ens,seen,I,rfl,rfl,hn,S,hd,A,hp⟩|⟨rfl,rfl,g,rfl,rfl⟩
 .refine⟨seen,W.at X hj,λU=>hK _ _ (G ?_),λi hi aa=>hK _ _ ?_⟩
  .have:I=[]:=by
    cases I with
    |nil=>rfl
    |cons i I=>have:=(A i).1 (BE ..);exact absurd (U i (by simpa using this.1)) this.2
   subst this
   simpa using hp
  .have hi':i<M.length:=by simpa using hi
   have hm:i∈I:=(A i).2 ⟨hi',aa⟩
   obtain⟨a,ha⟩:∃a,M[i]?=some a:=⟨M[i],AA hi'⟩
   have hE:(M.map E).getD i (.und,.und)=E a:=by simp[List.getD,ha]
   rw[hE,W.set X Y]
   have D:R.Perm (a::(I.erase i).filterMap (M[·]?)):=by refine hp.trans ?_;have:=(List.perm_cons_erase hm).filterMap (M[·]?);rwa[List.filterMap_cons,ha]at this
   refine Z a ((I.erase i).filterMap (M[·]?)) _ D ⟨.inl ⟨g,b,z,ens,seen.push (ens.getD i default).born,I.erase i,rfl,rfl,hn,S,hd.erase i,λi'=>?_,.refl _⟩,g,b,z,ens,seen,i,rfl,ha,rfl⟩
   rw[hd.mem_erase_iff,A i',Array.mem_push]
   constructor
   .rintro⟨ab,h1,h2⟩;refine⟨h1,?_⟩;rintro(V|V)
    .exact h2 V
    .exact ab (Bda hn (by omega) (by omega) V)
   .rintro⟨h1,h2⟩;exact⟨λe=>h2 (.inr (by rw[e])),h1,λV=>h2 (.inl V)⟩
 .exact⟨W.at X hj,hK _ _ (G rfl)⟩
def Bcp{R:List α}{a:α}(D:Ids h0 ids N)(G:xs.length=N)(O:xs[j]?=some (some xo))(ht:Nat.blt t n=true)(S:ev (Ac l) x=v)(hi:Ayw (ix ids j) E M v xo R a)(hk:WO P f n d Q k all m r (Ac ((t,.tup [(E a).1,(E a).2])::l)) ds (hp h0 ids xs) u):
  WO P f n d Q k all m (⟨some t,.entry x,ty,pos,after,none⟩::r) (Ac l) ds (hp h0 ids xs) u:=by
 refine R9 ht (λ_ _=>rfl) λK U=>?_
 simp only[D3,S]
 obtain⟨_,g,b,z,ens,seen,i,rfl,A,rfl⟩:=hi
 have hi':i<M.length:=A6 A
 have hE:(M.map E).getD i (.und,.und)=E a:=by simp[List.getD,A]
 refine⟨seen,i,by simpa using hi',D.at G O,U _ _ ?_⟩
 rw[hE]
 exact hk
open Classical in
theorem Bit(M : List α)(body : α -> σ -> R σ)(rest : σ -> R γ)(X : List α -> σ -> (Nat -> AV) -> Aa -> Prop)(s0 : σ)(hp : ∀ L, L.Perm M -> Lf body L s0 = Lf body M s0)(V : X M s0 fr h)(A : ∀ (Z : List α) (W : List α -> σ -> R σ), (∀ Z s fr h, X Z s fr h -> WR P f n d Q (((W Z s).bind rest).bind F) (.inLoop c :: k) fr ds h u) -> ∀ s fr h, X Z s fr h -> ∀ m,
   (Z=[]->m=(rest s).bind F)->(∀a z,Z.Perm (a::z)->m=(body a s).bind (Aff (W z) rest F))->WR P f n d Q m (.code c::.inLoop c::k) fr ds h u):
  WR P f n d Q (((Lf body M s0).bind rest).bind F) (.code (.loop c)::k) fr ds h u:=by
 let Inv:List α->σ->Prop:=λZ s=>∃p:List α,(p++Z).Perm M/\∀z,Lf body (p++z) s0=Lf body z s
 have key:∀(q:Nat) (Z:List α) (s:σ) (fr:Nat->AV) (h:Aa),Z.length=q->Inv Z s->X Z s fr h->WR P f n d Q (((Lf body Z s).bind rest).bind F) (.inLoop c::k) fr ds h u:=by
  intro q
  induction q with
  |zero=>
   intro Z s fr h hq hi V G
   obtain rfl:=BL hq
   refine Aft (A [] (λ_ _=>.bad) (λ_ _ _ _ _ G=>absurd G Q.bad) s fr h V _ (λ_=>rfl) (λa z hp=>?_) G)
   exact absurd hp.length_eq (by simp)
  |succ q ih=>
   intro Z s fr h hq hi V G
   obtain⟨p,O,S⟩:=hi
   refine Aft (A Z (λz s'=>if z.length=q/\Inv z s' then Lf body z s' else .bad) (λz s' fr' h' aa D=>?_) s fr h V _ (λe=>?_) (λa z U=>?_) G)
   .by_cases Y:z.length=q/\Inv z s'
    .simp only[Y,and_self,if_true]at D ⊢
     exact ih z s' fr' h' Y.1 Y.2 aa D
    .simp only[Y,if_false]at D
     exact absurd D Q.bad
   .subst e;simp at hq
   .have e1:Lf body Z s=Lf body (a::z) s:=by
     rw[<-S Z,<-S (a::z),hp _ O,hp _ ((List.Perm.append_left p U.symm).trans O)]
    rw[e1,Lf,R.bind_assoc,R.bind_assoc]
    cases ab:body a s with
    |bad=>rfl
    |pan v=>rfl
    |ok s'=>
     have ac:z.length=q:=by have:=U.length_eq;simp at this;omega
     have hi':Inv z s':=by
      refine⟨p++[a],?_,λad=>?_⟩
      .rw[BX]
       exact(List.Perm.append_left p U.symm).trans O
      .rw[BX,S,GL,Lf,ab]
       rfl
     simp only[R.ok_bind,Aff,ac,hi',and_self,if_true]
     exact(R.bind_assoc _ _ _).symm
 intro G
 exact Atj (key M.length M s0 fr h rfl ⟨[],.refl _,λ_=>rfl⟩ V G)
end
end Go.Am
namespace Go.Am
variable{h:Aa}{h2:Aa}
section
variable{K V:Type}{eK:K→AV}{eV:V→AV}{M:List (K×V)}
def Bkq{o g:Nat}(h1:h o=some (.mp g (mE eK eV M)))(z:h2 o=none):Fz h h2 (.map o g) (.mapi (mE eK eV M)):=.map o g _ _ h1 z rfl (λ_ _=>.same _) (λ_ _=>.same _)
abbrev rM (eK:K->AV)(eV:V->AV)(M:List (K×V)):List AV:=[.mapi (mE eK eV M)]
def Bjp (M:List (K×V)):Cy 1 (rM eK eV M):=⟨rfl,λv z=>by rw[AM.1 z];rfl⟩
end
open Go
variable{α:Type}
section
abbrev MsQ (α:Type):=List (Int×List α×AV×Nat)
def kv (Q:MsQ α):List (Int×AV):=Q.map λq=>(q.1,q.2.2.1)
end
def fv(v:AV)(c:AV->Option α):Option α:=match v with
 |.bool b=>c (.bool b)
 |.int k n=>c (.int k n)
 |.str s=>c (.str s)
 |.nilp=>c .nilp
 |.ptr o g r b=>c (.ptr o g r b)
 |.cp r b=>c (.cp r b)
 |.cp0 r=>c (.cp0 r)
 |.emp=>c .emp
 |.snil=>c .snil
 |.sl s r=>c (.sl s r)
 |.slx s r=>c (.slx s r)
 |.ref o g r b=>c (.ref o g r b)
 |.mnil=>c .mnil
 |.map o g=>c (.map o g)
 |.mapc e=>c (.mapc e)
 |.func a b d=>c (.func a b d)
 |.nilf=>c .nilf
 |.iface t v=>c (.iface t v)
 |.nili=>c .nili
 |v=>c v
def Bmb(v:AV)(c:AV->Option α):fv v c=c v:=by cases v<;>rfl
def lk:List (Nat×AV)->Nat->(AV->Option α)->Option α
 |[],_,c=>c .any
 |(s,v)::l,t,c=>if Nat.beq t s then c v else lk l t c
def Bf2(t:Nat)(c:AV->Option α):∀l:List (Nat×AV),lk l t c=c (Ac l t)
 |[]=>rfl
 |(s,v)::l=>by
  simp only[lk,Ac];cases Nat.beq t s with
  |true=>rfl
  |false=>exact Bf2 t c l
def W1(l:List (Nat×AV))(x:Operand)(c:AV->Option α):Option α:=match x with
 |.tmp t=>lk l t c
 |.const v=>fv (A6q v) c
 |.global g=>c (.gptr ⟨g,0,none⟩)
 |.func f=>c (.func (.func f) [] [])
def Je(l:List (Nat×AV))(x:Operand)(c:AV->Option α):W1 l x c=c (ev (Ac l) x):=by
 cases x with
 |tmp t=>exact Bf2 t c l
 |const v=>exact Bmb _ c
 |global g=>rfl
 |func f=>rfl
def Azk(l:List (Nat×AV)):List Operand->(List AV->Option α)->Option α
 |[],c=>c []
 |x::xs,c=>W1 l x λv=>Azk l xs λvs=>c (v::vs)
def Avh(l:List (Nat×AV)):∀(xs:List Operand) (c:List AV->Option α),Azk l xs c=c (Ev (Ac l) xs)
 |[],c=>rfl
 |x::xs,c=>by rw[Azk,Je,Avh l xs];rfl
def A6r(l:List (Nat×AV)):List (Nat×Operand)->(List (Nat×AV)->Option α)->Option α
 |[],c=>c []
 |x::xs,c=>W1 l x.2 λv=>A6r l xs λvs=>c ((x.1,v)::vs)
def A4q(l:List (Nat×AV)):∀(xs:List (Nat×Operand)) (c:List (Nat×AV)->Option α),A6r l xs c=c (Xu (Ac l) xs)
 |[],c=>rfl
 |x::xs,c=>by rw[A6r,Je,A4q l xs];rfl
def oK(x:Option AV)(c:AV->Option α):Option α:=match x with
 |some v=>c v
 |none=>none
section
variable(P:Program)[GW P]
def A7f(xs:List (Option AO))(l:List (Nat×AV))(j:Nat)(op:Op)(c:AV->Option (Nat×Nat×Nat)->Option α):Option α:=
 match op with
 |.move x=>W1 l x λv=>c v none
 |.assign x=>W1 l x λv=>c v none
 |.binOp o t x y w=>W1 l x λa=>W1 l y λb=>oK (if Pa P o t x y a b=true/\Mt y=false then Ft P o t a b else none) λv=>c v none
 |.makeInterface t x=>W1 l x λa=>match ti P t with
  |some T=>if T.k=.ifc then none else c (.iface t a) none
  |none=>none
 |.makeFunc fn f q=>Azk l f.toList λa=>Azk l q.toList λb=>c (.func fn a b) none
 |.build t ps=>A6r l ps.toList λa=>oK (Adg P t a) λv=>c v none
 |.unOp o t x=>W1 l x λa=>oK (aUn o a) λv=>c v none
 |.fieldAddr s x f=>W1 l x λa=>oK (J7 P s a f) λv=>c v none
 |.field t x f=>W1 l x λa=>oK (Aj3 P t a f) λv=>c v none
 |.nilCheck x=>W1 l x λa=>oK (Ai1 a) λv=>c v none
 |.load t a=>W1 l a λp=>match p with
  |.ptr o g r q=>match ti P t,xs[j]? with
   |some T,some (some (.rows g' st rs))=>match rs[r]? with
    |some row=>oK (Gm row q T.size T.k.agg) λv=>c v (some (o,g,g'))
    |none=>none
   |_,_=>none
  |.cp row q=>match ti P t with
   |some T=>oK (Gm row q T.size T.k.agg) λv=>c v none
   |none=>none
  |_=>none
 |op=>match A02 P xs (Ac l) j op with
  |some (v,q)=>c v q
  |none=>none
def Bad(xs:List (Option AO))(l:List (Nat×AV))(j:Nat)(op:Op)(c:AV->Option (Nat×Nat×Nat)->Option α):A7f P xs l j op c=match A02 P xs (Ac l) j op with
  |some (v,q)=>c v q
  |none=>none:=by
 unfold A7f
 split<;>first
  |rfl
  |(simp only[Je,Avh,A4q,A02,A37,B5,if_true,AQ];done)
  |(simp only[Je,Avh,A4q,A02,A37,B5,if_true,oK];(repeat' split)<;>simp_all)
def Agk (n:Nat)(all:List Oper)(xs:List (Option AO)):List Oper->List Nat->List (Nat×AV)->List (Nat×Nat)->List (Nat×Nat)->Option (List (Nat×AV)×List (Nat×Nat)×List (Nat×Nat))
 |[],_,l,A,B=>some (l,A,B)
 |o::ops,z,l,A,B=>if Ee n o.dst then match Cx all (Ac l) o,o.dst with
   |some true,some t=>A7f P xs l (z.headD 0) o.op λv q=>match q with
    |none=>Agk n all xs ops z ((t,v)::l) A B
    |some (D,g,g')=>Agk n all xs ops z.tail ((t,v)::l) ((D,g)::A) ((z.headD 0,g')::B)
   |some false,some t=>Agk n all xs ops z ((t,.und)::l) A B
   |some false,none=>Agk n all xs ops z l A B
   |_,_=>none
  else none
def Aem (n:Nat)(all:List Oper)(xs:List (Option AO)):Nat->D5->List Nat->List (Nat×AV)->Gn->List (Nat×Nat)->List (Nat×Nat)->Option (List (Nat×AV)×Gn×List (Nat×Nat)×List (Nat×Nat))
 |0,_,_,l,pend,A,B=>some (l,pend,A,B)
 |_+1,[],_,_,_,_,_=>none
 |K+1,(s,i)::plan,z,l,pend,A,B=>match all[i]? with
  |none=>none
  |some o=>if Ee n o.dst then match Cx all (Ac l) o,o.dst with
   |some true,some t=>if s then none else A7f P xs l (z.headD 0) o.op λv q=>match q with
    |none=>Aem n all xs K plan z ((t,v)::l) ((i,Ac l,v)::pend) A B
    |some (D,g,g')=>Aem n all xs K plan z.tail ((t,v)::l) ((i,Ac l,v)::pend) ((D,g)::A) ((z.headD 0,g')::B)
   |some false,some t=>Aem n all xs K plan z ((t,.und)::l) (bif s then pend else(i,Ac l,.und)::pend) A B
   |_,_=>none
  else none
end
variable{P:Program}{f:FuncId}{n:Nat}{d:FK}{β:Type}{γ:Type}{Q:Spec β}{m:R β}{ds:List AD}{u:AU}{k:List Item}{l:List (Nat×AV)}{h0:Aa}{ids:List Nat}{xs:List (Option AO)}{N:Nat}{pre:List (List Nat)}{i:Nat}{plan:D5}{pend:Gn}{l':List (Nat×AV)}{A2:List (Nat×Nat)}{B2:List (Nat×Nat)}{ops:List Oper}{pend':Gn}
section
variable[GW P]{F:γ→R β}{all:List Oper}
abbrev ixs (ids:List Nat)(B:List (Nat×Nat)):List (Nat×Nat):=B.map λq=>(ix ids q.1,q.2)
def Adx{rest:List Oper}(O:A2=ixs ids B2)(D:Ids h0 ids N)(G:xs.length=N)(hk:WO P f n d Q k all m rest (Ac l') ds (hp h0 ids xs) u):
  ∀{ops:List Oper} {V:List Nat} {l:List (Nat×AV)} {A B:List (Nat×Nat)},Agk P n all xs ops V l A B=some (l',A2,B2)->A=ixs ids B/\WO P f n d Q k all m (ops++rest) (Ac l) ds (hp h0 ids xs) u
 |[],V,l,A,B,z=>by simp only[Agk,AX,AP]at z;obtain⟨rfl,rfl,rfl⟩:=z;exact⟨O,hk⟩
 |o::ops,V,l,A,B,z=>by
  unfold Agk at z;split at z
  .rename_i S;split at z
   .rename_i t hw ht;rw[ht]at S;have step:∀{v:AV},B5 P (Ac l) (hp h0 ids xs) o.op=some v->WO P f n d Q k all m (ops++rest) (Ac ((t,v)::l)) ds (hp h0 ids xs) u->WO P f n d Q k all m (o::ops++rest) (Ac l) ds (hp h0 ids xs) u:=by intro v X W;refine Ow (by rw[ht];exact S) hw λhb K U Y hU=>Arb (t:=ds) X (Y _ _ _ _ ?_);rw[ht,Db];exact W
    rw[Bad]at z;split at z;case h_2=>cases z
    rename_i v q hr;split at z
    .obtain⟨h1,h2⟩:=Adx O D G hk z;exact⟨h1,step (Y3 D G hr (λ_ _ _ h=>by cases h)) h2⟩
    .rename_i ob g g';obtain⟨h1,h2⟩:=Adx O D G hk z;simp only[BM,CN,AP]at h1;exact⟨h1.2,step (Y3 D G hr (λo2 g2 Z h=>by cases h;exact h1.1)) h2⟩
   .rename_i t hw ht;rw[ht]at S;obtain⟨h1,h2⟩:=Adx O D G hk z;exact⟨h1,Aro (by rw[ht];exact S) hw (by rw[ht,Db];exact h2)⟩
   .rename_i hw ht;obtain⟨h1,h2⟩:=Adx O D G hk z;exact⟨h1,Aro (by rw[ht];rfl) hw (by rw[ht];exact h2)⟩
   .cases z
  .cases z
def Bmt(K:Nat)(z:List Nat){A B:List (Nat×Nat)}(hk:WO P f n d Q k all m (ops.drop K) (Ac l') ds (hp h0 ids xs) u)(D:Ids h0 ids N:=by assumption)(G:xs.length=N:=by rfl)(O:Agk P n all xs (ops.take K) z l [] []=some (l',A,B):=by rfl)(S:A=ixs ids B:=by rfl):WO P f n d Q k all m ops (Ac l) ds (hp h0 ids xs) u:=by have:=(Adx S D G hk O).2;rwa[DH]at this
def Aih{rest:D5}(V:A2=ixs ids B2)(G:Ids h0 ids N)(O:xs.length=N)(hk:WP P f n d Q k all pre m rest pend' (Ac l') ds (hp h0 ids xs) u):
  ∀{K:Nat} {plan:D5} {W:List Nat} {l:List (Nat×AV)} {pend:Gn} {A B:List (Nat×Nat)},plan.drop K=rest->Aem P n all xs K plan W l pend A B=some (l',pend',A2,B2)->A=ixs ids B/\WP P f n d Q k all pre m plan pend (Ac l) ds (hp h0 ids xs) u
 |0,plan,W,l,pend,A,B,hr,z=>by simp only[Aem,AX,AP]at z;obtain⟨rfl,rfl,rfl,rfl⟩:=z;simp only[DV]at hr;subst hr;exact⟨V,hk⟩
 |K+1,[],W,l,pend,A,B,hr,z=>by cases z
 |K+1,(s,i)::plan,W,l,pend,A,B,D,z=>by
  unfold Aem at z;rw[FE]at D;split at z
  .cases z
  rename_i o X;split at z
  .rename_i Y;split at z
   .rename_i t hw ht;split at z
    .cases z
    rename_i Z;have S:s=false:=by simpa using Z
    subst S;have step:∀{v:AV},B5 P (Ac l) (hp h0 ids xs) o.op=some v->WP P f n d Q k all pre m plan ((i,Ac l,v)::pend) (Ac ((t,v)::l)) ds (hp h0 ids xs) u->WP P f n d Q k all pre m ((false,i)::plan) pend (Ac l) ds (hp h0 ids xs) u:=by
     intro v hv aa hb K' U hK;simp only[Lk,X];refine⟨Y,?_⟩;have e:aF P all (Ac l) (hp h0 ids xs) o=some v:=by simp only[aF,hw,hv]
     rw[e];simp only[ht,Db];exact aa hb K' U hK
    rw[Bad]at z;split at z;case h_2=>cases z
    rename_i v q hr;split at z
    .obtain⟨h1,h2⟩:=Aih V G O hk D z;exact⟨h1,step (Y3 G O hr (λ_ _ _ h=>by cases h)) h2⟩
    .rename_i ob g g';obtain⟨h1,h2⟩:=Aih V G O hk D z;simp only[BM,CN,AP]at h1;exact⟨h1.2,step (Y3 G O hr (λo2 g2 ab h=>by cases h;exact h1.1)) h2⟩
   .rename_i t hw ht;obtain⟨h1,h2⟩:=Aih V G O hk D z;refine⟨h1,?_⟩;cases s with
    |true=>exact Asn X Y hw (by rw[ht,Db];exact h2)
    |false=>
     intro hb K' U hK;simp only[Lk,X];refine⟨Y,?_⟩;have e:aF P all (Ac l) (hp h0 ids xs) o=some .und:=by simp only[aF,hw]
     rw[e];simp only[ht,Db];exact h2 hb K' U hK
   .cases z
  .cases z
def Bl8(K:Nat)(z:List Nat){A B:List (Nat×Nat)}(hk:WP P f n d Q k all pre m (plan.drop K) pend' (Ac l') ds (hp h0 ids xs) u)(D:Ids h0 ids N:=by assumption)(G:xs.length=N:=by rfl)(O:Aem P n all xs K plan z l pend [] []=some (l',pend',A,B):=by rfl)(S:A=ixs ids B:=by rfl):WP P f n d Q k all pre m plan pend (Ac l) ds (hp h0 ids xs) u:=(Aih S D G hk rfl O).2
end
class HT (P:Program)(t:TypeId)(T:outParam TI):Prop where
 eq:ti P t=some T:=by kernel_rfl
class HP (P:Program)(fs:List (Nat×TypeId))(pl:outParam (List (Nat×Nat))):Prop where
 eq:Aex P fs=some pl:=by kernel_rfl
def Bln:Op->Bool
 |.call c=>match c.callee with
  |.value _=>true
  |.builtin .append=>true
  |.builtin .copy=>true
  |.builtin .recover=>true
  |.builtin .delete=>true
  |.builtin .clear=>true
  |_=>false
 |.store _ _ _=>true
 |.alloc _=>true
 |.box _ _=>true
 |.buildSlice _ _ _=>true
 |.makeSlice _ _ _=>true
 |.makeMap _ _=>true
 |.mapUpdate _ _ _ _=>true
 |.insert _ _ _ _=>true
 |.defer _=>true
 |.panic _=>true
 |_=>false
def A0r:Nat->List Oper->D5
 |_,[]=>[]
 |i,o::r=>(Bln o.op,i)::A0r (i+1) r
def Bmm (A:List Nat)(o:Oper):Nat:=o.after.toList.foldl (λa e=>bif Region.binds .any e then Nat.lor (Nat.lor a (Nat.shiftLeft 1 e.on)) (A.getD e.on 0)else a) 0
def Bjw:List Oper->List Nat->List Nat
 |[],A=>A
 |o::r,A=>Bjw r (A++[Bmm A o])
def prC (ops:List Oper):List (List Nat):=prL (Bjw ops [])
def Bl3 (is:List Nat)(ops:List Oper):D5:=is.map λi=>match ops[i]? with
 |some o=>(Bln o.op,i)
 |none=>(false,i)
def Azh:Nat->List AV->(List AV->Option α)->Option α
 |0,_,c=>c []
 |_+1,[],c=>c []
 |n+1,v::r,c=>Azh n r λl=>c (v::l)
def Azu:∀(n:Nat) (r:List AV) (c:List AV->Option α),Azh n r c=c (r.take n)
 |0,_,c=>by rw[FB];rfl
 |_+1,[],c=>rfl
 |n+1,v::r,c=>by rw[Azh,Azu n r];rfl
def Az5:Nat->List AV->(AV->Option α)->Option α
 |_,[],_=>none
 |0,v::_,c=>c v
 |n+1,_::r,c=>Az5 n r c
def A4h:∀(n:Nat) (r:List AV) (c:AV->Option α),Az5 n r c=if n<r.length then c (r.getD n .und)else none
 |n,[],c=>by cases n<;>rfl
 |0,v::r,c=>by simp[Az5]
 |n+1,v::r,c=>by rw[Az5,A4h n r];simp
def rdK(row:List AV)(c n:Nat)(agg:Bool)(k:AV->Option α):Option α:=match agg with
 |false=>Az5 c row k
 |true=>bif Nat.beq c 0&&Nat.beq n row.length then k (.agg row)else bif Nat.ble (c+n) row.length then Azh n (row.drop c) λl=>k (.agg l)else none
variable{v:AV}
def Anb{row:List AV}{c:Nat}{agg:Bool}(h:rdK row c n agg some=some v):Gm row c n agg=some v:=by
 cases agg with
 |false=>simp only[rdK,A4h]at h;simpa[Gm]using h
 |true=>
  simp only[rdK,Azu]at h;simp only[Gm,if_true];cases z:(Nat.beq c 0&&Nat.beq n row.length)with
  |true=>rw[z]at h;simp only[AK]at z;have h1:=AY z.1;have h2:=AY z.2;subst h1;subst h2;simp only[GM]at h;simpa using h
  |false=>
   rw[z]at h;simp only[GO]at h;cases hr:Nat.ble (c+n) row.length with
   |false=>rw[hr]at h;cases h
   |true=>rw[hr]at h;rw[if_pos (CH hr)];exact h
def A76:BinOp->Bool
 |.sub=>true
 |.mul=>true
 |.lss=>true
 |.leq=>true
 |.gtr=>true
 |.geq=>true
 |_=>false
def Asu:Op->Bool
 |.move _=>true
 |.assign _=>true
 |.nilCheck _=>true
 |.extract _ _=>true
 |.makeFunc _ _ _=>true
 |.unOp _ _ _=>true
 |.binOp o _ _ _ _=>A76 o
 |_=>false
def Bju:List Oper->Bool
 |o::_=>match o.guard,o.dst with
  |none,some _=>Asu o.op
  |_,_=>false
 |[]=>false
variable{op:Op}
section
variable(P:Program)[GW P]
def rxV(l:List (Nat×AV))(op:Op)(c:AV->Option α):Option α:=
 match op with
 |.move x=>W1 l x c
 |.assign x=>W1 l x c
 |.binOp o t x y w=>bif A76 o then W1 l x λa=>W1 l y λb=>oK (if Pa P o t x y a b=true/\Mt y=false then Ft P o t a b else none) c else none
 |.makeFunc fn f q=>Azk l f.toList λa=>Azk l q.toList λb=>c (.func fn a b)
 |.unOp o t x=>W1 l x λa=>oK (aUn o a) c
 |.nilCheck x=>W1 l x λa=>oK (Ai1 a) c
 |.extract x i=>W1 l x λa=>oK (Ai9 a i) c
 |_=>none
def Aoq{c:AV->Option α}{r:α}(hr:rxV P l op c=some r):∃v,B5 P (Ac l) h op=some v/\c v=some r:=by
 unfold rxV at hr;split at hr
 .rw[Je]at hr;exact⟨_,rfl,hr⟩
 .rw[Je]at hr;exact⟨_,rfl,hr⟩
 .rename_i o t x y w;cases A:A76 o with
  |false=>rw[A]at hr;cases hr
  |true=>
   rw[A,GM,Je,Je]at hr;unfold oK at hr;split at hr
   .rename_i v z;exact⟨v,by simpa only[B5]using z,hr⟩
   .cases hr
 .rw[Avh,Avh]at hr;exact⟨_,rfl,hr⟩
 .rw[Je]at hr;unfold oK at hr;split at hr
  .rename_i v z;exact⟨v,z,hr⟩
  .cases hr
 .rw[Je]at hr;unfold oK at hr;split at hr
  .rename_i v z;exact⟨v,z,hr⟩
  .cases hr
 .rw[Je]at hr;unfold oK at hr;split at hr
  .rename_i v z;exact⟨v,z,hr⟩
  .cases hr
 .cases hr
def rx(n:Nat):List Oper->List (Nat×AV)->(List Oper->List (Nat×AV)->Option α)->Option α
 |[],l,c=>c [] l
 |o::r,l,c=>match o.guard,o.dst with
  |none,some t=>bif Asu o.op then bif Nat.blt t n then rxV P l o.op λv=>rx n r ((t,v)::l) c else none else c (o::r) l
  |_,_=>c (o::r) l
def rxP(n:Nat)(all:List Oper):D5->List (Nat×AV)->Gn->(D5->List (Nat×AV)->Gn->Option α)->Option α
 |[],l,p,c=>c [] l p
 |(true,i)::r,l,p,c=>c ((true,i)::r) l p
 |(false,i)::r,l,p,c=>match all[i]? with
  |none=>none
  |some o=>match o.guard,o.dst with
   |none,some t=>bif Asu o.op then bif Nat.blt t n then rxV P l o.op λv=>rxP n all r ((t,v)::l) ((i,Ac l,v)::p) c else none else c ((false,i)::r) l p
   |_,_=>c ((false,i)::r) l p
def Blt (all:List Oper):D5->Bool
 |(false,i)::_=>match all[i]? with
  |some o=>Bju [o]
  |none=>false
 |_=>false
end
variable{ty:TypeId}{after:Array Edge}{gd:Option (Nat×Bool)}{t:Nat}{fr:Nat→AV}{tt:TypeId}{a':Operand}{st:Nat}{rr:Nat}{j:Nat}{T:TI}{e:α→List AV}{s':TypeId}{fi:Nat}{off:Nat}{a:Nat}{b:Nat}{fs:List (Nat×TypeId)}{z:List AV}{w':TypeId}{b':Operand}{ik:IntKind}{et:TypeId}{i':Operand}{iv:Int}{z1:List AV}{z2:List AV}{bb:Bool}{j':Operand}{jk:IntKind}{hi':Int}{dst:Option Nat}{x:Operand}{ts:Array TypeId}{bo:BinOp}{todo:List Item}{y:Code}{π:Type}{Rs:π→R γ}{G:π→List (Nat×AV)}{c:Code}{id:Nat}{ys:List (Option AO)}{σ:Type}{s0:σ}{ε:Type}{r0:List Oper}{rest:α→R γ}{X:σ→List (Option AO)}{ii:Int}
section
variable[GW P]{all r:List Oper}{pos:String}{F:γ→R β}
def A2f(z:B5 P (Ac l) h op=some v)(hk:WO P f n d Q k all m r (Ac ((t,v)::l)) ds h u)(ht:Nat.blt t n=true)(hw:Cx all (Ac l) ⟨some t,op,ty,pos,after,gd⟩=some true): WO P f n d Q k all m (⟨some t,op,ty,pos,after,gd⟩::r) (Ac l) ds h u:=Ow (by simpa[Ee]using ht) hw λD K U A G=>Arb (t:=ds) z (A _ _ _ _ (by rw[Db];exact hk))
def Nu (P:Program)[GW P](f:FuncId)(n:Nat)(d:FK)(Q:Spec β)(k:List Item)(all:List Oper)(pre:List (List Nat))(m:R β)(s:Bool)(o:Oper)(i:Nat)(plan:D5)(pend:Gn)(fr:Nat->AV)(ds:List AD)(h:Aa)(u:AU):Prop:=all[i]?=some o->WP P f n d Q k all pre m ((s,i)::plan) pend fr ds h u
def Bbc{s:Bool}{o:Oper}(hr:Nu P f n d Q k all pre m s o i plan pend fr ds h u)(z:all[i]?=some o:=by exact rfl):WP P f n d Q k all pre m ((s,i)::plan) pend fr ds h u:=hr z
def A7w(z:B5 P (Ac l) h op=some v)(hk:WP P f n d Q k all pre m plan ((i,Ac l,v)::pend) (Ac ((t,v)::l)) ds h u)(A:all[i]?=some ⟨some t,op,ty,pos,after,gd⟩)(ht:Nat.blt t n=true)(hw:Cx all (Ac l) ⟨some t,op,ty,pos,after,gd⟩=some true):
  WP P f n d Q k all pre m ((false,i)::plan) pend (Ac l) ds h u:=by
 intro D K U G
 simp only[Lk,A]
 refine⟨by simpa[Ee]using ht,?_⟩
 have e:aF P all (Ac l) h ⟨some t,op,ty,pos,after,gd⟩=some v:=by simp only[aF,hw,z]
 rw[e]
 simp only[Db]
 exact hk D K U G
def Azo{rest:List Oper}(hk:WO P f n d Q k all m rest (Ac l') ds h u):∀{ops:List Oper} {l:List (Nat×AV)},rx P n ops l (λr l=>some (r,l))=some (rest,l')->WO P f n d Q k all m ops (Ac l) ds h u
 |[],l,z=>by simp only[rx,AX,AP]at z;obtain⟨rfl,rfl⟩:=z;exact hk
 |⟨dst,op,ty,pos,after,gd⟩::r,l,z=>by
  unfold rx at z;simp only at z;split at z
  .rename_i t;cases A:Asu op with
   |false=>rw[A]at z;simp only[GO,AX,AP]at z;obtain⟨rfl,rfl⟩:=z;exact hk
   |true=>
    rw[A,GM]at z;cases ht:Nat.blt t n with
    |false=>rw[ht]at z;cases z
    |true=>rw[ht,GM]at z;obtain⟨v,D,z⟩:=Aoq P (h:=h) z;exact A2f D (Azo hk z) ht rfl
  .simp only[AX,AP]at z;obtain⟨rfl,rfl⟩:=z;exact hk
def Bj7{rest:List Oper}(hk:WO P f n d Q k all m rest (Ac l') ds h u)(A:Bju ops=true:=by exact rfl)(z:rx P n ops l (λr l=>some (r,l))=some (rest,l'):=by exact rfl):WO P f n d Q k all m ops (Ac l) ds h u:=Azo hk z
def Aw6{rest:D5}(hk:WP P f n d Q k all pre m rest pend' (Ac l') ds h u):∀{plan:D5} {l:List (Nat×AV)} {pend:Gn},rxP P n all plan l pend (λr l p=>some (r,l,p))=some (rest,l',pend')->WP P f n d Q k all pre m plan pend (Ac l) ds h u
 |[],l,p,z=>by simp only[rxP,AX,AP]at z;obtain⟨rfl,rfl,rfl⟩:=z;exact hk
 |(true,i)::r,l,p,z=>by simp only[rxP,AX,AP]at z;obtain⟨rfl,rfl,rfl⟩:=z;exact hk
 |(false,i)::r,l,p,z=>by
  unfold rxP at z;split at z
  .cases z
  rename_i o D;obtain⟨dst,op,ty,pos,after,gd⟩:=o;simp only at z;split at z
  .rename_i t;cases A:Asu op with
   |false=>rw[A]at z;simp only[GO,AX,AP]at z;obtain⟨rfl,rfl,rfl⟩:=z;exact hk
   |true=>
    rw[A,GM]at z;cases ht:Nat.blt t n with
    |false=>rw[ht]at z;cases z
    |true=>rw[ht,GM]at z;obtain⟨v,G,z⟩:=Aoq P (h:=h) z;exact A7w G (Aw6 hk z) D ht rfl
  .simp only[AX,AP]at z;obtain⟨rfl,rfl,rfl⟩:=z;exact hk
def Bkn{rest:D5}(hk:WP P f n d Q k all pre m rest pend' (Ac l') ds h u)(A:Blt all plan=true:=by exact rfl)(z:rxP P n all plan l pend (λr l p=>some (r,l,p))=some (rest,l',pend'):=by exact rfl):WP P f n d Q k all pre m plan pend (Ac l) ds h u:=Aw6 hk z
def o_g{g:Nat×Bool}(hk:WO P f n d Q k all m r (Ac ((t,v)::l)) ds h u)(A:Asu op=true:=by exact rfl)(hw:Cx all (Ac l) ⟨some t,op,ty,pos,after,some g⟩=some true:=by exact rfl)(z:rxV P l op some=some v:=by exact rfl)(ht:Nat.blt t n=true:=by exact rfl):
  WO P f n d Q k all m (⟨some t,op,ty,pos,after,some g⟩::r) (Ac l) ds h u:=by
 obtain⟨w,h1,h2⟩:=Aoq P (h:=h) z
 obtain rfl:=AS h2
 exact A2f h1 hk ht hw
def p_g{g:Nat×Bool}(hk:WP P f n d Q k all pre m plan ((i,Ac l,v)::pend) (Ac ((t,v)::l)) ds h u)(D:Asu op=true:=by exact rfl)(hw:Cx all (Ac l) ⟨some t,op,ty,pos,after,some g⟩=some true:=by exact rfl)(z:rxV P l op some=some v:=by exact rfl)(ht:Nat.blt t n=true:=by exact rfl):
  Nu P f n d Q k all pre m false ⟨some t,op,ty,pos,after,some g⟩ i plan pend (Ac l) ds h u:=λA=>by
 obtain⟨w,h1,h2⟩:=Aoq P (h:=h) z
 obtain rfl:=AS h2
 exact A7w h1 hk A ht hw
def Be8{g:Nat×Bool}(hk:WO P f n d Q k all m r (Ac ((t,.und)::l)) ds h u)(hw:Cx all (Ac l) ⟨some t,op,ty,pos,after,some g⟩=some false:=by exact rfl)(ht:Nat.blt t n=true:=by exact rfl): WO P f n d Q k all m (⟨some t,op,ty,pos,after,some g⟩::r) (Ac l) ds h u:=Aro (by simpa[Ee]using ht) hw (by rw[Db];exact hk)
def A8q{g:Nat×Bool}(hk:WO P f n d Q k all m r (Ac l) ds h u)(hw:Cx all (Ac l) ⟨none,op,ty,pos,after,some g⟩=some false:=by exact rfl): WO P f n d Q k all m (⟨none,op,ty,pos,after,some g⟩::r) (Ac l) ds h u:=Aro rfl hw hk
def Bfw{g:Nat×Bool}(hk:WP P f n d Q k all pre m plan ((i,Ac l,.und)::pend) (Ac ((t,.und)::l)) ds h u)(hw:Cx all (Ac l) ⟨some t,op,ty,pos,after,some g⟩=some false:=by exact rfl)(ht:Nat.blt t n=true:=by exact rfl):
  Nu P f n d Q k all pre m false ⟨some t,op,ty,pos,after,some g⟩ i plan pend (Ac l) ds h u:=λz=>by
 intro A K U D
 simp only[Lk,z]
 refine⟨by simpa[Ee]using ht,?_⟩
 have e:aF P all (Ac l) h ⟨some t,op,ty,pos,after,some g⟩=some .und:=by simp only[aF,hw]
 rw[e]
 simp only[Db]
 exact hk A K U D
def A5n{g:Nat×Bool}(hk:WP P f n d Q k all pre m plan pend (Ac ((t,.und)::l)) ds h u)(hw:Cx all (Ac l) ⟨some t,op,ty,pos,after,some g⟩=some false:=by exact rfl)(ht:Nat.blt t n=true:=by exact rfl): Nu P f n d Q k all pre m true ⟨some t,op,ty,pos,after,some g⟩ i plan pend (Ac l) ds h u:=λz=>Asn z (by simpa[Ee]using ht) hw (by rw[Db];exact hk)
def Eo(hk:WO P f n d Q k all m r (Ac ((t,v)::l)) ds h u)(z:B5 P (Ac l) h op=some v)(ht:Nat.blt t n=true:=by exact rfl)(hw:Cx all (Ac l) ⟨some t,op,ty,pos,after,gd⟩=some true:=by exact rfl): WO P f n d Q k all m (⟨some t,op,ty,pos,after,gd⟩::r) (Ac l) ds h u:=A2f z hk ht hw
def Em(hk:WP P f n d Q k all pre m plan ((i,Ac l,v)::pend) (Ac ((t,v)::l)) ds h u)(z:B5 P (Ac l) h op=some v)(ht:Nat.blt t n=true:=by exact rfl)(hw:Cx all (Ac l) ⟨some t,op,ty,pos,after,gd⟩=some true:=by exact rfl): Nu P f n d Q k all pre m false ⟨some t,op,ty,pos,after,gd⟩ i plan pend (Ac l) ds h u:=λA=>A7w z hk A ht hw
def Ayo{g c:Nat}{rs:List (List AV)}{row:List AV}(z:ev (Ac l) a'=.ptr (ix ids j) g rr c:=by exact rfl)(A:xs[j]?=some (some (.rows g st rs)):=by exact rfl)(D:HT P tt T:=by infer_instance)(G:Ids h0 ids N:=by assumption)(O:xs.length=N:=by exact rfl)(hr:rs[rr]?=some row:=by exact rfl)(S:rdK row c T.size T.k.agg some=some v:=by exact rfl):B5 P (Ac l) (hp h0 ids xs) (.load tt a')=some v:=(by show O6 P _ tt (ev (Ac l) a')=_;rw[z];exact Ar G O A hr D.eq (Anb S))
def Azd{c:Nat}{row:List AV}(z:ev (Ac l) a'=.cp row c:=by exact rfl)(A:HT P tt T:=by infer_instance)(D:rdK row c T.size T.k.agg some=some v:=by exact rfl):B5 P (Ac l) h (.load tt a')=some v:=(by show O6 P _ tt (ev (Ac l) a')=_;rw[z];exact Y9 A.eq (Anb D))
def Ayu{g c:Nat}{L:List α}{x:α}{A:AV}(D:ev (Ac l) a'=.ptr (ix ids j) g rr c:=by exact rfl)(G:xs[j]?=some (Af A g st (L.map e)):=by exact rfl)(O:HT P tt T:=by infer_instance)(S:Ids h0 ids N:=by assumption)(U:xs.length=N:=by exact rfl)(V:L[rr]?=some x:=by assumption)(W:rdK (e x) c T.size T.k.agg some=some v:=by exact rfl)(z:Av A (ix ids j) g L.length:=by assumption):B5 P (Ac l) (hp h0 ids xs) (.load tt a')=some v:=(by show O6 P _ tt (ev (Ac l) a')=_;rw[D];exact Ajg S U z G V O.eq (Anb W))
def Ayc{o g c A:Nat}(D:ev (Ac l) a'=.ptr o g rr c:=by exact rfl)(G:HT P s' ⟨.st fs,a,b,z⟩:=by infer_instance)(hf:fs[fi]?=some (off,A):=by exact rfl)(O:HT P A T:=by infer_instance)(hz:Nat.beq T.size 0=false:=by exact rfl):B5 P (Ac l) h (.fieldAddr s' a' fi)=some (.ptr o g rr (c+off)):=(by show J7 P s' (ev (Ac l) a') fi=_;rw[D];exact Ba7 G.eq hf O.eq hz)
def Ayq{c A:Nat}{row:List AV}(D:ev (Ac l) a'=.cp row c:=by exact rfl)(G:HT P s' ⟨.st fs,a,b,z⟩:=by infer_instance)(hf:fs[fi]?=some (off,A):=by exact rfl)(O:HT P A T:=by infer_instance)(hz:Nat.beq T.size 0=false:=by exact rfl):B5 P (Ac l) h (.fieldAddr s' a' fi)=some (.cp row (c+off)):=(by show J7 P s' (ev (Ac l) a') fi=_;rw[D];exact Bl0 G.eq hf O.eq hz)
def A6g{A:Nat}{row:List AV}(D:ev (Ac l) a'=.agg row:=by exact rfl)(G:HT P s' ⟨.st fs,a,b,z⟩:=by infer_instance)(hf:fs[fi]?=some (off,A):=by exact rfl)(O:HT P A T:=by infer_instance)(S:rdK row off T.size T.k.agg some=some v:=by exact rfl):B5 P (Ac l) h (.field s' a' fi)=some v:=(by show Aj3 P s' (ev (Ac l) a') fi=_;rw[D];exact Bkb G.eq hf O.eq (Anb S))
def A66(A:ev (Ac l) a'=v:=by exact rfl)(D:HT P tt T:=by infer_instance)(z:T.k≠.ifc:=by decide):B5 P (Ac l) h (.makeInterface tt a')=some (.iface tt v):=(by rw[<-A];exact Bc1 D.eq z)
def A7u{ps:List (Nat×Operand)}{cs:List AV}{A:List (Nat×Nat)}(G:HT P tt ⟨.st fs,a,b,z⟩:=by infer_instance)(hp:HP P fs A:=by infer_instance)(D:A6r l ps (λq=>Ta (λi=>A[i]?) z q)=some cs:=by exact rfl):B5 P (Ac l) h (.build tt ⟨ps⟩)=some (.agg cs):=(Ai4 (A6y G.eq hp.eq (by rw[A4q]at D;exact D)))
def Ayg{x y:Int}(z:ev (Ac l) a'=.int ik x:=by exact rfl)(A:ev (Ac l) b'=.int ik y:=by exact rfl)(D:Mt b'=false:=by exact rfl):B5 P (Ac l) h (.binOp .eql tt a' b' w')=some (.bool (x==y)):=(Bb (by rw[z,A];rfl) D (by rw[z,A];simp only[Ft,if_true]))
def Azb{x y:Int}(z:ev (Ac l) a'=.int ik x:=by exact rfl)(A:ev (Ac l) b'=.int ik y:=by exact rfl)(D:Mt b'=false:=by exact rfl):B5 P (Ac l) h (.binOp .neq tt a' b' w')=some (.bool (x !=y)):=(Bb (by rw[z,A];rfl) D (by rw[z,A];simp only[Ft,if_true]))
def Ay3{x y:List UInt8}(z:W1 l a' some=some (.str x):=by exact rfl)(A:W1 l b' some=some (.str y):=by exact rfl)(D:Mt b'=false:=by exact rfl):B5 P (Ac l) h (.binOp .eql tt a' b' w')=some (.bool (x==y)):=(by rw[Je]at z A;replace z:=AS z;replace A:=AS A;exact Bb (by rw[z,A];rfl) D (by rw[z,A];simp only[Ft]))
def Ay7{x y:List UInt8}(z:W1 l a' some=some (.str x):=by exact rfl)(A:W1 l b' some=some (.str y):=by exact rfl)(D:Mt b'=false:=by exact rfl):B5 P (Ac l) h (.binOp .neq tt a' b' w')=some (.bool (!(x==y))):=(by rw[Je]at z A;replace z:=AS z;replace A:=AS A;exact Bb (by rw[z,A];rfl) D (by rw[z,A];simp only[Ft]))
def Ayx{x y:Bool}(A:ev (Ac l) a'=.bool x:=by exact rfl)(D:ev (Ac l) b'=.bool y:=by exact rfl)(G:HT P tt ⟨.bool,a,b,z⟩:=by infer_instance)(O:Mt b'=false:=by exact rfl):B5 P (Ac l) h (.binOp .eql tt a' b' w')=some (.bool (x==y)):=(Bb (by rw[A,D];rfl) O (by rw[A,D];exact Bhh G.eq))
def Ay6{x y:Bool}(A:ev (Ac l) a'=.bool x:=by exact rfl)(D:ev (Ac l) b'=.bool y:=by exact rfl)(G:HT P tt ⟨.bool,a,b,z⟩:=by infer_instance)(O:Mt b'=false:=by exact rfl):B5 P (Ac l) h (.binOp .neq tt a' b' w')=some (.bool (!(x==y))):=(Bb (by rw[A,D];rfl) O (by rw[A,D];exact Biw G.eq))
def Ay1{x y:Int}(z:ev (Ac l) a'=.int ik x:=by exact rfl)(A:ev (Ac l) b'=.int ik y:=by exact rfl)(D:Mt b'=false:=by exact rfl):B5 P (Ac l) h (.binOp .add tt a' b' w')=some (.int ik (ik.wrap (x+y))):=(Bb (by rw[z,A];rfl) D (by rw[z,A];simp only[Ft,if_true]))
def Azc{x y:Int}(A:ev (Ac l) a'=.int ik x:=by exact rfl)(D:ev (Ac l) b'=.int ik y:=by exact rfl)(G:Mt b'=false:=by exact rfl)(z:y≠0:=by first|assumption|decide):B5 P (Ac l) h (.binOp .quo tt a' b' w')=some (.int ik (ik.wrap (x.tdiv y))):=(Bb (by rw[A,D];rfl) G (by rw[A,D];exact Bgi rfl z))
def Ax9{x y:Int}(A:ev (Ac l) a'=.int ik x:=by exact rfl)(D:ev (Ac l) b'=.int ik y:=by exact rfl)(G:Mt b'=false:=by exact rfl)(z:y≠0:=by first|assumption|decide):B5 P (Ac l) h (.binOp .rem tt a' b' w')=some (.int ik (x.tmod y)):=(Bb (by rw[A,D];rfl) G (by rw[A,D];exact Amc rfl z))
def Aym{iv:Nat}{E:TI}{L:List α}{x:α}(A:ev (Ac l) a'=.sl st (L.map e):=by exact rfl)(hi:ev (Ac l) i'=.int ik (iv:Int):=by exact rfl)(D:L[iv]?=some x:=by assumption)(G:HT P tt ⟨.sl et,a,b,z⟩:=by infer_instance)(hE:HT P et E:=by infer_instance)(O:st=E.size:=by exact rfl):B5 P (Ac l) h (.indexAddr tt a' i')=some (.cp (e x) 0):=(Ay (by rw[A,hi];exact Ex G.eq hE.eq O D))
def Ay2{E:TI}{L:List α}{x:α}(D:ev (Ac l) a'=.sl st (L.map e):=by exact rfl)(hi:ev (Ac l) i'=.int ik iv:=by exact rfl)(G:L[iv.toNat]?=some x:=by assumption)(A:0<=iv:=by assumption)(O:HT P tt ⟨.sl et,a,b,z⟩:=by infer_instance)(hE:HT P et E:=by infer_instance)(S:st=E.size:=by exact rfl):B5 P (Ac l) h (.indexAddr tt a' i')=some (.cp (e x) 0):=(Ay (by rw[D,hi];exact Ajb O.eq hE.eq S A G))
def Aze{iv:Nat}{L:List UInt8}{x:UInt8}(A:W1 l a' some=some (.str L):=by exact rfl)(hi:ev (Ac l) i'=.int ik (iv:Int):=by exact rfl)(D:L[iv]?=some x:=by assumption)(G:HT P tt ⟨.str,a,b,z⟩:=by infer_instance):B5 P (Ac l) h (.index tt a' i')=some (.int .u8 (x.toNat:Int)):=(by rw[Je]at A;replace A:=AS A;exact Ayi (by rw[A,hi];exact Bgs G.eq D))
def Ay5{L:List UInt8}{x:UInt8}(A:W1 l a' some=some (.str L):=by exact rfl)(hi:ev (Ac l) i'=.int ik iv:=by exact rfl)(G:L[iv.toNat]?=some x:=by assumption)(D:0<=iv:=by assumption)(O:HT P tt ⟨.str,a,b,z⟩:=by infer_instance):B5 P (Ac l) h (.index tt a' i')=some (.int .u8 (x.toNat:Int)):=(by rw[Je]at A;replace A:=AS A;exact Ayi (by rw[A,hi];exact A87 O.eq D G))
def Aza{k1 k2:IntKind}{x:Int}{c e':Nat}(z:ev (Ac l) a'=.int ik x:=by exact rfl)(A:HT P s' ⟨.int k1,a,b,z1⟩:=by infer_instance)(D:HT P tt ⟨.int k2,c,e',z2⟩:=by infer_instance):B5 P (Ac l) h (.convert s' tt a')=some (.int k2 (k2.wrap x)):=(Vm (by rw[z];exact Aai A.eq D.eq))
def Ayt{x:List UInt8}{c e':Nat}(z:W1 l a' some=some (.str x):=by exact rfl)(A:HT P s' ⟨.str,a,b,z1⟩:=by infer_instance)(D:HT P tt ⟨.str,c,e',z2⟩:=by infer_instance):B5 P (Ac l) h (.convert s' tt a')=some (.str x):=(by rw[Je]at z;replace z:=AS z;exact Vm (by rw[z];exact Bkx A.eq D.eq))
def Ay4{x:List UInt8}(A:W1 l a' some=some (.str x):=by exact rfl)(D:HT P tt ⟨.str,a,b,z⟩:=by infer_instance):B5 P (Ac l) h (.call ⟨.builtin .len,⟨[a']⟩,⟨[tt]⟩⟩)=some (.int .i64 (x.length:Int)):=(by rw[Je]at A;replace A:=AS A;exact D4 (by rw[A];exact Ain D.eq))
def Bfb{o g q:Nat}(A:ev (Ac l) a'=v:=by exact rfl)(D:Av v o g q:=by assumption)(G:HT P tt ⟨.sl et,a,b,z⟩:=by infer_instance):B5 P (Ac l) h (.call ⟨.builtin .len,⟨[a']⟩,⟨[tt]⟩⟩)=some (.int .i64 (q:Int)):=(D4 (by rw[A];exact D.len G.eq))
def Ay8{ss:TypeId}(A:ev (Ac l) a'=.iface tt v:=by exact rfl)(D:HT P tt T:=by infer_instance)(z:T.k≠.ifc:=by decide):B5 P (Ac l) h (.typeAssert a' ss tt true)=some (.tup [v,.bool true]):=(Pb (by rw[A];exact Amv D.eq z))
def Ayn{ss:TypeId}(A:ev (Ac l) a'=.iface tt v:=by exact rfl)(D:HT P tt T:=by infer_instance)(z:T.k≠.ifc:=by decide):B5 P (Ac l) h (.typeAssert a' ss tt false)=some v:=(Pb (by rw[A];exact A7x D.eq z))
def Ay0{z:Operand}(D:ev (Ac l) z=.bool bb:=by exact rfl)(G:bb=true:=by with_reducible exact rfl)(A:W1 l a' some=some v:=by exact rfl):B5 P (Ac l) h (.pick z a' b')=some v:=(by subst G;rw[Je]at A;exact Aer D (AS A))
def Ax8{z:Operand}(D:ev (Ac l) z=.bool bb:=by exact rfl)(G:bb=false:=by with_reducible exact rfl)(A:W1 l b' some=some v:=by exact rfl):B5 P (Ac l) h (.pick z a' b')=some v:=(by subst G;rw[Je]at A;exact Aer D (AS A))
def Ayh{lo:Int}{E:TI}{L:List α}(A:ev (Ac l) a'=.sl st (L.map e):=by exact rfl)(hi:ev (Ac l) i'=.int ik lo:=by exact rfl)(D:0<=lo/\lo<=(L.length:Int):=by assumption)(G:HT P tt ⟨.sl et,a,b,z⟩:=by infer_instance)(hE:HT P et E:=by infer_instance)(O:st=E.size:=by exact rfl):B5 P (Ac l) h (.slice tt a' (some i') none none)=some (.sl st ((L.drop lo.toNat).map e)):=(Ea (by simp only[AQ,ER,A,hi];exact Am0 G.eq hE.eq O D))
def A7i{lo:Int}{E:TI}{L:List α}(A:ev (Ac l) a'=.sl st (L.map e):=by exact rfl)(hi:ev (Ac l) i'=.int ik lo:=by exact rfl)(D:ev (Ac l) j'=.int jk hi':=by exact rfl)(G:0<=lo/\lo<=hi'/\hi'<=(L.length:Int):=by assumption)(O:HT P tt ⟨.sl et,a,b,z⟩:=by infer_instance)(hE:HT P et E:=by infer_instance)(S:st=E.size:=by exact rfl):B5 P (Ac l) h (.slice tt a' (some i') (some j') none)=some (.sl st ((cut L lo hi').map e)):=(Ea (by simp only[AQ,ER,A,hi,D];exact Bmn O.eq hE.eq S G))
def Azg{E:TI}{L:List α}(A:ev (Ac l) a'=.sl st (L.map e):=by exact rfl)(D:ev (Ac l) j'=.int jk hi':=by exact rfl)(G:0<=hi'/\hi'<=(L.length:Int):=by assumption)(O:HT P tt ⟨.sl et,a,b,z⟩:=by infer_instance)(hE:HT P et E:=by infer_instance)(S:st=E.size:=by exact rfl):B5 P (Ac l) h (.slice tt a' none (some j') none)=some (.sl st ((L.take hi'.toNat).map e)):=(Ea (by simp only[AQ,ER,A,D];exact At3 O.eq hE.eq S G))
def Azi{lo:Int}{L:List UInt8}(A:W1 l a' some=some (.str L):=by exact rfl)(hi:ev (Ac l) i'=.int ik lo:=by exact rfl)(D:0<=lo/\lo<=(L.length:Int):=by assumption)(G:HT P tt ⟨.str,a,b,z⟩:=by infer_instance):B5 P (Ac l) h (.slice tt a' (some i') none none)=some (.str (L.drop lo.toNat)):=(by rw[Je]at A;replace A:=AS A;exact Ea (by simp only[AQ,ER,A,hi];exact Avm G.eq D))
def A6l{lo:Int}{L:List UInt8}(A:W1 l a' some=some (.str L):=by exact rfl)(hi:ev (Ac l) i'=.int ik lo:=by exact rfl)(D:ev (Ac l) j'=.int jk hi':=by exact rfl)(G:0<=lo/\lo<=hi'/\hi'<=(L.length:Int):=by assumption)(O:HT P tt ⟨.str,a,b,z⟩:=by infer_instance):B5 P (Ac l) h (.slice tt a' (some i') (some j') none)=some (.str (cut L lo hi')):=(by rw[Je]at A;replace A:=AS A;exact Ea (by simp only[AQ,ER,A,hi,D];exact Bbi O.eq G))
def Ax6{L:List UInt8}(A:W1 l a' some=some (.str L):=by exact rfl)(D:ev (Ac l) j'=.int jk hi':=by exact rfl)(G:0<=hi'/\hi'<=(L.length:Int):=by assumption)(O:HT P tt ⟨.str,a,b,z⟩:=by infer_instance):B5 P (Ac l) h (.slice tt a' none (some j') none)=some (.str (L.take hi'.toNat)):=(by rw[Je]at A;replace A:=AS A;exact Ea (by simp only[AQ,ER,A,D];exact Bgf O.eq G))
def A5f(hr:WO P f n d Q k all m (⟨dst,.load tt a',ty,pos,after,gd⟩::r) fr ds h u):WO P f n d Q k all m (⟨dst,.load tt a',ty,pos,after,gd⟩::r) fr ds h u:=hr
def A4x{s:Bool}(hr:Nu P f n d Q k all pre m s ⟨dst,.load tt a',ty,pos,after,gd⟩ i plan pend fr ds h u):Nu P f n d Q k all pre m s ⟨dst,.load tt a',ty,pos,after,gd⟩ i plan pend fr ds h u:=hr
def Bav{aS:Array Operand}(hr:WO P f n d Q k all m (⟨dst,.call ⟨.value x,aS,ts⟩,ty,pos,after,gd⟩::r) fr ds h u):WO P f n d Q k all m (⟨dst,.call ⟨.value x,aS,ts⟩,ty,pos,after,gd⟩::r) fr ds h u:=hr
def A93{s:Bool}{aS:Array Operand}(hr:Nu P f n d Q k all pre m s ⟨dst,.call ⟨.value x,aS,ts⟩,ty,pos,after,gd⟩ i plan pend fr ds h u):Nu P f n d Q k all pre m s ⟨dst,.call ⟨.value x,aS,ts⟩,ty,pos,after,gd⟩ i plan pend fr ds h u:=hr
def Bbg{aS:Array Operand}(hr:WO P f n d Q k all m (⟨dst,.call ⟨.builtin .len,aS,ts⟩,ty,pos,after,gd⟩::r) fr ds h u):WO P f n d Q k all m (⟨dst,.call ⟨.builtin .len,aS,ts⟩,ty,pos,after,gd⟩::r) fr ds h u:=hr
def Baf{s:Bool}{aS:Array Operand}(hr:Nu P f n d Q k all pre m s ⟨dst,.call ⟨.builtin .len,aS,ts⟩,ty,pos,after,gd⟩ i plan pend fr ds h u):Nu P f n d Q k all pre m s ⟨dst,.call ⟨.builtin .len,aS,ts⟩,ty,pos,after,gd⟩ i plan pend fr ds h u:=hr
def Bfu(hr:WO P f n d Q k all m (⟨dst,.fieldAddr s' a' fi,ty,pos,after,gd⟩::r) fr ds h u):WO P f n d Q k all m (⟨dst,.fieldAddr s' a' fi,ty,pos,after,gd⟩::r) fr ds h u:=hr
def Bfg{s:Bool}(hr:Nu P f n d Q k all pre m s ⟨dst,.fieldAddr s' a' fi,ty,pos,after,gd⟩ i plan pend fr ds h u):Nu P f n d Q k all pre m s ⟨dst,.fieldAddr s' a' fi,ty,pos,after,gd⟩ i plan pend fr ds h u:=hr
def Bbd(hr:WO P f n d Q k all m (⟨dst,.indexAddr tt a' i',ty,pos,after,gd⟩::r) fr ds h u):WO P f n d Q k all m (⟨dst,.indexAddr tt a' i',ty,pos,after,gd⟩::r) fr ds h u:=hr
def A9r{s:Bool}(hr:Nu P f n d Q k all pre m s ⟨dst,.indexAddr tt a' i',ty,pos,after,gd⟩ i plan pend fr ds h u):Nu P f n d Q k all pre m s ⟨dst,.indexAddr tt a' i',ty,pos,after,gd⟩ i plan pend fr ds h u:=hr
def Bfc(hr:WO P f n d Q k all m (⟨dst,.index tt a' i',ty,pos,after,gd⟩::r) fr ds h u):WO P f n d Q k all m (⟨dst,.index tt a' i',ty,pos,after,gd⟩::r) fr ds h u:=hr
def Bf1{s:Bool}(hr:Nu P f n d Q k all pre m s ⟨dst,.index tt a' i',ty,pos,after,gd⟩ i plan pend fr ds h u):Nu P f n d Q k all pre m s ⟨dst,.index tt a' i',ty,pos,after,gd⟩ i plan pend fr ds h u:=hr
def Bae(hr:WO P f n d Q k all m (⟨dst,.binOp bo tt a' b' w',ty,pos,after,gd⟩::r) fr ds h u):WO P f n d Q k all m (⟨dst,.binOp bo tt a' b' w',ty,pos,after,gd⟩::r) fr ds h u:=hr
def Bb1{s:Bool}(hr:Nu P f n d Q k all pre m s ⟨dst,.binOp bo tt a' b' w',ty,pos,after,gd⟩ i plan pend fr ds h u):Nu P f n d Q k all pre m s ⟨dst,.binOp bo tt a' b' w',ty,pos,after,gd⟩ i plan pend fr ds h u:=hr
def Bf9{x y z:Option Operand}(hr:WO P f n d Q k all m (⟨dst,.slice tt a' x y z,ty,pos,after,gd⟩::r) fr ds h u):WO P f n d Q k all m (⟨dst,.slice tt a' x y z,ty,pos,after,gd⟩::r) fr ds h u:=hr
def Bfv{s:Bool}{x y z:Option Operand}(hr:Nu P f n d Q k all pre m s ⟨dst,.slice tt a' x y z,ty,pos,after,gd⟩ i plan pend fr ds h u):Nu P f n d Q k all pre m s ⟨dst,.slice tt a' x y z,ty,pos,after,gd⟩ i plan pend fr ds h u:=hr
def Be6(hr:WO P f n d Q k all m (⟨dst,.convert s' tt a',ty,pos,after,gd⟩::r) fr ds h u):WO P f n d Q k all m (⟨dst,.convert s' tt a',ty,pos,after,gd⟩::r) fr ds h u:=hr
def Bfd{s:Bool}(hr:Nu P f n d Q k all pre m s ⟨dst,.convert s' tt a',ty,pos,after,gd⟩ i plan pend fr ds h u):Nu P f n d Q k all pre m s ⟨dst,.convert s' tt a',ty,pos,after,gd⟩ i plan pend fr ds h u:=hr
def A9n{e:TypeId}(hr:WO P f n d Q k all m (⟨dst,.box e x,ty,pos,after,gd⟩::r) fr ds h u):WO P f n d Q k all m (⟨dst,.box e x,ty,pos,after,gd⟩::r) fr ds h u:=hr
def Bfy{e:TypeId}(hr:WO P f n d Q k all m (⟨dst,.alloc e,ty,pos,after,gd⟩::r) fr ds h u):WO P f n d Q k all m (⟨dst,.alloc e,ty,pos,after,gd⟩::r) fr ds h u:=hr
def Bj9(hr:WR P f n d Q m todo fr ds h u):WR P f n d Q m todo fr ds h u:=hr
def Bk2(hr:WO P f n d Q k all m ops fr ds h u):WO P f n d Q k all m ops fr ds h u:=hr
def Ble(hr:WP P f n d Q k all pre m plan pend fr ds h u):WP P f n d Q k all pre m plan pend fr ds h u:=hr
def Bkh{g:Nat×Bool}(hr:WO P f n d Q k all m (⟨dst,op,ty,pos,after,some g⟩::r) fr ds h u):WO P f n d Q k all m (⟨dst,op,ty,pos,after,some g⟩::r) fr ds h u:=hr
def Bkw{s:Bool}{g:Nat×Bool}(hr:Nu P f n d Q k all pre m s ⟨dst,op,ty,pos,after,some g⟩ i plan pend fr ds h u):Nu P f n d Q k all pre m s ⟨dst,op,ty,pos,after,some g⟩ i plan pend fr ds h u:=hr
def Bbf{c:Operand}{x:Code}(hr:WR P f n d Q m (.code (.cond c x y)::k) fr ds h u):WR P f n d Q m (.code (.cond c x y)::k) fr ds h u:=hr
def k_j{M:R γ}{X:π->List (Option AO)}(z:∀p,WR P f n d Q ((Rs p).bind F) todo (Ac (G p)) ds (hp h0 ids (X p)) u)(hr:WR P f n d Q (M.bind F) todo (Ac l) ds (hp h0 ids xs) u):WR P f n d Q (M.bind F) todo (Ac l) ds (hp h0 ids xs) u:=hr
def Bm0(hr:WR P f n d Q m (.inLoop c::k) fr ds h u):WR P f n d Q m (.inLoop c::k) fr ds h u:=hr
def A1m(z:WP P f n d Q k ops (prC ops) m (A0r 0 ops) [] (Ac l) ds h u)(A:P.follows .mixedOrders=true:=by kernel_rfl)(hp:Aqs ops (prC ops) (A0r 0 ops)=true:=by kernel_rfl): WR P f n d Q m (.code (.region id ⟨ops⟩ true)::k) (Ac l) ds h u:=A5a A _ _ hp z
def Ajf(is:List Nat)(z:WP P f n d Q k ops (prC ops) m (Bl3 is ops) [] (Ac l) ds h u)(A:P.follows .mixedOrders=true:=by kernel_rfl)(hp:Aqs ops (prC ops) (Bl3 is ops)=true:=by kernel_rfl): WR P f n d Q m (.code (.region id ⟨ops⟩ true)::k) (Ac l) ds h u:=A5a A _ _ hp z
def Bjz{L:List α}(z:fr t=.sl st (L.map e))(hk:L.length<=Bj->WO P f n d Q k all m ops fr ds h u):WO P f n d Q k all m ops fr ds h u:=λA i hi=>A0k t λhw=>hk (by rw[z]at hw;simpa using hw.lim) A i hi
def Bjm{s:Nat}{L:List α}(hk:L.length<=Bj->WO P f n d Q k all m r (Ac ((t,.int .i64 (L.length:Int))::l)) ds h u)(A:Ac l s=.sl st (L.map e):=by exact rfl)(D:HT P tt ⟨.sl et,a,b,z⟩:=by infer_instance)(ht:Nat.blt t n=true:=by exact rfl)(hw:Cx all (Ac l) ⟨some t,.call ⟨.builtin .len,⟨[.tmp s]⟩,⟨[tt]⟩⟩,ty,pos,after,gd⟩=some true:=by exact rfl): WO P f n d Q k all m (⟨some t,.call ⟨.builtin .len,⟨[.tmp s]⟩,⟨[tt]⟩⟩,ty,pos,after,gd⟩::r) (Ac l) ds h u:=Bjz (t:=s) A λG=>A2f (D4 (by show Xe P h tt (Ac l s)=_;rw[A];exact Jy D.eq)) (hk G) ht hw
def Blg{s:Nat}{L:List α}(hk:WP P f n d Q k all pre m plan ((i,Ac l,.int .i64 (L.length:Int))::pend) (Ac ((t,.int .i64 (L.length:Int))::l)) ds h u)(A:Ac l s=.sl st (L.map e):=by exact rfl)(D:HT P tt ⟨.sl et,a,b,z⟩:=by infer_instance)(ht:Nat.blt t n=true:=by exact rfl)(hw:Cx all (Ac l) ⟨some t,.call ⟨.builtin .len,⟨[.tmp s]⟩,⟨[tt]⟩⟩,ty,pos,after,gd⟩=some true:=by exact rfl): Nu P f n d Q k all pre m false ⟨some t,.call ⟨.builtin .len,⟨[.tmp s]⟩,⟨[tt]⟩⟩,ty,pos,after,gd⟩ i plan pend (Ac l) ds h u:=λG=>A7w (D4 (by show Xe P h tt (Ac l s)=_;rw[A];exact Jy D.eq)) hk G ht hw
def R6{e:TypeId}(j:Nat)(hk:∀g,WO P f n d Q k all m r (Ac ((t,.ptr (ix ids j) g 0 0)::l)) ds (hp h0 ids (xs.set j (some (.rows g v.cells.length [v.cells])))) u)(O:xs[j]?=some none:=by exact rfl)(G:W1 l x some=some v:=by exact rfl)(S:Ids h0 ids N:=by assumption)(U:xs.length=N:=by exact rfl)(z:Nat.blt j N=true:=by exact rfl)(ht:Nat.blt t n=true:=by exact rfl)(A:v.ok=true:=by exact rfl)(D:v.cells.all AV.flat=true:=by exact rfl): WO P f n d Q k all m (⟨some t,.box e x,ty,pos,after,none⟩::r) (Ac l) ds (hp h0 ids xs) u:=Ip j v hk S U z O ht (by rw[Je]at G;exact AS G) A D
def Xf{e:TypeId}(j:Nat)(hk:∀g,WO P f n d Q k all m r (Ac ((t,.ptr (ix ids j) g 0 0)::l)) ds (hp h0 ids (xs.set j (some (.rows g T.z.length [T.z])))) u)(D:xs[j]?=some none:=by exact rfl)(G:HT P e T:=by infer_instance)(O:Ids h0 ids N:=by assumption)(S:xs.length=N:=by exact rfl)(z:Nat.blt j N=true:=by exact rfl)(ht:Nat.blt t n=true:=by exact rfl)(A:T.z.all AV.flat=true:=by exact rfl): WO P f n d Q k all m (⟨some t,.alloc e,ty,pos,after,none⟩::r) (Ac l) ds (hp h0 ids xs) u:=D9 j G.eq hk O S z D ht A
def Bjc{t:TypeId}{a:Operand}{g c:Nat}{rs:List (List AV)}{row:List AV}(hk:WO P f n d Q k all m r (Ac l) ds (hp h0 ids (xs.set j (some (.rows g st (rs.set rr (Wb row c v.cells)))))) u)(D:ev (Ac l) a=.ptr (ix ids j) g rr c:=by exact rfl)(G:xs[j]?=some (some (.rows g st rs)):=by exact rfl)(z:W1 l x some=some v:=by exact rfl)(O:HT P t T:=by infer_instance)(S:Ids h0 ids N:=by assumption)(U:xs.length=N:=by exact rfl)(hr:rs[rr]?=some row:=by exact rfl)(A:(Nat.blt j N&&Nat.beq v.cells.length T.size&&Nat.ble (c+T.size) st&&v.ok&&Nat.beq row.length st&&v.cells.all AV.flat)=true:=by exact rfl):
  WO P f n d Q k all m (⟨none,.store t a x,ty,pos,after,none⟩::r) (Ac l) ds (hp h0 ids xs) u:=by
 simp only[AK]at A
 obtain⟨⟨⟨⟨⟨h1,h2⟩,V⟩,W⟩,X⟩,Y⟩:=A
 rw[Je]at z
 exact Cw (by rw[D,AS z];exact Iz S U h1 G hr O.eq W (AY h2) V (AY X) Y) hk
def Be9{s:Nat}{o g q:Nat}(hk:q<=Bj->WO P f n d Q k all m r (Ac ((t,.int .i64 (q:Int))::l)) ds h u)(D:Ac l s=v:=by exact rfl)(G:Av v o g q:=by assumption)(O:HT P tt ⟨.sl et,a,b,z⟩:=by infer_instance)(ht:Nat.blt t n=true:=by exact rfl)(hw:Cx all (Ac l) ⟨some t,.call ⟨.builtin .len,⟨[.tmp s]⟩,⟨[tt]⟩⟩,ty,pos,after,gd⟩=some true:=by exact rfl):
  WO P f n d Q k all m (⟨some t,.call ⟨.builtin .len,⟨[.tmp s]⟩,⟨[tt]⟩⟩,ty,pos,after,gd⟩::r) (Ac l) ds h u:=λS i hi=>A0k s (λA=>A2f (m:=m) (D4 (by show Xe P h tt (Ac l s)=_;rw[D];exact G.len O.eq)) (hk (by
   rw[D]at A;rcases G with⟨_,rfl⟩|rfl
   .exact DA _
   .exact A.ref)) ht hw S i hi)
def A4j{o:Option AO}(hr:WR P f n d Q m todo fr ds (hp h0 ids ys) u)(e:xs.set j o=ys:=by first|(simp only[EE,EF,DS,CM,EK,FG,T8,Wb,Aav,AV.cells,AV.I,AV.q];rfl)|rfl): WR P f n d Q m todo fr ds (hp h0 ids (xs.set j o)) u:=e▸hr
def apK:List (Nat×AV)->List (Nat×AV)->(List (Nat×AV)->Option α)->Option α
 |[],b,c=>c b
 |x::a,b,c=>apK a b λl=>c (x::l)
def Bb9:∀(a b:List (Nat×AV)) (c:List (Nat×AV)->Option α),apK a b c=c (a++b)
 |[],b,c=>rfl
 |x::a,b,c=>by rw[apK,Bb9 a b];rfl
def By{a b z:List (Nat×AV)}(hr:WR P f n d Q m todo (Ac z) ds h u)(e:apK a b some=some z:=by exact rfl):WR P f n d Q m todo (Ac (a++b)) ds h u:=by rw[Bb9]at e;rw[AS e];exact hr
structure Cur {α:Type}(L:List α)(j:Nat):Prop where
 lt:j<L.length
def Ui{L:List α}{body:Nat->α->σ->R σ}{rest:σ->R γ}(ks:List Nat)(t:Nat)(E:σ->List (Nat×AV))(X:σ->List (Option AO))(z:∀(j:Nat) (a:α) (s:σ),L[j]?=some a->Cur L j->∀W:σ->R σ,(∀s',WR P f n d Q (((W s').bind rest).bind F) (.inLoop c::k) (Ac (((t,.int .i64 ((j+1:Nat):Int))::E s')++l')) ds (hp h0 ids (X s')) u)->WR P f n d Q ((body j a s).bind (Aff W rest F)) (.code c::.inLoop c::k) (Ac (((t,.int .i64 (j:Int))::E s)++l')) ds (hp h0 ids (X s)) u)(fin:∀s,WR P f n d Q ((rest s).bind F) (.code c::.inLoop c::k) (Ac (((t,.int .i64 (L.length:Int))::E s)++l')) ds (hp h0 ids (X s)) u)(G:Kf l ks l':=by repeat (first|exact Kf.nil|exact FAt.here|apply FAt.there rfl|apply Kf.cons))(h1:FrIs l ((t,.int .i64 0)::E s0):=by repeat (first|exact .nil|refine .cons rfl ?_))(O:X s0=xs:=by exact rfl):
  WR P f n d Q (((A5 body 0 L s0).bind rest).bind F) (.code (.loop c)::k) (Ac l) ds (hp h0 ids xs) u:=by
 have h2:∀{A:List (Nat×AV)},FrIs l A->FrIs l (A++l'):=λS=>by
  induction S with
  |nil=>exact G.is
  |cons U _ V=>exact .cons U V
 refine Xm _ (h2 h1) ?_
 subst O
 refine Ld L body rest (λj s fr h=>fr=Ac (((t,.int .i64 (j:Int))::E s)++l')/\h=hp h0 ids (X s)) s0 ⟨rfl,rfl⟩ ?_ ?_
 .rintro j a D W Y s fr h ⟨rfl,rfl⟩;exact z j a s D ⟨A6 D⟩ W λs'=>Y s' _ _ ⟨rfl,rfl⟩
 .rintro s fr h ⟨rfl,rfl⟩;exact fin s
def Ph{L:List α}{body:Nat->α->σ->R (σ ⊕ ε)}{rest:σ ⊕ ε->R γ}(ks:List Nat)(t:Nat)(E:σ->List (Nat×AV))(X:σ->List (Option AO))(z:∀(j:Nat) (a:α) (s:σ),L[j]?=some a->Cur L j->∀W:σ->R (σ ⊕ ε),(∀s',WR P f n d Q (((W s').bind rest).bind F) (.inLoop c::k) (Ac (((t,.int .i64 ((j+1:Nat):Int))::E s')++l')) ds (hp h0 ids (X s')) u)->WR P f n d Q ((body j a s).bind (Aqh W rest F)) (.code c::.inLoop c::k) (Ac (((t,.int .i64 (j:Int))::E s)++l')) ds (hp h0 ids (X s)) u)(fin:∀s,WR P f n d Q ((rest (.inl s)).bind F) (.code c::.inLoop c::k) (Ac (((t,.int .i64 (L.length:Int))::E s)++l')) ds (hp h0 ids (X s)) u)(G:Kf l ks l':=by repeat (first|exact Kf.nil|exact FAt.here|apply FAt.there rfl|apply Kf.cons))(h1:FrIs l ((t,.int .i64 0)::E s0):=by repeat (first|exact .nil|refine .cons rfl ?_))(O:X s0=xs:=by exact rfl):
  WR P f n d Q (((each body 0 L s0).bind rest).bind F) (.code (.loop c)::k) (Ac l) ds (hp h0 ids xs) u:=by
 have h2:∀{A:List (Nat×AV)},FrIs l A->FrIs l (A++l'):=λS=>by
  induction S with
  |nil=>exact G.is
  |cons U _ V=>exact .cons U V
 refine Xm _ (h2 h1) ?_
 subst O
 refine Ast L body rest (λj s fr h=>fr=Ac (((t,.int .i64 (j:Int))::E s)++l')/\h=hp h0 ids (X s)) s0 ⟨rfl,rfl⟩ ?_ ?_
 .rintro j a D W Y s fr h ⟨rfl,rfl⟩;exact z j a s D ⟨A6 D⟩ W λs'=>Y s' _ _ ⟨rfl,rfl⟩
 .rintro s fr h ⟨rfl,rfl⟩;exact fin s
def lpL{body:σ->R (σ ⊕ ε)}{rest:ε->R γ}(ks:List Nat)(E:σ->List (Nat×AV))(X:σ->List (Option AO))(z:∀(s:σ) (W:σ->R ε),(∀s',WR P f n d Q (((W s').bind rest).bind F) (.inLoop c::k) (Ac (E s'++l')) ds (hp h0 ids (X s')) u)->WR P f n d Q ((body s).bind (Aqa W rest F)) (.code c::.inLoop c::k) (Ac (E s++l')) ds (hp h0 ids (X s)) u)(D:Kf l ks l':=by repeat (first|exact Kf.nil|exact FAt.here|apply FAt.there rfl|apply Kf.cons))(h1:FrIs l (E s0):=by repeat (first|exact .nil|refine .cons rfl ?_))(G:X s0=xs:=by exact rfl):
  WR P f n d Q (((loop body s0).bind rest).bind F) (.code (.loop c)::k) (Ac l) ds (hp h0 ids xs) u:=by
 have h2:∀{A:List (Nat×AV)},FrIs l A->FrIs l (A++l'):=λO=>by
  induction O with
  |nil=>exact D.is
  |cons S _ U=>exact .cons S U
 refine Xm _ (h2 h1) ?_
 subst G
 refine Ko body rest (λs fr h=>fr=Ac (E s++l')/\h=hp h0 ids (X s)) s0 ⟨rfl,rfl⟩ ?_
 rintro W V s fr h ⟨rfl,rfl⟩
 exact z s W λs'=>V s' _ _ ⟨rfl,rfl⟩
def jn{it:Item}(rest:π->R γ)(ks:List Nat)(E:π->List (Nat×AV))(X:π->List (Option AO)){M:R γ}(hk:∀p,WR P f n d Q ((rest p).bind F) k (Ac (E p++l')) ds (hp h0 ids (X p)) u)(z:(∀p,WR P f n d Q ((rest p).bind F) k (Ac (E p++l')) ds (hp h0 ids (X p)) u)->WR P f n d Q (M.bind F) (it::k) (Ac l) ds (hp h0 ids xs) u)(A:Kf l ks l':=by repeat (first|exact Kf.nil|exact FAt.here|apply FAt.there rfl|apply Kf.cons)):WR P f n d Q (M.bind F) (it::k) (Ac l) ds (hp h0 ids xs) u:=z hk
def Bko(z:WO P f n d Q k all m r0 (Ac l') ds h u)(A:FrIs l l':=by repeat (first|exact .nil|refine .cons rfl ?_|refine .cons (Afb (by assumption)) ?_|refine .cons (Ava (by assumption)) ?_|refine .cons (Afc (by assumption)) ?_|refine .cons (Av1 (by assumption)) ?_|refine .cons (cb (Eq.symm (by assumption))) ?_)):WO P f n d Q k all m r0 (Ac l) ds h u:=Aye l' A z
def Bk7{a:α}{G:α->List (Nat×AV)}(z:∀p,WO P f n d Q k all ((rest p).bind F) r0 (Ac (G p)) ds h u)(A:FrIs l (G a):=by repeat (first|exact .nil|refine .cons rfl ?_|refine .cons (cb (Eq.symm (by assumption))) ?_)):WO P f n d Q k all ((R.ok a).bind (X2 rest F)) r0 (Ac l) ds h u:=Ath (Aye _ A (z a))
def a_j{M:R γ}{X:π->List (Option AO)}{p:π}(z:∀p,WR P f n d Q ((Rs p).bind F) todo (Ac (G p)) ds (hp h0 ids (X p)) u)(e:Rs p=M:=by exact rfl)(A:FrIs l (G p):=by repeat (first|exact .nil|refine .cons rfl ?_|refine .cons (cb (Eq.symm (by assumption))) ?_))(D:X p=xs:=by exact rfl):
  WR P f n d Q (M.bind F) todo (Ac l) ds (hp h0 ids xs) u:=by
 subst e;subst D;exact Xm _ A (z p)
def Bdu{L:List α}(z:Ac l t=.int .i64 (IntKind.wrap .i64 ((j:Int)+1)))(A:Cur L j)(D:L.length<=Bj):Ac l t=.int .i64 ((j+1:Nat):Int):=z.trans (Vf A.lt D)
def Bew(z:Ac l t=.int .i64 (IntKind.wrap .i64 ((j:Int)+1)))(A:Cur (List.range n) j)(D:Nat.ble n Bj=true):Ac l t=.int .i64 ((j+1:Nat):Int):=z.trans (Vf (by simpa using A.lt) (CH D))
def Bni{W:σ->R σ}{rest:σ->R γ}{s:σ}{E:σ->List (Nat×AV)}(z:∀s',WR P f n d Q (((W s').bind rest).bind F) todo (Ac (((t,.int .i64 ((j+1:Nat):Int))::E s')++l')) ds (hp h0 ids (X s')) u)(A:Ac l t=.int .i64 ((j+1:Nat):Int):=by first|exact Bdu rfl (by assumption) (by assumption)|exact Bew rfl (by assumption) rfl)(D:FrIs l (E s++l'):=by repeat (first|exact .nil|refine .cons rfl ?_|refine .cons (cb (Eq.symm (by assumption))) ?_))(G:X s=xs:=by exact rfl):
  WR P f n d Q ((R.ok s).bind (Aff W rest F)) todo (Ac l) ds (hp h0 ids xs) u:=by
 subst G;exact Z4 (Xm _ (.cons A D) (z s))
def Bnk{W:σ->R (σ ⊕ ε)}{rest:σ ⊕ ε->R γ}{s:σ}{E:σ->List (Nat×AV)}(z:∀s',WR P f n d Q (((W s').bind rest).bind F) todo (Ac (((t,.int .i64 ((j+1:Nat):Int))::E s')++l')) ds (hp h0 ids (X s')) u)(A:Ac l t=.int .i64 ((j+1:Nat):Int):=by first|exact Bdu rfl (by assumption) (by assumption)|exact Bew rfl (by assumption) rfl)(D:FrIs l (E s++l'):=by repeat (first|exact .nil|refine .cons rfl ?_|refine .cons (cb (Eq.symm (by assumption))) ?_))(G:X s=xs:=by exact rfl):
  WR P f n d Q ((R.ok (.inl s)).bind (Aqh W rest F)) todo (Ac l) ds (hp h0 ids xs) u:=by
 subst G;exact Avz (Xm _ (.cons A D) (z s))
def Bnd{W:σ->R ε}{rest:ε->R γ}{s:σ}{G:σ->List (Nat×AV)}(z:∀s',WR P f n d Q (((W s').bind rest).bind F) todo (Ac (G s')) ds (hp h0 ids (X s')) u)(A:FrIs l (G s):=by repeat (first|exact .nil|refine .cons rfl ?_|refine .cons (cb (Eq.symm (by assumption))) ?_))(D:X s=xs:=by exact rfl):
  WR P f n d Q ((R.ok (.inl s)).bind (Aqa W rest F)) todo (Ac l) ds (hp h0 ids xs) u:=by
 subst D;exact Hl (Xm _ A (z s))
def Bfj{M:R β}{L:List α}(hk:∀a,0<=ii->L[ii.toNat]?=some a->WO P f n d Q k all ((rest a).bind F) (⟨some t,.indexAddr tt a' i',ty,pos,after,gd⟩::r) (Ac l) ds h u)(A:ev (Ac l) a'=.sl st (L.map e):=by exact rfl)(hi:ev (Ac l) i'=.int ik ii:=by exact rfl)(z:M=((idx L ii).bind rest).bind F:=by exact rfl):WO P f n d Q k all M (⟨some t,.indexAddr tt a' i',ty,pos,after,gd⟩::r) (Ac l) ds h u:=by subst z;exact Tp hk
def A9a{M:R β}{L:List UInt8}{rest:UInt8->R γ}(hk:∀a,0<=ii->L[ii.toNat]?=some a->WO P f n d Q k all ((rest a).bind F) (⟨some t,.index tt a' i',ty,pos,after,gd⟩::r) (Ac l) ds h u)(z:M=((idx L ii).bind rest).bind F:=by exact rfl):WO P f n d Q k all M (⟨some t,.index tt a' i',ty,pos,after,gd⟩::r) (Ac l) ds h u:=by subst z;exact Tp hk
def A8l{M:R β}{x y z:Option Operand}{p:Prop}[Decidable p]{rest:R γ}(hk:p->WO P f n d Q k all (rest.bind F) (⟨some t,.slice tt a' x y z,ty,pos,after,gd⟩::r) (Ac l) ds h u)(A:M=(if p then rest else .bad).bind F:=by exact rfl):WO P f n d Q k all M (⟨some t,.slice tt a' x y z,ty,pos,after,gd⟩::r) (Ac l) ds h u:=by subst A;exact Cf hk
def Bfo{M:R β}{L:List α}(hk:∀a,0<=ii->L[ii.toNat]?=some a->WP P f n d Q k all pre ((rest a).bind F) ((false,i)::plan) pend (Ac l) ds h u)(A:ev (Ac l) a'=.sl st (L.map e):=by exact rfl)(hi:ev (Ac l) i'=.int ik ii:=by exact rfl)(z:M=((idx L ii).bind rest).bind F:=by exact rfl):Nu P f n d Q k all pre M false ⟨some t,.indexAddr tt a' i',ty,pos,after,gd⟩ i plan pend (Ac l) ds h u:=λD=>by subst z;exact Ap5 hk
def Bbx{M:R β}{L:List UInt8}{rest:UInt8->R γ}(hk:∀a,0<=ii->L[ii.toNat]?=some a->WP P f n d Q k all pre ((rest a).bind F) ((false,i)::plan) pend (Ac l) ds h u)(z:M=((idx L ii).bind rest).bind F:=by exact rfl):Nu P f n d Q k all pre M false ⟨some t,.index tt a' i',ty,pos,after,gd⟩ i plan pend (Ac l) ds h u:=λA=>by subst z;exact Ap5 hk
def A9d{M:R β}{x y z:Option Operand}{p:Prop}[Decidable p]{rest:R γ}(hk:p->WP P f n d Q k all pre (rest.bind F) ((false,i)::plan) pend (Ac l) ds h u)(A:M=(if p then rest else .bad).bind F:=by exact rfl):Nu P f n d Q k all pre M false ⟨some t,.slice tt a' x y z,ty,pos,after,gd⟩ i plan pend (Ac l) ds h u:=λD=>by subst A;exact Da hk
def Bmc{M:R β}{c:Operand}{x:Code}{b:Bool}{p:Prop}[Decidable p]{A B:R γ}(ht:p->WR P f n d Q (A.bind F) (.code x::k) (Ac l) ds h u)(hf:¬p->WR P f n d Q (B.bind F) (.code y::k) (Ac l) ds h u)(z:ev (Ac l) c=.bool b:=by exact rfl)(D:M=(if p then A else B).bind F:=by exact rfl)(G:b=decide p:=by exact rfl):WR P f n d Q M (.code (.cond c x y)::k) (Ac l) ds h u:=by subst D;subst G;exact E4 z ht hf
def Bks{M:R β}{c:Operand}{x:Code}{b:Bool}{p:Prop}[Decidable p]{A B:R γ}(ht:p->WR P f n d Q (A.bind F) (.code y::k) (Ac l) ds h u)(hf:¬p->WR P f n d Q (B.bind F) (.code x::k) (Ac l) ds h u)(z:ev (Ac l) c=.bool b:=by exact rfl)(D:M=(if p then A else B).bind F:=by exact rfl)(G:b=!decide p:=by exact rfl):WR P f n d Q M (.code (.cond c x y)::k) (Ac l) ds h u:=by subst D;subst G;exact Bi6 z ht hf
def Blf{M:R β}{c:Operand}{x:Code}{b b':Bool}{A B:R γ}(ht:b'=true->WR P f n d Q (A.bind F) (.code x::k) (Ac l) ds h u)(hf:b'=false->WR P f n d Q (B.bind F) (.code y::k) (Ac l) ds h u)(z:ev (Ac l) c=.bool b:=by exact rfl)(D:M=(if b'=true then A else B).bind F:=by exact rfl)(G:b=b':=by exact rfl):WR P f n d Q M (.code (.cond c x y)::k) (Ac l) ds h u:=by subst D;subst G;exact Bo z ht hf
def Bhg{M:R β}{c:Operand}{x:Code}{b b':Bool}{A B:R γ}(ht:b'=true->WR P f n d Q (A.bind F) (.code y::k) (Ac l) ds h u)(hf:b'=false->WR P f n d Q (B.bind F) (.code x::k) (Ac l) ds h u)(z:ev (Ac l) c=.bool b:=by exact rfl)(D:M=(if b'=true then A else B).bind F:=by exact rfl)(G:b=!b':=by exact rfl):WR P f n d Q M (.code (.cond c x y)::k) (Ac l) ds h u:=by subst D;subst G;exact N8 z ht hf
def c_t{c:Operand}{x:Code}{b:Bool}(hr:WR P f n d Q m (.code x::k) (Ac l) ds h u)(z:ev (Ac l) c=.bool b:=by exact rfl)(A:b=true:=by with_reducible exact rfl):WR P f n d Q m (.code (.cond c x y)::k) (Ac l) ds h u:=Gv true (A▸z) hr
def c_f{c:Operand}{x:Code}{b:Bool}(hr:WR P f n d Q m (.code y::k) (Ac l) ds h u)(z:ev (Ac l) c=.bool b:=by exact rfl)(A:b=false:=by with_reducible exact rfl):WR P f n d Q m (.code (.cond c x y)::k) (Ac l) ds h u:=Gv false (A▸z) hr
def c_p{c:Operand}{x:Code}{p:Prop}[Decidable p](hr:WR P f n d Q m (.code x::k) (Ac l) ds h u)(z:ev (Ac l) c=.bool (decide p):=by exact rfl)(hp:p:=by first|exact AT.2 (Cur.lt (by assumption))|exact AT.2 (A6 (by assumption))|assumption):WR P f n d Q m (.code (.cond c x y)::k) (Ac l) ds h u:=Co z hp hr
def Bj5{c:Operand}{x:Code}{p:Prop}[Decidable p](hr:WR P f n d Q m (.code y::k) (Ac l) ds h u)(z:ev (Ac l) c=.bool (decide p):=by exact rfl)(hp:¬p:=by first|exact CF _|assumption):WR P f n d Q m (.code (.cond c x y)::k) (Ac l) ds h u:=Eb z hp hr
end
variable{fn:Func}{aS:List Operand}{fst:List AV}{cap:List AV}{e':α→AV}{mg:R α}
section
variable[GW P]{all r:List Oper}{pos:String}
def Bar{g:FuncId}{A:List AV}{e:β->AV}{F:γ->R β}{M:R β}(hk:∀a,mg=.ok a->WO P f n false (Zy e h0) k all ((rest a).bind F) r (Ac ((t,e' a)::l)) ds (hp h0 ids xs) u)(z:ev (Ac l) x=.func (.func g) fst cap:=by exact rfl)(D:M=(mg.bind rest).bind F:=by exact rfl)(G:CP P g A mg e':=by infer_instance)(O:fst++Ev (Ac l) aS++cap=A:=by exact rfl)(hf:P.funcs[f]?=some fn:=by assumption)(S:Ids h0 ids N:=by assumption)(ht:Nat.blt t n=true:=by exact rfl)(hw:Cx all (Ac l) ⟨some t,.call ⟨.value x,⟨aS⟩,ts⟩,ty,pos,after,gd⟩=some true:=by exact rfl)(U:ds=[]\/ds=[AD.star]:=by first|exact .inl rfl|exact .inr rfl):
  WO P f n false (Zy e h0) k all M (⟨some t,.call ⟨.value x,⟨aS⟩,ts⟩,ty,pos,after,gd⟩::r) (Ac l) ds (hp h0 ids xs) u:=by
 subst D;exact oc (G _) hk hf S z O ht hw U
def A9f{g:FuncId}{A:List AV}{e:β->AV}{F:γ->R β}{M:R β}(hk:∀a,mg=.ok a->WP P f n false (Zy e h0) k all pre ((rest a).bind F) plan pend (Ac ((t,e' a)::l)) ds (hp h0 ids xs) u)(z:ev (Ac l) x=.func (.func g) fst cap:=by exact rfl)(D:M=(mg.bind rest).bind F:=by exact rfl)(G:CP P g A mg e':=by infer_instance)(O:fst++Ev (Ac l) aS++cap=A:=by exact rfl)(hf:P.funcs[f]?=some fn:=by assumption)(S:Ids h0 ids N:=by assumption)(ht:Nat.blt t n=true:=by exact rfl)(hw:Cx all (Ac l) ⟨some t,.call ⟨.value x,⟨aS⟩,ts⟩,ty,pos,after,gd⟩=some true:=by exact rfl)(hpd:Eu P all pre i (hp h0 ids xs) pend:=by exact Bh)(U:ds=[]\/ds=[AD.star]:=by first|exact .inl rfl|exact .inr rfl):
  Nu P f n false (Zy e h0) k all pre M true ⟨some t,.call ⟨.value x,⟨aS⟩,ts⟩,ty,pos,after,gd⟩ i plan pend (Ac l) ds (hp h0 ids xs) u:=λV=>by
 subst D;exact Ll (G _) hk hf S V z O hw ht hpd U
end
structure Rst (p:Prop):Prop where
 o:p
def A6t (a:Nat):List (Nat×AV)->Bool
 |[]=>false
 |p::l=>Nat.beq a p.1||A6t a l
def Bbv:∀{l:List (Nat×AV)},A6t a l=false->Ac l a=.any
 |[],_=>rfl
 |p::l,h=>by simp only[A6t,Bool.or_eq_false_iff]at h;simp only[Ac,h.1,GO];exact Bbv h.2
inductive Sfx (t:Nat)(L:List (Nat×AV)):List (Nat×AV)->Prop
 |here:Sfx t L L
 |cons {a:Nat} {v:AV} {l:List (Nat×AV)} (h:(Nat.beq a t||!(A6t a L))=true) (hr:Sfx t L l):Sfx t L ((a,v)::l)
def Sfx.le{L:List (Nat×AV)}(h:Sfx t L l)(s:Nat)(z:s≠t):Ac L s=.any\/Ac L s=Ac l s:=by
 induction h with
 |here=>exact .inr rfl
 |@cons a v l h _ A=>
  simp only[Ac];cases D:Nat.beq s a with
  |false=>exact A
  |true=>
   have:=AY D;subst this;have h1:Nat.beq s t=false:=by
    cases G:Nat.beq s t with
    |false=>rfl
    |true=>exact absurd (AY G) z
   rw[h1,Bool.false_or,CZ]at h;exact .inl (Bbv h)
variable{post:List Oper}
section
variable[GW P]{all r:List Oper}{pos:String}{F:γ→R β}
def Baa{L:List (Nat×AV)}(A:Sfx t L l)(D:Ac l t=v)(hk:WO P f n d Q k all m ops (Ac ((t,v)::L)) ds h u):WO P f n d Q k all m ops (Ac l) ds h u:=λG i hi=>R2 (λs=>by
 simp only[Ac];cases z:Nat.beq s t with
 |true=>have:=AY z;subst this;exact .inr D.symm
 |false=>exact A.le s λe=>by subst e;rw[Nat.beq_refl]at z;cases z) (hk G i hi)
def Am2{c:Nat}{p:Nat×AV}(z:Ac l c=v)(hk:WO P f n d Q k all m ops (Ac (p::l)) ds h u):WO P f n d Q k all m ops (Ac (p::(c,v)::l)) ds h u:=λA i hi=>R2 (λs=>by
 simp only[Ac];cases Nat.beq s p.1 with
 |true=>exact .inr rfl
 |false=>
  cases D:Nat.beq s c with
  |true=>have:=AY D;subst this;exact .inr z
  |false=>exact .inr rfl) (hk A i hi)
def Bjq (c:Nat):Op->Bool
 |.pick (.tmp z) _ _=>Nat.beq c z
 |_=>false
def Bc6 (c:Nat):List (Nat×AV)->Nat
 |[]=>0
 |p::l=>bif Nat.beq c p.1 then Bc6 c l+1 else Bc6 c l
def mtK(c:Nat):List Oper->(List Oper->List Oper->Option Nat->Option α)->Option α
 |[],_=>none
 |o::r,k=>bif Bjq c o.op then k [o] r o.dst else mtK c r λa b t=>k (o::a) b t
def Baw{c:Nat}:∀{ops:List Oper} {k:List Oper->List Oper->Option Nat->Option α} {x:α},mtK c ops k=some x->∃a b t,ops=a++b/\k a b t=some x
 |[],_,_,h=>by cases h
 |o::r,k,x,h=>by
  rw[mtK]at h;cases hp:Bjq c o.op with
  |true=>rw[hp]at h;exact⟨[o],r,o.dst,rfl,h⟩
  |false=>rw[hp]at h;obtain⟨a,b,t,e,h⟩:=Baw h;exact⟨o::a,b,t,by rw[e];rfl,h⟩
def ScG (P:Program)[GW P](f:FuncId)(n:Nat)(d:FK)(Q:Spec β)(k:List Item)(all:List Oper)(m:R β)(w:Bool)(c:Nat)(b:Bool)(pre post:List Oper)(t:Nat)(l:List (Nat×AV))(ds:List AD)(h:Aa)(u:AU):Prop:=Ac l c=.bool b->WO P f n d Q k all m (pre++post) (Ac l) ds h u
def Bkj{z c:Nat}{w b:Bool}{pre:List Oper}(hr:ScG P f n d Q k all m w c b pre post t l ds h u)(G:(all[z]?).bind (·.dst)=some c:=by exact rfl)(A:Ac l c=.bool b:=by exact rfl)(h1:Nat.ble (Bc6 c l) 1=true:=by exact rfl)(D:mtK c (⟨dst,op,ty,pos,after,some (z,w)⟩::r) (λa b t=>some (a,b,t))=some (pre,post,some t):=by exact rfl):WO P f n d Q k all m (⟨dst,op,ty,pos,after,some (z,w)⟩::r) (Ac l) ds h u:=by obtain⟨a,b',O,e,h1⟩:=Baw D;simp only[AX,AP]at h1;obtain⟨rfl,rfl,rfl⟩:=h1;rw[e];exact hr A
section
variable{c:Nat}{b x:Bool}{pre:List Oper}
def Bal (ht:∀r0,WO P f n d Q k all m r0 (Ac ((t,.bool x)::(c,.bool true)::l)) ds h u->WO P f n d Q k all m (pre++r0) (Ac ((c,.bool true)::l)) ds h u)
  (hf:∀r0,WO P f n d Q k all m r0 (Ac ((t,.bool false)::(c,.bool false)::l)) ds h u->WO P f n d Q k all m (pre++r0) (Ac ((c,.bool false)::l)) ds h u)
  (hk:WO P f n d Q k all m post (Ac ((t,.bool (b&&x))::l)) ds h u):ScG P f n d Q k all m true c b pre post t l ds h u:=λz=>by
 cases b with
 |true=>exact Ale rfl z (ht _ (Am2 z hk))
 |false=>exact Ale rfl z (hf _ (Am2 z hk))
def Bf4 (ht:∀r0,WO P f n d Q k all m r0 (Ac ((t,.bool true)::(c,.bool true)::l)) ds h u->WO P f n d Q k all m (pre++r0) (Ac ((c,.bool true)::l)) ds h u)
  (hf:∀r0,WO P f n d Q k all m r0 (Ac ((t,.bool x)::(c,.bool false)::l)) ds h u->WO P f n d Q k all m (pre++r0) (Ac ((c,.bool false)::l)) ds h u)
  (hk:WO P f n d Q k all m post (Ac ((t,.bool (b||x))::l)) ds h u):ScG P f n d Q k all m false c b pre post t l ds h u:=λz=>by
 cases b with
 |true=>exact Ale rfl z (ht _ (Am2 z hk))
 |false=>exact Ale rfl z (hf _ (Am2 z hk))
def Bez {w:Bool}{A B:R Bool}{rest:Bool->R γ}{M:R β}(G:M=((if b=true then A else B).bind rest).bind F:=by exact rfl)
  (ht:b=true->∀r0,(∀p:Bool,WO P f n d Q k all ((rest p).bind F) r0 (Ac ((t,.bool p)::(c,.bool true)::l)) ds h u)->WO P f n d Q k all (A.bind (X2 rest F)) (pre++r0) (Ac ((c,.bool true)::l)) ds h u)
  (hf:b=false->∀r0,(∀p:Bool,WO P f n d Q k all ((rest p).bind F) r0 (Ac ((t,.bool p)::(c,.bool false)::l)) ds h u)->WO P f n d Q k all (B.bind (X2 rest F)) (pre++r0) (Ac ((c,.bool false)::l)) ds h u)
  (hk:∀p:Bool,WO P f n d Q k all ((rest p).bind F) post (Ac ((t,.bool p)::l)) ds h u):ScG P f n d Q k all M w c b pre post t l ds h u:=λD=>by
 subst G
 exact Ba3 (λz=>Ale z D (ht z _ λp=>Am2 (z▸D) (hk p))) (λz=>Ale z D (hf z _ λp=>Am2 (z▸D) (hk p)))
end
attribute [irreducible] ScG
def Bk6{L:List (Nat×AV)}(z:WO P f n d Q k all m r0 (Ac ((t,v)::L)) ds h u)(A:Sfx t L l:=by repeat (first|exact Sfx.here|refine Sfx.cons rfl ?_))(D:Ac l t=v:=by exact rfl):WO P f n d Q k all m r0 (Ac l) ds h u:=Baa A D z
def Be4{L:List (Nat×AV)}{rest:Bool->R γ}{a:Bool}(z:∀p:Bool,WO P f n d Q k all ((rest p).bind F) r0 (Ac ((t,.bool p)::L)) ds h u)(A:Sfx t L l:=by repeat (first|exact Sfx.here|refine Sfx.cons rfl ?_))(D:Ac l t=.bool a:=by exact rfl): WO P f n d Q k all ((R.ok a).bind (X2 rest F)) r0 (Ac l) ds h u:=Ath (Baa A D (z a))
end
structure KN (K N:Nat):Prop where
 t:True
def Ixs (ids:List Nat):Nat->List Nat->Prop
 |_,[]=>True
 |j,o::r=>ix ids j=o/\Ixs ids (j+1) r
def Ba1:∀(r os:List Nat) (j:Nat),os.drop j=r->(∀i,Nat.blt i os.length=true->ix ids i=ix os i)->Ixs ids j r
 |[],_,_,_,_=>trivial
 |o::r,os,j,e,h=>by
  have z:j<os.length:=by
   rcases CI j os.length with h|h
   .exact h
   .rw[CV h]at e;cases e
  rw[EG z]at e;injection e with e1 e2;exact⟨by rw[h j (by simpa using z),<-e1];simp[ix,List.getD,AA z],Ba1 r os (j+1) e2 h⟩
def tkO:Nat->List (Option AO)->(List (Option AO)->Option α)->Option α
 |0,_,c=>c []
 |_+1,[],c=>c []
 |n+1,x::r,c=>tkO n r λl=>c (x::l)
variable{S:α→AV→Aa→Prop}{args:List AV}{os0:List Nat}{m':R α}
section
variable[GW P]
def Cd{K:Nat}{m:R α}(N:Nat)(hf:P.funcs[f]?=some fn)(e:m=m')(hI0:Ids h0 os0 K)(hr:∀ids,Ixs ids 0 os0→Ids h0 ids (K+N)→P.funcs[f]?=some fn→KN K N→WR P f n false (Zk S h0) (m'.bind R.ok) [.code c] (Ac (Aa5 0 args)) [] (hp h0 ids (xs++List.replicate N none)) .ret)(hb:fn.body=some c:=by exact rfl)(hn:fn.name≠"runtime.NumGoroutine":=by decide)(hnt:fn.ntmps=n:=by exact rfl)(hl:Nat.ble args.length n=true:=by exact rfl)(hx:xs.length=K:=by exact rfl): m≠.bad→Bs P f args (hp h0 os0 xs) (Kn S h0 m):=A8r N hf hb hn hnt hl hI0 hx fun ids he hI=>D8 (Ae e (hr ids (Ba1 os0 os0 0 rfl (by rw[hI0.len];exact he)) hI hf ⟨trivial⟩))
section
def rg{a:α}{vs:List AV}{K:Nat}(V:KN K N:=by assumption)(hf:P.funcs[f]?=some fn:=by assumption)(z:Ids h0 ids (K+N):=by assumption)(A:xs.length=K+N:=by exact rfl)(hr:Gc P (hp h0 ids xs) (Ac l) fn.results.toList=some vs:=by exact rfl)(D:tkO K xs some=some ys:=by exact rfl)(G:ys.length=K:=by exact rfl)(O:HL (hp h0 ids xs) (hp h0 ids (ys++List.replicate N none)) xs (ys++List.replicate N none):=by repeat (first|exact .nil|refine .keep ?_|refine .drop ?_))(hz:Fz (hp h0 ids xs) (hp h0 ids (ys++List.replicate N none)) (Hn vs) v:=by exact .same _)(U:S a v (hp h0 (tkf ids K 0) ys):=by first|exact⟨rfl,rfl⟩|exact⟨_,_,by assumption,rfl,rfl⟩|exact⟨_,rfl,rfl⟩|exact⟨_,_,rfl,rfl⟩|exact⟨_,_,_,_,_,_,_,_,_,_,_,_,_,_,_,_,by assumption,by assumption,by assumption,by assumption,by assumption,by assumption,by assumption,by assumption,rfl,rfl⟩): WR P f n false (Zk S h0) (.ok a) (.code .ret::k) (Ac l) [] (hp h0 ids xs) u:=Abi ys hf z A hr G O hz U
def rge{a:α}{vs:List AV}{K:Nat}(V:KN K N:=by assumption)(hf:P.funcs[f]?=some fn:=by assumption)(z:Ids h0 ids (K+N):=by assumption)(A:xs.length=K+N:=by exact rfl)(hr:Gc P (hp h0 ids xs) (Ac l) fn.results.toList=some vs:=by exact rfl)(D:tkO K xs some=some ys:=by exact rfl)(G:ys.length=K:=by exact rfl)(O:HL (hp h0 ids xs) (hp h0 ids (ys++List.replicate N none)) xs (ys++List.replicate N none):=by repeat (first|exact .nil|refine .keep ?_|refine .drop ?_))(hz:Fz (hp h0 ids xs) (hp h0 ids (ys++List.replicate N none)) (Hn vs) v:=by exact .same _)(U:S a v (hp h0 (tkf ids K 0) ys):=by first|exact⟨rfl,rfl⟩|exact⟨_,_,by assumption,rfl,rfl⟩|exact⟨_,rfl,rfl⟩|exact⟨_,_,rfl,rfl⟩|exact⟨_,_,_,_,_,_,_,_,_,_,_,_,_,_,_,_,by assumption,by assumption,by assumption,by assumption,by assumption,by assumption,by assumption,by assumption,rfl,rfl⟩): WR P f n false (Zk S h0) (.ok a) [] (Ac l) [] (hp h0 ids xs) u:=Al8 ys hf z A hr G O hz U
end
end
abbrev Df(P:Program)[GW P](f:FuncId)(h0:Aa)(os:List Nat)(M:R α)(A:List AV)(zs:List (Option AO))(X:α->AV)(Y:α->List (Option AO)):Prop:=M≠.bad->Bs P f A (hp h0 os zs) (Kn (λa v h'=>v=X a/\h'=hp h0 os (Y a)) h0 M)
abbrev CGS(P:Program)[GW P](f:FuncId)(h0:Aa)(os:List Nat)(M:R α)(A:List AV)(zs:List (Option AO))(X:α->AV):Prop:=Df P f h0 os M A zs X λ_=>zs
abbrev Ccu(v:AV)(g st:Nat)(e:α->List AV)(l:List α):Option AO:=Af v g st (List.map e l)
abbrev Sb(P:Program)[GW P](f:FuncId)(h0:Aa)(os:List Nat)(M:R α)(A:List AV)(zs:List (Option AO))(o:Nat)(n:α->Nat)(X:α->AV->AV)(Y:α->AV->Nat->List (Option AO)):Prop:=M≠.bad->Bs P f A (hp h0 os zs) (Kn (λa v h'=>∃w g,Av w o g (n a)/\v=X a w/\h'=hp h0 os (Y a w g)) h0 M)
variable{zs:List (Option AO)}{js:List Nat}{δ:Type}
section
variable[GW P]{F:γ→R β}{all r:List Oper}{pos:String}
def A42{v:PV}{K:Nat}(A:KN K N)(hf:P.funcs[f]?=some fn)(z:Ids h0 ids (K+N)):WU P f n false (Zk S h0) (.pan v) (.pan v.av false) fr [] (hp h0 ids xs) u:=Cr hf z
def cG{g:FuncId}{A:List AV}(js:List Nat)(U:Ids (hp h0 ids (S9 js xs)) (Un ids js) js.length->mg≠.bad->Bs P g A (hp (hp h0 ids (S9 js xs)) (Un ids js) zs) (Kn S (hp h0 ids (S9 js xs)) mg))(hk:∀a,mg=.ok a->∀v h',S a v h'->WO P f n d Q k all ((rest a).bind F) r (Ac ((t,v)::l)) ds h' u)(V:ev (Ac l) x=.func (.func g) fst cap:=by exact rfl)(W:fst++Ev (Ac l) aS++cap=A:=by exact rfl)(D:Ids h0 ids N:=by assumption)(G:xs.length=N:=by exact rfl)(O:V9 N js=true:=by exact rfl)(hz:js.length=zs.length:=by exact rfl)(X:T8 js zs xs=xs:=by exact rfl)(ht:Ee n (some t)=true:=by exact rfl)(hw:Cx all (Ac l) ⟨some t,.call ⟨.value x,⟨aS⟩,ts⟩,ty,pos,after,gd⟩=some true:=by exact rfl)(z:∀v,mg=.pan v->WU P f n d Q (.pan v) (.pan v.av false) (Ac l) ds (hp h0 ids (S9 js xs)) u:=by first|exact λv _=>A42 (by assumption) (by assumption) (by assumption)|exact λv _=>Es (by assumption) (by assumption)): WO P f n d Q k all ((mg.bind rest).bind F) (⟨some t,.call ⟨.value x,⟨aS⟩,ts⟩,ty,pos,after,gd⟩::r) (Ac l) ds (hp h0 ids xs) u:=Dj js D G O (U (D.sub' G O)) hz X ht hw V W z λa Y v h' Z=>D6 (hk a Y v h' Z)
def Z6{g:FuncId}{A:List AV}(js:List Nat)(U:Ids (hp h0 ids (S9 js xs)) (Un ids js) js.length->mg≠.bad->Bs P g A (hp (hp h0 ids (S9 js xs)) (Un ids js) zs) (Kn S (hp h0 ids (S9 js xs)) mg))(hk:∀a,mg=.ok a->∀v h',S a v h'->Eu P all pre i h' pend/\WP P f n d Q k all pre ((rest a).bind F) plan pend (Ac ((t,v)::l)) ds h' u)(V:all[i]?=some ⟨some t,.call ⟨.value x,⟨aS⟩,ts⟩,ty,pos,after,gd⟩:=by exact rfl)(W:ev (Ac l) x=.func (.func g) fst cap:=by exact rfl)(X:fst++Ev (Ac l) aS++cap=A:=by exact rfl)(D:Ids h0 ids N:=by assumption)(G:xs.length=N:=by exact rfl)(O:V9 N js=true:=by exact rfl)(hz:js.length=zs.length:=by exact rfl)(Y:T8 js zs xs=xs:=by exact rfl)(ht:Ee n (some t)=true:=by exact rfl)(hw:Cx all (Ac l) ⟨some t,.call ⟨.value x,⟨aS⟩,ts⟩,ty,pos,after,gd⟩=some true:=by exact rfl)(z:∀v,mg=.pan v->∀fr,(∀t,(all.any λo=>o.dst==some t)=false->fr t=Ac l t)->WU P f n d Q (.pan v) (.pan v.av false) fr ds (hp h0 ids (S9 js xs)) u:=by first|exact λv _ _ _=>A42 (by assumption) (by assumption) (by assumption)|exact λv _ _ _=>Es (by assumption) (by assumption)): WP P f n d Q k all pre ((mg.bind rest).bind F) ((true,i)::plan) pend (Ac l) ds (hp h0 ids xs) u:=R3 js D G O (U (D.sub' G O)) hz Y V ht hw W X z λa Z v h' hs=>by rw[Db];exact hk a Z v h' hs
def F1(hr:WO P f n d Q k all m ops fr ds (hp h0 ids ys) u)(z:Ids h0 ids N:=by assumption)(A:xs.length=N:=by exact rfl)(hk:V9 N js=true:=by exact rfl)(hz:js.length=zs.length:=by exact rfl)(e:T8 js zs xs=ys:=by first|(simp only[EE,EF,DS,CM,EK,FG,T8,Wb,Aav,AV.cells,AV.I,AV.q];rfl)|rfl):WO P f n d Q k all m ops fr ds (hp (hp h0 ids (S9 js xs)) (Un ids js) zs) u:=A5h js ys z A hk hz e hr
def Alv(hr:WP P f n d Q k all pre m plan pend fr ds (hp h0 ids ys) u)(z:Ids h0 ids N:=by assumption)(A:xs.length=N:=by exact rfl)(hk:V9 N js=true:=by exact rfl)(hz:js.length=zs.length:=by exact rfl)(e:T8 js zs xs=ys:=by first|(simp only[EE,EF,DS,CM,EK,FG,T8,Wb,Aav,AV.cells,AV.I,AV.q];rfl)|rfl)(hpd:Eu P all pre i (hp h0 ids ys) pend:=by first|exact Bh|exact A9 _): Eu P all pre i (hp (hp h0 ids (S9 js xs)) (Un ids js) zs) pend/\WP P f n d Q k all pre m plan pend fr ds (hp (hp h0 ids (S9 js xs)) (Un ids js) zs) u:=Vg js ys z A hk hz e ⟨hpd,hr⟩
def Arl{S:δ->AV->Aa->Prop}{F:γ->R δ}{g:FuncId}{A:List AV}{M:R δ}{K:Nat}(hk:∀a,mg=.ok a->WO P f n false (Zk S h0) k all ((rest a).bind F) r (Ac ((t,e' a)::l)) [] (hp h0 ids xs) u)(z:ev (Ac l) x=.func (.func g) fst cap:=by exact rfl)(D:M=(mg.bind rest).bind F:=by exact rfl)(G:CP P g A mg e':=by infer_instance)(O:fst++Ev (Ac l) aS++cap=A:=by exact rfl)(V:KN K N:=by assumption)(hf:P.funcs[f]?=some fn:=by assumption)(U:Ids h0 ids (K+N):=by assumption)(ht:Nat.blt t n=true:=by exact rfl)(hw:Cx all (Ac l) ⟨some t,.call ⟨.value x,⟨aS⟩,ts⟩,ty,pos,after,gd⟩=some true:=by exact rfl):
  WO P f n false (Zk S h0) k all M (⟨some t,.call ⟨.value x,⟨aS⟩,ts⟩,ty,pos,after,gd⟩::r) (Ac l) [] (hp h0 ids xs) u:=by
 subst D;exact Cb A ht hw z O (G _) (λv _=>Cr hf U) hk
def A5o{S:δ->AV->Aa->Prop}{F:γ->R δ}{g:FuncId}{A:List AV}{M:R δ}{K:Nat}(hk:∀a,mg=.ok a->WP P f n false (Zk S h0) k all pre ((rest a).bind F) plan pend (Ac ((t,e' a)::l)) [] (hp h0 ids xs) u)(z:ev (Ac l) x=.func (.func g) fst cap:=by exact rfl)(D:M=(mg.bind rest).bind F:=by exact rfl)(G:CP P g A mg e':=by infer_instance)(O:fst++Ev (Ac l) aS++cap=A:=by exact rfl)(W:KN K N:=by assumption)(hf:P.funcs[f]?=some fn:=by assumption)(U:Ids h0 ids (K+N):=by assumption)(ht:Nat.blt t n=true:=by exact rfl)(hw:Cx all (Ac l) ⟨some t,.call ⟨.value x,⟨aS⟩,ts⟩,ty,pos,after,gd⟩=some true:=by exact rfl)(hpd:Eu P all pre i (hp h0 ids xs) pend:=by exact Bh):
  Nu P f n false (Zk S h0) k all pre M true ⟨some t,.call ⟨.value x,⟨aS⟩,ts⟩,ty,pos,after,gd⟩ i plan pend (Ac l) [] (hp h0 ids xs) u:=λV=>by
 subst D;exact D7 A V hw ht z O (G _) (λv _ fr _=>Cr hf U) hpd hk
end
section
variable[GW P]{F:γ→R β}
def Bkv{z:List (Nat×AV)}{ks:List Nat}(A:Kf l ks l')(D:FrIs l z):FrIs l (z++l'):=by
 induction D with
 |nil=>exact A.is
 |cons G _ O=>exact .cons G O
def Kl{L:List α}{body:Nat->α->σ->R σ}{rest:σ->R γ}{D:AV}{g0:Nat}(ks:List Nat)(t o:Nat)(z:σ->List δ)(E:σ->AV->List (Nat×AV))(X:σ->AV->Nat->List (Option AO))(S:Av D (ix ids o) g0 (z s0).length)(A : ∀ (j:Nat) (a:α) (s:σ) (v:AV) (g:Nat),L[j]? = some a->Cur L j->Av v (ix ids o) g (z s).length -> ∀ W:σ->R σ,(∀ s' v' g',Av v' (ix ids o) g' (z s').length->WR P f n d Q (((W s').bind rest).bind F) (.inLoop c::k) (Ac (((t,.int .i64 ((j+1:Nat):Int))::E s' v')++l')) ds (hp h0 ids (X s' v' g')) u) ->
   WR P f n d Q ((body j a s).bind (Aff W rest F)) (.code c::.inLoop c::k) (Ac (((t,.int .i64 (j:Int))::E s v)++l')) ds (hp h0 ids (X s v g)) u)(fin:∀s v g,Av v (ix ids o) g (z s).length->WR P f n d Q ((rest s).bind F) (.code c::.inLoop c::k) (Ac (((t,.int .i64 (L.length:Int))::E s v)++l')) ds (hp h0 ids (X s v g)) u)(U:X s0 D g0=xs:=by exact rfl)(V:Kf l ks l':=by repeat (first|exact Kf.nil|exact FAt.here|apply FAt.there rfl|apply Kf.cons))(h1:FrIs l ((t,.int .i64 0)::E s0 D):=by repeat (first|exact .nil|refine .cons rfl ?_)):
  WR P f n d Q (((A5 body 0 L s0).bind rest).bind F) (.code (.loop c)::k) (Ac l) ds (hp h0 ids xs) u:=by
 refine Xm _ (Bkv V h1) ?_
 subst U
 refine Ld L body rest (λj s fr h=>∃v g,Av v (ix ids o) g (z s).length/\fr=Ac (((t,.int .i64 (j:Int))::E s v)++l')/\h=hp h0 ids (X s v g)) s0 ⟨D,g0,S,rfl,rfl⟩ ?_ ?_
 .rintro j a O W Y s fr h ⟨v,g,G,rfl,rfl⟩
  exact A j a s v g O ⟨A6 O⟩ G W λs' v' g' h'=>Y s' _ _ ⟨v',g',h',rfl,rfl⟩
 .rintro s fr h ⟨v,g,G,rfl,rfl⟩
  exact fin s v g G
def Hx{W:σ->R σ}{rest:σ->R γ}{s:σ}{o:Nat}{z:σ->List δ}{E:σ->AV->List (Nat×AV)}{X:σ->AV->Nat->List (Option AO)}{g:Nat}(A:∀s' v' g',Av v' (ix ids o) g' (z s').length->WR P f n d Q (((W s').bind rest).bind F) todo (Ac (((t,.int .i64 ((j+1:Nat):Int))::E s' v')++l')) ds (hp h0 ids (X s' v' g')) u)(D:X s v g=xs:=by exact rfl)(G:Av v (ix ids o) g (z s).length:=by assumption)(O:Ac l t=.int .i64 ((j+1:Nat):Int):=by first|exact Bdu rfl (by assumption) (by assumption)|exact Bew rfl (by assumption) rfl)(S:FrIs l (E s v++l'):=by repeat (first|exact .nil|refine .cons rfl ?_|refine .cons (cb (Eq.symm (by assumption))) ?_)):
  WR P f n d Q ((R.ok s).bind (Aff W rest F)) todo (Ac l) ds (hp h0 ids xs) u:=by
 subst D;exact Z4 (Xm _ (.cons O S) (A s v g G))
end
def gc {q:Prop}(h:q:=by
 repeat' (first
  |(refine Bj9 ?_;first|refine By ?_|(refine k_j (by assumption) ?_;first|exact a_j (p:=()) (by assumption)|exact a_j (p:=_) (by assumption)|exact a_j (p:=(_,_)) (by assumption)|exact a_j (p:=(_,_,_)) (by assumption)|exact a_j (p:=(_,_,_,_)) (by assumption)|exact a_j (p:=(_,_,_,_,_)) (by assumption)|exact a_j (p:=(_,_,_,_,_,_)) (by assumption)|exact a_j (p:=(_,_,_,_,_,_,_)) (by assumption))|refine Ai ?_|refine A4 ?_|(refine Bbf ?_;first|refine c_p ?_|refine Bj5 ?_|refine c_t ?_|refine c_f ?_|refine Bmc (λz=>?_) (λz=>?_)|refine Blf (λz=>?_) (λz=>?_)|refine Bks (λz=>?_) (λz=>?_)|refine Bhg (λz=>?_) (λz=>?_))|refine A8 ?_|refine A3 ?_|refine Ci ?_|refine Di rfl ?_|refine A1m ?_|refine A4j ?_|exact rt|exact rg|exact rge|(refine Bm0 ?_;first|exact Bni (by assumption)|exact Hx (by assumption)|exact Bnk (by assumption)|exact Bnd (by assumption))|refine A4m ?_|refine N7 ?_|refine Aud ?_|refine A07 ?_|(refine A4o ?_;intro z))
  |(refine Bk2 ?_;first|refine F1 ?_|refine Ad ?_|refine Bj7 ?_|(refine Bkh ?_;first|refine o_g ?_|refine Be8 ?_|refine A8q ?_)|(refine A5f ?_;first|refine Eo ?_ Ayo|refine Eo ?_ Azd|refine Eo ?_ Ayu)|(refine Bav ?_;first|(refine Bar ?_;intro z z)|(refine Arl ?_;intro z z))|(refine Bfu ?_;first|refine Eo ?_ Ayc|refine Eo ?_ Ayq)|(refine Bbd ?_;first|refine Eo ?_ Aym|(refine Bfj ?_;intro z z z)|refine Eo ?_ Ay2)|(refine Bbg ?_;first|(refine Bjm ?_;intro z)|(refine Be9 ?_;intro z)|refine Eo ?_ Ay4)|refine Eo ?_ A6g|(refine Bae ?_;first|refine Eo ?_ Ay1|refine Eo ?_ Ayg|refine Eo ?_ Azb|refine Eo ?_ Ay3|refine Eo ?_ Ay7|refine Eo ?_ Ayx|refine Eo ?_ Ay6|refine Eo ?_ Azc|refine Eo ?_ Ax9)|refine Bjc ?_|(refine A9n ?_;first|(refine R6 0 ?_;intro z)|(refine R6 1 ?_;intro z)|(refine R6 2 ?_;intro z)|(refine R6 3 ?_;intro z)|(refine R6 4 ?_;intro z)|(refine R6 5 ?_;intro z)|(refine R6 6 ?_;intro z)|(refine R6 7 ?_;intro z)|(refine R6 8 ?_;intro z))|(refine Bfy ?_;first|(refine Xf 0 ?_;intro z)|(refine Xf 1 ?_;intro z)|(refine Xf 2 ?_;intro z)|(refine Xf 3 ?_;intro z)|(refine Xf 4 ?_;intro z)|(refine Xf 5 ?_;intro z)|(refine Xf 6 ?_;intro z)|(refine Xf 7 ?_;intro z)|(refine Xf 8 ?_;intro z))|(refine Bfc ?_;first|refine Eo ?_ Aze|(refine A9a ?_;intro z z z)|refine Eo ?_ Ay5)|refine Eo ?_ A7u|refine Eo ?_ A66|(refine Be6 ?_;first|refine Eo ?_ Aza|refine Eo ?_ Ayt)|(refine Bf9 ?_;first|(refine A8l ?_;intro z)|refine Eo ?_ Ayh|refine Eo ?_ A7i|refine Eo ?_ Azg|refine Eo ?_ Azi|refine Eo ?_ A6l|refine Eo ?_ Ax6)|refine Eo ?_ Ay8|refine Eo ?_ Ayn|refine Eo ?_ Ay0|refine Eo ?_ Ax8|(refine Bkj ?_;first|refine Bez (ht:=λ_ _ _=>?_) (hf:=λ_ _ _=>?_) (hk:=λ_=>?_)|(apply Bal<;>intros)|(apply Bf4<;>intros))|(refine Cf ?_;intro z)|exact Bk6 (by assumption)|exact Be4 (by assumption)|exact Bko (by assumption)|exact Bk7 (by assumption))
  |(refine Ble ?_;first|refine Fp ?_|refine Bkn ?_|(refine Bbc ?_;first|(refine Bkw ?_;first|refine p_g ?_|refine Bfw ?_|refine A5n ?_)|(refine A4x ?_;first|refine Em ?_ Ayo|refine Em ?_ Azd|refine Em ?_ Ayu)|(refine A93 ?_;first|(refine A9f ?_;intro z z)|(refine A5o ?_;intro z z))|(refine Bfg ?_;first|refine Em ?_ Ayc|refine Em ?_ Ayq)|(refine A9r ?_;first|refine Em ?_ Aym|(refine Bfo ?_;intro z z z)|refine Em ?_ Ay2)|(refine Baf ?_;first|refine Blg ?_|refine Em ?_ Bfb|refine Em ?_ Ay4)|refine Em ?_ A6g|(refine Bb1 ?_;first|refine Em ?_ Ay1|refine Em ?_ Ayg|refine Em ?_ Azb|refine Em ?_ Ay3|refine Em ?_ Ay7|refine Em ?_ Ayx|refine Em ?_ Ay6|refine Em ?_ Azc|refine Em ?_ Ax9)|(refine Bf1 ?_;first|refine Em ?_ Aze|(refine Bbx ?_;intro z z z)|refine Em ?_ Ay5)|refine Em ?_ A7u|refine Em ?_ A66|(refine Bfd ?_;first|refine Em ?_ Aza|refine Em ?_ Ayt)|(refine Bfv ?_;first|(refine A9d ?_;intro z)|refine Em ?_ Ayh|refine Em ?_ A7i|refine Em ?_ Azg|refine Em ?_ Azi|refine Em ?_ A6l|refine Em ?_ Ax6)|refine Em ?_ Ay8|refine Em ?_ Ayn|refine Em ?_ Ay0|refine Em ?_ Ax8)|(refine Da ?_;intro z))
  |refine Alv ?_)):q:=h
def go {p q:Prop}(hp:p)(h:Rst p->q:=by
 intro zr;repeat' (first
  |(refine Bj9 ?_;first|refine By ?_|(refine k_j (by assumption) ?_;first|exact a_j (p:=()) (by assumption)|exact a_j (p:=_) (by assumption)|exact a_j (p:=(_,_)) (by assumption)|exact a_j (p:=(_,_,_)) (by assumption)|exact a_j (p:=(_,_,_,_)) (by assumption)|exact a_j (p:=(_,_,_,_,_)) (by assumption)|exact a_j (p:=(_,_,_,_,_,_)) (by assumption)|exact a_j (p:=(_,_,_,_,_,_,_)) (by assumption))|refine Ai ?_|refine A4 ?_|(refine Bbf ?_;first|refine c_p ?_|refine Bj5 ?_|refine c_t ?_|refine c_f ?_)|refine A8 ?_|refine A3 ?_|refine Ci ?_|refine Di rfl ?_|refine A1m ?_|refine A4j ?_|refine A07 ?_|(refine A4o ?_;intro zq))
  |(refine Bk2 ?_;first|refine F1 ?_|refine Ad ?_|refine Bj7 ?_|(refine Bkh ?_;first|refine o_g ?_|refine Be8 ?_|refine A8q ?_)|(refine A5f ?_;first|refine Eo ?_ Ayo|refine Eo ?_ Azd|refine Eo ?_ Ayu)|(refine Bav ?_;first|(refine Bar ?_;intro zq zq)|(refine Arl ?_;intro zq zq))|(refine Bfu ?_;first|refine Eo ?_ Ayc|refine Eo ?_ Ayq)|(refine Bbd ?_;first|refine Eo ?_ Aym|(refine Bfj ?_;intro zq zq zq)|refine Eo ?_ Ay2)|(refine Bbg ?_;first|(refine Bjm ?_;intro zq)|(refine Be9 ?_;intro zq)|refine Eo ?_ Ay4)|refine Eo ?_ A6g|(refine Bae ?_;first|refine Eo ?_ Ay1|refine Eo ?_ Ayg|refine Eo ?_ Azb|refine Eo ?_ Ay3|refine Eo ?_ Ay7|refine Eo ?_ Ayx|refine Eo ?_ Ay6|refine Eo ?_ Azc|refine Eo ?_ Ax9)|refine Bjc ?_|(refine A9n ?_;first|(refine R6 0 ?_;intro zq)|(refine R6 1 ?_;intro zq)|(refine R6 2 ?_;intro zq)|(refine R6 3 ?_;intro zq)|(refine R6 4 ?_;intro zq)|(refine R6 5 ?_;intro zq)|(refine R6 6 ?_;intro zq)|(refine R6 7 ?_;intro zq)|(refine R6 8 ?_;intro zq))|(refine Bfy ?_;first|(refine Xf 0 ?_;intro zq)|(refine Xf 1 ?_;intro zq)|(refine Xf 2 ?_;intro zq)|(refine Xf 3 ?_;intro zq)|(refine Xf 4 ?_;intro zq)|(refine Xf 5 ?_;intro zq)|(refine Xf 6 ?_;intro zq)|(refine Xf 7 ?_;intro zq)|(refine Xf 8 ?_;intro zq))|(refine Bfc ?_;first|refine Eo ?_ Aze|(refine A9a ?_;intro zq zq zq)|refine Eo ?_ Ay5)|refine Eo ?_ A7u|refine Eo ?_ A66|(refine Be6 ?_;first|refine Eo ?_ Aza|refine Eo ?_ Ayt)|(refine Bf9 ?_;first|(refine A8l ?_;intro zq)|refine Eo ?_ Ayh|refine Eo ?_ A7i|refine Eo ?_ Azg|refine Eo ?_ Azi|refine Eo ?_ A6l|refine Eo ?_ Ax6)|refine Eo ?_ Ay8|refine Eo ?_ Ayn|refine Eo ?_ Ay0|refine Eo ?_ Ax8|(refine Bkj ?_;first|(refine Bez (ht:=by intros;exact gc) (hf:=by intros;exact gc) (hk:=?_);intro zq)|refine Bal (by intros;exact gc) (by intros;exact gc) ?_|refine Bf4 (by intros;exact gc) (by intros;exact gc) ?_)|(refine Cf ?_;intro zq)|exact Bk6 (by assumption)|exact Be4 (by assumption)|exact Bko (by assumption)|exact Bk7 (by assumption))
  |(refine Ble ?_;first|refine Fp ?_|refine Bkn ?_|(refine Bbc ?_;first|(refine Bkw ?_;first|refine p_g ?_|refine Bfw ?_|refine A5n ?_)|(refine A4x ?_;first|refine Em ?_ Ayo|refine Em ?_ Azd|refine Em ?_ Ayu)|(refine A93 ?_;first|(refine A9f ?_;intro zq zq)|(refine A5o ?_;intro zq zq))|(refine Bfg ?_;first|refine Em ?_ Ayc|refine Em ?_ Ayq)|(refine A9r ?_;first|refine Em ?_ Aym|(refine Bfo ?_;intro zq zq zq)|refine Em ?_ Ay2)|(refine Baf ?_;first|refine Blg ?_|refine Em ?_ Bfb|refine Em ?_ Ay4)|refine Em ?_ A6g|(refine Bb1 ?_;first|refine Em ?_ Ay1|refine Em ?_ Ayg|refine Em ?_ Azb|refine Em ?_ Ay3|refine Em ?_ Ay7|refine Em ?_ Ayx|refine Em ?_ Ay6|refine Em ?_ Azc|refine Em ?_ Ax9)|(refine Bf1 ?_;first|refine Em ?_ Aze|(refine Bbx ?_;intro zq zq zq)|refine Em ?_ Ay5)|refine Em ?_ A7u|refine Em ?_ A66|(refine Bfd ?_;first|refine Em ?_ Aza|refine Em ?_ Ayt)|(refine Bfv ?_;first|(refine A9d ?_;intro zq)|refine Em ?_ Ayh|refine Em ?_ A7i|refine Em ?_ Azg|refine Em ?_ Azi|refine Em ?_ A6l|refine Em ?_ Ax6)|refine Em ?_ Ay8|refine Em ?_ Ayn|refine Em ?_ Ay0|refine Em ?_ Ax8)|(refine Da ?_;intro zq))
  |refine Alv ?_
  |((repeat revert zq);exact zr.o))):q:=h ⟨hp⟩
@[irreducible] def Aot:Nat:=4000000
def A6o (S:Al):(Wq S).map (rI .u8)=S.map λb=>[.int .u8 (b.toNat:Int)]:=by simp only[Wq,FT];rfl
def Bgr[GW P]{S:Al}{b:Bool}(z:n=1)(A:b=true):F6 P h n b (.str S)=some ((Wq S).map (rI .u8)):=by subst z;subst A;rw[A6o];rfl
section
variable[GW P]{e':α→List AV}{L:List α}{x:α}{t:TypeId}{E:TI}{k:IntKind}
def A4f {i:Int}(A:∀x,e x=e' x)(D:ti P t=some ⟨.sl et,a,b,z⟩)(hE:ti P et=some E)(G:st=E.size)(h0:0<=i)(O:L[i.toNat]?=some x):Dl P h t (.sl st (L.map e)) (.int k i)=some (.cp (e' x) 0):=A x▸Ajb D hE G h0 O
def An0(A:∀x,e x=e' x)(D:ti P t=some ⟨.sl et,a,b,z⟩)(hE:ti P et=some E)(G:st=E.size)(O:L[i]?=some x):Dl P h t (.sl st (L.map e)) (.int k (i:Int))=some (.cp (e' x) 0):=A x▸Ex D hE G O
end
def Bnj:Aot=4000000:=by unfold Aot;rfl
def Bnf(st:Nat)(e:α->List AV)(z:β->AV)(h:Aa)(o:Nat)(m:R (List α×β)):AR->Aa->Prop:=λr h'=>match m with
 |.ok a=>∃v g,r=.ret (.tup [v,z a.2])/\Av v o g a.1.length/\h'=upd h o (Af v g st (a.1.map e))
 |.pan v=>r=.panic v.av/\h'=h
 |.bad=>False
def CPT(P:Program)[GW P](g:FuncId)(args:List AV)(m:R (List α×β))(st:Nat)(e:α->List AV)(z:β->AV):Prop:=∀h o,h o=none->m≠.bad->Bs P g args h (Bnf st e z h o m)
def CPT.lend[GW P]{g:FuncId}{args':List AV}{m:R (List α×β)}{Z:β->AV}(hc:CPT P g args' m st e Z)(hz:LFz h args args')(hr:∀x,Cy st (e x))(ah:∀x,∀c∈e x,Free c)(ai:∀b,Free (Z b))(hb:m≠.bad):
  Bs P g args h (Yd (λp:List α×β=>AV.tup [.sl st (p.1.map e),Z p.2]) h m):=by
 obtain⟨U,V⟩:=hc hE 0 rfl hb
 refine⟨U,λB mu w cargs s ha=>?_⟩
 obtain⟨z,hfz⟩:=hz.len
 have aj:Ry hE mu w args' cargs.toList:=⟨z▸ha.1,λi hi=>Ig s (Wc h) (hfz i (z▸hi)) (ha.2 i (z▸hi))⟩
 refine(V B mu w cargs (s.sub (Wc h)) aj).mono ?_
 rintro en w' ⟨r,h1,mu',hq,aa,A,O⟩
 have ak:Sim B mu' hE w':=aa.sub (Wc h1)
 have W:Ez hE mu w hE mu' w':=A.trans (ED (Wc h1))
 obtain⟨k1,k2⟩:=s.back ak W
 cases hm:m with
 |bad=>exact absurd hm hb
 |pan v=>
  rw[hm]at hq;obtain⟨rfl,rfl⟩:=hq;refine⟨_,h,mu',⟨rfl,rfl⟩,k1,k2,?_⟩;obtain⟨x,rfl,x1,x2,x3⟩:=O.panic_inv;refine⟨x1,x2,?_⟩;obtain⟨xv,xr,xg⟩:=x;simp only[PV.av]at x3;cases x3 with
  |iface _ _ c hc=>exact .iface _ _ c (v.x.free.rv hc)
 |ok a=>
  rw[hm]at hq;obtain⟨v,g',rfl,hv,rfl⟩:=hq;refine⟨_,h,mu',⟨rfl,rfl⟩,k1,k2,?_⟩;cases en with
  |panicked _=>exact O.elim
  |outgrown=>exact O.elim
  |returned c=>
   have al:RV (upd hE 0 (Af v g' st (a.1.map e))) mu' w' (.tup [v,Z a.2]) c:=O;show RV h mu' w' (.tup [.sl st (a.1.map e),Z a.2]) c;cases al with
   |tup _ vs hl hp=>
    refine .tup _ vs hl λi hi=>?_;match i,hi with
    |1,_=>exact(ai a.2).rv (hp 1 (by simp))
    |0,_=>
     have h0:RV (upd hE 0 (Af v g' st (a.1.map e))) mu' w' v (vs.getD 0 undef):=hp 0 (by simp);show RV h mu' w' (.sl st (a.1.map e)) (vs.getD 0 undef);have ab:Fz (upd hE 0 (Af v g' st (a.1.map e))) hE v (.sl st (a.1.map e)):=Ca hv (by simp[upd]) rfl hr;have D:RV hE mu' w' (.sl st (a.1.map e)) (vs.getD 0 undef):=Ig aa (Wc _) ab h0;generalize vs.getD 0 undef=c0 at h0 D;rcases hv with⟨rfl,hn⟩|rfl
     .have:a.1=[]:=CQ.1 hn;rw[this]at D ⊢;cases h0;exact .sl0 st _ _
     .have X:∀{o x l},h o=some x->mu' o x.gen=some l->mu o x.gen=some l:=by
       intro o x l hx hl
       have:∃l,mu o x.gen=some l:=by
        cases x with
        |rows g st rs=>obtain⟨l,h1,_⟩:=s.rows _ _ _ _ hx;exact⟨l,h1⟩
        |mp g es=>obtain⟨l,h1,_⟩:=s.maps _ _ _ hx;exact⟨l,h1⟩
        |blk g x=>obtain⟨l,h1,_⟩:=s.blks _ _ _ hx;exact⟨l,h1⟩
       obtain⟨l',S⟩:=this
       have:=A.mu _ _ _ S
       rw[hl]at this
       cases this
       exact S
      cases h0 with
      |ref _ _ _ _ cap l am ag aq ar av=>
       have ac:¬C0 h mu' l.b:=by rintro⟨o',x,l',hx,S,an⟩;have ad:=(s.muOk _ _ _ (X hx S)).2.1;have:=(A.same l'.b ad (by rintro⟨o2,x2,l2,ao,_⟩;cases ao)).2;refine this ⟨0,.rows g' st (a.1.map e),l,by simp[upd,Af],am,an.symm⟩
       have G:∀i j,i<(a.1.map e).length->j<st->Free (cell (a.1.map e) i j):=by
        intro i j hi hj;rw[AL]at hi;have ae:=hr (a.1[i]);have af:j<(e a.1[i]).length:=by have:=ae.1;omega
        have:cell (a.1.map e) i j=(e a.1[i])[j]:=by unfold cell;simp[List.getD,hi,af]
        rw[this];exact ah _ _ (BK af)
       have Y:a.1.length=(a.1.map e).length:=(AL _).symm;rw[Y]at D ⊢;generalize a.1.map e=rows at D G ⊢;cases D with
       |sl0=>exact .sl0 _ _ _
       |sl _ _ b off au ap k3 k4 h1 h2 h3 h4 h5=>exact .sl st rows _ _ _ ap k3 k4 h1 (λi j hi hj=>(G i j hi hj).rv (h2 i j hi hj)) h3 ac h5
end Go.Am

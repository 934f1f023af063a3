/- Written by shrink.py from texts of ours: comments struck, what is not reached left out, names short. -/
import Derived.Test.YtcpfebjhnbjfbaaGreatDoorU15
import Derived.Test.YtcpfebjhnbjfbaaGreatDoorU23
set_option linter.unusedSimpArgs false
set_option linter.unusedVariables false
set_option linter.unusedSectionVars false
set_option linter.defProp false
set_option maxRecDepth 100000
open Go.Proofs.Tryz
namespace Go.Am
open Go Go.ChangeShapes Go.WideShapes Go.RowKit
variable{τ:Type}{α:Type}{t:TypeId}{H:Type}{bk:DataW H→Nat}{bks:List (DataW H)→Nat}{T:Ty τ}{off:Nat}
section
variable{P:Program}[GW P]
def Cj (k:IntKind):Ty Int:=⟨λn=>[.int k n],λn=>(Lit.int k n).wf=true,λ_=>1⟩
def Ej(st:Nat)(T:Ty τ):Ty (List τ):=⟨λl=>[.sl st (l.map T.e)],λl=>∀a∈l,T.good a,λl=>(l.map T.bulk).sum+1⟩
def Apm:Ty Unit:=⟨λ_=>[],λ_=>True,λ_=>0⟩
def Du{β:Type}(A:Ty α)(B:Ty β):Ty (α×β):=⟨λp=>A.e p.1++B.e p.2,λp=>A.good p.1∧B.good p.2,λp=>A.bulk p.1+B.bulk p.2⟩
theorem B57{k:IntKind}(ht:P.underlying t=some (.int k)):Bfl P t (Cj k):=by intro H enc w sp z fuel cs x bk bks B h A;obtain⟨n,rfl,rfl,hw⟩:=DataW.trod_int ht h;exact⟨n,IM (.int k n),hw,B.one _⟩
theorem B2o{Q:Nat→α→Prop}:∀(n:Nat),(∀i,i<n→∃a,Q i a)→∃l:List α,l.length=n∧∀i a,l[i]?=some a→Q i a
 |0,_=>⟨[],rfl,λi a h=>by simp at h⟩
 |n+1,h=>by
  obtain⟨l,A,O⟩:=B2o n λi hi=>h i (Nat.lt_succ_of_lt hi);obtain⟨a,R⟩:=h n (Nat.lt_succ_self n);refine⟨l++[a],by simp[A],λi b z=>?_⟩;by_cases hi:i<n
  ·rw[DE (by omega)]at z;exact O i b z
  ·have D:=(CI.1 z).1;have:i=n:=by simp[A]at D;omega
   subst this;rw[CZ (by omega),A]at z;simp at z;subst z;exact R
theorem B30(B:Bulk bk bks){d:DataW H}:∀{l:List (DataW H)},d∈l→bk d≤bks l
 |[],h=>by simp at h
 |x::l,h=>by
  rw[B.cons];rcases AM.1 h with rfl|h
  ·omega
  ·have:=B30 B h;omega
theorem B3y(B:Bulk bk bks):∀(l:List (DataW H)),l.length≤bks l
 |[]=>by simp
 |x::l=>by rw[B.cons];have h1:=B.one x;have h2:=B3y B l;simp;omega
theorem B3u(B:Bulk bk bks){f:τ→Nat}:∀(l:List τ) (ds:List (DataW H)),l.length=ds.length→(∀(i:Nat) a d,l[i]?=some a→ds[i]?=some d→f a≤bk d)→(l.map f).sum≤bks ds
 |[],[],_,_=>by simp
 |[],_::_,h,_=>by simp at h
 |_::_,[],h,_=>by simp at h
 |a::l,d::ds,h,z=>by rw[B.cons];have h1:=z 0 a d (by simp) (by simp);have h2:=B3u B l ds (by simpa using h) λi a' A D O=>z (i+1) a' A (by simpa using D) (by simpa using O);simp only[BA,HW];omega
theorem Pz{e:TypeId}{st:Nat}(ht:P.underlying t=some (.slice e))(ac:P.cellsOf e=st)(V:0<st)(ad:∀a,Cy st (T.e a))(h:Bfl P e T):Bfl P t (Ej st T):=by
 intro H enc w sp X fuel cs x bk bks B hx hl;rcases DataW.trod_slice ht hx with⟨rfl,rfl⟩|⟨a,len,cap,z,rest,n,_,rfl,rfl,_,Y,_,Z,aa,_⟩
 ·exact⟨[],IM (.sl0 st none 0),λ_ h=>absurd h (BU),by simpa[Ej]using B.one _⟩
 ·rw[ac]at aa;have hb:=B.sl (z.map (·.1)) (rest.map (·.1));have W:len≤Bj:=by have:=B3y B (z.map (·.1));simp only[AL]at this;simp only at hl;omega
  have key:∀i,i<len→∃a1:τ,∃A y,w.cells? 0 (a.add (i*st)) st=some A∧z[i]?=some y∧LR w (T.e a1) A∧T.good a1∧T.bulk a1≤bk y.1:=by
   intro i hi;have hE:=aa i hi;have hi':i<z.length:=by omega
   rw[AA hi',Option.bind_eq_some_iff]at hE;obtain⟨A,D,ae⟩:=hE;have aj:bk (z[i]).1≤bks (z.map (·.1)):=B30 B (CK.2 ⟨_,BR hi',rfl⟩);obtain⟨a1,h1,h2,h3⟩:=h enc w sp X n A _ bk bks B ae (by simp only at hl;omega);exact⟨a1,A,_,D,AA hi',h1,h2,h3⟩
  obtain⟨l,R,hq⟩:=B2o len key;refine⟨l,IM ?_,λa1 hm=>?_,?_⟩
  ·by_cases h0:len=0
   ·subst h0;have:l=[]:=CJ.1 R;subst this;exact .sl0 st (some a) cap
   ·have U:a.spot=none:=by
     obtain⟨a1,A,y,D,_⟩:=key 0 (by omega)
     obtain⟨_,af,hc⟩:=World.cells?_some D
     have O:=hc 0 V
     simp only[II,Addr.add,if_true]at O
     rw[AA (by omega)]at O
     unfold World.cell? at O
     split at O
     ·split at O
      ·cases O
      ·rename_i hh;simpa using hh
     ·cases O
    have ag:a.block<w.heap.size:=by obtain⟨a1,A,y,D,_⟩:=key 0 (by omega);have:=World.cells?_block D V;simpa[Addr.add]using this
    have ab:∀i j,(a.add (i*st)).add j=⟨a.block,a.off+i*st+j,none⟩:=by intro i j;obtain⟨b,off,s⟩:=a;simp only at U;subst U;unfold Addr.add;split<;>split<;>simp_all
    have S:∀i j,i<l.length→j<st→∃a1 v,l[i]?=some a1∧w.cell? ⟨a.block,a.off+i*st+j,none⟩=some v∧Rv w mu0 M0 ((T.e a1).getD j .und) v:=by intro i j hi hj;obtain⟨A,y,D,_,h1,_,_⟩:=hq i _ (AA hi);obtain⟨_,af,hc⟩:=World.cells?_some D;have:=hc j hj;rw[ab,AA (by omega)]at this;refine⟨_,_,AA hi,this,?_⟩;have hr:=h1.2 j (by rw[h1.1];omega);rwa[CF,CF,AA (l:=A) (by omega),BY,←CF]at hr
    have:=Rv.sl (w:=w) (mu:=mu0) (M:=M0) st (l.map T.e) a.block a.off cap (λi j=>(w.cell? ⟨a.block,a.off+i*st+j,none⟩).getD undef) (by simpa[R]using Y) (by simpa[R]using W)
     (λi j hi hj=>by obtain⟨_,v,_,hv,_⟩:=S i j (by simpa using hi) hj;rw[hv];rfl)
     (λi j hi hj=>by obtain⟨a1,v,ah,hv,hr⟩:=S i j (by simpa using hi) hj;rw[hv];simp only[cell,CF,BV,ah,BB,BY]at hr ⊢;exact hr)
     (λr hr=>by obtain⟨a1,_,rfl⟩:=CK.1 hr;exact ad a1) (λh=>h) ag
    rw[show(l.map T.e).length=len by simp[R]]at this
    have e:a=⟨a.block,a.off,none⟩:=by cases a;simp only at U;subst U;rfl
    rw[e]
    exact this
  ·obtain⟨i,hi,rfl⟩:=DU.1 hm;obtain⟨_,_,_,_,_,hg,_⟩:=hq i _ (AA hi);exact hg
  ·have:=B3u B (f:=T.bulk) l (z.map (·.1)) (by simp[R,Z]) λi a1 d ha hd=>by
    obtain⟨A,y,_,hy,_,_,ai⟩:=hq i a1 ha
    rw[BV,hy]at hd
    simp only[BB,AW]at hd
    subst hd
    exact ai
   show(l.map T.bulk).sum+1≤_
   simp only
   omega
def B18(P:Program)[GW P](off:Nat)(fs:List Field)(T:Ty τ)(tot:Nat):Prop:=∀{H:Type} (enc:TypeId×Go.Value→H) (w:World) (sp:Nat→Bool) (z:Bool) (n:Nat) (cs:List Go.Value) (xs:List (DataW H×List MemPlace)) (bk:DataW H→Nat) (bks:List (DataW H)→Nat),Bulk bk bks→xs.length=fs.length→(∀(i:Nat) (f:Field),fs[i]?=some f→DataW.trod enc P w 0 sp z n f.type ((cs.drop f.offset).take (P.cellsOf f.type))=xs[i]?)→cs.length=tot→bks (xs.map (·.1))≤Bj→∃a:τ,LR w (T.e a) (cs.drop off)∧T.good a∧T.bulk a≤bks (xs.map (·.1))
theorem Aiy{tot:Nat}(h:off=tot):B18 P off [] Apm tot:=by intro H enc w sp z n cs xs bk bks B A D O R;subst h;refine⟨(),?_,trivial,CA _⟩;rw[List.drop_of_length_le (by omega)];exact LR.nil
theorem Bt{σ:Type}{tot c:Nat}{f:Field}{fs:List Field}{S:Ty σ}(hf:f.offset=off)(ht:f.type=t)(U:P.cellsOf t=c)(A:Nat.ble (off+c) tot=true)(h:Bfl P t T)(k:B18 P (off+c) fs S tot):
  B18 P off (f::fs) (Du T S) tot:=by
 intro H enc w sp z n cs xs bk bks B O R D V
 subst ht
 cases xs with
 |nil=>simp at O
 |cons x xs=>
  have A:off+c≤tot:=by simpa using A
  have h0:=R 0 f rfl;rw[hf,U]at h0;simp only[BA,B.cons]at V;obtain⟨a,h1,h2,X⟩:=h enc w sp z n _ x bk bks B h0 (by omega);obtain⟨b,k1,k2,Y⟩:=k enc w sp z n cs xs bk bks B (by simpa using O) (λi g W=>by simpa using R (i+1) g (by simpa using W)) D (by omega);refine⟨(a,b),?_,⟨h2,k2⟩,by simp only[BA,B.cons,Du];omega⟩;have e:cs.drop off=(cs.drop off).take c++cs.drop (off+c):=by rw[←CY,FA]
  rw[e];exact LR.append h1 k1
theorem Uc{σ:Type}{fs:Array Field}{tot:Nat}{S:Ty σ}(ht:P.underlying t=some (.struct fs))(V:P.cellsOf t=tot)(k:B18 P 0 fs.toList T tot)(mk:τ→σ)(A:∀p,S.e (mk p)=T.e p)(D:∀p,T.good p→S.good (mk p))(O:∀p,S.bulk (mk p)≤T.bulk p+1):Bfl P t S:=by
 intro H enc w sp z fuel cs x bk bks B h R;obtain⟨xs,n,rfl,rfl,h1,h2,U⟩:=DataW.trod_struct ht h;simp only[B.agg]at R;obtain⟨a,k1,k2,W⟩:=k enc w sp z n cs xs bk bks B (by simpa using h2) (λi f hf=>U i f (by simpa using hf)) (by omega) (by omega);refine⟨mk a,?_,D _ k2,?_⟩
 ·rw[A];simpa using k1
 ·have:=O a;simp only[B.agg];omega
end
theorem B17 {w:World}{l:List AV}{c:Array Go.Value}(h:LR w l (Go.Value.agg c).cells.toList):Rv w mu0 M0 (.agg l) (.agg c):=by have h':LR w l c.toList:=h;have:=Rv.agg (w:=w) (mu:=mu0) (M:=M0) l c.toList h'.1 h'.2;simpa using this
end Go.Am
namespace Go.Am
open Go
def Ajk:Ty Span:=⟨Ax,λx=>(Cj .i64).good x.From∧(Cj .i64).good x.To∧True,λx=>((Cj .i64).bulk x.From+((Cj .i64).bulk x.To+(0)))+1⟩
def A5j:Ty Sector:=⟨Br,λx=>A1i.good x.Name∧(Ej 1 A1i).good x.Names∧(Ej 1 (Cj .i64)).good x.Volumes∧(Cj .i64).good x.Radar∧(Cj .i64).good x.Procedural∧True,λx=>(A1i.bulk x.Name+((Ej 1 A1i).bulk x.Names+((Ej 1 (Cj .i64)).bulk x.Volumes+((Cj .i64).bulk x.Radar+((Cj .i64).bulk x.Procedural+(0))))))+1⟩
def A5g:Ty Config:=⟨Bz,λx=>A1i.good x.Name∧(Ej 1 A1i).good x.Names∧(Ej 1 (Cj .i64)).good x.Sectors∧True,λx=>(A1i.bulk x.Name+((Ej 1 A1i).bulk x.Names+((Ej 1 (Cj .i64)).bulk x.Sectors+(0))))+1⟩
end Go.Am
namespace Go.Proofs.YtcpfebjhnbjfbaaGreatDoor.laws
open Go Go.Am Go.ChangeShapes Go.WideShapes Go.ChangeAt Go.RowKit
theorem Qz:Bfl prog 3 (Cj .i64):=B57 underlying3
theorem B8x:Bfl prog 63 Ajk:=Uc (T:=(Du (Cj .i64) (Du (Cj .i64) Apm))) (tot:=2) underlying63 (by kernel_rfl) (Bt (c:=1) rfl rfl (by kernel_rfl) rfl Qz (Bt (c:=1) rfl rfl (by kernel_rfl) rfl Qz (Aiy rfl))) (λp=>⟨p.1,p.2.1⟩) (λ_=>rfl) (λ_ h=>h) (λ_=>AI _)
theorem B5i:Bfl prog 50 (Ej 2 Ajk):=Pz underlying50 (by kernel_rfl) (by decide) (λa=>Gu a) B8x
theorem B64:Bfl prog 78 (Ej 1 A1i):=Pz underlying78 (by kernel_rfl) (by decide) (λa=>Bkd a) on9
theorem B5c:Bfl prog 43 (Ej 1 (Cj .i64)):=Pz underlying43 (by kernel_rfl) (by decide) (λa=>Dw a) Qz
theorem Cae:Bfl prog 82 A5j:=Uc (T:=(Du A1i (Du (Ej 1 A1i) (Du (Ej 1 (Cj .i64)) (Du (Cj .i64) (Du (Cj .i64) Apm)))))) (tot:=5) underlying82 (by kernel_rfl) (Bt (c:=1) rfl rfl (by kernel_rfl) rfl on9 (Bt (c:=1) rfl rfl (by kernel_rfl) rfl B64 (Bt (c:=1) rfl rfl (by kernel_rfl) rfl B5c (Bt (c:=1) rfl rfl (by kernel_rfl) rfl Qz (Bt (c:=1) rfl rfl (by kernel_rfl) rfl Qz (Aiy rfl)))))) (λp=>⟨p.1,p.2.1,p.2.2.1,p.2.2.2.1,p.2.2.2.2.1⟩) (λ_=>rfl) (λ_ h=>h) (λ_=>AI _)
theorem B9e:Bfl prog 23 (Ej 5 A5j):=Pz underlying23 (by kernel_rfl) (by decide) (λa=>Vs a) Cae
theorem Cao:Bfl prog 80 A5g:=Uc (T:=(Du A1i (Du (Ej 1 A1i) (Du (Ej 1 (Cj .i64)) Apm)))) (tot:=3) underlying80 (by kernel_rfl) (Bt (c:=1) rfl rfl (by kernel_rfl) rfl on9 (Bt (c:=1) rfl rfl (by kernel_rfl) rfl B64 (Bt (c:=1) rfl rfl (by kernel_rfl) rfl B5c (Aiy rfl)))) (λp=>⟨p.1,p.2.1,p.2.2.1⟩) (λ_=>rfl) (λ_ h=>h) (λ_=>AI _)
theorem B9g:Bfl prog 24 (Ej 3 A5g):=Pz underlying24 (by kernel_rfl) (by decide) (λa=>Vp a) Cao
end Go.Proofs.YtcpfebjhnbjfbaaGreatDoor.laws
namespace Go.Am
open Go
variable{α:Type}
theorem Ud.tot{m:R α}{P:α→Prop}(h:Ud m P):Pq m:=h.mono λ_ _=>trivial
end Go.Am

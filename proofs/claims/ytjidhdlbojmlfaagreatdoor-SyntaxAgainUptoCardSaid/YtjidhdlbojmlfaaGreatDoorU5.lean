/- Written by shrink.py from texts of ours: comments struck, what is not reached left out, names short. -/
import Derived.Test.YtjidhdlbojmlfaaGreatDoorU4
import Derived.Shelf.Strings.Builder1
import Derived.Shelf.Strings.Builder2
import Derived.Shelf.Strings.OnBuilder
import Derived.Shelf.Small.Strs
import Derived.Shelf.Strings.Builder2Cap
import Derived.Shelf.Strconv.Atoi
import Derived.Shelf.Strconv.Itoa0
import Derived.Shelf.Strconv.Itoa1
import Derived.Shelf.LaysM
import Derived.Shelf.Strconv.Itoa2
import Derived.Shelf.Strconv.Itoa3
import Derived.Shelf.Strconv.AtoiErrFast
import Derived.Shelf.Strconv.ParseIntEmpty
import Derived.Shelf.Strconv.AtoiFail
import Derived.Shelf.Strconv.Clone
import Derived.Shelf.Strconv.SyntaxError
import Derived.Shelf.LaysC
import Derived.Shelf.Strconv.ToError
import Derived.Shelf.Strconv.Lower
import Derived.Shelf.Strconv.ParseUint10
import Derived.Shelf.Strconv.ParseUint10Empty
import Derived.Shelf.Strconv.ParseUint10Any
import Derived.Shelf.Strconv.ParseInt10
import Derived.Shelf.Strconv.AtoiLong
import Derived.Shelf.Strconv.AtoiInnerAll
import Derived.Shelf.Strconv.RangeError
import Derived.Shelf.Strconv.ToErrorRange
import Derived.Shelf.Strconv.AtoiAll
import Derived.Shelf.Strconv.ErrVarAll
import Derived.Shelf.Strings.Search1
import Derived.Test.YtjidhdlbojmlfaaGreatDoorProg
namespace Go.Am
open Go
set_option linter.unusedVariables false
set_option linter.unusedSimpArgs false
theorem Acq {b:Rule}{k:Int}{c a:Ar}{n:Int}{h:Span}(e:(!N8 b (D6 k c a n h))=false):Aaw b=D6 k c a n h:=by
 have e:N8 b (D6 k c a n h)=true:=by simpa using e
 simp only [N8,D6,Bool.and_eq_true,beq_iff_eq] at e
 obtain⟨e1,e2,e3,_,_,e4,e5,e6⟩:=e
 unfold Aaw D6
 have:b.Hours=h:=by
  cases hh:b.Hours with
  | mk f t=>rw [hh] at e5 e6; cases h; simp at e5 e6; simp [e5,e6]
 rw [e1,e2,e3,e4,this]
theorem Rt {α:Type}{p:Ar→Rd α}{w:Ar}{T:List Token}{x:α}{A:Airspace}{c:Bool}{upd:α→Airspace}(hi:O1 w A=some (c,(E9 p).bind fun x=>.pure (upd x)))(hc:c=false)(h:G5 (E9 p) (T++[Kf [59]]) x Pn)(r:List Token) :
  J8 A (E3 w T++r)=.ok (upd x,r):=by
 show J8 A (Dp w::((T++[Kf [59]])++r))=_
 subst hc
 have e:((Dp w).Kind==1)=true:=rfl
 simp only [J8,e,if_true,show(Dp w).Text=w from rfl,hi,Bool.false_eq_true,if_false]
 exact O0 (g:=upd) h r trivial
theorem Sa {α:Type}{d:α→List Token}{add:Airspace→α→Airspace}{cnt:Airspace→Nat}{most:Nat}(hadd : ∀ A a,cnt (add A a)=cnt A+1)(hne : ∀ a r,∃ t r',d a++r=t::r'∧r.length≤r'.length) :
  ∀ (l:List α) (A:Airspace) (n:Nat) (r:List Token),(∀ a ∈ l,∀ A r,cnt A<most→J8 A (d a++r)=.ok (add A a,r))→cnt A+l.length≤most→(l.flatMap d++r).length≤n → ∃ j,r.length≤j∧Oo n A (l.flatMap d++r)=Oo j (l.foldl add A) r
 | [],A,n,r,_,_,hn=>⟨n,by simpa using hn,rfl⟩
 | a::l,A,n,r,hd,hc,hn=>by
  have e:(a::l).flatMap d++r=d a++(l.flatMap d++r):=by rw [List.flatMap_cons,List.append_assoc]
  rw [e] at hn ⊢
  have hc':cnt A+(l.length+1)≤most:=hc
  obtain⟨t,r',h1,h2⟩:=hne a (l.flatMap d++r)
  have h3:=hd a (List.mem_cons_self ..) A (l.flatMap d++r) (by omega)
  rw [h1] at hn h3 ⊢
  cases n with
  | zero=>simp at hn
  | succ n=>
   simp only [List.length_cons] at hn
   rw [Oo,h3]
   exact Sa hadd hne l (add A a) n r (fun x hx=>hd x (List.mem_cons_of_mem _ hx)) (by rw [hadd]; omega) (by omega)
theorem Adf (w:Ar)(T:List Token)(r:List Token) : ∃ t r',E3 w T++r=t::r'∧r.length≤r'.length:=⟨_,_,rfl,by simp; omega⟩
def Acl (a:Airspace):Airspace:={ Volumes:=a.Volumes,Sectors:=a.Sectors.map Za,Configs:=a.Configs.map Yx,Segments:=a.Segments.map Y2,Routes:=a.Routes.map Zc,Airports:=a.Airports,Classes:=a.Classes,Rules:=a.Rules.map Aaw }
section
variable {α:Type} {add:Airspace→α→Airspace} {l:List α}
theorem Aof (l:List Volume) : ∀ A:Airspace,l.foldl (fun(A:Airspace) x=>{ A with Volumes:=A.Volumes++[x] }) A={ A with Volumes:=A.Volumes++l }:=by
 induction l with
 | nil=>intro A; simp
 | cons a l ih=>intro A; rw [List.foldl_cons,ih]; simp
theorem An2 (l:List Sector) : ∀ A:Airspace,l.foldl (fun(A:Airspace) x=>{ A with Sectors:=A.Sectors++[Za x] }) A={ A with Sectors:=A.Sectors++l.map Za }:=by
 induction l with
 | nil=>intro A; simp
 | cons a l ih=>intro A; rw [List.foldl_cons,ih]; simp
theorem Aoa (l:List Config) : ∀ A:Airspace,l.foldl (fun(A:Airspace) x=>{ A with Configs:=A.Configs++[Yx x] }) A={ A with Configs:=A.Configs++l.map Yx }:=by
 induction l with
 | nil=>intro A; simp
 | cons a l ih=>intro A; rw [List.foldl_cons,ih]; simp
theorem App (l:List Segment) : ∀ A:Airspace,l.foldl (fun(A:Airspace) x=>{ A with Segments:=A.Segments++[Y2 x] }) A={ A with Segments:=A.Segments++l.map Y2 }:=by
 induction l with
 | nil=>intro A; simp
 | cons a l ih=>intro A; rw [List.foldl_cons,ih]; simp
theorem Apd (l:List Route) : ∀ A:Airspace,l.foldl (fun(A:Airspace) x=>{ A with Routes:=A.Routes++[Zc x] }) A={ A with Routes:=A.Routes++l.map Zc }:=by
 induction l with
 | nil=>intro A; simp
 | cons a l ih=>intro A; rw [List.foldl_cons,ih]; simp
theorem Aoq (l:List Airport) : ∀ A:Airspace,l.foldl (fun(A:Airspace) x=>{ A with Airports:=A.Airports++[x] }) A={ A with Airports:=A.Airports++l }:=by
 induction l with
 | nil=>intro A; simp
 | cons a l ih=>intro A; rw [List.foldl_cons,ih]; simp
theorem Apb (l:List Class) : ∀ A:Airspace,l.foldl (fun(A:Airspace) x=>{ A with Classes:=A.Classes++[x] }) A={ A with Classes:=A.Classes++l }:=by
 induction l with
 | nil=>intro A; simp
 | cons a l ih=>intro A; rw [List.foldl_cons,ih]; simp
theorem Ao0 (l:List Rule) : ∀ A:Airspace,l.foldl (fun(A:Airspace) x=>{ A with Rules:=A.Rules++[Aaw x] }) A={ A with Rules:=A.Rules++l.map Aaw }:=by
 induction l with
 | nil=>intro A; simp
 | cons a l ih=>intro A; rw [List.foldl_cons,ih]; simp
end
theorem Rm {m n:Nat}(h:n<m):decide (m≤n)=false:=by simpa using h
theorem Apg {b:Rule}(h:Ln b=false)(A:Airspace)(r:List Token)(hc:A.Rules.length<64):J8 A (Rk b++r)=.ok ({ A with Rules:=A.Rules++[Aaw b] },r):=by
 unfold Ln at h
 by_cases h1:b.Kind=1
 ·rw [if_pos h1] at h
  simp only [Bool.or_eq_false_iff] at h
  have e:Rk b=E3 Ak2 ([Dp b.C]++([Dp [97,116]]++([Dp b.A]++Un b.Hours))):=by simp [Rk,Ks,Ob,Nk,h1,E3]
  rw [e,Acq h.2.2.2,h1]
  exact Rt (p:=Aar) (x:=D6 1 b.C b.A 0 b.Hours) (c:=decide (64≤A.Rules.length)) (upd:=fun x=>{ A with Rules:=A.Rules++[x] }) rfl (Rm hc)
   (Tm (Gc (O6 _) (Gc (Xi b.A) (Abr (O0 (g:=fun x=>D6 1 b.C b.A 0 x) (Aj2 h.2.2.1)))))) r
 rw [if_neg h1] at h
 by_cases h2:b.Kind=2
 ·rw [if_pos h2] at h
  simp only [Bool.or_eq_false_iff] at h
  have e:Rk b=E3 Aln ([Dp b.C]++[]):=by simp [Rk,Ks,Ob,Nk,h2,E3]
  rw [e,Acq h.2,h2]
  exact Rt (p:=Aa3) (x:=D6 2 b.C [] 0 ⟨0,0⟩) (c:=decide (64≤A.Rules.length)) (upd:=fun x=>{ A with Rules:=A.Rules++[x] }) rfl (Rm hc)
   (Tm (p:=Aa3) fun r _=>rfl) r
 rw [if_neg h2] at h
 by_cases h3:b.Kind=3
 ·rw [if_pos h3] at h
  simp only [Bool.or_eq_false_iff] at h
  have e:Rk b=E3 Akx ([Dp b.C]++[Nq b.N]):=by simp [Rk,Ks,Ob,Nk,h3,E3]
  rw [e,Acq h.2.2,h3]
  exact Rt (p:=Aap) (x:=D6 3 b.C [] b.N ⟨0,0⟩) (c:=decide (64≤A.Rules.length)) (upd:=fun x=>{ A with Rules:=A.Rules++[x] }) rfl (Rm hc)
   (Tm (Abr (O0 (g:=fun n=>D6 3 b.C [] n ⟨0,0⟩) (U9 h.2.1)))) r
 rw [if_neg h3] at h
 by_cases h4:b.Kind=4
 ·rw [if_pos h4] at h
  simp only [Bool.or_eq_false_iff] at h
  have e:Rk b=E3 Alw ([Dp b.C]++[Nq b.N]):=by simp [Rk,Ks,Ob,Nk,h4,E3]
  rw [e,Acq h.2.2.2,h4]
  exact Rt (p:=Y3) (x:=D6 4 b.C [] b.N ⟨0,0⟩) (c:=decide (64≤A.Rules.length)) (upd:=fun x=>{ A with Rules:=A.Rules++[x] }) rfl (Rm hc)
   (Tm (Abr (O0 (g:=fun n=>D6 4 b.C [] n ⟨0,0⟩) (Ary h.2.1 (by simpa using h.2.2.1))))) r
 rw [if_neg h4] at h; cases h
abbrev B1 (a:Airspace):Airspace:={ Qr with Volumes:=Qr.Volumes++a.Volumes }
abbrev B2 (a:Airspace):Airspace:={ B1 a with Sectors:=(B1 a).Sectors++a.Sectors.map Za }
abbrev B3 (a:Airspace):Airspace:={ B2 a with Configs:=(B2 a).Configs++a.Configs.map Yx }
abbrev B4 (a:Airspace):Airspace:={ B3 a with Segments:=(B3 a).Segments++a.Segments.map Y2 }
abbrev B5 (a:Airspace):Airspace:={ B4 a with Routes:=(B4 a).Routes++a.Routes.map Zc }
abbrev B6 (a:Airspace):Airspace:={ B5 a with Airports:=(B5 a).Airports++a.Airports }
abbrev B7 (a:Airspace):Airspace:={ B6 a with Classes:=(B6 a).Classes++a.Classes }
theorem Ali {a:Airspace}(h:GoodA a):Pa (Sh a)=.ok (Acl a):=by
 obtain⟨f1,f2,f3,f4,f5,f6,f7,f8⟩:=h.fits
 unfold Pa
 unfold Sh
 obtain⟨j1,k1,e1⟩:=Sa (d:=fun x=>E3 Y0 (Tx x)) (add:=fun(A:Airspace) x=>{ A with Volumes:=A.Volumes++[x] }) (cnt:=fun A=>A.Volumes.length) (most:=64) (fun _ _=>by simp) (fun _ _=>Adf _ _ _) a.Volumes Qr _ _
  (fun x hx A r hc=>Rt (p:=Y1) (c:=decide (64≤A.Volumes.length)) (upd:=fun x=>{ A with Volumes:=A.Volumes++[x] }) rfl (Rm hc) (Avb (h.vol x hx)) r) (by simpa [Qr] using f1) (Nat.le_refl _)
 rw [e1,show List.foldl _ Qr a.Volumes=B1 a from Aof _ _]
 obtain⟨j2,k2,e2⟩:=Sa (d:=fun x=>E3 Ys (T6 x)) (add:=fun(A:Airspace) x=>{ A with Sectors:=A.Sectors++[Za x] }) (cnt:=fun A=>A.Sectors.length) (most:=64) (fun _ _=>by simp) (fun _ _=>Adf _ _ _) a.Sectors (B1 a) j1 _
  (fun x hx A r hc=>Rt (p:=Y7) (c:=decide (64≤A.Sectors.length)) (upd:=fun x=>{ A with Sectors:=A.Sectors++[x] }) rfl (Rm hc) (Auz (h.sec x hx)) r) (by simpa [Qr] using f2) k1
 rw [e2,show List.foldl _ (B1 a) a.Sectors=B2 a from An2 _ _]
 obtain⟨j3,k3,e3⟩:=Sa (d:=fun x=>E3 Yw (Ti x)) (add:=fun(A:Airspace) x=>{ A with Configs:=A.Configs++[Yx x] }) (cnt:=fun A=>A.Configs.length) (most:=32) (fun _ _=>by simp) (fun _ _=>Adf _ _ _) a.Configs (B2 a) j2 _
  (fun x hx A r hc=>Rt (p:=Ym) (c:=decide (32≤A.Configs.length)) (upd:=fun x=>{ A with Configs:=A.Configs++[x] }) rfl (Rm hc) (Auw (h.con x hx)) r) (by simpa [Qr] using f3) k2
 rw [e3,show List.foldl _ (B2 a) a.Configs=B3 a from Aoa _ _]
 obtain⟨j4,k4,e4⟩:=Sa (d:=fun x=>E3 Yn (Tl x)) (add:=fun(A:Airspace) x=>{ A with Segments:=A.Segments++[Y2 x] }) (cnt:=fun A=>A.Segments.length) (most:=128) (fun _ _=>by simp) (fun _ _=>Adf _ _ _) a.Segments (B3 a) j3 _
  (fun x hx A r hc=>Rt (p:=Yy) (c:=decide (128≤A.Segments.length)) (upd:=fun x=>{ A with Segments:=A.Segments++[x] }) rfl (Rm hc) (Au0 (h.seg x hx)) r) (by simpa [Qr] using f4) k3
 rw [e4,show List.foldl _ (B3 a) a.Segments=B4 a from App _ _]
 obtain⟨j5,k5,e5⟩:=Sa (d:=fun x=>E3 Zd (Th x)) (add:=fun(A:Airspace) x=>{ A with Routes:=A.Routes++[Zc x] }) (cnt:=fun A=>A.Routes.length) (most:=64) (fun _ _=>by simp) (fun _ _=>Adf _ _ _) a.Routes (B4 a) j4 _
  (fun x hx A r hc=>Rt (p:=Yp) (c:=decide (64≤A.Routes.length)) (upd:=fun x=>{ A with Routes:=A.Routes++[x] }) rfl (Rm hc) (Aut (h.rou x hx)) r) (by simpa [Qr] using f5) k4
 rw [e5,show List.foldl _ (B4 a) a.Routes=B5 a from Apd _ _]
 obtain⟨j6,k6,e6⟩:=Sa (d:=fun x=>E3 Yr (T8 x)) (add:=fun(A:Airspace) x=>{ A with Airports:=A.Airports++[x] }) (cnt:=fun A=>A.Airports.length) (most:=16) (fun _ _=>by simp) (fun _ _=>Adf _ _ _) a.Airports (B5 a) j5 _
  (fun x hx A r hc=>Rt (p:=Yv) (c:=decide (16≤A.Airports.length)) (upd:=fun x=>{ A with Airports:=A.Airports++[x] }) rfl (Rm hc) (Aur (h.air x hx)) r) (by simpa [Qr] using f6) k5
 rw [e6,show List.foldl _ (B5 a) a.Airports=B6 a from Aoq _ _]
 obtain⟨j7,k7,e7⟩:=Sa (d:=fun x=>E3 Y5 (Tk x)) (add:=fun(A:Airspace) x=>{ A with Classes:=A.Classes++[x] }) (cnt:=fun A=>A.Classes.length) (most:=8) (fun _ _=>by simp) (fun _ _=>Adf _ _ _) a.Classes (B6 a) j6 _
  (fun x hx A r hc=>Rt (p:=Y8) (c:=decide (8≤A.Classes.length)) (upd:=fun x=>{ A with Classes:=A.Classes++[x] }) rfl (Rm hc) (Avf (h.cla x hx)) r) (by simpa [Qr] using f7) k6
 rw [e7,show List.foldl _ (B6 a) a.Classes=B7 a from Apb _ _]
 rw [← List.append_nil (a.Rules.flatMap Rk)]
 obtain⟨j8,k8,e8⟩:=Sa (d:=Rk) (add:=fun(A:Airspace) x=>{ A with Rules:=A.Rules++[Aaw x] }) (cnt:=fun A=>A.Rules.length) (most:=64) (fun _ _=>by simp) (fun b r=>by
   unfold Rk
   cases ht:Ks b with
   | nil=>exact⟨_,_,rfl,by simp⟩
   | cons t q=>exact⟨t,_,rfl,by simp; omega⟩) a.Rules (B7 a) j7 []
  (fun x hx A r hc=>Apg (h.rul x hx) A r hc) (by simpa [Qr] using f8) (by simpa using k7)
 rw [e8,Ao0,Oo.eq_1]
 simp [Qr,Acl]
end Go.Am
namespace Go.Am
open Go
set_option linter.unusedVariables false
set_option linter.unusedSimpArgs false
theorem Agm (a:Airspace)(h:a.Sectors.length≤130∧a.Configs.length≤130∧a.Segments.length≤130∧a.Routes.length≤130∧a.Rules.length≤130):Of a=.ok (Acl a):=by
 obtain⟨h1,h2,h3,h4,h5⟩:=h
 have hL:(1000000:Nat)≤Eo:=by decide
 unfold Of
 rw [S8 (b:=fun _ x s=>L8 x s) (g:=Za) (c:=80) (fun _ _ _=>rfl) a.Sectors 0 [] (by simp; omega),R.ok_bind]
 rw [S8 (b:=fun _ x s=>Kb x s) (g:=Yx) (c:=64) (fun _ _ _=>rfl) a.Configs 0 [] (by simp; omega),R.ok_bind]
 rw [S8 (b:=fun _ x s=>Ij x s) (g:=Y2) (c:=72) (fun _ _ _=>rfl) a.Segments 0 [] (by simp; omega),R.ok_bind]
 rw [S8 (b:=fun _ x s=>G2 x s) (g:=Zc) (c:=112) (fun _ _ _=>rfl) a.Routes 0 [] (by simp; omega),R.ok_bind]
 rw [S8 (b:=fun _ x s=>F8 x s) (g:=Aaw) (c:=80) (fun _ _ _=>rfl) a.Rules 0 [] (by simp; omega),R.ok_bind]
 rfl
theorem Agl {a:Airspace}(h:GoodA a)(hl:(Acb a).length≤65536):K8 (Acb a)=(Acl a,0,0):=by
 obtain⟨r,h1,h2⟩:=Ams (Afi h) 0
 rw [Ac3 hl h1]
 have hn:=Afx _ _ h2
 have e2:Alb (Pa (Sh a))=Alb (Pa r):=by rw [← Afo,← Afo,hn]
 rw [Ali h] at e2
 cases h3:Pa r with
 | ok B=>rw [h3] at e2; cases e2; rfl
 | error x=>rw [h3] at e2; cases e2
end Go.Am
namespace Go.Am
open Go
set_option linter.unusedVariables false
set_option linter.unusedSimpArgs false
def Gd {α:Type}(p:Rd α)(Q:α→Prop):Prop := ∀ l x r,Vt l→p l=.ok (x,r)→Q x∧Vt r
section
variable {α β:Type} {p:Rd α} {f:α→Rd β} {Q:α→Prop} {Q':β→Prop}
theorem Cn (hp:Gd p Q)(hf : ∀ a,Q a→Gd (f a) Q'):Gd (p.bind f) Q':=fun l x r hl h=>by
 obtain⟨a,m,h1,h2⟩:=Acg h
 obtain⟨k1,k2⟩:=hp l a m hl h1
 exact hf a k1 m x r k2 h2
theorem Fs {a:α}(h:Q a):Gd (Rd.pure a) Q:=fun l x r hl e=>by cases e; exact⟨h,hl⟩
theorem Aqq (e:Int):Gd (Rd.fail e) Q:=fun l x r hl e=>nomatch e
theorem Ahn (q:Token→Bool)(g:Token→α)(hQ : ∀ t,Cw t=true→q t=true→Q (g t)):Gd ((Oq q).bind fun t=>.pure (g t)) Q:=fun l x r hl h=>by
 obtain⟨a,m,h1,h2⟩:=Acg h
 obtain⟨rfl,hq⟩:=Aeu h1
 cases h2
 have hl:Cw a=true∧List.all r Cw=true:=by simpa [Vt] using hl
 exact⟨hQ a hl.1 hq,hl.2⟩
theorem Ak1 (k:Int)(w:Ar):Gd (P0 k w) (fun _=>True):=fun l x r hl h=>by
 cases l <;> (cases h; exact⟨trivial,hl⟩)
theorem Om (k:Int)(w:Ar):Gd (Lt k w) (fun _=>True):=Ahn _ _ fun _ _ _=>trivial
theorem R7:Gd Mq (fun s=>(!Dd s)=false):=Ahn _ _ fun t hv hk=>by
 have hk:(t.Kind==1)=true:=hk
 unfold Cw at hv
 rw [hk,if_pos rfl,Bool.and_eq_true] at hv
 rw [hv.1]; rfl
theorem Ra (lo hi st:Int):Gd (Nn lo hi st) (fun n=>(!Lu n lo hi)=false∧Int.tmod n st=0):=Ahn _ _ fun t _ h=>by
 simp only [Ac7,Bool.and_eq_true,decide_eq_true_eq,beq_iff_eq] at h
 refine⟨?_,h.2.2.2⟩
 simp only [Lu,decide_eq_true h.2.1,decide_eq_true h.2.2.1,ge_iff_le,Bool.and_self,Bool.not_true]
theorem Afw {p:Rd α}{B:α→Bool}(hp:Gd p fun a=>B a=false) : ∀ (n:Nat) (acc:List α),(∀ a ∈ acc,B a=false)→Gd (Em p n acc) (fun l=>Kw B (acc.length+n+1) l=false)
 | n,acc,hacc=>by
  have key : ∀ a,B a=false→Kw B (acc.length+n+1) (acc++[a])=false:=fun a ha=>by
   simp only [Kw,Bool.or_eq_false_iff,decide_eq_false_iff_not,List.any_eq_false,List.mem_append,List.mem_singleton,Bool.not_eq_true]
   refine⟨⟨by simp,by simp⟩,fun x hx=>?_⟩
   rcases hx with hx | rfl
   ·exact hacc x hx
   ·exact ha
  cases n with
  | zero=>
   rw [Em]
   refine Cn hp fun a ha=>Cn (Ak1 _ _) fun b _=>?_
   cases b
   ·exact Fs (key a ha)
   ·exact Aqq _
  | succ n=>
   rw [Em]
   refine Cn hp fun a ha=>Cn (Ak1 _ _) fun b _=>?_
   cases b
   ·exact Fs (key a ha)
   ·refine Cn (Om _ _) fun _ _=>?_
    have:=Afw hp n (acc++[a]) (fun x hx=>by
     rcases List.mem_append.1 hx with hx | hx
     ·exact hacc x hx
     ·rw [List.mem_singleton.1 hx]; exact ha)
    rw [List.length_append,List.length_singleton] at this
    have e:acc.length+1+n+1=acc.length+(n+1)+1:=by omega
    rw [e] at this
    exact this
theorem Abl {p:Rd α}{B:α→Bool}(hp:Gd p fun a=>B a=false)(n:Nat):Gd (Em p n []) (fun l=>Kw B (n+1) l=false):=by
 have:=Afw hp n [] (fun _ h=>nomatch h)
 simpa using this
theorem Ag5:Gd O5 (fun s=>S2 s=false):=Cn (Ra _ _ _) fun a ha=>Cn (Om _ _) fun _ _=>Cn (Ra _ _ _) fun b hb=>Fs (by
 have h1:Lu a 0 1439=true:=by simpa using ha.1
 simp only [Lu,Bool.and_eq_true,decide_eq_true_eq] at h1
 have e:IntKind.wrap .i64 (a+1)=a+1:=Xx (by omega) (by omega)
 simp only [S2,e,ha.1,hb.1,Bool.or_self])
theorem Ag1 (w:Ar):Gd (Rw w) (fun l=>Np l=false):=Cn (Ak1 _ _) fun b _=>by
 cases b
 ·exact Fs rfl
 ·refine Cn (Om _ _) fun _ _=>?_
  intro l x r hl h
  obtain⟨h1,h2⟩:=Abl Ag5 15 l x r hl h
  exact⟨by simp [Np,h1],h2⟩
theorem Ase:Gd Sn (fun m=>Aab m=false):=Cn (Om _ _) fun _ _=>Cn R7 fun n hn=>Cn (Ra _ _ _) fun k hk=>Fs (by simp only [Aab,hn,hk.1,Bool.or_self])
theorem Atb (s:Ar)(hs:(!Dd s)=false):Gd (Y1 s) (fun x=>Qk x=false):=Cn (Ag1 _) fun c hc=>Fs (by simp only [Qk,hs,hc,Bool.or_self])
theorem As5 (s:Ar)(hs:(!Dd s)=false):Gd (Y7 s) (fun x=>Qn x=false∧Za x=x):=
 Cn (Om _ _) fun _ _=>Cn (Abl R7 63) fun ns hn=>Cn (Om _ _) fun _ _=>Cn (Ra _ _ _) fun a ha=>Cn (Om _ _) fun _ _=>Cn (Ra _ _ _) fun b hb=>Fs ⟨by
  simp only [Qn,hs,Vd,hn,ha.1,hb.1,Bool.or_self],rfl⟩
theorem Aum (s:Ar)(hs:(!Dd s)=false):Gd (Ym s) (fun x=>Qu x=false∧Yx x=x):=
 Cn (Om _ _) fun _ _=>Cn (Abl R7 63) fun ns hn=>Fs ⟨by simp only [Qu,hs,Vd,hn,Bool.or_self],rfl⟩
theorem Atq (s:Ar)(hs:(!Dd s)=false):Gd (Yy s) (fun x=>Qh x=false∧Y2 x=x):=
 Cn (Om _ _) fun _ _=>Cn R7 fun v hv=>Cn (Om _ _) fun _ _=>Cn (Ra _ _ _) fun a ha=>Cn (Ag1 _) fun o ho=>Fs ⟨by simp only [Qh,hs,hv,ha.1,ho,Bool.or_self],rfl⟩
theorem Aun (s:Ar)(hs:(!Dd s)=false):Gd (Yp s) (fun x=>Ql x=false∧Zc x=x):=
 Cn (Om _ _) fun _ _=>Cn R7 fun a ha=>Cn (Om _ _) fun _ _=>Cn R7 fun b hb=>Cn (Om _ _) fun _ _=>Cn (Abl R7 7) fun ns hn=>Fs ⟨by simp only [Ql,hs,ha,hb,Vd,hn,Bool.or_self],rfl⟩
theorem At3 (s:Ar)(hs:(!Dd s)=false):Gd (Yv s) (fun x=>Qj x=false):=Cn (Abl Ase 15) fun ms hm=>Fs (by simp only [Qj,hs,hm,Bool.or_self])
theorem Atm (s:Ar)(hs:(!Dd s)=false):Gd (Y8 s) (fun x=>Re x=false):=
 Cn (Om _ _) fun _ _=>Cn (Ra _ _ _) fun a ha=>Cn (Om _ _) fun _ _=>Cn (Ra _ _ _) fun b hb=>Cn (Om _ _) fun _ _=>Cn (Ra _ _ _) fun c hc=>Fs (by simp only [Re,hs,ha.1,hb.1,hc.1,Bool.or_self])
def Adw (x:Rule):Prop:=Ln x=false∧Aaw x=x
theorem Wx (k:Int)(c a:Ar)(n:Int)(h:Span):(!N8 (D6 k c a n h) (D6 k c a n h))=false:=by simp [N8,D6]
theorem Asm (s:Ar)(hs:(!Dd s)=false):Gd (Aar s) Adw:=
 Cn (Om _ _) fun _ _=>Cn R7 fun a ha=>Cn Ag5 fun h hh=>Fs ⟨by
  show(!Dd s||(!Dd a||(S2 h || !N8 (D6 1 s a 0 h) (D6 1 s a 0 h))))=false
  simp only [hs,ha,hh,Wx,Bool.or_self],rfl⟩
theorem As7 (s:Ar)(hs:(!Dd s)=false):Gd (Aa3 s) Adw:=Fs ⟨by
  show(!Dd s || !N8 (D6 2 s [] 0 ⟨0,0⟩) (D6 2 s [] 0 ⟨0,0⟩))=false
  simp only [hs,Wx,Bool.or_self],rfl⟩
theorem Atj (s:Ar)(hs:(!Dd s)=false):Gd (Aap s) Adw:=Cn (Ra _ _ _) fun n hn=>Fs ⟨by
  show(!Dd s||(!Lu n 1 8 || !N8 (D6 3 s [] n ⟨0,0⟩) (D6 3 s [] n ⟨0,0⟩)))=false
  simp only [hs,hn.1,Wx,Bool.or_self],rfl⟩
theorem Atp (s:Ar)(hs:(!Dd s)=false):Gd (Y3 s) Adw:=Cn (Ra _ _ _) fun n hn=>Fs ⟨by
  show(!Dd s||(!Lu n 0 60||(((Int.tmod n 10) != 0) || !N8 (D6 4 s [] n ⟨0,0⟩) (D6 4 s [] n ⟨0,0⟩))))=false
  simp only [hs,hn.1,hn.2,Wx,Bool.or_self,bne_self_eq_false],rfl⟩
theorem Rg {p:Ar→Rd α}(hp : ∀ s,(!Dd s)=false→Gd (p s) Q):Gd (E9 p) Q:=Cn R7 fun s hs=>Cn (hp s hs) fun x hx=>Cn (Om _ _) fun _ _=>Fs hx
end
structure Nice (a:Airspace):Prop where
 vol : ∀ x ∈ a.Volumes,Qk x=false
 sec : ∀ x ∈ a.Sectors,Qn x=false∧Za x=x
 con : ∀ x ∈ a.Configs,Qu x=false∧Yx x=x
 seg : ∀ x ∈ a.Segments,Qh x=false∧Y2 x=x
 rou : ∀ x ∈ a.Routes,Ql x=false∧Zc x=x
 air : ∀ x ∈ a.Airports,Qj x=false
 cla : ∀ x ∈ a.Classes,Re x=false
 rul : ∀ x ∈ a.Rules,Adw x
theorem Od {α:Type}{Q:α→Prop}{l:List α}{y:α}(h : ∀ x ∈ l,Q x)(hy:Q y) : ∀ x ∈ l++[y],Q x:=fun x hx=>by
 rcases List.mem_append.1 hx with hx | hx
 ·exact h x hx
 ·rw [List.mem_singleton.1 hx]; exact hy
theorem Amf {w:Ar}{A:Airspace}{f:Bool}{p:Rd Airspace}(h:O1 w A=some (f,p))(hA:Nice A):Gd p Nice:=by
 unfold O1 at h
 refine(C4 h).elim (fun h=>?_) (fun h=>(C4 h).elim (fun h=>?_) (fun h=>(C4 h).elim (fun h=>?_) (fun h=>(C4 h).elim (fun h=>?_) (fun h=>(C4 h).elim (fun h=>?_) (fun h=>(C4 h).elim (fun h=>?_) (fun h=>(C4 h).elim (fun h=>?_) (fun h=>(C4 h).elim (fun h=>?_) (fun h=>(C4 h).elim (fun h=>?_) (fun h=>(C4 h).elim (fun h=>?_) (fun h=>(C4 h).elim (fun h=>?_) (fun h=>nomatch h)))))))))))
 ·cases h; exact Cn (Rg At3) fun x hx=>Fs { hA with air:=Od hA.air hx }
 ·cases h; exact Cn (Rg Atm) fun x hx=>Fs { hA with cla:=Od hA.cla hx }
 ·cases h; exact Cn (Rg Aum) fun x hx=>Fs { hA with con:=Od hA.con hx }
 ·cases h; exact Cn (Rg Asm) fun x hx=>Fs { hA with rul:=Od hA.rul hx }
 ·cases h; exact Cn (Rg As7) fun x hx=>Fs { hA with rul:=Od hA.rul hx }
 ·cases h; exact Cn (Rg Atp) fun x hx=>Fs { hA with rul:=Od hA.rul hx }
 ·cases h; exact Cn (Rg Aun) fun x hx=>Fs { hA with rou:=Od hA.rou hx }
 ·cases h; exact Cn (Rg As5) fun x hx=>Fs { hA with sec:=Od hA.sec hx }
 ·cases h; exact Cn (Rg Atq) fun x hx=>Fs { hA with seg:=Od hA.seg hx }
 ·cases h; exact Cn (Rg Atb) fun x hx=>Fs { hA with vol:=Od hA.vol hx }
 ·cases h; exact Cn (Rg Atj) fun x hx=>Fs { hA with rul:=Od hA.rul hx }
theorem Agu : ∀ (n:Nat) (A B:Airspace) (l:List Token),Vt l→Nice A→Oo n A l=.ok B→Nice B
 | n,A,B,[],_,hA,h=>by rw [Oo.eq_1] at h; cases h; exact hA
 | 0,A,B,t::r,_,hA,h=>by cases h
 | n+1,A,B,t::r,hl,hA,h=>by
  rw [Oo] at h
  cases hd:J8 A (t::r) with
  | error e=>rw [hd] at h; cases h
  | ok y=>
   obtain⟨C,k⟩:=y
   rw [hd] at h
   obtain⟨_,p,h1,h2⟩:=Amw hd
   have hl:Cw t=true∧List.all r Cw=true:=by simpa [Vt] using hl
   obtain⟨g1,g2⟩:=Amf h1 hA r C k hl.2 h2
   exact Agu n C B k g2 g1 h
theorem Aql:Nice Qr:=⟨(fun _ h=>nomatch h),(fun _ h=>nomatch h),(fun _ h=>nomatch h),(fun _ h=>nomatch h),(fun _ h=>nomatch h),(fun _ h=>nomatch h),(fun _ h=>nomatch h),(fun _ h=>nomatch h)⟩
theorem Uo {α:Type}{u:α→α} : ∀ {l:List α},(∀ x ∈ l,u x=x)→l.map u=l
 | [],_=>rfl
 | a::l,h=>by rw [List.map_cons,h a (List.mem_cons_self ..),Uo fun x hx=>h x (List.mem_cons_of_mem _ hx)]
theorem Am7 {A:Airspace}(h:Nice A)(hF:U5 A):GoodA A∧Acl A=A:=by
 refine⟨⟨hF,h.vol,fun x hx=>(h.sec x hx).1,fun x hx=>(h.con x hx).1,fun x hx=>(h.seg x hx).1,fun x hx=>(h.rou x hx).1,h.air,h.cla,fun x hx=>(h.rul x hx).1⟩,?_⟩
 unfold Acl
 rw [Uo fun x hx=>(h.sec x hx).2,Uo fun x hx=>(h.con x hx).2,Uo fun x hx=>(h.seg x hx).2,Uo fun x hx=>(h.rou x hx).2,Uo fun x hx=>(h.rul x hx).2]
theorem Ajd {s:Ar}(h:(K8 s).2.2≠0):(K8 s).1=Qr:=by
 unfold K8 at h ⊢
 split
 ·rename_i he
  rw [if_pos he] at h
  cases hp:Pa (Hi s).1 with
  | ok A=>rw [hp] at h; exact absurd rfl h
  | error x=>rfl
 ·rfl
theorem law_SyntaxAgain:Oz:=by
 intro a0 _ _
 unfold Pk
 rw [Aop,R.ok_bind,if_pos rfl]
 split
 ·rfl
 rename_i hlen
 rw [Adk,R.ok_bind]
 by_cases he:(K8 a0).2.2=0
 ·rw [if_neg (by simp [he])]
  obtain⟨l,A,h1,h2,h3⟩:=All he (by omega)
  obtain⟨hv,_⟩:=Ajz _ a0 0 l (Nat.le_refl _) h1
  obtain⟨hg,hu⟩:=Am7 (Agu _ _ _ _ hv Aql h2) (Aic _ _ _ _ Ara h2)
  obtain⟨f1,f2,f3,f4,f5,f6,f7,f8⟩:=hg.fits
  rw [h3,Alc hg,R.ok_bind,Agm A (by omega),hu]
  simp only [bne_self_eq_false,Bool.false_eq_true,if_false,R.ok_bind,Yt,Bool.not_true,Jf]
  rw [Adk,R.ok_bind]
  by_cases hl:(Acb A).length≤65536
  ·rw [if_neg (by simp; omega),Agl hg hl,hu]
   simp only [beq_self_eq_true,if_true,Yt,R.ok_bind]
  ·rw [if_pos (by simp; omega)]; rfl
 ·rw [if_pos (by simpa using he),Ajd he]
  rw [show({ Volumes:=[],Sectors:=[],Configs:=[],Segments:=[],Routes:=[],Airports:=[],Classes:=[],Rules:=[] }:Airspace)=Qr from rfl,Yt]; rfl
end Go.Am
namespace Go.Proofs
open Go.Shelf
def Tryz.lays156_ren:Go.Shelf.Ren:=⟨fun | 156=>61 | 165=>110 | 166=>111 | 169=>112 | 240=>121 | 241=>122 | 276=>134 | 277=>135 | n=>n,fun | 31=>55 | 9=>9 | 3=>3 | 4=>4 | 0=>0 | 20=>20 | 72=>176 | 76=>170 | 70=>173 | 37=>174 | 75=>169 | 127=>184 | 164=>198 | 5=>5 | 80=>178 | n=>n,fun | n=>n⟩
theorem Tryz.lays156:Go.Proofs.Lays.n156 Tryz.prog Tryz.lays156_ren:={
 mixed:=by kernel_rfl
 f156:=Tryz.func61.trans (congrArg some (by kernel_rfl))
 f165:=Tryz.func110.trans (congrArg some (by kernel_rfl))
 f166:=Tryz.func111.trans (congrArg some (by kernel_rfl))
 f169:=Tryz.func112.trans (congrArg some (by kernel_rfl))
 f240:=Tryz.func121.trans (congrArg some (by kernel_rfl))
 f241:=Tryz.func122.trans (congrArg some (by kernel_rfl))
 f276:=Tryz.func134.trans (congrArg some (by kernel_rfl))
 f277:=Tryz.func135.trans (congrArg some (by kernel_rfl))
 t0:=Tryz.underlying0
 a0:=Tryz.isAgg0
 z0:=Tryz.sizeOf0
 v0:=Tryz.zeroValue0
 t3:=Tryz.underlying3
 a3:=Tryz.isAgg3
 z3:=Tryz.sizeOf3
 v3:=Tryz.zeroValue3
 t4:=Tryz.underlying4
 a4:=Tryz.isAgg4
 z4:=Tryz.sizeOf4
 v4:=Tryz.zeroValue4
 t9:=Tryz.underlying9
 a9:=Tryz.isAgg9
 z9:=Tryz.sizeOf9
 v9:=Tryz.zeroValue9
 t20:=Tryz.underlying20
 a20:=Tryz.isAgg20
 z20:=Tryz.sizeOf20
 v20:=Tryz.zeroValue20
 t31:=Tryz.underlying55
 a31:=Tryz.isAgg55
 z31:=Tryz.sizeOf55
 v31:=Tryz.zeroValue55
 t37:=Tryz.underlying174
 a37:=Tryz.isAgg174
 z37:=Tryz.sizeOf174
 v37:=Tryz.zeroValue174
 t70:=Tryz.underlying173
 a70:=Tryz.isAgg173
 z70:=Tryz.sizeOf173
 v70:=Tryz.zeroValue173
 t72:=Tryz.underlying176
 a72:=Tryz.isAgg176
 z72:=Tryz.sizeOf176
 v72:=Tryz.zeroValue176
 t75:=Tryz.underlying169
 a75:=Tryz.isAgg169
 z75:=Tryz.sizeOf169
 v75:=Tryz.zeroValue169
 t76:=Tryz.underlying170
 a76:=Tryz.isAgg170
 z76:=Tryz.sizeOf170
 v76:=Tryz.zeroValue170
 t127:=Tryz.underlying184
 a127:=Tryz.isAgg184
 z127:=Tryz.sizeOf184
 v127:=Tryz.zeroValue184
 t164:=Tryz.underlying198
 a164:=Tryz.isAgg198
 z164:=Tryz.sizeOf198
 v164:=Tryz.zeroValue198 }
theorem Tryz.Builder_Extra_156:Builder.Extra Tryz.prog Tryz.lays156_ren:={
 sizeBuilder:=by kernel_rfl
 liesBuilder:=by kernel_rfl
 t5:=Tryz.underlying5
 a5:=Tryz.isAgg5
 z5:=Tryz.sizeOf5
 v5:=Tryz.zeroValue5
 infoByte:=by kernel_rfl
 cellsByte:=by kernel_rfl
 sizeByte:=by kernel_rfl
 neB5:=by decide }
open Go.RowKit in
theorem Tryz.strings_Join_none (a : Option Addr) (c : Nat) (sep : ByteArray) (w : World) :
  Calls Tryz.prog 61 #[.slice a 0 c, .string sep] w fun e w' => e = .returned (.string ⟨#[]⟩) ∧ w' = w := Any.strings_Join_none Tryz.lays156 Tryz.Builder_Extra_156 a c sep w
open Go.RowKit in
theorem Tryz.strings_Join (bk o c : Nat) (xs : List ByteArray) (sep : ByteArray) (w : World) (hcells : ∀ (j : Nat) x, xs[j]? = some x → w.cell? ⟨bk, o + j, none⟩ = some (.string x)) (hbk : bk < w.heap.size) (hN : xs.length ≤ 140737488355328) (hcap : xs.length ≤ c) (hlen : (Lib.join (xs.map (·.data.toList)) sep.data.toList).length ≤ 140737488355328) :
  Calls Tryz.prog 61 #[.slice (some ⟨bk, o, none⟩) xs.length c, .string sep] w fun e w' => e = .returned (.string ⟨(Lib.join (xs.map (·.data.toList)) sep.data.toList).toArray⟩) ∧ Below w.heap.size w w' := Any.strings_Join Tryz.lays156 Tryz.Builder_Extra_156 bk o c xs sep w hcells hbk hN hcap hlen
def Tryz.lays137_ren:Go.Shelf.Ren:=⟨fun | 137=>108 | 217=>119 | 266=>129 | n=>n,fun | 9=>9 | 5=>5 | 3=>3 | n=>n,fun | n=>n⟩
theorem Tryz.lays137:Go.Proofs.Lays.n137 Tryz.prog Tryz.lays137_ren:={
 mixed:=by kernel_rfl
 f137:=Tryz.func108.trans (congrArg some (by kernel_rfl))
 f217:=Tryz.func119.trans (congrArg some (by kernel_rfl))
 f266:=Tryz.func129.trans (congrArg some (by kernel_rfl))
 t3:=Tryz.underlying3
 a3:=Tryz.isAgg3
 z3:=Tryz.sizeOf3
 v3:=Tryz.zeroValue3
 t5:=Tryz.underlying5
 a5:=Tryz.isAgg5
 z5:=Tryz.sizeOf5
 v5:=Tryz.zeroValue5
 t9:=Tryz.underlying9
 a9:=Tryz.isAgg9
 z9:=Tryz.sizeOf9
 v9:=Tryz.zeroValue9 }
open Go.RowKit in
theorem Tryz.strings_IndexByte (s : ByteArray) (c : Int) (w : World) :
  Calls Tryz.prog 108 #[.string s, .int .u8 c] w fun e w' => e = .returned (.int .i64 (Lib.indexByte s.data.toList c.toNat.toUInt8)) ∧ w' = w := Any.strings_IndexByte Tryz.lays137 s c w
def Tryz.laysM171_ren:Go.Shelf.Ren:=⟨fun | 171=>60 | 243=>109 | 246=>120 | 283=>130 | 284=>131 | 285=>132 | 286=>133 | 129=>140 | 317=>139 | 318=>141 | 319=>142 | 320=>143 | 337=>146 | 338=>147 | n=>n,fun | 3=>3 | 9=>9 | 2=>2 | 4=>4 | 171=>192 | 0=>0 | 53=>193 | 37=>174 | 5=>5 | 173=>196 | 212=>210 | 51=>211 | 20=>20 | 213=>212 | 46=>203 | 232=>220 | 233=>221 | n=>n,fun | 17=>4 | 18=>5 | 19=>6 | n=>n⟩
theorem Tryz.laysM171:Go.Proofs.LaysM.n171 Tryz.prog Tryz.laysM171_ren:={
 mixed:=by kernel_rfl
 f129:=Tryz.func140.trans (congrArg some (by kernel_rfl))
 f171:=Tryz.func60.trans (congrArg some (by kernel_rfl))
 f243:=Tryz.func109.trans (congrArg some (by kernel_rfl))
 f246:=Tryz.func120.trans (congrArg some (by kernel_rfl))
 f283:=Tryz.func130.trans (congrArg some (by kernel_rfl))
 f284:=Tryz.func131.trans (congrArg some (by kernel_rfl))
 f285:=Tryz.func132.trans (congrArg some (by kernel_rfl))
 f286:=Tryz.func133.trans (congrArg some (by kernel_rfl))
 f317:=Tryz.func139.trans (congrArg some (by kernel_rfl))
 f318:=Tryz.func141.trans (congrArg some (by kernel_rfl))
 f319:=Tryz.func142.trans (congrArg some (by kernel_rfl))
 f320:=Tryz.func143.trans (congrArg some (by kernel_rfl))
 f337:=Tryz.func146.trans (congrArg some (by kernel_rfl))
 f338:=Tryz.func147.trans (congrArg some (by kernel_rfl))
 t0:=Tryz.underlying0
 a0:=Tryz.isAgg0
 z0:=Tryz.sizeOf0
 v0:=Tryz.zeroValue0
 t2:=Tryz.underlying2
 a2:=Tryz.isAgg2
 z2:=Tryz.sizeOf2
 v2:=Tryz.zeroValue2
 t3:=Tryz.underlying3
 a3:=Tryz.isAgg3
 z3:=Tryz.sizeOf3
 v3:=Tryz.zeroValue3
 t4:=Tryz.underlying4
 a4:=Tryz.isAgg4
 z4:=Tryz.sizeOf4
 v4:=Tryz.zeroValue4
 t5:=Tryz.underlying5
 a5:=Tryz.isAgg5
 z5:=Tryz.sizeOf5
 v5:=Tryz.zeroValue5
 t9:=Tryz.underlying9
 a9:=Tryz.isAgg9
 z9:=Tryz.sizeOf9
 v9:=Tryz.zeroValue9
 t20:=Tryz.underlying20
 a20:=Tryz.isAgg20
 z20:=Tryz.sizeOf20
 v20:=Tryz.zeroValue20
 t37:=Tryz.underlying174
 a37:=Tryz.isAgg174
 z37:=Tryz.sizeOf174
 v37:=Tryz.zeroValue174
 t46:=Tryz.underlying203
 a46:=Tryz.isAgg203
 z46:=Tryz.sizeOf203
 v46:=Tryz.zeroValue203
 t51:=Tryz.underlying211
 a51:=Tryz.isAgg211
 z51:=Tryz.sizeOf211
 v51:=Tryz.zeroValue211
 t53:=Tryz.underlying193
 a53:=Tryz.isAgg193
 z53:=Tryz.sizeOf193
 v53:=Tryz.zeroValue193
 t171:=Tryz.underlying192
 a171:=Tryz.isAgg192
 z171:=Tryz.sizeOf192
 v171:=Tryz.zeroValue192
 t173:=Tryz.underlying196
 a173:=Tryz.isAgg196
 z173:=Tryz.sizeOf196
 v173:=Tryz.zeroValue196
 t212:=Tryz.underlying210
 a212:=Tryz.isAgg210
 z212:=Tryz.sizeOf210
 v212:=Tryz.zeroValue210
 t213:=Tryz.underlying212
 a213:=Tryz.isAgg212
 z213:=Tryz.sizeOf212
 t232:=Tryz.underlying220
 a232:=Tryz.isAgg220
 z232:=Tryz.sizeOf220
 v232:=Tryz.zeroValue220
 t233:=Tryz.underlying221
 a233:=Tryz.isAgg221
 z233:=Tryz.sizeOf221
 v233:=Tryz.zeroValue221
 g17:=by kernel_rfl
 g18:=by kernel_rfl
 g19:=by kernel_rfl
 i0:=by kernel_rfl
 i2:=by kernel_rfl
 i3:=by kernel_rfl
 i4:=by kernel_rfl
 i5:=by kernel_rfl
 i9:=by kernel_rfl
 i20:=by kernel_rfl
 i37:=by kernel_rfl
 i46:=by kernel_rfl
 i51:=by kernel_rfl
 i53:=by kernel_rfl
 i171:=by kernel_rfl
 i173:=by kernel_rfl
 i212:=by kernel_rfl
 i232:=by kernel_rfl
 i233:=by kernel_rfl
 m17:=by kernel_rfl
 m18:=by kernel_rfl
 m19:=by kernel_rfl }
open Go.RowKit Go.Sort Go.Lib in
theorem Tryz.strconv_Itoa (n : Int) (h0 : -9223372036854775808 ≤ n) (h1 : n ≤ 9223372036854775807) (w : World) (htab : Lib.TabIs Tryz.prog w "internal/strconv.uint64pow10" .u64 Lib.pow10Tab) :
  Calls Tryz.prog 60 #[.int .i64 n] w fun e w' => e = .returned (.string ⟨(Lib.itoa n).toArray⟩) ∧ ∃ k os, w' = grow (w.drewN k) os := Any.strconv_Itoa Tryz.laysM171 n h0 h1 w htab
def Tryz.laysC172_ren:Go.Shelf.Ren:=⟨fun | 172=>106 | 244=>116 | 245=>117 | 247=>124 | 279=>125 | 280=>126 | 281=>127 | 282=>128 | 287=>136 | 316=>137 | 171=>60 | 205=>138 | 321=>144 | 322=>145 | 243=>109 | 246=>120 | 283=>130 | 284=>131 | 285=>132 | 286=>133 | 129=>140 | 317=>139 | 318=>141 | 319=>142 | 320=>143 | 337=>146 | 338=>147 | n=>n,fun | 9=>9 | 3=>3 | 75=>169 | 76=>170 | 4=>4 | 5=>5 | 167=>186 | 37=>174 | 0=>0 | 85=>187 | 2=>2 | 168=>189 | 53=>193 | 175=>201 | 46=>203 | 210=>206 | 127=>184 | 145=>218 | 143=>216 | 21=>21 | 171=>192 | 173=>196 | 212=>210 | 51=>211 | 20=>20 | 213=>212 | 232=>220 | 233=>221 | 80=>178 | n=>n,fun | 15=>1 | 16=>2 | 17=>4 | 18=>5 | 19=>6 | n=>n⟩
theorem Tryz.laysC172:Go.Proofs.LaysC.n172 Tryz.prog Tryz.laysC172_ren:={
 mixed:=by kernel_rfl
 f129:=Tryz.func140.trans (congrArg some (by kernel_rfl))
 f171:=Tryz.func60.trans (congrArg some (by kernel_rfl))
 f172:=Tryz.func106.trans (congrArg some (by kernel_rfl))
 f205:=Tryz.func138.trans (congrArg some (by kernel_rfl))
 f243:=Tryz.func109.trans (congrArg some (by kernel_rfl))
 f244:=Tryz.func116.trans (congrArg some (by kernel_rfl))
 f245:=Tryz.func117.trans (congrArg some (by kernel_rfl))
 f246:=Tryz.func120.trans (congrArg some (by kernel_rfl))
 f247:=Tryz.func124.trans (congrArg some (by kernel_rfl))
 f279:=Tryz.func125.trans (congrArg some (by kernel_rfl))
 f280:=Tryz.func126.trans (congrArg some (by kernel_rfl))
 f281:=Tryz.func127.trans (congrArg some (by kernel_rfl))
 f282:=Tryz.func128.trans (congrArg some (by kernel_rfl))
 f283:=Tryz.func130.trans (congrArg some (by kernel_rfl))
 f284:=Tryz.func131.trans (congrArg some (by kernel_rfl))
 f285:=Tryz.func132.trans (congrArg some (by kernel_rfl))
 f286:=Tryz.func133.trans (congrArg some (by kernel_rfl))
 f287:=Tryz.func136.trans (congrArg some (by kernel_rfl))
 f316:=Tryz.func137.trans (congrArg some (by kernel_rfl))
 f317:=Tryz.func139.trans (congrArg some (by kernel_rfl))
 f318:=Tryz.func141.trans (congrArg some (by kernel_rfl))
 f319:=Tryz.func142.trans (congrArg some (by kernel_rfl))
 f320:=Tryz.func143.trans (congrArg some (by kernel_rfl))
 f321:=Tryz.func144.trans (congrArg some (by kernel_rfl))
 f322:=Tryz.func145.trans (congrArg some (by kernel_rfl))
 f337:=Tryz.func146.trans (congrArg some (by kernel_rfl))
 f338:=Tryz.func147.trans (congrArg some (by kernel_rfl))
 t0:=Tryz.underlying0
 a0:=Tryz.isAgg0
 z0:=Tryz.sizeOf0
 v0:=Tryz.zeroValue0
 t2:=Tryz.underlying2
 a2:=Tryz.isAgg2
 z2:=Tryz.sizeOf2
 v2:=Tryz.zeroValue2
 t3:=Tryz.underlying3
 a3:=Tryz.isAgg3
 z3:=Tryz.sizeOf3
 v3:=Tryz.zeroValue3
 t4:=Tryz.underlying4
 a4:=Tryz.isAgg4
 z4:=Tryz.sizeOf4
 v4:=Tryz.zeroValue4
 t5:=Tryz.underlying5
 a5:=Tryz.isAgg5
 z5:=Tryz.sizeOf5
 v5:=Tryz.zeroValue5
 t9:=Tryz.underlying9
 a9:=Tryz.isAgg9
 z9:=Tryz.sizeOf9
 v9:=Tryz.zeroValue9
 t20:=Tryz.underlying20
 a20:=Tryz.isAgg20
 z20:=Tryz.sizeOf20
 v20:=Tryz.zeroValue20
 t21:=Tryz.underlying21
 a21:=Tryz.isAgg21
 z21:=Tryz.sizeOf21
 v21:=Tryz.zeroValue21
 t37:=Tryz.underlying174
 a37:=Tryz.isAgg174
 z37:=Tryz.sizeOf174
 v37:=Tryz.zeroValue174
 t46:=Tryz.underlying203
 a46:=Tryz.isAgg203
 z46:=Tryz.sizeOf203
 v46:=Tryz.zeroValue203
 t51:=Tryz.underlying211
 a51:=Tryz.isAgg211
 z51:=Tryz.sizeOf211
 v51:=Tryz.zeroValue211
 t53:=Tryz.underlying193
 a53:=Tryz.isAgg193
 z53:=Tryz.sizeOf193
 v53:=Tryz.zeroValue193
 t75:=Tryz.underlying169
 a75:=Tryz.isAgg169
 z75:=Tryz.sizeOf169
 v75:=Tryz.zeroValue169
 t76:=Tryz.underlying170
 a76:=Tryz.isAgg170
 z76:=Tryz.sizeOf170
 v76:=Tryz.zeroValue170
 t85:=Tryz.underlying187
 a85:=Tryz.isAgg187
 z85:=Tryz.sizeOf187
 v85:=Tryz.zeroValue187
 t127:=Tryz.underlying184
 a127:=Tryz.isAgg184
 z127:=Tryz.sizeOf184
 v127:=Tryz.zeroValue184
 t143:=Tryz.underlying216
 a143:=Tryz.isAgg216
 z143:=Tryz.sizeOf216
 v143:=Tryz.zeroValue216
 t145:=Tryz.underlying218
 a145:=Tryz.isAgg218
 z145:=Tryz.sizeOf218
 v145:=Tryz.zeroValue218
 t167:=Tryz.underlying186
 a167:=Tryz.isAgg186
 z167:=Tryz.sizeOf186
 v167:=Tryz.zeroValue186
 t168:=Tryz.underlying189
 a168:=Tryz.isAgg189
 z168:=Tryz.sizeOf189
 v168:=Tryz.zeroValue189
 t171:=Tryz.underlying192
 a171:=Tryz.isAgg192
 z171:=Tryz.sizeOf192
 v171:=Tryz.zeroValue192
 t173:=Tryz.underlying196
 a173:=Tryz.isAgg196
 z173:=Tryz.sizeOf196
 v173:=Tryz.zeroValue196
 t175:=Tryz.underlying201
 a175:=Tryz.isAgg201
 z175:=Tryz.sizeOf201
 v175:=Tryz.zeroValue201
 t210:=Tryz.underlying206
 a210:=Tryz.isAgg206
 z210:=Tryz.sizeOf206
 v210:=Tryz.zeroValue206
 t212:=Tryz.underlying210
 a212:=Tryz.isAgg210
 z212:=Tryz.sizeOf210
 v212:=Tryz.zeroValue210
 t213:=Tryz.underlying212
 a213:=Tryz.isAgg212
 z213:=Tryz.sizeOf212
 t232:=Tryz.underlying220
 a232:=Tryz.isAgg220
 z232:=Tryz.sizeOf220
 v232:=Tryz.zeroValue220
 t233:=Tryz.underlying221
 a233:=Tryz.isAgg221
 z233:=Tryz.sizeOf221
 v233:=Tryz.zeroValue221
 g15:=by kernel_rfl
 g16:=by kernel_rfl
 g17:=by kernel_rfl
 g18:=by kernel_rfl
 g19:=by kernel_rfl
 t80:=Tryz.underlying178
 a80:=Tryz.isAgg178
 z80:=Tryz.sizeOf178
 v80:=Tryz.zeroValue178
 i0:=by kernel_rfl
 i2:=by kernel_rfl
 i3:=by kernel_rfl
 i4:=by kernel_rfl
 i5:=by kernel_rfl
 i9:=by kernel_rfl
 i20:=by kernel_rfl
 i21:=by kernel_rfl
 i37:=by kernel_rfl
 i46:=by kernel_rfl
 i51:=by kernel_rfl
 i53:=by kernel_rfl
 i75:=by kernel_rfl
 i76:=by kernel_rfl
 i80:=by kernel_rfl
 i85:=by kernel_rfl
 i127:=by kernel_rfl
 i143:=by kernel_rfl
 i145:=by kernel_rfl
 i167:=by kernel_rfl
 i168:=by kernel_rfl
 i171:=by kernel_rfl
 i173:=by kernel_rfl
 i175:=by kernel_rfl
 i210:=by kernel_rfl
 i212:=by kernel_rfl
 i232:=by kernel_rfl
 i233:=by kernel_rfl
 m15:=by kernel_rfl
 m16:=by kernel_rfl
 m17:=by kernel_rfl
 m18:=by kernel_rfl
 m19:=by kernel_rfl
 c0:=by kernel_rfl
 c2:=by kernel_rfl
 c3:=by kernel_rfl
 c4:=by kernel_rfl
 c5:=by kernel_rfl
 c9:=by kernel_rfl
 c20:=by kernel_rfl
 c21:=by kernel_rfl
 c37:=by kernel_rfl
 c46:=by kernel_rfl
 c51:=by kernel_rfl
 c53:=by kernel_rfl
 c75:=by kernel_rfl
 c76:=by kernel_rfl
 c80:=by kernel_rfl
 c85:=by kernel_rfl
 c127:=by kernel_rfl
 c143:=by kernel_rfl
 c145:=by kernel_rfl
 c167:=by kernel_rfl
 c168:=by kernel_rfl
 c171:=by kernel_rfl
 c173:=by kernel_rfl
 c175:=by kernel_rfl
 c210:=by kernel_rfl
 c212:=by kernel_rfl
 c213:=by kernel_rfl
 c232:=by kernel_rfl
 c233:=by kernel_rfl }
open Go.RowKit in
theorem Tryz.strconv_Atoi_ok (s : ByteArray) (hmax : s.size ≤ 9223372036854775806) (v : Int) (h : Lib.atoiAll s.data.toList = .ok v) (w : World) :
  Calls Tryz.prog 106 #[.string s] w fun e w' => e = .returned (.tuple #[.int .i64 v, .nilIface]) ∧ (w' = w ∨ ∃ t, w' = Lib.bytesWorld w 5 t) := Any.strconv_Atoi_ok Tryz.laysC172 s hmax v h w
open Go.RowKit in
theorem Tryz.strconv_Atoi_syntax_var (s : ByteArray) (hlim : s.size ≤ 281474976710656) (h : Lib.atoiAll s.data.toList = Lib.NumEnd.syntax) (tp : TypeId) (p : Value) (w : World) (hvar : w.var? Tryz.prog "strconv.ErrSyntax" = some #[.iface tp p]) :
  Calls Tryz.prog 106 #[.string s] w fun e w' => ∃ N, e = .returned (.tuple #[.int .i64 0, .iface 189 (.pointer (some ⟨N, 0, none⟩))]) ∧ w.heap.size ≤ N ∧ w'.heap[N]? = some (.cells #[.string ⟨#[65, 116, 111, 105]⟩, .string s, .iface tp p] 206 (0, 0)) ∧ Below w.heap.size w w' := Any.strconv_Atoi_syntax_var Tryz.laysC172 s hlim h tp p w hvar
open Go.RowKit in
theorem Tryz.strconv_Atoi_range_var (s : ByteArray) (hlim : s.size ≤ 281474976710656) (h : Lib.atoiAll s.data.toList = .range) (tp : TypeId) (p : Value) (w : World) (hvar : w.var? Tryz.prog "strconv.ErrRange" = some #[.iface tp p]) :
  Calls Tryz.prog 106 #[.string s] w fun e w' => ∃ N, e = .returned (.tuple #[.int .i64 (Lib.atoiSat s.data.toList), .iface 189 (.pointer (some ⟨N, 0, none⟩))]) ∧ w.heap.size ≤ N ∧ w'.heap[N]? = some (.cells #[.string ⟨#[65, 116, 111, 105]⟩, .string s, .iface tp p] 206 (0, 0)) ∧ Below w.heap.size w w' := Any.strconv_Atoi_range_var Tryz.laysC172 s hlim h tp p w hvar
end Go.Proofs
namespace Go.Am
open Go Go.Proofs
set_option linter.unusedVariables false
set_option linter.unusedSimpArgs false
theorem Aiv {w w':World}{s:String}(hs:(Tryz.prog.globalNamed s).all (fun g=>Nat.blt g 7)=true)(e : ∀ b,b<7→w'.heap[b]? = w.heap[b]?):w'.var? Tryz.prog s=w.var? Tryz.prog s:=by
 unfold World.var?
 cases hq:Tryz.prog.globalNamed s with
 | none=>rfl
 | some g=>
  rw [hq] at hs
  simp only [Option.bind_some]
  rw [e g (by simpa using hs)]
def GWp (w : World) : Prop := ((∃ tp p, w.var? Tryz.prog "strconv.ErrRange" = some #[.iface tp p])) ∧ ((∃ tp p, w.var? Tryz.prog "strconv.ErrSyntax" = some #[.iface tp p])) ∧ (Lib.TabIs Tryz.prog w "internal/strconv.uint64pow10" .u64 Lib.pow10Tab)
theorem Aqz {w w':World}(e : ∀ b,b<7→w'.heap[b]? = w.heap[b]?)(k:GWp w):GWp w':=⟨(by obtain⟨tp,p,h⟩:=k.1; exact⟨tp,p,by rw [Aiv (by kernel_rfl) e]; exact h⟩),(by obtain⟨tp,p,h⟩:=k.2.1; exact⟨tp,p,by rw [Aiv (by kernel_rfl) e]; exact h⟩),(by rw [Lib.TabIs,Aiv (by kernel_rfl) e]; exact k.2.2)⟩
def Ph:List (Ar×Ar×FuncId):=[([97,105,114,112,111,114,116],[111,118,101,114,102,108,105,103,104,116,47,115,121,110,116,97,120,46,100,101,102,105,110,105,116,105,111,110,115,36,54],189),([99,108,97,115,115],[111,118,101,114,102,108,105,103,104,116,47,115,121,110,116,97,120,46,100,101,102,105,110,105,116,105,111,110,115,36,55],194),([99,111,110,102,105,103],[111,118,101,114,102,108,105,103,104,116,47,115,121,110,116,97,120,46,100,101,102,105,110,105,116,105,111,110,115,36,51],180),([99,117,114,102,101,119],[111,118,101,114,102,108,105,103,104,116,47,115,121,110,116,97,120,46,100,101,102,105,110,105,116,105,111,110,115,36,56],197),([101,120,101,109,112,116],[111,118,101,114,102,108,105,103,104,116,47,115,121,110,116,97,120,46,100,101,102,105,110,105,116,105,111,110,115,36,57],201),([108,111,110,103,101,115,116],[111,118,101,114,102,108,105,103,104,116,47,115,121,110,116,97,120,46,100,101,102,105,110,105,116,105,111,110,115,36,49,49],205),([114,111,117,116,101],[111,118,101,114,102,108,105,103,104,116,47,115,121,110,116,97,120,46,100,101,102,105,110,105,116,105,111,110,115,36,53],186),([115,101,99,116,111,114],[111,118,101,114,102,108,105,103,104,116,47,115,121,110,116,97,120,46,100,101,102,105,110,105,116,105,111,110,115,36,50],172),([115,101,103,109,101,110,116],[111,118,101,114,102,108,105,103,104,116,47,115,121,110,116,97,120,46,100,101,102,105,110,105,116,105,111,110,115,36,52],183),([118,111,108,117,109,101],[111,118,101,114,102,108,105,103,104,116,47,115,121,110,116,97,120,46,100,101,102,105,110,105,116,105,111,110,115,36,49],168),([119,101,105,103,104,116],[111,118,101,114,102,108,105,103,104,116,47,115,121,110,116,97,120,46,100,101,102,105,110,105,116,105,111,110,115,36,49,48],203)]
instance gwI:GW Tryz.prog where
 n:=7
 G:=fun m w=>GWp w∧FMapAt w m 0 (Ku Ph)
 keep:=fun hn e k=>⟨Aqz (fun b hb=>e b (Nat.lt_of_lt_of_le hb hn)) k.1,k.2.keep (Nat.lt_of_lt_of_le (by decide) hn) e⟩
 row:=fun b=>if b=0 then some [.mapc (Ku Ph)] else none
 rowOk:=by
  intro m w b r hn hm k hr
  by_cases h0:b=0
  ·subst h0
   simp at hr
   subst hr
   refine⟨by decide,fun mu M hM j hj=>?_⟩
   obtain rfl:j=0:=by simpa using hj
   exact k.2.rv hm hM
  simp [h0] at hr
theorem Ajc {m : Nat} {w : World} (k : GW.G Tryz.prog m w) : (∃ tp p, w.var? Tryz.prog "strconv.ErrRange" = some #[.iface tp p]) := k.1.1
theorem Ah1 {m : Nat} {w : World} (k : GW.G Tryz.prog m w) : (∃ tp p, w.var? Tryz.prog "strconv.ErrSyntax" = some #[.iface tp p]) := k.1.2.1
theorem Aou {m : Nat} {w : World} (k : GW.G Tryz.prog m w) : Lib.TabIs Tryz.prog w "internal/strconv.uint64pow10" .u64 Lib.pow10Tab := k.1.2.2
theorem Gg:Tryz.prog.follows .mixedOrders=true:=by kernel_rfl
theorem Ds:ti Tryz.prog 3=some ⟨.int .i64,1,8,[.int .i64 0]⟩:=by kernel_rfl
theorem Qw:ti Tryz.prog 4=some ⟨.bool,1,1,[.bool false]⟩:=by kernel_rfl
theorem Cy:ti Tryz.prog 9=some ⟨.str,1,16,[.str []]⟩:=by kernel_rfl
theorem Ald:ti Tryz.prog 20=some ⟨.ifc,1,16,[.nili]⟩:=by kernel_rfl
theorem J2:ti Tryz.prog 23=some ⟨.sl 54,1,24,[.emp]⟩:=by kernel_rfl
theorem Ji:ti Tryz.prog 24=some ⟨.sl 58,1,24,[.emp]⟩:=by kernel_rfl
theorem K1:ti Tryz.prog 25=some ⟨.sl 77,1,24,[.emp]⟩:=by kernel_rfl
theorem K3:ti Tryz.prog 26=some ⟨.sl 79,1,24,[.emp]⟩:=by kernel_rfl
theorem K4:ti Tryz.prog 27=some ⟨.sl 81,1,24,[.emp]⟩:=by kernel_rfl
theorem Oe:ti Tryz.prog 28=some ⟨.sl 51,1,24,[.emp]⟩:=by kernel_rfl
theorem My:ti Tryz.prog 29=some ⟨.sl 85,1,24,[.emp]⟩:=by kernel_rfl
theorem E1:ti Tryz.prog 30=some ⟨.sl 62,1,24,[.emp]⟩:=by kernel_rfl
theorem Ec:ti Tryz.prog 32=some ⟨.st [(0,23),(1,24),(2,25),(3,26),(4,27),(5,28),(6,29),(7,30)],8,192,[.emp,.emp,.emp,.emp,.emp,.emp,.emp,.emp]⟩:=by kernel_rfl
theorem N1:ti Tryz.prog 33=some ⟨.int .i64,1,8,[.int .i64 0]⟩:=by kernel_rfl
theorem Cx:ti Tryz.prog 42=some ⟨.sl 47,1,24,[.emp]⟩:=by kernel_rfl
theorem Dc:ti Tryz.prog 47=some ⟨.st [(0,3),(1,9),(2,3),(3,3)],4,40,[.int .i64 0,.str [],.int .i64 0,.int .i64 0]⟩:=by kernel_rfl
theorem Oc:ti Tryz.prog 49=some ⟨.sl 83,1,24,[.emp]⟩:=by kernel_rfl
theorem J3:ti Tryz.prog 51=some ⟨.st [(0,9),(1,49)],2,40,[.str [],.emp]⟩:=by kernel_rfl
theorem Mw:ti Tryz.prog 52=some ⟨.sl 60,1,24,[.emp]⟩:=by kernel_rfl
theorem Ko:ti Tryz.prog 54=some ⟨.st [(0,9),(1,52)],2,40,[.str [],.emp]⟩:=by kernel_rfl
theorem D5:ti Tryz.prog 55=some ⟨.sl 9,1,24,[.emp]⟩:=by kernel_rfl
theorem Ok:ti Tryz.prog 56=some ⟨.sl 3,1,24,[.emp]⟩:=by kernel_rfl
theorem Gp:ti Tryz.prog 58=some ⟨.st [(0,9),(1,55),(2,56),(3,3),(4,3)],5,80,[.str [],.emp,.emp,.int .i64 0,.int .i64 0]⟩:=by kernel_rfl
theorem Ly:ti Tryz.prog 60=some ⟨.st [(0,3),(1,3)],2,16,[.int .i64 0,.int .i64 0]⟩:=by kernel_rfl
theorem Do:ti Tryz.prog 62=some ⟨.st [(0,3),(1,9),(2,9),(3,3),(4,3),(5,3),(6,60)],8,80,[.int .i64 0,.str [],.str [],.int .i64 0,.int .i64 0,.int .i64 0,.int .i64 0,.int .i64 0]⟩:=by kernel_rfl
theorem Abf:ti Tryz.prog 64=some ⟨.st [(0,3),(1,33)],2,16,[.int .i64 0,.int .i64 0]⟩:=by kernel_rfl
theorem Ua:ti Tryz.prog 66=some ⟨.ptr 68,1,8,[.nilp]⟩:=by kernel_rfl
theorem Z8:ti Tryz.prog 68=some ⟨.st [(0,42),(1,3),(2,32)],10,224,[.emp,.int .i64 0,.emp,.emp,.emp,.emp,.emp,.emp,.emp,.emp]⟩:=by kernel_rfl
theorem Iu:ti Tryz.prog 77=some ⟨.st [(0,9),(1,55),(2,56)],3,64,[.str [],.emp,.emp]⟩:=by kernel_rfl
theorem Hn:ti Tryz.prog 79=some ⟨.st [(0,9),(1,9),(2,3),(3,3),(4,52)],5,72,[.str [],.str [],.int .i64 0,.int .i64 0,.emp]⟩:=by kernel_rfl
theorem Gz:ti Tryz.prog 81=some ⟨.st [(0,9),(1,9),(2,9),(3,3),(4,3),(5,55),(6,56)],7,112,[.str [],.str [],.str [],.int .i64 0,.int .i64 0,.emp,.emp]⟩:=by kernel_rfl
theorem Pu:ti Tryz.prog 83=some ⟨.st [(0,9),(1,3)],2,24,[.str [],.int .i64 0]⟩:=by kernel_rfl
theorem Na:ti Tryz.prog 85=some ⟨.st [(0,9),(1,3),(2,3),(3,3)],4,40,[.str [],.int .i64 0,.int .i64 0,.int .i64 0]⟩:=by kernel_rfl
theorem Afc:ti Tryz.prog 87=some ⟨.ptr 89,1,8,[.nilp]⟩:=by kernel_rfl
theorem Y4:ti Tryz.prog 89=some ⟨.st [(0,42),(1,4)],2,32,[.emp,.bool false]⟩:=by kernel_rfl
theorem Ap4:ti Tryz.prog 113=some ⟨.int .i64,1,8,[.int .i64 0]⟩:=by kernel_rfl
theorem Acf:ti Tryz.prog 114=some ⟨.fn,1,8,[.nilf]⟩:=by kernel_rfl
theorem Yj:ti Tryz.prog 115=some ⟨.arr 6 114,6,48,[.nilf,.nilf,.nilf,.nilf,.nilf,.nilf]⟩:=by kernel_rfl
theorem Ap1:ti Tryz.prog 117=some ⟨.st [(0,115)],6,48,[.nilf,.nilf,.nilf,.nilf,.nilf,.nilf]⟩:=by kernel_rfl
theorem Pl:ti Tryz.prog 120=some ⟨.st [(0,9),(1,3),(2,42)],3,48,[.str [],.int .i64 0,.emp]⟩:=by kernel_rfl
theorem Su:ti Tryz.prog 140=some ⟨.fn,1,8,[.nilf]⟩:=by kernel_rfl
theorem R9:ti Tryz.prog 142=some ⟨.map 9 140,1,8,[.mnil]⟩:=by kernel_rfl
theorem Auu:ti Tryz.prog 169=some ⟨.ifc,1,16,[.nili]⟩:=by kernel_rfl
theorem Alp:Jd Tryz.prog [(0,23),(1,24),(2,25),(3,26),(4,27),(5,28),(6,29),(7,30)]=some [(0,1),(1,1),(2,1),(3,1),(4,1),(5,1),(6,1),(7,1)]:=by kernel_rfl
theorem At1:Jd Tryz.prog [(0,9),(1,49)]=some [(0,1),(1,1)]:=by kernel_rfl
theorem At8:Jd Tryz.prog [(0,9),(1,52)]=some [(0,1),(1,1)]:=by kernel_rfl
theorem Atw:Jd Tryz.prog [(0,9),(1,55),(2,56),(3,3),(4,3)]=some [(0,1),(1,1),(2,1),(3,1),(4,1)]:=by kernel_rfl
theorem Av0:Jd Tryz.prog [(0,42),(1,3),(2,32)]=some [(0,1),(1,1),(2,8)]:=by kernel_rfl
theorem Avy:Jd Tryz.prog [(0,9),(1,55),(2,56)]=some [(0,1),(1,1),(2,1)]:=by kernel_rfl
theorem Av3:Jd Tryz.prog [(0,42),(1,4)]=some [(0,1),(1,1)]:=by kernel_rfl
theorem Amn {o:BinOp}{x y:Operand}{a b:AV}(ha:a.isAgg=true)(hb:b.isAgg=true):Me Tryz.prog o 60 x y a b=true:=Yb ha hb (by kernel_rfl)
theorem Al5 {aFrom:Int}{aTo:Int}{bFrom:Int}{bTo:Int}:Pb Tryz.prog .neq 60 (AV.agg [(.int .i64 aFrom),(.int .i64 aTo)]) (AV.agg [(.int .i64 bFrom),(.int .i64 bTo)])=some (.bool (!((aFrom==bFrom)&&(aTo==bTo)))):=by
 have he60:Wi Tryz.prog 60=true:=by kernel_rfl
 simp only [Pb,Vz,he60,if_true,List.drop_succ_cons,List.drop_zero,List.take_succ_cons,List.take_zero,List.take_nil,Acd,Z7,S0,Ld,Ds,Ly,TK.agg,Nat.reduceAdd,Nat.reduceLT,Nat.reduceLeDiff,List.length_cons,List.length_nil,List.getD_cons_zero,List.getD_cons_succ,Yi,Bool.and_true,Option.map_some,if_false,Bool.false_eq_true,reduceCtorEq,Nat.zero_add]
 try rfl
theorem Ahk {o:BinOp}{x y:Operand}{a b:AV}(ha:a.isAgg=true)(hb:b.isAgg=true):Me Tryz.prog o 62 x y a b=true:=Yb ha hb (by kernel_rfl)
theorem Aht {aKind:Int}{aC:Ar}{aA:Ar}{aClass:Int}{aAirport:Int}{aN:Int}{aHours_From:Int}{aHours_To:Int}{bKind:Int}{bC:Ar}{bA:Ar}{bClass:Int}{bAirport:Int}{bN:Int}{bHours_From:Int}{bHours_To:Int}:Pb Tryz.prog .neq 62 (AV.agg [(.int .i64 aKind),(.str aC),(.str aA),(.int .i64 aClass),(.int .i64 aAirport),(.int .i64 aN),(.int .i64 aHours_From),(.int .i64 aHours_To)]) (AV.agg [(.int .i64 bKind),(.str bC),(.str bA),(.int .i64 bClass),(.int .i64 bAirport),(.int .i64 bN),(.int .i64 bHours_From),(.int .i64 bHours_To)])=some (.bool (!((aKind==bKind)&&((aC==bC)&&((aA==bA)&&((aClass==bClass)&&((aAirport==bAirport)&&((aN==bN)&&((aHours_From==bHours_From)&&(aHours_To==bHours_To)))))))))):=by
 have he60:Wi Tryz.prog 60=true:=by kernel_rfl
 have he62:Wi Tryz.prog 62=true:=by kernel_rfl
 simp only [Pb,Vz,he60,he62,if_true,List.drop_succ_cons,List.drop_zero,List.take_succ_cons,List.take_zero,List.take_nil,Acd,Z7,S0,Ld,Ds,Cy,Ly,Do,TK.agg,Nat.reduceAdd,Nat.reduceLT,Nat.reduceLeDiff,List.length_cons,List.length_nil,List.getD_cons_zero,List.getD_cons_succ,Yi,Bool.and_true,Option.map_some,if_false,Bool.false_eq_true,reduceCtorEq,Nat.zero_add]
 try rfl
theorem Anm {o:BinOp}{x y:Operand}{a b:AV}(ha:a.isAgg=true)(hb:b.isAgg=true):Me Tryz.prog o 83 x y a b=true:=Yb ha hb (by kernel_rfl)
theorem Anl {aName:Ar}{Jd:Int}{bName:Ar}{bPlaces:Int}:Pb Tryz.prog .neq 83 (AV.agg [(.str aName),(.int .i64 Jd)]) (AV.agg [(.str bName),(.int .i64 bPlaces)])=some (.bool (!((aName==bName)&&(Jd==bPlaces)))):=by
 have he83:Wi Tryz.prog 83=true:=by kernel_rfl
 simp only [Pb,Vz,he83,if_true,List.drop_succ_cons,List.drop_zero,List.take_succ_cons,List.take_zero,List.take_nil,Acd,Z7,S0,Ld,Ds,Cy,Pu,TK.agg,Nat.reduceAdd,Nat.reduceLT,Nat.reduceLeDiff,List.length_cons,List.length_nil,List.getD_cons_zero,List.getD_cons_succ,Yi,Bool.and_true,Option.map_some,if_false,Bool.false_eq_true,reduceCtorEq,Nat.zero_add]
 try rfl
theorem Amd {o:BinOp}{x y:Operand}{a b:AV}(ha:a.isAgg=true)(hb:b.isAgg=true):Me Tryz.prog o 85 x y a b=true:=Yb ha hb (by kernel_rfl)
theorem Anj {aName:Ar}{aSlow:Int}{aFast:Int}{Jd:Int}{bName:Ar}{bSlow:Int}{bFast:Int}{bPlaces:Int}:Pb Tryz.prog .neq 85 (AV.agg [(.str aName),(.int .i64 aSlow),(.int .i64 aFast),(.int .i64 Jd)]) (AV.agg [(.str bName),(.int .i64 bSlow),(.int .i64 bFast),(.int .i64 bPlaces)])=some (.bool (!((aName==bName)&&((aSlow==bSlow)&&((aFast==bFast)&&(Jd==bPlaces)))))):=by
 have he85:Wi Tryz.prog 85=true:=by kernel_rfl
 simp only [Pb,Vz,he85,if_true,List.drop_succ_cons,List.drop_zero,List.take_succ_cons,List.take_zero,List.take_nil,Acd,Z7,S0,Ld,Ds,Cy,Na,TK.agg,Nat.reduceAdd,Nat.reduceLT,Nat.reduceLeDiff,List.length_cons,List.length_nil,List.getD_cons_zero,List.getD_cons_succ,Yi,Bool.and_true,Option.map_some,if_false,Bool.false_eq_true,reduceCtorEq,Nat.zero_add]
 try rfl
end Go.Am
namespace Go.Am
open Go Go.Proofs
set_option maxRecDepth 100000
set_option maxHeartbeats 4000000
set_option linter.unusedSimpArgs false
set_option linter.unusedVariables false
theorem T2 (s:Ar)(c:Int):CP Tryz.prog 108 [.str s,.int .u8 c] (strings_IndexByte s c) (fun x=>AV.int .i64 x):=
 Aio (.mk Tryz.func108 rfl (by decide)) (fun p h=>by cases h) fun a ha B mu h w cargs hs hl=>by
  obtain⟨c1,c2,rfl,h1,h2⟩:=Akb hl
  obtain rfl:=Aes h1; obtain rfl:=Ana h2
  cases ha
  refine(Go.Proofs.Tryz.strings_IndexByte ⟨s.toArray⟩ c w).mono ?_
  rintro e w' ⟨rfl,rfl⟩
  exact⟨Go.RowKit.Below.refl _ _,_,J,.int _ _⟩
theorem Rl (c:Int):CP Tryz.prog 58 [(.int .u8 c)] (Lv c) (fun(x:Int)=>(AV.int .i64 x)):=by
 refine C3 (n:=47) 0 Tryz.func58 J (by decide) J J fun h0 ids hI=>Bm (Ak (Lv.eq_1 _) ?_)
 refine Y<|O<|Z (.I 0) J Al<|Aa<|Y<|A8<|Y ?_
 refine O<|Ab 3 [] [(6,(.bool (decide (c≥97))))] ?_
 refine B8 3 [(0,(.int .u8 c)),(9,(.bool ((decide (c≥97))&&(decide (c≤122)))))] ?_ fun hJ=>Bu (decide (c≥97)) (fun hb1=>?_) (fun hb1=>?_)
 ·refine Z (.bool ((decide (c≥97))&&(decide (c≤122)))) J Ad<|B8 7 [(0,(.int .u8 c)),(17,(.bool (((decide (c≥97))&&(decide (c≤122)))||((decide (c≥65))&&(decide (c≤90))))))] ?_ fun hJ1=>Bu ((decide (c≥97))&&(decide (c≤122))) (fun hb3=>?_) (fun hb3=>?_)
  ·refine Z (.bool (((decide (c≥97))&&(decide (c≤122)))||((decide (c≥65))&&(decide (c≤90))))) J Al<|Aa<|Cd J (fun hc=>?_) (fun hc=>?_)
   ·refine Y<|O<|Z (.I 2) J Al<|Aa<|Bs (a:=2) (vs:=[(.I 2)]) Tryz.func58 hI J (.same _)
   refine Y<|O<|Ab 3 [] [(21,(.bool (decide (c≥48))))] ?_
   refine B8 3 [(0,(.int .u8 c)),(24,(.bool ((decide (c≥48))&&(decide (c≤57)))))] ?_ fun hJ3=>Bu (decide (c≥48)) (fun hb7=>?_) (fun hb7=>?_)
   ·refine Z (.bool ((decide (c≥48))&&(decide (c≤57)))) J Al<|Aa<|Cd J (fun hc1=>?_) (fun hc1=>?_)
    ·refine Y<|O<|Z (.I 3) J Al<|Aa<|Bs (a:=3) (vs:=[(.I 3)]) Tryz.func58 hI J (.same _)
    refine Y<|O<|Ab 3 [] [(25,(.bool (c==95)))] ?_
    refine Aa<|Cd J (fun hc2=>?_) (fun hc2=>?_)
    ·refine Y<|O<|Z (.I 5) J Al<|Aa<|Bs (a:=5) (vs:=[(.I 5)]) Tryz.func58 hI J (.same _)
    refine Y<|O<|Ab 3 [] [(31,(.bool (c==32)))] ?_
    refine B8 3 [(0,(.int .u8 c)),(34,(.bool ((c==32)||(c==9))))] ?_ fun hJ4=>Bu (c==32) (fun hb9=>?_) (fun hb9=>?_)
    ·refine Z (.bool ((c==32)||(c==9))) J Ad<|B8 3 [(0,(.int .u8 c)),(38,(.bool (((c==32)||(c==9))||(c==10))))] ?_ fun hJ5=>Bu ((c==32)||(c==9)) (fun hb11=>?_) (fun hb11=>?_)
     ·refine Z (.bool (((c==32)||(c==9))||(c==10))) J Ad<|B8 3 [(0,(.int .u8 c)),(42,(.bool ((((c==32)||(c==9))||(c==10))||(c==13))))] ?_ fun hJ6=>Bu (((c==32)||(c==9))||(c==10)) (fun hb13=>?_) (fun hb13=>?_)
      ·refine Z (.bool ((((c==32)||(c==9))||(c==10))||(c==13))) J Al<|Aa<|Cd J (fun hc3=>?_) (fun hc3=>?_)
       ·refine Y<|O<|Z (.I 1) J Al<|Aa<|Bs (a:=1) (vs:=[(.I 1)]) Tryz.func58 hI J (.same _)
       refine Y<|O<|Z (.int .u8 c) J Ad<|Bz [(.str [123,125,40,41,59,44,61,35,47,60,33,45,46]),(.int .u8 c)] J J J J ((T2 [123,125,40,41,59,44,61,35,47,60,33,45,46] c) _) (fun v _=>Cj Tryz.func58 hI) fun r _=>Ab 2 [] [(43,(.bool (decide (r≥0))))] ?_
       refine Aa<|Qv J (fun hc4=>?_) (fun hc4=>?_)
       ·refine Y<|O<|Z (.I 4) J Al<|Aa<|Bs (a:=4) (vs:=[(.I 4)]) Tryz.func58 hI J (.same _)
       refine Az<|Bn<|Y<|O<|Z (.I 0) J Al<|Aa<|Bs (a:=0) (vs:=[(.I 0)]) Tryz.func58 hI J (.same _)
      ·refine A4 (t:=39) hb13 J<|Ab 3 [] [(42,(.bool true))] ?_
       exact Bk hJ6 (.cons J (.cons (Fu hb13) .nil))
      refine A4 (t:=39) hb13 J<|Ab 3 [] [(42,(.bool (c==13)))] ?_
      exact Bk hJ6 (.cons J (.cons (Fw hb13) .nil))
     ·refine A4 (t:=35) hb11 J<|Ab 3 [] [(38,(.bool true))] ?_
      exact Bk hJ5 (.cons J (.cons (Fu hb11) .nil))
     refine A4 (t:=35) hb11 J<|Ab 3 [] [(38,(.bool (c==10)))] ?_
     exact Bk hJ5 (.cons J (.cons (Fw hb11) .nil))
    ·refine A4 (t:=31) hb9 J<|Ab 3 [] [(34,(.bool true))] ?_
     exact Bk hJ4 (.cons J (.cons (Fu hb9) .nil))
    refine A4 (t:=31) hb9 J<|Ab 3 [] [(34,(.bool (c==9)))] ?_
    exact Bk hJ4 (.cons J (.cons (Fw hb9) .nil))
   ·refine A4 (t:=21) hb7 J<|Ab 3 [] [(24,(.bool (decide (c≤57))))] ?_
    exact Bk hJ3 (.cons J (.cons (Lf hb7) .nil))
   refine A4 (t:=21) hb7 J<|Ab 3 [] [(24,(.bool false))] ?_
   exact Bk hJ3 (.cons J (.cons (Li hb7) .nil))
  ·refine A4 (t:=10) hb3 J<|Ab 7 [] [(17,(.bool true))] ?_
   exact Bk hJ1 (.cons J (.cons (Fu hb3) .nil))
  refine A4 (t:=10) hb3 J<|Ab 3 [] [(13,(.bool (decide (c≥65))))] ?_
  refine B8 3 [(0,(.int .u8 c)),(10,(.bool false)),(16,(.bool ((decide (c≥65))&&(decide (c≤90)))))] ?_ fun hJ2=>Bu (decide (c≥65)) (fun hb5=>?_) (fun hb5=>?_)
  ·refine Z (.bool ((decide (c≥65))&&(decide (c≤90)))) J (Ep (t:=false) J J)<|Bk hJ1 (.cons J (.cons (Fw hb3) .nil))
  ·refine A4 (t:=13) hb5 J<|Ab 3 [] [(16,(.bool (decide (c≤90))))] ?_
   exact Bk hJ2 (.cons J (.cons J (.cons (Lf hb5) .nil)))
  refine A4 (t:=13) hb5 J<|Ab 3 [] [(16,(.bool false))] ?_
  exact Bk hJ2 (.cons J (.cons J (.cons (Li hb5) .nil)))
 ·refine A4 (t:=6) hb1 J<|Ab 3 [] [(9,(.bool (decide (c≤122))))] ?_
  exact Bk hJ (.cons J (.cons (Lf hb1) .nil))
 refine A4 (t:=6) hb1 J<|Ab 3 [] [(9,(.bool false))] ?_
 exact Bk hJ (.cons J (.cons (Li hb1) .nil))
theorem Ub (s:T119):CP Tryz.prog 53 [(.cp (O9 s) 0)] (Pj s) (fun(_:Unit)=>AV.tup []):=by
 refine C3 (n:=7) 0 Tryz.func53 J (by decide) J J fun h0 ids hI=>Bm (Ak (Pj.eq_1 _) ?_)
 refine O<|Ab 5 [] [(6,(.iface 113 (.I s.fAt)))] ?_
 exact Sy (v:=⟨113,.I s.fAt⟩) J J (Cj Tryz.func53 hI)
theorem Aa7 (s:List Int)(v:Int):CP Tryz.prog 123 [(.sl 1 (List.map (rI .i64) s)),(.int .i64 v)] (P7 s v) (fun(x:Int)=>(AV.int .i64 x)):=by
 refine C3 (n:=19) 0 Tryz.func123 J (by decide) J J fun h0 ids hI=>Bm (Ak (P7.eq_1 _ _) ?_)
 refine Y<|O<|Z (.I 0) J Al<|Aa<|Y<|Y<|O ?_
 refine Z (.sl 1 (List.map (rI .i64) s)) J Ad<|Z (.I (s.length:Int)) J (A0 (Bd Ok))<|Z (.I 0) J Ad<|Aa<|A8<|Ee [(0,(.sl 1 (List.map (rI .i64) s))),(1,(.I v)),(7,(.I (s.length:Int))),(8,(.I 0))] (FI J)<|E2 (P:=Tryz.prog) s (fun j a=>fun _=>G3 v j a) ((Dz (fun _=>.ok (-1)) (fun r=>.ok r)):(Unit ⊕ Int)→R Int) (fun j=>fun _=>fun(fr:Nat→AV) (h:Ae)=>fr=A2 [(0,(.sl 1 (List.map (rI .i64) s))),(1,(.I v)),(7,(.I (s.length:Int))),(8,(.I (j:Int)))]∧h=hp h0 ids []) () ?_ ?_ ?_
 ·exact⟨J,J⟩
 ·rintro j a ha W hW _ fr h ⟨rfl,rfl⟩
  refine Ak (m':=G3 v j a) J (Ak (G3.eq_1 _ _ _) ?_)
  refine Y<|O<|Z (.bool (decide ((j:Int)<(s.length:Int)))) J (Ba J J J)<|Aa<|Y<|Eb (t:=0) (L:=s) J fun hlim=>C0 J (Int.ofNat_lt.2 (A5 ha)) ?_
  refine Az<|Y<|A8<|Y<|O<|Ab 2 [] [(5,(.I (j:Int)))] ?_
  refine Aa<|Y<|O<|Ab 3 [] [(13,(.I (j:Int))),(12,(.sl 1 (List.map (rI .i64) s))),(11,(.I v))] ?_
  refine Z (.cp [(.I a)] 0) J (Bt (Dm Ok Ds J ha))<|Ab 2 [] [(16,(.bool (v==a)))] ?_
  refine Aa<|Cd J (fun hc=>?_) (fun hc=>?_)
  ·refine Y<|O<|Ab 2 [] [(4,(.I (j:Int)))] ?_
   refine Aa<|Fp<|Gx<|Bs (a:=(j:Int)) (vs:=[(.I (j:Int))]) Tryz.func123 hI J (.same _)
  refine Az<|Bn<|O<|Ab 2 [] [(8,(.I (IntKind.wrap .i64 ((j:Int)+1))))] ?_
  refine Aa<|Bo (Fr (hW () _ _ ⟨J,J⟩)) (.cons J (.cons J (.cons J (.cons (D1 (A5 ha) hlim) .nil))))
 rintro _ fr h ⟨rfl,rfl⟩
 refine Ak (F0 _ _ _)<|Y<|O<|Z (.bool (decide ((s.length:Int)<(s.length:Int)))) J (Ba J J J)<|Aa<|Y<|C1 J (Int.lt_irrefl _) ?_
 refine C7 J<|Y<|O<|Z (.I (-1)) J Al<|Aa<|Bs (a:=(-1)) (vs:=[(.I (-1))]) Tryz.func123 hI J (.same _)
theorem Yo (s:List Int)(v:Int):CP Tryz.prog 115 [(.sl 1 (List.map (rI .i64) s)),(.int .i64 v)] (Ma s v) (fun(x:Bool)=>(AV.bool x)):=by
 refine C3 (n:=9) 0 Tryz.func115 J (by decide) J J fun h0 ids hI=>Bm (Ak (Ma.eq_1 _ _) ?_)
 refine Y<|O<|Z (.bool false) J Al<|Aa<|Y<|O<|Ab 2 [] [(6,(.I v)),(5,(.sl 1 (List.map (rI .i64) s)))] ?_
 refine Bz [(.sl 1 (List.map (rI .i64) s)),(.I v)] J J J J ((Aa7 s v) _) (fun v _=>Cj Tryz.func115 hI) fun r _=>Ab 2 [] [(4,(.bool (decide (r≥0))))] ?_
 refine Aa<|Bs (a:=(decide (r≥0))) (vs:=[(.bool (decide (r≥0)))]) Tryz.func115 hI J (.same _)
theorem Ry (s:T119)(some:List Int):CP Tryz.prog 104 [(.cp (O9 s) 0),(.sl 1 (List.map (rI .i64) some))] (J4 s some) (fun(x:Ar)=>(AV.str x)):=by
 refine C3 (n:=40) 0 Tryz.func104 J (by decide) J J fun h0 ids hI=>Bm (Ak (J4.eq_1 _ _) ?_)
 refine Y<|O<|Z (.str []) J Al<|Aa<|Y<|O<|Ab 5 [] [(5,(.I s.fAt))] ?_
 refine Aa<|Y<|Ed (fun n1=>M5 s n1) (fun n1=>fun(fr:Nat→AV) (h:Ae)=>fr=A2 [(0,(.cp (O9 s) 0)),(5,(.I n1))]∧h=hp h0 ids []) ?_ fun hJ1=>?_
 ·rintro n1 fr h ⟨rfl,rfl⟩
  refine Ak (M5.eq_1 _ _)<|Y<|Di Gg [[],[0],[0,1],[0,1,2],[],[4],[4,5],[4,5,6],[],[0,1,2,3,4,5,6,7,8],[0,1,2,3,4,5,6,7,8,9,9]] [(false,0),(false,1),(false,2),(false,3),(false,4),(false,5),(false,6),(false,7),(false,8),(false,9),(false,10)] (by kernel_rfl)<|Ag (.cp (O9 s) 0) J J Ad<|Ag (.cp (O9 s) 0) J J (Bg J)<|Ag (.cp (O9 s) 0) J J (B9 (Aah (c:=0) (off:=0) (i:=0) Pl J Cy J))<|Ag (.str s.fSrc) J J (Au (Cp Cy J)) ?_
  refine Ag (.cp (O9 s) 0) J J Ad<|Ag (.cp (O9 s) 0) J J (Bg J)<|Ag (.cp (O9 s) 1) J J (B9 (Aah (c:=0) (off:=1) (i:=1) Pl J Ds J))<|Ag (.I s.fAt) J J (Au (Cp Ds J))<|Ag (.I n1) J J Ad<|Kt fun hs=>Ag (.str (cut s.fSrc s.fAt n1)) J J (Gu (Amv Cy hs)) ?_
  refine Ag (.str (cut s.fSrc s.fAt n1)) J J Al<|Ct<|Bs (a:=(cut s.fSrc s.fAt n1)) (vs:=[(.str (cut s.fSrc s.fAt n1))]) Tryz.func104 hI J (.same _)
 refine A8<|Ee [(0,(.cp (O9 s) 0)),(1,(.sl 1 (List.map (rI .i64) some))),(5,(.I s.fAt))] (FI J)<|Uk (P:=Tryz.prog) (fun n=>Mt s some n) ((fun n1=>M5 s n1):Int→R Ar) (fun n=>fun(fr:Nat→AV) (h:Ae)=>fr=A2 [(0,(.cp (O9 s) 0)),(1,(.sl 1 (List.map (rI .i64) some))),(5,(.I n))]∧h=hp h0 ids []) s.fAt ?_ ?_
 ·exact⟨J,J⟩
 rintro vW hW n fr h ⟨rfl,rfl⟩
 refine Ak (m':=Mt s some n) J (Ak (Mt.eq_1 _ _ _) ?_)
 refine Y<|Y<|O<|Ab 5 [] [(14,(.str s.fSrc)),(10,(.I n))] ?_
 refine Z (.I (s.fSrc.length:Int)) J (A0 (Md Cy))<|Ab 2 [] [(17,(.bool (decide (n<(s.fSrc.length:Int)))))] ?_
 refine Dk 10 ((fun(b:Bool)=>if b then(.ok (.inl (IntKind.wrap .i64 (n+1)))) else(.ok (.inr (n)))):Bool→R (Int ⊕ Int)) (fun(b:Bool) (fr:Nat→AV) (h:Ae)=>fr=A2 [(0,(.cp (O9 s) 0)),(1,(.sl 1 (List.map (rI .i64) some))),(5,(.I n)),(27,(.bool b))]∧h=hp h0 ids []) ?_ fun hJ=>D7 (fun hb1=>?_) (fun hb1=>?_)
 ·rintro b fr h ⟨rfl,rfl⟩
  refine Aa<|Cd J (fun hc=>?_) (fun hc=>?_)
  ·refine Az<|A8<|O<|Ab 3 [] [(5,(.I (IntKind.wrap .i64 (n+1))))] ?_
   refine Aa<|Bn<|Bo (Po (hW (IntKind.wrap .i64 (n+1)) _ _ ⟨J,J⟩))
  refine C7 J<|Xd<|Bo (hJ1 n _ _ ⟨J,J⟩)
 ·refine A4 (t:=17) hb1 J<|Ab 6 [] [(23,(.I n)),(22,(.str s.fSrc)),(21,(.cp (O9 s) 0)),(20,(.cp (O9 s) 0)),(19,(.cp (O9 s) 0)),(18,(.sl 1 (List.map (rI .i64) some)))] ?_
  refine Ey fun a hz hx1=>B0 (tj:=17) (.int .u8 (a.toNat:Int)) J J J (Aee (Abh Cy hz hx1))<|Bz [(.int .u8 (a.toNat:Int))] J (Co (tj:=17) J J) J J ((Rl (a.toNat:Int)) _) (fun v _=>Cj Tryz.func104 hI) fun r _=>Bz [(.sl 1 (List.map (rI .i64) some)),(.I r)] J (Co (tj:=17) J J) J J ((Yo some r) _) (fun v _=>Cj Tryz.func104 hI) fun r1 _=>Z (.bool r1) J (Ep (t:=true) J J)<|Bj<|Ch [(0,(.cp (O9 s) 0)),(1,(.sl 1 (List.map (rI .i64) some))),(5,(.I n)),(27,(.bool r1))] (FI J) ?_
  exact hJ r1 _ _ ⟨J,J⟩
 refine A4 (t:=17) hb1 J<|Ab 10 [] [(27,(.bool false)),(26,.und),(25,.und),(24,.und),(23,.und),(22,.und),(21,.und),(20,.und),(19,.und),(18,.und)] ?_
 refine Bj<|Ch [(0,(.cp (O9 s) 0)),(1,(.sl 1 (List.map (rI .i64) some))),(5,(.I n)),(27,(.bool false))] (FI J)<|hJ false _ _ ⟨J,J⟩
theorem Ac1 (s:Ar):CP Tryz.prog 100 [(.str s)] (Uz s) (fun(x:Bool)=>(AV.bool x)):=by
 refine C3 (n:=38) 0 Tryz.func100 J (by decide) J J fun h0 ids hI=>Bm (Ak (Uz.eq_1 _) ?_)
 refine Y<|O<|Z (.bool false) J Al<|Aa<|Y<|Y<|O ?_
 refine Ab 3 [] [(7,(.bool (s==[])))] ?_
 refine B8 4 [(0,(.str s)),(11,(.bool ((s==[])||(decide ((s.length:Int) > 32)))))] ?_ fun hJ=>Bu (s==[]) (fun hb1=>?_) (fun hb1=>?_)
 ·refine Z (.bool ((s==[])||(decide ((s.length:Int) > 32)))) J Ad<|Dk 5 ((fun(b:Bool)=>if b then(.ok false) else(if s.length≤Eo then((each (fun _ a1=>fun _=>Qz a1) 0 s ()).bind (Dz (fun _=>.ok true) (fun r=>.ok r))) else .bad)):Bool→R Bool) (fun(b:Bool) (fr:Nat→AV) (h:Ae)=>fr=A2 [(0,(.str s)),(17,(.bool b))]∧h=hp h0 ids []) ?_ fun hJ1=>D7 (fun hb3=>?_) (fun hb3=>?_)
  ·rintro b fr h ⟨rfl,rfl⟩
   refine Aa<|Cd J (fun hc=>?_) (fun hc=>?_)
   ·refine Y<|O<|Z (.bool false) J Al<|Aa<|Bs (a:=false) (vs:=[(.bool false)]) Tryz.func100 hI J (.same _)
   refine Az<|Y<|Y<|O<|Z (.str s) J Ad<|Z (.I (s.length:Int)) J (A0 (Md Cy))<|Z (.I 0) J Ad ?_
   refine Aa<|A8<|Aq9 fun hlim=>Ee [(0,(.str s)),(19,(.I (s.length:Int))),(20,(.I 0))] (FI J)<|E2 (P:=Tryz.prog) s (fun _ a1=>fun _=>Qz a1) ((Dz (fun _=>.ok true) (fun r=>.ok r)):(Unit ⊕ Bool)→R Bool) (fun j=>fun _=>fun(fr:Nat→AV) (h:Ae)=>fr=A2 [(0,(.str s)),(19,(.I (s.length:Int))),(20,(.I (j:Int)))]∧h=hp h0 ids []) () ?_ ?_ ?_
   ·exact⟨J,J⟩
   ·rintro j a1 ha1 W hW _ fr h ⟨rfl,rfl⟩
    refine Ak (m':=Qz a1) J (Ak (Qz.eq_1 _) ?_)
    refine Y<|O<|Z (.bool (decide ((j:Int)<(s.length:Int)))) J (Ba J J J)<|Aa<|Y<|C0 J (Int.ofNat_lt.2 (A5 ha1))<|Az ?_
    refine Y<|A8<|Y<|O<|Ab 2 [] [(3,(.I (j:Int)))] ?_
    refine Aa<|Y<|O<|Ab 2 [] [(24,(.I (j:Int))),(23,(.str s))] ?_
    refine Z (.int .u8 (a1.toNat:Int)) J (Aee (Asg Cy ha1))<|Bz [(.int .u8 (a1.toNat:Int))] J J J J ((Rl (a1.toNat:Int)) _) (fun v _=>Cj Tryz.func100 hI) fun c _=>Z (.I c) J Al<|Aa<|Y<|O<|Ab 3 [] [(29,(.bool (c != 2)))] ?_
    refine B8 3 [(0,(.str s)),(4,(.I c)),(19,(.I (s.length:Int))),(20,(.I (j:Int))),(32,(.bool ((c != 2)&&(c != 3))))] ?_ fun hJ2=>Bu (c != 2) (fun hb5=>?_) (fun hb5=>?_)
    ·refine Z (.bool ((c != 2)&&(c != 3))) J Ad<|B8 3 [(0,(.str s)),(19,(.I (s.length:Int))),(20,(.I (j:Int))),(36,(.bool (((c != 2)&&(c != 3))&&(c != 5))))] ?_ fun hJ3=>Bu ((c != 2)&&(c != 3)) (fun hb7=>?_) (fun hb7=>?_)
     ·refine Aa<|Cd J (fun hc1=>?_) (fun hc1=>?_)
      ·refine Y<|O<|Z (.bool false) J Al<|Aa<|Fp<|Gx<|Bs (a:=false) (vs:=[(.bool false)]) Tryz.func100 hI J (.same _)
      refine Az<|Bn<|O<|Ab 2 [] [(20,(.I (IntKind.wrap .i64 ((j:Int)+1))))] ?_
      refine Aa<|Bo (Fr (hW () _ _ ⟨J,J⟩)) (.cons J (.cons J (.cons (D1 (A5 ha1) hlim) .nil)))
     ·refine A4 (t:=33) hb7 J<|Ab 3 [] [(36,(.bool (c != 5))),(35,(.bool (c != 5))),(34,(.I c))] ?_
      exact Bk hJ3 (.cons J (.cons J (.cons J (.cons (Lf hb7) .nil))))
     refine A4 (t:=33) hb7 J<|Ab 3 [] [(36,(.bool false)),(35,.und),(34,.und)] ?_
     exact Bk hJ3 (.cons J (.cons J (.cons J (.cons (Li hb7) .nil))))
    ·refine A4 (t:=29) hb5 J<|Ab 3 [] [(32,(.bool (c != 3))),(31,(.bool (c != 3))),(30,(.I c))] ?_
     exact Bk hJ2 (.cons J (.cons J (.cons J (.cons J (.cons (Lf hb5) .nil)))))
    refine A4 (t:=29) hb5 J<|Ab 3 [] [(32,(.bool false)),(31,.und),(30,.und)] ?_
    exact Bk hJ2 (.cons J (.cons J (.cons J (.cons J (.cons (Li hb5) .nil)))))
   rintro _ fr h ⟨rfl,rfl⟩
   refine Ak (F0 _ _ _)<|Y<|O<|Z (.bool (decide ((s.length:Int)<(s.length:Int)))) J (Ba J J J)<|Aa<|Y<|C1 J (Int.lt_irrefl _) ?_
   refine C7 J<|Y<|O<|Z (.bool true) J Al<|Aa<|Bs (a:=true) (vs:=[(.bool true)]) Tryz.func100 hI J (.same _)
  ·refine A4 (t:=12) hb3 J<|Ab 5 [] [(17,(.bool true))] ?_
   refine Bj<|Ch [(0,(.str s)),(17,(.bool true))] (FI J)<|hJ1 true _ _ ⟨J,J⟩
  refine A4 (t:=12) hb3 J<|B0 (tj:=12) (.str s) J J J Ad<|Ey fun a hz hx1=>B0 (tj:=12) (.int .u8 (a.toNat:Int)) J J J (Aee (Abh Cy hz hx1))<|Bz [(.int .u8 (a.toNat:Int))] J (Co (tj:=12) J J) J J ((Rl (a.toNat:Int)) _) (fun v _=>Cj Tryz.func100 hI) fun r _=>Ab 2 [] [(17,(.bool (r != 2)))] ?_
  refine Bj<|Ch [(0,(.str s)),(17,(.bool (r != 2)))] (FI J)<|hJ1 (r != 2) _ _ ⟨J,J⟩
 ·refine A4 (t:=7) hb1 J<|Ab 4 [] [(11,(.bool true))] ?_
  exact Bk hJ (.cons J (.cons (Fu hb1) .nil))
 refine A4 (t:=7) hb1 J<|B0 (tj:=7) (.str s) J J J Ad<|B0 (tj:=7) (.I (s.length:Int)) J J J (A0 (Md Cy))<|Ab 2 [] [(11,(.bool (decide ((s.length:Int) > 32))))] ?_
 exact Bk hJ (.cons J (.cons (Fw hb1) .nil))
theorem Aca (t:Token):CP Tryz.prog 59 [(.agg (Ac t))] (Tb t) (fun(x:Bool)=>(AV.bool x)):=by
 refine C3 (n:=48) 1 Tryz.func59 J (by decide) J J fun h0 ids hI=>Bm (Ak (Tb.eq_1 _) ?_)
 refine Y<|O<|Cv (v:=(.agg (Ac t))) (j:=0) hI J J J J J J J fun g=>Z (.bool false) J Al<|Aa<|Aj ?_
 refine Y<|Y<|O<|Ab 2 [0] [(4,(.I t.Kind))] ?_
 refine Aa<|A8<|Y<|O<|Ab 2 [] [(5,(.bool (t.Kind==1)))] ?_
 refine Aa<|Cd J (fun hc=>?_) (fun hc=>?_)
 ·refine Y<|O<|Ab 2 [0] [(8,(.str t.Text))] ?_
  refine Bz [(.str t.Text)] J J J J ((Ac1 t.Text) _) (fun v _=>Cj Tryz.func59 hI) fun r _=>Z (.bool r) J Ad<|B8 4 [(14,(.bool (r&&(t.N==0))))] ?_ fun hJ=>Bu r (fun hb1=>?_) (fun hb1=>?_)
  ·refine Z (.bool (r&&(t.N==0))) J Al<|Aa<|Bs (a:=(r&&(t.N==0))) (vs:=[(.bool (r&&(t.N==0)))]) Tryz.func59 hI J (.same _)
  ·refine A4 (t:=10) hb1 J<|Ab 4 [0] [(14,(.bool (t.N==0)))] ?_
   exact Bk hJ (.cons (Lf hb1) .nil)
  refine A4 (t:=10) hb1 J<|Ab 4 [] [(14,(.bool false))] ?_
  exact Bk hJ (.cons (Li hb1) .nil)
 refine Y<|O<|Ab 2 [] [(15,(.bool (t.Kind==2)))] ?_
 refine Aa<|Cd J (fun hc1=>?_) (fun hc1=>?_)
 ·refine Y<|O<|Ab 4 [0] [(20,(.bool (t.Text==[])))] ?_
  refine B8 4 [(1,(.q ids 0 g)),(24,(.bool ((t.Text==[])&&(decide (t.N≥0)))))] ?_ fun hJ1=>Bu (t.Text==[]) (fun hb3=>?_) (fun hb3=>?_)
  ·refine Z (.bool ((t.Text==[])&&(decide (t.N≥0)))) J Ad<|B8 4 [(29,(.bool (((t.Text==[])&&(decide (t.N≥0)))&&(decide (t.N≤1099511627776)))))] ?_ fun hJ2=>Bu ((t.Text==[])&&(decide (t.N≥0))) (fun hb5=>?_) (fun hb5=>?_)
   ·refine Z (.bool (((t.Text==[])&&(decide (t.N≥0)))&&(decide (t.N≤1099511627776)))) J Al<|Aa<|Bs (a:=(((t.Text==[])&&(decide (t.N≥0)))&&(decide (t.N≤1099511627776)))) (vs:=[(.bool (((t.Text==[])&&(decide (t.N≥0)))&&(decide (t.N≤1099511627776))))]) Tryz.func59 hI J (.same _)
   ·refine A4 (t:=25) hb5 J<|Ab 4 [0] [(29,(.bool (decide (t.N≤1099511627776))))] ?_
    exact Bk hJ2 (.cons (Lf hb5) .nil)
   refine A4 (t:=25) hb5 J<|Ab 4 [] [(29,(.bool false))] ?_
   exact Bk hJ2 (.cons (Li hb5) .nil)
  ·refine A4 (t:=20) hb3 J<|Ab 4 [0] [(24,(.bool (decide (t.N≥0))))] ?_
   exact Bk hJ1 (.cons J (.cons (Lf hb3) .nil))
  refine A4 (t:=20) hb3 J<|Ab 4 [] [(24,(.bool false))] ?_
  exact Bk hJ1 (.cons J (.cons (Li hb3) .nil))
 refine Y<|O<|Ab 2 [] [(30,(.bool (t.Kind==3)))] ?_
 refine Aa<|Cd J (fun hc2=>?_) (fun hc2=>?_)
 ·refine Y<|O<|Ab 2 [0] [(33,(.str t.Text))] ?_
  refine Z (.I (t.Text.length:Int)) J (A0 (Md Cy))<|Ab 2 [] [(36,(.bool ((t.Text.length:Int)==1)))] ?_
  refine Dk 6 ((fun(b:Bool)=>.ok (b&&(t.N==0))):Bool→R Bool) (fun(b:Bool) (fr:Nat→AV) (h:Ae)=>fr=A2 [(1,(.q ids 0 g)),(42,(.bool b))]∧h=hp h0 ids [(some (.rows g 4 [(Ac t)]))]) ?_ fun hJ3=>D7 (fun hb7=>?_) (fun hb7=>?_)
  ·rintro b fr h ⟨rfl,rfl⟩
   refine Z (.bool b) J Ad<|B8 4 [(47,(.bool (b&&(t.N==0))))] ?_ fun hJ4=>Bu b (fun hb9=>?_) (fun hb9=>?_)
   ·refine Z (.bool (b&&(t.N==0))) J Al<|Aa<|Bs (a:=(b&&(t.N==0))) (vs:=[(.bool (b&&(t.N==0)))]) Tryz.func59 hI J (.same _)
   ·refine A4 (t:=43) hb9 J<|Ab 4 [0] [(47,(.bool (t.N==0)))] ?_
    exact Bk hJ4 (.cons (Lf hb9) .nil)
   refine A4 (t:=43) hb9 J<|Ab 4 [] [(47,(.bool false))] ?_
   exact Bk hJ4 (.cons (Li hb9) .nil)
  ·refine A4 (t:=36) hb7 J<|Ab 2 [0] [(38,(.str t.Text))] ?_
   refine Ey fun a hz hx1=>B0 (tj:=36) (.int .u8 (a.toNat:Int)) J J J (Aee (Abh Cy hz hx1))<|Bz [(.int .u8 (a.toNat:Int))] J (Co (tj:=36) J J) J J ((Rl (a.toNat:Int)) _) (fun v _=>Cj Tryz.func59 hI) fun r1 _=>Ab 2 [] [(42,(.bool (r1==4)))] ?_
   refine Bj<|Ch [(1,(.q ids 0 g)),(42,(.bool (r1==4)))] (FI J)<|hJ3 (r1==4) _ _ ⟨J,J⟩
  refine A4 (t:=36) hb7 J<|Ab 6 [] [(42,(.bool false))] ?_
  refine Bj<|Ch [(1,(.q ids 0 g)),(42,(.bool false))] (FI J)<|hJ3 false _ _ ⟨J,J⟩
 refine Az<|Bn<|Y<|O<|Z (.bool false) J Al<|Aa<|Bs (a:=false) (vs:=[(.bool false)]) Tryz.func59 hI J (.same _)
theorem Aem (s:Ar)(h0:Ae)(hI0:Ids h0 [] 0):Pp s≠.bad→Bh Tryz.prog 106 [.str s] (hp h0 [] []) (Cs (fun a_ v h' => ∃ (v1:AV),Alo v1 a_.2∧v=(.tup [.int .i64 a_.1,v1])∧h'=hp h0 [] []) h0 (Pp s)):=by
 refine Auk (.mk Tryz.func106 J (by decide)) (fun p h=>by unfold Pp at h; split at h <;> (try split at h) <;> cases h) fun a ha B mu w cargs hs hl=>?_
 obtain⟨c1,rfl,h1⟩:=Akd hl
 obtain rfl:=Aes h1
 have rv_tup : ∀ {w:World} {n:Int} {v:AV} {c:Value},RV h0 mu w v c→RV h0 mu w (.tup [.int .i64 n,v]) (.tuple #[.int .i64 n,c]):=fun hv=>by
  refine .tup _ [_,_] J fun i hi=>?_
  match i,hi with
  | 0,_=>exact .int _ _
  | 1,_=>exact hv
 have err : ∀ {w w':World} {N:Nat} {x y z:Value} {t:TypeId},w.heap.size≤N→w'.heap[N]? = some (.cells #[x,y,z] t (0,0))→Sim B mu h0 w→RV h0 mu w' (.iface 189 (.cp [.any,.any,.any] 0)) (.iface 189 (.pointer (some ⟨N,0,none⟩))):=by
  intro w w' N x y z t hN hc hs
  refine .iface _ _ _ (.cp _ 0 N 0 (fun j=>[x,y,z].getD j undef) (fun j hj=>?_) (fun j hj=>?_) (fun hm=>?_) ?_)
  ·unfold World.cell?; rw [hc]
   match j,hj with
   | 0,_=>rfl
   | 1,_=>rfl
   | 2,_=>rfl
  ·match j,hj with
   | 0,_=>exact .any _
   | 1,_=>exact .any _
   | 2,_=>exact .any _
  ·have:=Er.lt hs hm; omega
  ·rcases Nat.lt_or_ge N _ with hh | hh
   ·exact hh
   ·rw [Array.getElem?_eq_none hh] at hc; cases hc
 unfold Pp at ha
 split at ha
 ·rename_i hn
  split at ha
  ·rename_i v hv
   cases ha
   refine(Go.Proofs.Tryz.strconv_Atoi_ok ⟨s.toArray⟩ (by show s.toArray.size≤_; simp; omega) v hv w).mono ?_
   rintro e w' ⟨rfl,hw⟩
   refine⟨?_,_,_,J,⟨.nili,J,J,J⟩,rv_tup .nili⟩
   rcases hw with rfl | ⟨t,rfl⟩
   ·exact Go.RowKit.Below.refl _ _
   ·exact Lib.bytesWorld_below _ _ _
  ·rename_i hv
   cases ha
   obtain⟨tp,p,hp⟩:=Ah1 hs.glob.2
   refine(Go.Proofs.Tryz.strconv_Atoi_syntax_var ⟨s.toArray⟩ (by show s.toArray.size≤_; simpa using hn) hv tp p w hp).mono ?_
   rintro e w' ⟨N,rfl,h1,h2,h3⟩
   exact⟨h3,_,_,J,⟨.iface 189 (.cp [.any,.any,.any] 0),⟨_,_,J⟩,J,J⟩,rv_tup (err h1 h2 hs)⟩
  ·rename_i hv
   cases ha
   obtain⟨tp,p,hp⟩:=Ajc hs.glob.2
   refine(Go.Proofs.Tryz.strconv_Atoi_range_var ⟨s.toArray⟩ (by show s.toArray.size≤_; simpa using hn) hv tp p w hp).mono ?_
   rintro e w' ⟨N,rfl,h1,h2,h3⟩
   exact⟨h3,_,_,J,⟨.iface 189 (.cp [.any,.any,.any] 0),⟨_,_,J⟩,J,J⟩,rv_tup (err h1 h2 hs)⟩
 ·cases ha
theorem Yf (n:Int):CP Tryz.prog 60 [.int .i64 n] (strconv_Itoa n) (fun x=>AV.str x):=
 Aio (.mk Tryz.func60 rfl (by decide)) (fun p h=>by unfold strconv_Itoa at h; split at h <;> cases h) fun a ha B mu h w cargs hs hl=>by
  obtain⟨c1,rfl,h1⟩:=Akd hl
  obtain rfl:=Ana h1
  unfold strconv_Itoa at ha
  split at ha
  ·rename_i hn
   cases ha
   refine(Go.Proofs.Tryz.strconv_Itoa n hn.1 hn.2 w (Aou hs.glob.2)).mono ?_
   rintro e w' ⟨rfl,k,os,rfl⟩
   refine⟨⟨J,J,J,?_,fun i hi=>?_⟩,_,J,.str _⟩
   ·show w.heap.size≤(w.heap++os).size
    simp
   ·show(w.heap++os)[i]? = _
    exact Array.getElem?_append_left hi
  ·cases ha
theorem Sq (s:Ar)(vprefix:Ar):CP Tryz.prog 118 [(.str s),(.str vprefix)] (It s vprefix) (fun(x:Bool)=>(AV.bool x)):=by
 refine C3 (n:=18) 0 Tryz.func118 J (by decide) J J fun h0 ids hI=>Bm (Ak (It.eq_1 _ _) ?_)
 refine Y<|O<|Z (.bool false) J Al<|Aa<|Y<|O<|Z (.str s) J Ad ?_
 refine Z (.I (s.length:Int)) J (A0 (Md Cy))<|Z (.str vprefix) J Ad<|Z (.I (vprefix.length:Int)) J (A0 (Md Cy))<|Ab 2 [] [(10,(.bool (decide ((s.length:Int)≥(vprefix.length:Int)))))] ?_
 refine Dk 7 ((fun(b:Bool)=>.ok b):Bool→R Bool) (fun(b:Bool) (fr:Nat→AV) (h:Ae)=>fr=A2 [(17,(.bool b))]∧h=hp h0 ids []) ?_ fun hJ=>D7 (fun hb1=>?_) (fun hb1=>?_)
 ·rintro b fr h ⟨rfl,rfl⟩
  refine Z (.bool b) J Al<|Aa<|Bs (a:=b) (vs:=[(.bool b)]) Tryz.func118 hI J (.same _)
 ·refine A4 (t:=10) hb1 J<|Ab 2 [] [(12,(.str vprefix)),(11,(.str s))] ?_
  refine B0 (tj:=10) (.I (vprefix.length:Int)) J J J (A0 (Md Cy))<|Gb fun hs=>B0 (tj:=10) (.str (s.take (Int.toNat (vprefix.length:Int)))) J J J (Gu (Asb Cy hs))<|Ab 3 [] [(17,(.bool ((s.take (Int.toNat (vprefix.length:Int)))==vprefix)))] ?_
  refine Bj<|Ch [(17,(.bool ((s.take (Int.toNat (vprefix.length:Int)))==vprefix)))] (FI J)<|hJ ((s.take (Int.toNat (vprefix.length:Int)))==vprefix) _ _ ⟨J,J⟩
 refine A4 (t:=10) hb1 J<|Ab 7 [] [(17,(.bool false))] ?_
 refine Bj<|Ch [(17,(.bool false))] (FI J)<|hJ false _ _ ⟨J,J⟩
theorem Z4 (s:Ar)(vprefix:Ar):CP Tryz.prog 107 [(.str s),(.str vprefix)] (Nx s vprefix) (fun(x:Bool)=>(AV.bool x)):=by
 refine C3 (n:=8) 0 Tryz.func107 J (by decide) J J fun h0 ids hI=>Bm (Ak (Nx.eq_1 _ _) ?_)
 refine Y<|O<|Z (.bool false) J Al<|Aa<|Y<|O<|Ab 2 [] [(6,(.str vprefix)),(5,(.str s))] ?_
 refine Bz [(.str s),(.str vprefix)] J J J J ((Sq s vprefix) _) (fun v _=>Cj Tryz.func107 hI) fun r _=>Z (.bool r) J Al<|Aa<|Bs (a:=r) (vs:=[(.bool r)]) Tryz.func107 hI J (.same _)
theorem Y6 (s0_src:Ar)(s0_at:Int)(l:List Token)(h0:Ae)(o0:Nat)(o1:Nat)(g:Nat)(v1:AV)(g1:Nat)(vH:Ay v1 o1 g1 l.length)(hI0:Ids h0 [o0,o1] 2):L7 s0_src s0_at l≠.bad→Bh Tryz.prog 54 [(.ptr o0 g 0 0)] (hp h0 [o0,o1] [some (.rows g 3 [[(.str s0_src),(.int .i64 s0_at),v1]]),Ah v1 g1 4 (List.map Ac l)]) (Cs (fun a_ v h'=>v=(.tup [])∧h'=hp h0 [o0,o1] [some (.rows g 3 [[(.str s0_src),(.int .i64 a_),v1]]),Ah v1 g1 4 (List.map Ac l)]) h0 (L7 s0_src s0_at l)):=by
 refine Bb (n:=13) 0 Tryz.func54 J (by decide) J J hI0 J fun ids he hI=>?_
 clear hI0
 obtain rfl:ix ids 0=o0:=he 0 rfl
 obtain rfl:ix ids 1=o1:=he 1 rfl
 clear he
 refine Bm (Ak (L7.eq_1 _ _ _) ?_)
 refine Di Gg [[],[0],[0,1],[0,1,2],[],[],[4,5],[4,5,6],[0,1,2,3,4,5,6,7],[0,0,1,2,3,4,5,6,7,8],[0,1,2,3,4,5,6,7,8,9],[0,1,2,3,4,5,6,7,8,9,10]] [(false,0),(false,1),(false,2),(false,3),(false,4),(true,5),(true,6),(false,7),(false,8),(false,9),(false,10),(true,11)] (by kernel_rfl)<|Ag (.q ids 0 g) J J Ad<|Ag (.q ids 0 g) J J (Bg J)<|Ag (.ptr (ix ids 0) g 0 1) J J (B9 (By (c:=0) (off:=1) (i:=1) Pl J Ds J))<|Ag (.I s0_at) J J (Au (Be hI J J J Ds J))<|Ag (.q ids 0 g) J J Ad<|Jh J J (fun _ _=>J) (fun K hK=>Mc (e:=(rI .i64)) (L:=[1]) (st:=1) (rows:=[[(.I 1)]]) Ok Ds J J J J J (.cons (RowSim.refl _) .nil) (fun x=>Alr x) J J (hK _ _ (Br J Ad (Br J (Au (Be hI J J J Ds J)) (Br J (B9 (By (c:=0) (off:=1) (i:=1) Pl J Ds J)) (Br J (Bg J) (Br J Ad Bw))))) ?_))
 clear hK K
 refine W7 [(.q ids 0 g),(.sl 1 (List.map (rI .i64) [1]))] J J J J J (CP.lend (Ry ({ fSrc:=s0_src,fAt:=s0_at,fL:=l }:T119) [1]) (LF.lfz (.cons (.ptrL (hI.at J J) J J (.cons (.same _) (.cons (.same _) (.cons (Fo vH (hI.at J J) J (fun x=>Qe x)) .nil)))) (.cons (.same _) .nil))) (fun _ _=>(.str _))) (fun v _ _ _=>Ao (K:=2) (N:=0) Tryz.func54 hI) (Af J (Br J (Au (Be hI J J J Ds J)) (Br J (B9 (By (c:=0) (off:=1) (i:=1) Pl J Ds J)) (Br J (Bg J) (Br J Ad Bw))))) fun r _=>Ag (.I (r.length:Int)) J J (A0 (Md Cy))<|Ag (.I (IntKind.wrap .i64 (s0_at+(r.length:Int)))) J J (Ba J J J)<|Ag (.q ids 0 g) J J (Bg J)<|Ag (.ptr (ix ids 0) g 0 1) J J (B9 (By (c:=0) (off:=1) (i:=1) Pl J Ds J))<|Gr J (fun _ _=>J) (fun K hK=>D4 (Ax (v:=(.I (IntKind.wrap .i64 (s0_at+(r.length:Int))))) hI J J J J Ds J J J J J) (hK _ _ (Af J (Af J (Af J (Af J (Af J (Af J (Af J (Af J (Af J Bw))))))))) ?_))
 clear hK K
 refine Ct<|Aj ?_
 exact Ce (K:=2) (N:=0) (a:=(IntKind.wrap .i64 (s0_at+(r.length:Int)))) (vs:=[]) [some (.rows g 3 [[(.str s0_src),(.I (IntKind.wrap .i64 (s0_at+(r.length:Int)))),v1]]),Ah v1 g1 4 (List.map Ac l)] Tryz.func54 hI J J J (.keep (.keep .nil)) (.same _) ⟨J,J⟩
theorem P5 (text:Ar)(t:Token)(s0_src:Ar)(s0_at:Int)(l:List Token)(h0:Ae)(o0:Nat)(o1:Nat)(g:Nat)(v1:AV)(g1:Nat)(vH:Ay v1 o1 g1 l.length)(hI0:Ids h0 [o0,o1] 2):G7 text t s0_src s0_at l≠.bad→Bh Tryz.prog 105 [(.ptr o0 g 0 0),(.str text),(.agg (Ac t))] (hp h0 [o0,o1] [some (.rows g 3 [[(.str s0_src),(.int .i64 s0_at),v1]]),Ah v1 g1 4 (List.map Ac l)]) (Cs (fun a_ v h' => ∃ (v3:AV),∃ (g4:Nat),Ay v3 o1 g4 a_.length∧v=(.tup [])∧h'=hp h0 [o0,o1] [some (.rows g 3 [[(.str s0_src),(.int .i64 (IntKind.wrap .i64 (s0_at+(text.length:Int)))),v3]]),Ah v3 g4 4 (List.map Ac a_)]) h0 (G7 text t s0_src s0_at l)):=by
 refine Bb (n:=38) 1 Tryz.func105 J (by decide) J J hI0 J fun ids he hI=>?_
 clear hI0
 obtain rfl:ix ids 0=o0:=he 0 rfl
 obtain rfl:ix ids 1=o1:=he 1 rfl
 clear he
 refine Bm (Ak (G7.eq_1 _ _ _ _ _) ?_)
 refine Aj ?_
 refine Y<|O<|Cv (v:=(.agg (Ac t))) (j:=2) hI J J J J J J J fun g2=>Aa<|Aj ?_
 refine Y<|Y<|O<|Ab 1 [2] [(6,(.agg (Ac t)))] ?_
 refine Bz [(.agg (Ac t))] J J J J ((Aca t) _) (fun v _=>Ao (K:=2) (N:=1) Tryz.func105 hI) fun r _=>Z (.bool (!r)) J (Q7 J)<|Aa<|Ei J (fun hc=>?_) (fun hc=>?_)
 ·refine Az<|Y<|O<|Ab 5 [0] [(18,(.ptr (ix ids 2) g2 0 3)),(17,(.I s0_at))] ?_
  refine Aq (Ax (v:=(.I s0_at)) hI J J J J Ds J J J J J)<|Aa<|Aj ?_
  refine Y<|Di Gg [[],[],[1],[1,2],[1,2,3],[],[5],[1,2,3,4,5,6],[0,0,1,2,3,4,5,6,7],[0,1,2,3,4,5,6,7,8],[0,1,2,3,4,5,6,7,8,9]] [(false,0),(false,1),(false,2),(false,3),(false,4),(false,5),(true,6),(true,7),(false,8),(false,9),(true,10)] (by kernel_rfl)<|Ag (.q ids 0 g) J J Ad<|Ag (.q ids 0 g) J J Ad<|Ag (.q ids 0 g) J J (Bg J)<|Ag (.ptr (ix ids 0) g 0 2) J J (B9 (By (c:=0) (off:=2) (i:=2) Pl J Cx J))<|Ag v1 J J (Au (Be hI J J J Cx J)) ?_
  refine Ag (.agg [(.I t.Kind),(.str t.Text),(.I t.N),(.I s0_at)]) J J (Au (Be hI J J J Dc J))<|Jh J J (fun _ _=>J) (fun K hK=>Mc (e:=Ac) (L:=[({ Kind:=t.Kind,Text:=t.Text,N:=t.N,At:=s0_at }:Token)]) (st:=4) (rows:=[[(.I t.Kind),(.str t.Text),(.I t.N),(.I s0_at)]]) Cx Dc J J J J J (.cons (.cons (.same _) (.cons (.same _) (.cons (.same _) (.cons (.same _) .nil)))) .nil) (fun x=>Qe x) J J (hK _ _ (Af J (Br J (Au (Be hI J J J Cx J)) (Br J (B9 (By (c:=0) (off:=2) (i:=2) Pl J Cx J)) (Br J (Bg J) (Br J Ad (Br J Ad Bw)))))) ?_))
  clear hK K
  refine Kt fun hl=>Jh J J (fun _ _=>J) (fun K hK=>Iq (e:=Ac) (L:=l) (L2:=[({ Kind:=t.Kind,Text:=t.Text,N:=t.N,At:=s0_at }:Token)]) (v:=v1) (g:=g1) (st:=4) (j:=1) hI J J J vH J (Ke J) Cx Cx J Dc J J J hl fun v2 g3 vH1=>hK _ _ (Af J (Af J (Af J (Af J (Af J (Br J Ad Bw)))))) ?_)
  clear hK K
  refine Ag (.q ids 0 g) J J (Bg J)<|Ag (.ptr (ix ids 0) g 0 2) J J (B9 (By (c:=0) (off:=2) (i:=2) Pl J Cx J))<|Gr J (fun _ _=>J) (fun K hK=>D4 (Jj vH1 hI J J J J Cx J J J) (hK _ _ (Af J (Af J (Af J (Af J (Af J (Af J (Af J (Af J Bw)))))))) ?_))
  clear hK K
  refine Ct<|Aj ?_
  refine O<|Ab 5 [0] [(33,(.str text)),(32,(.I s0_at)),(29,(.q ids 0 g))] ?_
  refine Z (.I (text.length:Int)) J (A0 (Md Cy))<|Ab 3 [] [(37,(.ptr (ix ids 0) g 0 1)),(35,(.I (IntKind.wrap .i64 (s0_at+(text.length:Int)))))] ?_
  refine Aq (Ax (v:=(.I (IntKind.wrap .i64 (s0_at+(text.length:Int))))) hI J J J J Ds J J J J J)<|Aa<|Aj ?_
  exact Ce (K:=2) (N:=1) (a:=(l++[({ Kind:=t.Kind,Text:=t.Text,N:=t.N,At:=s0_at }:Token)])) (vs:=[]) [some (.rows g 3 [[(.str s0_src),(.I (IntKind.wrap .i64 (s0_at+(text.length:Int)))),v2]]),Ah v2 g3 4 (List.map Ac (l++[({ Kind:=t.Kind,Text:=t.Text,N:=t.N,At:=s0_at }:Token)]))] Tryz.func105 hI J J J (.keep (.keep (.drop .nil))) (.same _) ⟨v2,g3,vH1,J,J⟩
 refine O<|Ab 5 [0] [(13,(.iface 113 (.I s0_at)))] ?_
 exact Sy (v:=⟨113,.I s0_at⟩) J J (Ao (K:=2) (N:=1) Tryz.func105 hI)
theorem Zx (s0_src:Ar)(s0_at:Int)(l:List Token)(h0:Ae)(o0:Nat)(o1:Nat)(g:Nat)(v1:AV)(g1:Nat)(vH:Ay v1 o1 g1 l.length)(hI0:Ids h0 [o0,o1] 2):M7 s0_src s0_at l≠.bad→Bh Tryz.prog 55 [(.ptr o0 g 0 0)] (hp h0 [o0,o1] [some (.rows g 3 [[(.str s0_src),(.int .i64 s0_at),v1]]),Ah v1 g1 4 (List.map Ac l)]) (Cs (fun a_ v h' => ∃ (v3:AV),∃ (g3:Nat),Ay v3 o1 g3 a_.2.length∧v=(.tup [])∧h'=hp h0 [o0,o1] [some (.rows g 3 [[(.str s0_src),(.int .i64 a_.1),v3]]),Ah v3 g3 4 (List.map Ac a_.2)]) h0 (M7 s0_src s0_at l)):=by
 refine Bb (n:=11) 0 Tryz.func55 J (by decide) J J hI0 J fun ids he hI=>?_
 clear hI0
 obtain rfl:ix ids 0=o0:=he 0 rfl
 obtain rfl:ix ids 1=o1:=he 1 rfl
 clear he
 refine Bm (Ak (M7.eq_1 _ _ _) ?_)
 refine Y<|O<|Z (.q ids 0 g) J Ad<|Dh (e:=(rI .i64)) (L:=[2,3,5]) (st:=1) (rows:=[[(.I 2)],[(.I 3)],[(.I 5)]]) J Ok Ds J J J J J (.cons (RowSim.refl _) (.cons (RowSim.refl _) (.cons (RowSim.refl _) .nil))) (fun x=>Alr x) J J<|Bz [(.q ids 0 g),(.sl 1 (List.map (rI .i64) [2,3,5]))] J J J J (CP.lend (Ry ({ fSrc:=s0_src,fAt:=s0_at,fL:=l }:T119) [2,3,5]) (LF.lfz (.cons (.ptrL (hI.at J J) J J (.cons (.same _) (.cons (.same _) (.cons (Fo vH (hI.at J J) J (fun x=>Qe x)) .nil)))) (.cons (.same _) .nil))) (fun _ _=>(.str _))) (fun v _=>Ao (K:=2) (N:=0) Tryz.func55 hI) fun t _=>Z (.str t) J Al<|Aa ?_
 refine O<|Ab 4 [] [(9,(.agg [(.I 1),(.str t),(.I 0),(.I 0)])),(7,(.str t)),(6,(.q ids 0 g))] ?_
 refine An [0,1] hI J J (P5 t ({ Kind:=1,Text:=t,N:=0,At:=0 }:Token) s0_src s0_at l _ (ix ids 0) (ix ids 1) g v1 g1 vH (by exact hI.sub' J J)) J J J J J J (fun v _=>Ao (K:=2) (N:=0) Tryz.func55 hI) ?_
 rintro r _ _ _ ⟨v2,g2,vH1,rfl,rfl⟩
 refine Aw [0,1] hI J J J ?_
 refine Ap<|Aa<|Aj ?_
 exact Ce (K:=2) (N:=0) (a:=((IntKind.wrap .i64 (s0_at+(t.length:Int))),r)) (vs:=[]) [some (.rows g 3 [[(.str s0_src),(.I (IntKind.wrap .i64 (s0_at+(t.length:Int)))),v2]]),Ah v2 g2 4 (List.map Ac r)] Tryz.func55 hI J J J (.keep (.keep .nil)) (.same _) ⟨v2,g2,vH1,J,J⟩
theorem X3 (s0_src:Ar)(s0_at:Int)(l:List Token)(h0:Ae)(o0:Nat)(o1:Nat)(g:Nat)(v1:AV)(g1:Nat)(vH:Ay v1 o1 g1 l.length)(hI0:Ids h0 [o0,o1] 2):Lc s0_src s0_at l≠.bad→Bh Tryz.prog 56 [(.ptr o0 g 0 0)] (hp h0 [o0,o1] [some (.rows g 3 [[(.str s0_src),(.int .i64 s0_at),v1]]),Ah v1 g1 4 (List.map Ac l)]) (Cs (fun a_ v h' => ∃ (v4:AV),∃ (g3:Nat),Ay v4 o1 g3 a_.2.length∧v=(.tup [])∧h'=hp h0 [o0,o1] [some (.rows g 3 [[(.str s0_src),(.int .i64 a_.1),v4]]),Ah v4 g3 4 (List.map Ac a_.2)]) h0 (Lc s0_src s0_at l)):=by
 refine Bb (n:=31) 0 Tryz.func56 J (by decide) J J hI0 J fun ids he hI=>?_
 clear hI0
 obtain rfl:ix ids 0=o0:=he 0 rfl
 obtain rfl:ix ids 1=o1:=he 1 rfl
 clear he
 refine Bm (Ak (Lc.eq_1 _ _ _) ?_)
 refine Y<|O<|Z (.q ids 0 g) J Ad<|Dh (e:=(rI .i64)) (L:=[3]) (st:=1) (rows:=[[(.I 3)]]) J Ok Ds J J J J J (.cons (RowSim.refl _) .nil) (fun x=>Alr x) J J<|Bz [(.q ids 0 g),(.sl 1 (List.map (rI .i64) [3]))] J J J J (CP.lend (Ry ({ fSrc:=s0_src,fAt:=s0_at,fL:=l }:T119) [3]) (LF.lfz (.cons (.ptrL (hI.at J J) J J (.cons (.same _) (.cons (.same _) (.cons (Fo vH (hI.at J J) J (fun x=>Qe x)) .nil)))) (.cons (.same _) .nil))) (fun _ _=>(.str _))) (fun v _=>Ao (K:=2) (N:=0) Tryz.func56 hI) fun t _=>Z (.str t) J Al<|Aa ?_
 refine Y<|O<|Z (.str t) J Ad<|An [] hI J J (Aem t _ (by exact hI.sub' J J)) J J J J J J (fun v _=>Ao (K:=2) (N:=0) Tryz.func56 hI) ?_
 rintro r _ _ _ ⟨v2,vH1,rfl,rfl⟩
 refine Aw [] hI J J J ?_
 refine Ap<|Ab 5 [] [(4,v2),(3,(.I r.1))] ?_
 refine Aa<|Y<|Y<|O<|Z v2 J Ad<|Z (.bool r.2) J (Ba (Amu (.inr J) vH1) J (Aor Auu vH1))<|Z (.bool r.2) J Ad ?_
 refine Dk 5 ((fun(b:Bool)=>if b then(.pan ⟨113,.I s0_at⟩) else((G7 t ({ Kind:=2,Text:=[],N:=r.1,At:=0 }:Token) s0_src s0_at l).bind fun r2=>.ok ((IntKind.wrap .i64 (s0_at+(t.length:Int))),r2))):Bool→R (Int×(List Token))) (fun(b:Bool) (fr:Nat→AV) (h:Ae)=>fr=A2 [(0,(.q ids 0 g)),(2,(.str t)),(3,(.I r.1)),(20,(.bool b))]∧h=hp h0 ids [(some (.rows g 3 [[(.str s0_src),(.I s0_at),v1]])),(Ah v1 g1 4 (List.map Ac l))]) ?_ fun hJ=>D7 (fun hb1=>?_) (fun hb1=>?_)
 ·rintro b fr h ⟨rfl,rfl⟩
  refine Aa<|Cd J (fun hc=>?_) (fun hc=>?_)
  ·refine O<|Ab 5 [0] [(25,(.iface 113 (.I s0_at)))] ?_
   exact Sy (v:=⟨113,.I s0_at⟩) J J (Ao (K:=2) (N:=0) Tryz.func56 hI)
  refine Az<|O<|Ab 4 [] [(29,(.agg [(.I 2),(.str []),(.I r.1),(.I 0)])),(27,(.str t)),(26,(.q ids 0 g))] ?_
  refine An [0,1] hI J J (P5 t ({ Kind:=2,Text:=[],N:=r.1,At:=0 }:Token) s0_src s0_at l _ (ix ids 0) (ix ids 1) g v1 g1 vH (by exact hI.sub' J J)) J J J J J J (fun v _=>Ao (K:=2) (N:=0) Tryz.func56 hI) ?_
  rintro r2 _ _ _ ⟨v3,g2,vH2,rfl,rfl⟩
  refine Aw [0,1] hI J J J ?_
  refine Ap<|Aa<|Aj ?_
  exact Ce (K:=2) (N:=0) (a:=((IntKind.wrap .i64 (s0_at+(t.length:Int))),r2)) (vs:=[]) [some (.rows g 3 [[(.str s0_src),(.I (IntKind.wrap .i64 (s0_at+(t.length:Int)))),v3]]),Ah v3 g2 4 (List.map Ac r2)] Tryz.func56 hI J J J (.keep (.keep .nil)) (.same _) ⟨v3,g2,vH2,J,J⟩
 ·refine A4 (t:=15) hb1 J<|Ab 5 [] [(20,(.bool true))] ?_
  refine Bj<|Ch [(0,(.q ids 0 g)),(2,(.str t)),(3,(.I r.1)),(20,(.bool true))] (FI J)<|hJ true _ _ ⟨J,J⟩
 refine A4 (t:=15) hb1 J<|B0 (tj:=15) (.I r.1) J J J Ad<|Bz [(.I r.1)] J (Co (tj:=15) J J) J J ((Yf r.1) _) (fun v _=>Ao (K:=2) (N:=0) Tryz.func56 hI) fun r1 _=>Ab 3 [] [(20,(.bool (!(r1==t))))] ?_
 refine Bj<|Ch [(0,(.q ids 0 g)),(2,(.str t)),(3,(.I r.1)),(20,(.bool (!(r1==t))))] (FI J)<|hJ (!(r1==t)) _ _ ⟨J,J⟩
theorem Zq (s0_src:Ar)(s0_at:Int)(l:List Token)(h0:Ae)(o0:Nat)(o1:Nat)(g:Nat)(v1:AV)(g1:Nat)(vH:Ay v1 o1 g1 l.length)(hI0:Ids h0 [o0,o1] 2):Mz s0_src s0_at l≠.bad→Bh Tryz.prog 57 [(.ptr o0 g 0 0)] (hp h0 [o0,o1] [some (.rows g 3 [[(.str s0_src),(.int .i64 s0_at),v1]]),Ah v1 g1 4 (List.map Ac l)]) (Cs (fun a_ v h' => ∃ (v3:AV),∃ (g3:Nat),Ay v3 o1 g3 a_.2.length∧v=(.tup [])∧h'=hp h0 [o0,o1] [some (.rows g 3 [[(.str s0_src),(.int .i64 a_.1),v3]]),Ah v3 g3 4 (List.map Ac a_.2)]) h0 (Mz s0_src s0_at l)):=by
 refine Bb (n:=61) 0 Tryz.func57 J (by decide) J J hI0 J fun ids he hI=>?_
 clear hI0
 obtain rfl:ix ids 0=o0:=he 0 rfl
 obtain rfl:ix ids 1=o1:=he 1 rfl
 clear he
 refine Bm (Ak (Mz.eq_1 _ _ _) ?_)
 refine Y<|Y<|Di Gg [[],[0],[0,1],[0,1,2],[],[4],[4,5],[4,5,6],[0,1,2,3,4,5,6,7],[0,1,2,3,4,5,6,7,8]] [(false,0),(false,1),(false,2),(false,3),(false,4),(false,5),(false,6),(false,7),(false,8),(true,9)] (by kernel_rfl)<|Ag (.q ids 0 g) J J Ad<|Ag (.q ids 0 g) J J (Bg J)<|Ag (.q ids 0 g) J J (B9 (By (c:=0) (off:=0) (i:=0) Pl J Cy J))<|Ag (.str s0_src) J J (Au (Be hI J J J Cy J)) ?_
 refine Ag (.q ids 0 g) J J Ad<|Ag (.q ids 0 g) J J (Bg J)<|Ag (.ptr (ix ids 0) g 0 1) J J (B9 (By (c:=0) (off:=1) (i:=1) Pl J Ds J))<|Ag (.I s0_at) J J (Au (Be hI J J J Ds J))<|Kt fun hs=>Ag (.str (s0_src.drop (Int.toNat s0_at))) J J (Gu (Ajx Cy hs))<|W7 [(.str (s0_src.drop (Int.toNat s0_at))),(.str [47,47])] J J J J J ((Z4 (s0_src.drop (Int.toNat s0_at)) [47,47]) _) (fun v _ _ _=>Ao (K:=2) (N:=0) Tryz.func57 hI) (Af J (Af J (Af J (Af J (Af J (Af J (Af J (Af J (Af J Bw))))))))) fun r _=>?_
 refine Ct<|Cd J (fun hc=>?_) (fun hc=>?_)
 ·refine Y<|Y<|Di Gg [[],[0],[0,1],[0,1,2],[],[4],[4,5],[4,5,6],[0,1,2,3,4,5,6,7],[0,1,2,3,4,5,6,7,8],[0,1,2,3,4,5,6,7,8,9,9,9]] [(false,0),(false,1),(false,2),(false,3),(false,4),(false,5),(false,6),(false,7),(false,8),(true,9),(false,10)] (by kernel_rfl)<|Ag (.q ids 0 g) J J Ad<|Ag (.q ids 0 g) J J (Bg J)<|Ag (.q ids 0 g) J J (B9 (By (c:=0) (off:=0) (i:=0) Pl J Cy J))<|Ag (.str s0_src) J J (Au (Be hI J J J Cy J)) ?_
  refine Ag (.q ids 0 g) J J Ad<|Ag (.q ids 0 g) J J (Bg J)<|Ag (.ptr (ix ids 0) g 0 1) J J (B9 (By (c:=0) (off:=1) (i:=1) Pl J Ds J))<|Ag (.I s0_at) J J (Au (Be hI J J J Ds J))<|Kt fun hs1=>Ag (.str (s0_src.drop (Int.toNat s0_at))) J J (Gu (Ajx Cy hs1))<|W7 [(.str (s0_src.drop (Int.toNat s0_at))),(.int .u8 10)] J J J J J ((T2 (s0_src.drop (Int.toNat s0_at)) 10) _) (fun v _ _ _=>Ao (K:=2) (N:=0) Tryz.func57 hI) (Af J (Af J (Af J (Af J (Af J (Af J (Af J (Af J (Af J Bw))))))))) fun n _=>?_
  refine Ag (.I n) J J Al<|Ct<|Y<|O<|Ab 2 [] [(25,(.bool (decide (n≥0))))] ?_
  refine Aa<|Qv J (fun hc1=>?_) (fun hc1=>?_)
  ·refine O<|Ab 8 [0] [(33,(.ptr (ix ids 0) g 0 1)),(31,(.I (IntKind.wrap .i64 (s0_at+n))))] ?_
   refine Aq (Ax (v:=(.I (IntKind.wrap .i64 (s0_at+n)))) hI J J J J Ds J J J J J)<|Aa<|Aj ?_
   exact D3 (K:=2) (N:=0) (a:=((IntKind.wrap .i64 (s0_at+n)),l)) (vs:=[]) [some (.rows g 3 [[(.str s0_src),(.I (IntKind.wrap .i64 (s0_at+n))),v1]]),Ah v1 g1 4 (List.map Ac l)] Tryz.func57 hI J J J (.keep (.keep .nil)) (.same _) ⟨v1,g1,vH,J,J⟩
  refine O<|Ab 5 [0] [(38,(.str s0_src)),(34,(.q ids 0 g))] ?_
  refine Z (.I (s0_src.length:Int)) J (A0 (Md Cy))<|Ab 2 [] [(41,(.ptr (ix ids 0) g 0 1))] ?_
  refine Aq (Ax (v:=(.I (s0_src.length:Int))) hI J J J J Ds J J J J J)<|Aa<|Aj ?_
  exact D3 (K:=2) (N:=0) (a:=((s0_src.length:Int),l)) (vs:=[]) [some (.rows g 3 [[(.str s0_src),(.I (s0_src.length:Int)),v1]]),Ah v1 g1 4 (List.map Ac l)] Tryz.func57 hI J J J (.keep (.keep .nil)) (.same _) ⟨v1,g1,vH,J,J⟩
 refine Az<|Y<|Di Gg [[],[0],[0,1],[0,1,2],[],[4],[4,5],[4,5,6],[],[8],[8,9],[8,9,10],[8,9,10,11],[0,1,2,3,4,5,6,7,8,9,10,11,12],[0,1,2,3,4,5,6,7,8,9,10,11,12,13,13]] [(false,0),(false,1),(false,2),(false,3),(false,4),(false,5),(false,6),(false,7),(false,8),(false,9),(false,10),(false,11),(false,12),(false,13),(false,14)] (by kernel_rfl)<|Ag (.q ids 0 g) J J Ad<|Ag (.q ids 0 g) J J (Bg J)<|Ag (.q ids 0 g) J J (B9 (By (c:=0) (off:=0) (i:=0) Pl J Cy J))<|Ag (.str s0_src) J J (Au (Be hI J J J Cy J)) ?_
 refine Ag (.q ids 0 g) J J Ad<|Ag (.q ids 0 g) J J (Bg J)<|Ag (.ptr (ix ids 0) g 0 1) J J (B9 (By (c:=0) (off:=1) (i:=1) Pl J Ds J))<|Ag (.I s0_at) J J (Au (Be hI J J J Ds J))<|Ag (.q ids 0 g) J J Ad<|Ag (.q ids 0 g) J J (Bg J)<|Ag (.ptr (ix ids 0) g 0 1) J J (B9 (By (c:=0) (off:=1) (i:=1) Pl J Ds J)) ?_
 refine Ag (.I s0_at) J J (Au (Be hI J J J Ds J))<|Ag (.I (IntKind.wrap .i64 (s0_at+1))) J J (Ba J J J)<|Kt fun hs2=>Ag (.str (cut s0_src s0_at (IntKind.wrap .i64 (s0_at+1)))) J J (Gu (Amv Cy hs2))<|Ag (.str (cut s0_src s0_at (IntKind.wrap .i64 (s0_at+1)))) J J Al<|Ct<|O ?_
 refine Ab 4 [] [(59,(.agg [(.I 3),(.str (cut s0_src s0_at (IntKind.wrap .i64 (s0_at+1)))),(.I 0),(.I 0)])),(57,(.str (cut s0_src s0_at (IntKind.wrap .i64 (s0_at+1))))),(56,(.q ids 0 g))] ?_
 refine An [0,1] hI J J (P5 (cut s0_src s0_at (IntKind.wrap .i64 (s0_at+1))) ({ Kind:=3,Text:=(cut s0_src s0_at (IntKind.wrap .i64 (s0_at+1))),N:=0,At:=0 }:Token) s0_src s0_at l _ (ix ids 0) (ix ids 1) g v1 g1 vH (by exact hI.sub' J J)) J J J J J J (fun v _=>Ao (K:=2) (N:=0) Tryz.func57 hI) ?_
 rintro r1 _ _ _ ⟨v2,g2,vH1,rfl,rfl⟩
 refine Aw [0,1] hI J J J ?_
 refine Ap<|Aa<|Aj ?_
 exact Ce (K:=2) (N:=0) (a:=((IntKind.wrap .i64 (s0_at+((cut s0_src s0_at (IntKind.wrap .i64 (s0_at+1))).length:Int))),r1)) (vs:=[]) [some (.rows g 3 [[(.str s0_src),(.I (IntKind.wrap .i64 (s0_at+((cut s0_src s0_at (IntKind.wrap .i64 (s0_at+1))).length:Int)))),v2]]),Ah v2 g2 4 (List.map Ac r1)] Tryz.func57 hI J J J (.keep (.keep .nil)) (.same _) ⟨v2,g2,vH1,J,J⟩
theorem Ae5 (a0:AV)(a1:AV)(a2:AV)(h:Ae):Pq Tryz.prog 52 [a0,a1,a2] .ret h (Abj (fun _:Unit=>h) .ret (.ok ())):=by
 refine Adm (n:=9) Tryz.func52 J (by decide) J J ?_ ⟨(),J⟩
 refine Y<|O<|Aj0 J<|Z .nili J Al<|Aa<|Y<|O ?_
 refine Z .nili J Ad<|Z (.bool false) J (Ba J J (Afl Ald))<|Aa<|Kp false J<|Az<|Acp Tryz.func52 J J J
theorem Abc (n:Int)(h0:Ae)(ids:List Nat)(hI:Ids h0 ids 3)(g0_:Nat)(g1_:Nat)(g2_:Nat)(r0_:List AV)(r1_:List AV)(r2_:List AV)(hr0_:r0_.length=1)(hr1_:r1_.length=1)(hr2_:r2_.length=1):(∃ a,Ka n=.ok a)→Pq Tryz.prog 52 [(.ptr (ix ids 0) g0_ 0 0),(.ptr (ix ids 1) g1_ 0 0),(.ptr (ix ids 2) g2_ 0 0)] (.pan (.iface 113 (.int .i64 n)) false) (hp h0 ids [some (.rows g0_ 1 [r0_]),some (.rows g1_ 1 [r1_]),some (.rows g2_ 1 [r2_])]) (Abj (fun p=>hp h0 ids [some (.rows g0_ 1 [[.emp]]),some (.rows g1_ 1 [[(.int .i64 p)]]),some (.rows g2_ 1 [[(.int .i64 70)]])]) (.pan (.iface 113 (.int .i64 n)) true) (Ka n)):=by
 refine Adm (n:=9) Tryz.func52 J (by decide) J J<|Bm (Ak (Ka.eq_1 _) ?_)
 refine Y<|O<|Akv J<|Z (.iface 113 (.I n)) J Al<|Aa<|Y<|O ?_
 refine Z (.iface 113 (.I n)) J Ad<|Z (.bool true) J (Ba J J (Ado Ald))<|Aa<|Kp true J<|Di Gg [[],[0],[],[0,1,1,2,2],[0,1,2,3,3]] [(false,0),(false,1),(true,2),(true,3),(true,4)] (by kernel_rfl)<|Ag (.iface 113 (.I n)) J J Ad<|Ag (.I n) J J (Ale (Ap8 Ap4 (by decide))) ?_
 refine Gr J (fun _ _=>J) (fun K hK=>D4 (W9 (v:=.emp) hI J J J Cx J J J hr0_ J) (hK _ _ (Br J (Ale (Ap8 Ap4 (by decide))) (Br J Ad Bw)) ?_))
 clear hK K
 refine Gr J (fun _ _=>J) (fun K hK=>D4 (W9 (v:=(.I n)) hI J J J Ds J J J hr1_ J) (hK _ _ (Af J (Af J Bw)) ?_))
 clear hK K
 refine Gr J (fun _ _=>J) (fun K hK=>D4 (W9 (v:=(.I 70)) hI J J J N1 J J J hr2_ J) (hK _ _ (Af J (Af J Bw)) ?_))
 clear hK K
 refine Ct<|Aj ?_
 exact Acp (a:=n) Tryz.func52 J J J
theorem Ak4 (src:Ar):CP Tryz.prog 16 [(.str src)] (Aco src) (fun(p:((List Token)×Int×Int))=>AV.tup [(.sl 4 (List.map Ac p.1)),(.int .i64 p.2.1),(.int .i64 p.2.2)]):=by
 show CP _ _ _ ((Yh src).catch' (O4 113 .i64 (fun n=>(Ka n).bind fun p=>.ok ([],p,70)) (fun _=>.bad))) _
 refine Af4 (n:=39) 6 Tryz.func16 J (by decide) J J fun h0 ids hI=>?_
 have hU : ∀ (v:PV) (fr:Nat→AV) (xs:List (Option AO)) (g0_:Nat) (r0_:List AV) (g1_:Nat) (r1_:List AV) (g2_:Nat) (r2_:List AV) (hl_:xs.length=6) (hr0_:r0_.length=1) (hr1_:r1_.length=1) (hr2_:r2_.length=1) (hy_:xs.take 3=[some (.rows g0_ 1 [r0_]),some (.rows g1_ 1 [r1_]),some (.rows g2_ 1 [r2_])]) (hq2_:fr 2=.q ids 0 g0_) (hq3_:fr 3=.q ids 1 g1_) (hq4_:fr 4=.q ids 2 g2_),WU Tryz.prog 16 39 false (Q4 (fun(p:((List Token)×Int×Int))=>AV.tup [(.sl 4 (List.map Ac p.1)),(.I p.2.1),(.I p.2.2)]) h0 (O4 113 .i64 (fun n=>(Ka n).bind fun p=>.ok ([],p,70)) (fun _=>.bad))) (.pan v) (.pan v.av false) fr [⟨52,[.q ids 0 g0_,.q ids 1 g1_,.q ids 2 g2_]⟩] (hp h0 ids xs) .ret:=by
  intro v fr xs g0_ r0_ g1_ r1_ g2_ r2_ hl_ hr0_ hr1_ hr2_ hy_ hq2_ hq3_ hq4_
  refine Aux (t:=113) (k:=.i64) J (fun n hv=>?_) (fun hne113=>?_)
  ·subst hv
   exact Ahc (Hc:=Ka n) (fin:=fun p=>([],p,70)) (c:=3) (cells:=fun p=>[some (.rows g0_ 1 [[.emp]]),some (.rows g1_ 1 [[(.I p)]]),some (.rows g2_ 1 [[(.I 70)]])]) (vs:=fun p=>[.emp,(.I p),(.I 70)]) Tryz.func16 hI hl_ J hy_ (by first | (rw [Agb]; done) | (rw [Agb]; rfl)) (fun hx=>by have:=Abc n h0 (ids.take 3) (hI.take J) g0_ g1_ g2_ r0_ r1_ r2_ hr0_ hr1_ hr2_ hx; simp only [Ow (c:=3) (j:=0) J,Ow (c:=3) (j:=1) J,Ow (c:=3) (j:=2) J] at this; exact this) (by intro w; simp [Ka]) (fun p=>(Sd hq2_ (Xa (hI.take J) (Ow J) J J J Cx J) (Sd hq3_ (Xa (hI.take J) (Ow J) J J J Ds J) (Sd hq4_ (Xa (hI.take J) (Ow J) J J J N1 J) Fi)))) (fun p=>(.tupL (.cons (.emp _) (.cons (.same _) (.cons (.same _) .nil)))))
  exact Ap0 (by rw [Am5 hne113])
 refine Bm (Ak (Yh.eq_1 _) ?_)
 refine Y<|O<|Bc (j:=0) hI J J J J Cx J fun g=>Bc (j:=1) hI J J J J Ds J fun g1=>Bc (j:=2) hI J J J J N1 J fun g2=>Aa<|Aj ?_
 refine Y<|Y<|O<|Z (.str src) J Ad<|Z (.I (src.length:Int)) J (A0 (Md Cy))<|Z (.bool (decide ((src.length:Int) > 65536))) J (Ba J J J)<|Aa ?_
 refine Qv J (fun hc=>?_) (fun hc=>?_)
 ·refine Y<|O<|Aq (Ax (v:=.emp) hI J J J J Cx J J J J J)<|Aq (Ax (v:=(.I 0)) hI J J J J Ds J J J J J)<|Aq (Ax (v:=(.I 2)) hI J J J J N1 J J J J J)<|Aa<|Aj ?_
  exact Aiq (a:=([],0,2)) (vs:=[.emp,(.I 0),(.I 2)]) Tryz.func16 hI (Dt (Be hI J J J Cx J) (Dt (Be hI J J J Ds J) (Dt (Be hI J J J N1 J) Fi))) (.tupL (.cons (.emp _) (.cons (.same _) (.cons (.same _) .nil))))
 refine Az<|Y<|O<|Z (.func (.func 52) [] [(.q ids 0 g),(.q ids 1 g1),(.q ids 2 g2)]) J R0<|Aik J J J ?_
 refine Aa<|Y<|O<|Bc (j:=3) hI J J J J Ap1 J fun g3=>Aa<|Aj ?_
 refine Y<|O<|Ab 2 [] [(12,(.q ids 3 g3)),(11,(.agg [(.func (.func 53) [] []),(.func (.func 54) [] []),(.func (.func 55) [] []),(.func (.func 56) [] []),(.func (.func 57) [] []),(.func (.func 53) [] [])]))] ?_
 refine Aq (Ax (v:=(.agg [(.func (.func 53) [] []),(.func (.func 54) [] []),(.func (.func 55) [] []),(.func (.func 56) [] []),(.func (.func 57) [] []),(.func (.func 53) [] [])])) hI J J J J Yj J J J J J)<|Aa<|Aj ?_
 refine Y<|O<|Ab 2 [] [(14,(.agg [(.str src),(.I 0),.emp]))] ?_
 refine Cv (v:=(.agg [(.str src),(.I 0),.emp])) (j:=4) hI J J J J J J J fun g4=>Z (.q ids 4 g4) J Al<|Aa<|Aj ?_
 refine Y<|Ed (C2 fun fAt3 l1=>Wy fAt3 l1) (C2 fun fAt3 l1=>fun(fr:Nat→AV) (h:Ae) => ∃ (v4:AV),∃ (g9:Nat),Ay v4 (ix ids 5) g9 l1.length∧fr=A2 [(2,(.q ids 0 g)),(3,(.q ids 1 g1)),(4,(.q ids 2 g2)),(6,(.q ids 4 g4))]∧h=hp h0 ids [(some (.rows g 1 [[.emp]])),(some (.rows g1 1 [[(.I 0)]])),(some (.rows g2 1 [[(.I 0)]])),none,(some (.rows g4 3 [[(.str src),(.I fAt3),v4]])),(Ah v4 g9 4 (List.map Ac l1))]) ?_ fun hJ=>?_
 ·rintro⟨fAt3,l1⟩ fr h ⟨v4,g9,vH4,rfl,rfl⟩
  refine Ak (Wy.eq_1 _ _)<|Y<|O<|Ab 4 [4] [(38,v4)] ?_
  refine Aq (Jj vH4 hI J J J J Cx J J J)<|Aq (Ax (v:=(.I 0)) hI J J J J Ds J J J J J)<|Aq (Ax (v:=(.I 0)) hI J J J J N1 J J J J J)<|Aa<|Aj ?_
  exact Akn (a:=(l1,0,0)) (vs:=[v4,(.I 0),(.I 0)]) Tryz.func16 hI (Ae5 _ _ _ _) (Dt (Be hI J J J Cx J) (Dt (Be hI J J J Ds J) (Dt (Be hI J J J N1 J) Fi))) (.tupL (.cons (Fo vH4 (hI.at J J) (hI.out J) (fun x=>Qe x)) (.cons (.same _) (.cons (.same _) .nil))))
 refine A8<|Ee [(0,(.str src)),(2,(.q ids 0 g)),(3,(.q ids 1 g1)),(4,(.q ids 2 g2)),(5,(.q ids 3 g3)),(6,(.q ids 4 g4))] (FI J)<|Uk (P:=Tryz.prog) (C2 fun fAt l=>N7 src fAt l) ((C2 fun fAt3 l1=>Wy fAt3 l1):(Int×(List Token))→R ((List Token)×Int×Int)) (C2 fun fAt l=>fun(fr:Nat→AV) (h:Ae) => ∃ (v:AV),∃ (g5:Nat),Ay v (ix ids 5) g5 l.length∧fr=A2 [(0,(.str src)),(2,(.q ids 0 g)),(3,(.q ids 1 g1)),(4,(.q ids 2 g2)),(5,(.q ids 3 g3)),(6,(.q ids 4 g4))]∧h=hp h0 ids [(some (.rows g 1 [[.emp]])),(some (.rows g1 1 [[(.I 0)]])),(some (.rows g2 1 [[(.I 0)]])),(some (.rows g3 6 [[(.func (.func 53) [] []),(.func (.func 54) [] []),(.func (.func 55) [] []),(.func (.func 56) [] []),(.func (.func 57) [] []),(.func (.func 53) [] [])]])),(some (.rows g4 3 [[(.str src),(.I fAt),v]])),(Ah v g5 4 (List.map Ac l))]) (0,[]) ?_ ?_
 ·exact⟨.emp,0,.nil,J,J⟩
 rintro vW hW ⟨fAt,l⟩ fr h ⟨v,g5,vH,rfl,rfl⟩
 refine Ak (m':=N7 src fAt l) J (Ak (N7.eq_1 _ _ _) ?_)
 refine Y<|Y<|O<|Ab 5 [4] [(20,(.str src)),(19,(.I fAt))] ?_
 refine Z (.I (src.length:Int)) J (A0 (Md Cy))<|Z (.bool (decide (fAt<(src.length:Int)))) J (Ba J J J)<|Aa<|Qv J (fun hc1=>?_) (fun hc1=>?_)
 ·refine Az<|A8<|O<|Ab 5 [4] [(27,(.I fAt)),(23,(.str src))] ?_
  refine Ey fun a hz hx1=>Z (.int .u8 (a.toNat:Int)) J (Aee (Abh Cy hz hx1))<|Bz [(.int .u8 (a.toNat:Int))] J J J J ((Rl (a.toNat:Int)) _) (fun v _=>hU v _ _ _ _ _ _ _ _ J J J J J J J J) fun r _=>Z (.q ids 3 g3) J (B9 (By (c:=0) (off:=0) (i:=0) Ap1 J Yj J))<|Xb (fun hi=>?_) (fun _=>?_)
  ·refine Z (.q ids 3 g3) J (Bt (Up 0 Yj Acf hi J))<|Ab 2 [3] [(33,(.q ids 4 g4)),(32,(.func (.func 53) [] []))] ?_
   refine Bz [(.q ids 4 g4)] J J J J (CP.lend (Ub ({ fSrc:=src,fAt:=fAt,fL:=l }:T119)) (LF.lfz (.cons (.ptrL (hI.at J J) J J (.cons (.same _) (.cons (.same _) (.cons (Fo vH (hI.at J J) J (fun x=>Qe x)) .nil)))) .nil)) (fun _ _=>.tup0)) (fun v _=>hU v _ _ _ _ _ _ _ _ J J J J J J J J) fun _ _=>Aa<|Bn<|Bo (Po (hW (fAt,l) _ _ ⟨v,g5,vH,J,J⟩))
  refine Xb (fun hi=>?_) (fun _=>?_)
  ·refine Z (.ptr (ix ids 3) g3 0 1) J (Bt (Up 1 Yj Acf hi J))<|Ab 2 [3] [(33,(.q ids 4 g4)),(32,(.func (.func 54) [] []))] ?_
   refine An [4,5] hI J J (Y6 src fAt l _ (ix ids 4) (ix ids 5) g4 v g5 vH (by exact hI.sub' J J)) J J J J J J (fun v _=>hU v _ _ _ _ _ _ _ _ J J J J J J J J) ?_
   rintro r2 _ _ _ ⟨rfl,rfl⟩
   refine Aw [4,5] hI J J J ?_
   refine Ap<|Aa<|Aj ?_
   refine Bn<|Bo (Po (hW (r2,l) _ _ ⟨v,g5,vH,J,J⟩))
  refine Xb (fun hi=>?_) (fun _=>?_)
  ·refine Z (.ptr (ix ids 3) g3 0 2) J (Bt (Up 2 Yj Acf hi J))<|Ab 2 [3] [(33,(.q ids 4 g4)),(32,(.func (.func 55) [] []))] ?_
   refine An [4,5] hI J J (Zx src fAt l _ (ix ids 4) (ix ids 5) g4 v g5 vH (by exact hI.sub' J J)) J J J J J J (fun v _=>hU v _ _ _ _ _ _ _ _ J J J J J J J J) ?_
   rintro r3 _ _ _ ⟨v1,g6,vH1,rfl,rfl⟩
   refine Aw [4,5] hI J J J ?_
   refine Ap<|Aa<|Aj ?_
   refine Bn<|Bo (Po (hW (r3.1,r3.2) _ _ ⟨v1,g6,vH1,J,J⟩))
  refine Xb (fun hi=>?_) (fun _=>?_)
  ·refine Z (.ptr (ix ids 3) g3 0 3) J (Bt (Up 3 Yj Acf hi J))<|Ab 2 [3] [(33,(.q ids 4 g4)),(32,(.func (.func 56) [] []))] ?_
   refine An [4,5] hI J J (X3 src fAt l _ (ix ids 4) (ix ids 5) g4 v g5 vH (by exact hI.sub' J J)) J J J J J J (fun v _=>hU v _ _ _ _ _ _ _ _ J J J J J J J J) ?_
   rintro r4 _ _ _ ⟨v2,g7,vH2,rfl,rfl⟩
   refine Aw [4,5] hI J J J ?_
   refine Ap<|Aa<|Aj ?_
   refine Bn<|Bo (Po (hW (r4.1,r4.2) _ _ ⟨v2,g7,vH2,J,J⟩))
  refine Xb (fun hi=>?_) (fun _=>?_)
  ·refine Z (.ptr (ix ids 3) g3 0 4) J (Bt (Up 4 Yj Acf hi J))<|Ab 2 [3] [(33,(.q ids 4 g4)),(32,(.func (.func 57) [] []))] ?_
   refine An [4,5] hI J J (Zq src fAt l _ (ix ids 4) (ix ids 5) g4 v g5 vH (by exact hI.sub' J J)) J J J J J J (fun v _=>hU v _ _ _ _ _ _ _ _ J J J J J J J J) ?_
   rintro r5 _ _ _ ⟨v3,g8,vH3,rfl,rfl⟩
   refine Aw [4,5] hI J J J ?_
   refine Ap<|Aa<|Aj ?_
   refine Bn<|Bo (Po (hW (r5.1,r5.2) _ _ ⟨v3,g8,vH3,J,J⟩))
  refine Xb (fun hi=>?_) (fun _=>?_)
  ·refine Z (.ptr (ix ids 3) g3 0 5) J (Bt (Up 5 Yj Acf hi J))<|Ab 2 [3] [(33,(.q ids 4 g4)),(32,(.func (.func 53) [] []))] ?_
   refine Bz [(.q ids 4 g4)] J J J J (CP.lend (Ub ({ fSrc:=src,fAt:=fAt,fL:=l }:T119)) (LF.lfz (.cons (.ptrL (hI.at J J) J J (.cons (.same _) (.cons (.same _) (.cons (Fo vH (hI.at J J) J (fun x=>Qe x)) .nil)))) .nil)) (fun _ _=>.tup0)) (fun v _=>hU v _ _ _ _ _ _ _ _ J J J J J J J J) fun _ _=>Aa<|Bn<|Bo (Po (hW (fAt,l) _ _ ⟨v,g5,vH,J,J⟩))
  exact Asn
 refine C7 J<|Xd<|Eh [(some (.rows g 1 [[.emp]])),(some (.rows g1 1 [[(.I 0)]])),(some (.rows g2 1 [[(.I 0)]])),none,(some (.rows g4 3 [[(.str src),(.I fAt),v]])),(Ah v g5 4 (List.map Ac l))] hI J (.keep (.keep (.keep (.drop (.keep (.keep .nil))))))<|Bo (hJ (fAt,l) _ _ ⟨v,g5,vH,J,J⟩)
theorem Ze (r:T67)(e:Int):CP Tryz.prog 80 [(.cp (Av1 r) 0),(.int .i64 e)] (M6 r e) (fun(_:Unit)=>AV.tup []):=by
 refine C3 (n:=26) 0 Tryz.func80 J (by decide) J J fun h0 ids hI=>Bm (Ak (M6.eq_1 _ _) ?_)
 refine Y<|O<|Ab 5 [] [(4,(.I r.fEnd))] ?_
 refine Aa<|Y<|Y<|O<|Ab 4 [] [(12,(.sl 4 (List.map Ac r.fL)))] ?_
 refine Z (.I (r.fL.length:Int)) J (A0 (Bd Cx))<|Z (.bool (decide ((r.fL.length:Int) > 0))) J (Ba J J J)<|Aa<|Qv J (fun hc=>?_) (fun hc=>?_)
 ·refine O<|Ab 4 [] [(18,(.sl 4 (List.map Ac r.fL)))] ?_
  refine Ey fun a hz hx1=>Z (.cp (Ac a) 0) J (Bt (Dy Cx Dc J hz hx1))<|Ab 3 [] [(4,(.I a.At))] ?_
  refine Aa<|O<|Ab 4 [] [(25,(.iface 64 (.agg [(.I a.At),(.I e)])))] ?_
  exact Sy (v:=⟨64,.two .i64 .i64 a.At e⟩) J J (Cj Tryz.func80 hI)
 refine Az<|O<|Ab 4 [] [(25,(.iface 64 (.agg [(.I r.fEnd),(.I e)])))] ?_
 exact Sy (v:=⟨64,.two .i64 .i64 r.fEnd e⟩) J J (Cj Tryz.func80 hI)
theorem Ci (e:Int)(s_l:List Token)(s_end:Int)(h0:Ae)(o0:Nat)(w:AV)(w1:AV)(w2:AV)(w3:AV)(w4:AV)(w5:AV)(w6:AV)(w7:AV)(g:Nat)(hI0:Ids h0 [o0] 1):Bl e s_l s_end≠.bad→Bh Tryz.prog 80 [(.ptr o0 g 0 0),(.int .i64 e)] (hp h0 [o0] [some (.rows g 10 [[(.sl 4 (List.map Ac s_l)),(.int .i64 s_end),w,w1,w2,w3,w4,w5,w6,w7]])]) (Cs (fun a_ v h'=>v=(.tup [])∧h'=hp h0 [o0] [some (.rows g 10 [[(.sl 4 (List.map Ac s_l)),(.int .i64 s_end),w,w1,w2,w3,w4,w5,w6,w7]])]) h0 (Bl e s_l s_end)):=by
 refine Bb (n:=26) 0 Tryz.func80 J (by decide) J J hI0 J fun ids he hI=>?_
 clear hI0
 obtain rfl:ix ids 0=o0:=he 0 rfl
 clear he
 refine Bm (Ak (Bl.eq_1 _ _ _) ?_)
 refine Y<|O<|Ab 5 [0] [(4,(.I s_end))] ?_
 refine Aa<|Y<|Y<|O<|Ab 4 [0] [(12,(.sl 4 (List.map Ac s_l)))] ?_
 refine Z (.I (s_l.length:Int)) J (A0 (Bd Cx))<|Z (.bool (decide ((s_l.length:Int) > 0))) J (Ba J J J)<|Aa<|Qv J (fun hc=>?_) (fun hc=>?_)
 ·refine O<|Ab 4 [0] [(18,(.sl 4 (List.map Ac s_l)))] ?_
  refine Ey fun a hz hx1=>Z (.cp (Ac a) 0) J (Bt (Dy Cx Dc J hz hx1))<|Ab 3 [] [(4,(.I a.At))] ?_
  refine Aa<|O<|Ab 4 [] [(25,(.iface 64 (.agg [(.I a.At),(.I e)])))] ?_
  exact Sy (v:=⟨64,.two .i64 .i64 a.At e⟩) J J (Ao (K:=1) (N:=0) Tryz.func80 hI)
 refine Az<|O<|Ab 4 [] [(25,(.iface 64 (.agg [(.I s_end),(.I e)])))] ?_
 exact Sy (v:=⟨64,.two .i64 .i64 s_end e⟩) J J (Ao (K:=1) (N:=0) Tryz.func80 hI)
theorem Xg (a:Token):CP Tryz.prog 212 [(.agg (Ac a))] (Kv a) (fun(x:Bool)=>(AV.bool x)):=by
 refine C3 (n:=3) 1 Tryz.func212 J (by decide) J J fun h0 ids hI=>Bm (Ak (Kv.eq_1 _) ?_)
 refine Y<|O<|Cv (v:=(.agg (Ac a))) (j:=0) hI J J J J J J J fun g=>Z (.bool false) J Al<|Aa<|Aj ?_
 refine Y<|O<|Z (.bool true) J Al<|Aa<|Bs (a:=true) (vs:=[(.bool true)]) Tryz.func212 hI J (.same _)
theorem Xk (kind:Int)(s_l:List Token)(s_end:Int)(h0:Ae)(o0:Nat)(w:AV)(w1:AV)(w2:AV)(w3:AV)(w4:AV)(w5:AV)(w6:AV)(w7:AV)(g:Nat)(hI0:Ids h0 [o0] 1):Nb kind s_l s_end≠.bad→Bh Tryz.prog 207 [(.ptr o0 g 0 0),(.int .i64 kind),(.func (.func 212) [] [])] (hp h0 [o0] [some (.rows g 10 [[(.sl 4 (List.map Ac s_l)),(.int .i64 s_end),w,w1,w2,w3,w4,w5,w6,w7]])]) (Cs (fun a_ v h'=>v=(.agg (Ac a_))∧h'=hp h0 [o0] [some (.rows g 10 [[(.sl 4 (List.map Ac (s_l.drop 1))),(.int .i64 s_end),w,w1,w2,w3,w4,w5,w6,w7]])]) h0 (Nb kind s_l s_end)):=by
 refine Bb (n:=53) 2 Tryz.func207 J (by decide) J J hI0 J fun ids he hI=>?_
 clear hI0
 obtain rfl:ix ids 0=o0:=he 0 rfl
 clear he
 refine Bm (Ak (Nb.eq_1 _ _ _) ?_)
 refine Aj ?_
 refine Y<|O<|Bc (j:=1) hI J J J J Dc J fun g1=>Aa<|Aj ?_
 refine Y<|Y<|O<|Ab 4 [0] [(11,(.sl 4 (List.map Ac s_l)))] ?_
 refine Z (.I (s_l.length:Int)) J (A0 (Bd Cx))<|Ab 2 [] [(14,(.bool ((s_l.length:Int)==0)))] ?_
 refine Dk 10 ((fun(b:Bool)=>(if b then R.ok true else(E0 s_l 0).bind fun a1=>(Kv a1).bind fun r=>R.ok (!r)).bind (fun(b1:Bool)=>if b1 then((Bl 80 s_l s_end).bind fun _=>E6 s_l) else(E6 s_l))):Bool→R Token) (fun(b:Bool) (fr:Nat→AV) (h:Ae)=>fr=A2 [(0,(.q ids 0 g)),(2,(.func (.func 212) [] [])),(6,(.q ids 1 g1)),(24,(.bool b))]∧h=hp h0 ids [(some (.rows g 10 [[(.sl 4 (List.map Ac s_l)),(.I s_end),w,w1,w2,w3,w4,w5,w6,w7]])),(some (.rows g1 4 [[(.I 0),(.str []),(.I 0),(.I 0)]])),none]) ?_ fun hJ=>D7 (fun hb1=>?_) (fun hb1=>?_)
 ·rintro b fr h ⟨rfl,rfl⟩
  refine Z (.bool b) J Ad<|Dk 10 ((fun(b1:Bool)=>if b1 then((Bl 80 s_l s_end).bind fun _=>E6 s_l) else(E6 s_l)):Bool→R Token) (fun(b1:Bool) (fr:Nat→AV) (h:Ae)=>fr=A2 [(0,(.q ids 0 g)),(6,(.q ids 1 g1)),(35,(.bool b1))]∧h=hp h0 ids [(some (.rows g 10 [[(.sl 4 (List.map Ac s_l)),(.I s_end),w,w1,w2,w3,w4,w5,w6,w7]])),(some (.rows g1 4 [[(.I 0),(.str []),(.I 0),(.I 0)]])),none]) ?_ fun hJ1=>D7 (fun hb3=>?_) (fun hb3=>?_)
  ·rintro b1 fr h ⟨rfl,rfl⟩
   refine Aa<|Ed (π:=Unit) (fun _=>E6 s_l) (fun _=>fun(fr:Nat→AV) (h:Ae)=>fr=A2 [(0,(.q ids 0 g)),(6,(.q ids 1 g1))]∧h=hp h0 ids [(some (.rows g 10 [[(.sl 4 (List.map Ac s_l)),(.I s_end),w,w1,w2,w3,w4,w5,w6,w7]])),(some (.rows g1 4 [[(.I 0),(.str []),(.I 0),(.I 0)]])),none]) ?_ fun hJ2=>?_
   ·rintro _ fr h ⟨rfl,rfl⟩
    refine Ak (E6.eq_1 _)<|Y<|O<|Ab 4 [0] [(41,(.sl 4 (List.map Ac s_l)))] ?_
    refine Ey fun a2 hz2 hx3=>Z (.cp (Ac a2) 0) J (Bt (Dy Cx Dc J hz2 hx3))<|Z (.agg (Ac a2)) J (Au (Cp Dc J))<|Bc (j:=2) hI J J J J Dc J fun g2=>Aq (Ax (v:=(.agg (Ac a2))) hI J J J J Dc J J J J J)<|Aa<|Aj ?_
    refine Y<|O<|Ab 5 [0] [(48,(.sl 4 (List.map Ac s_l))),(44,(.q ids 0 g))] ?_
    refine Gb fun hs=>Z (.sl 4 (List.map Ac (s_l.drop 1))) J (Gu (Ny Cx Dc J hs))<|Ab 2 [] [(51,(.q ids 0 g))] ?_
    refine Aq (Ax (v:=(.sl 4 (List.map Ac (s_l.drop 1)))) hI J J J J Cx J J J J J)<|Aa<|Aj ?_
    refine Y<|O<|Ab 1 [2] [(52,(.agg (Ac a2)))] ?_
    refine Aq (Ax (v:=(.agg (Ac a2))) hI J J J J Dc J J J J J)<|Aa<|Aj ?_
    exact D3 (K:=1) (N:=2) (a:=a2) (vs:=[(.agg (Ac a2))]) [some (.rows g 10 [[(.sl 4 (List.map Ac (s_l.drop 1))),(.I s_end),w,w1,w2,w3,w4,w5,w6,w7]])] Tryz.func207 hI J (Dt (Be hI J J J Dc J) Fi) J (.keep (.drop (.drop .nil))) (.same _) ⟨J,J⟩
   refine Cd J (fun hc=>?_) (fun hc=>?_)
   ·refine O<|Z (.q ids 0 g) J Ad<|An [0] hI J J (Ci 80 s_l s_end _ (ix ids 0) w w1 w2 w3 w4 w5 w6 w7 g (by exact hI.sub' J J)) J J J J J J (fun v _=>Ao (K:=1) (N:=2) Tryz.func207 hI) ?_
    rintro _ _ _ _ ⟨rfl,rfl⟩
    refine Aw [0] hI J J J ?_
    refine Ap<|Aa<|Bo (hJ2 () _ _ ⟨J,J⟩)
   refine Az<|Bo (hJ2 () _ _ ⟨J,J⟩)
  ·refine A4 (t:=25) hb3 J<|Ab 10 [] [(35,(.bool true))] ?_
   refine Bj<|Ch [(0,(.q ids 0 g)),(6,(.q ids 1 g1)),(35,(.bool true))] (FI J)<|hJ1 true _ _ ⟨J,J⟩
  refine A4 (t:=25) hb3 J<|Ab 5 [0] [(30,(.sl 4 (List.map Ac s_l))),(26,(.func (.func 212) [] []))] ?_
  refine Ey fun a1 hz1 hx2=>B0 (tj:=25) (.cp (Ac a1) 0) J J J (Bt (Dy Cx Dc J hz1 hx2))<|B0 (tj:=25) (.agg (Ac a1)) J J J (Au (Cp Dc J))<|Bz [(.agg (Ac a1))] J (Co (tj:=25) J J) J J ((Xg a1) _) (fun v _=>Ao (K:=1) (N:=2) Tryz.func207 hI) fun r _=>Ab 2 [] [(35,(.bool (!r)))] ?_
  refine Bj<|Ch [(0,(.q ids 0 g)),(6,(.q ids 1 g1)),(35,(.bool (!r)))] (FI J)<|hJ1 (!r) _ _ ⟨J,J⟩
 ·refine A4 (t:=14) hb1 J<|Ab 10 [] [(24,(.bool true))] ?_
  refine Bj<|Ch [(0,(.q ids 0 g)),(2,(.func (.func 212) [] [])),(6,(.q ids 1 g1)),(24,(.bool true))] (FI J)<|hJ true _ _ ⟨J,J⟩
 refine A4 (t:=14) hb1 J<|Ab 4 [0] [(18,(.sl 4 (List.map Ac s_l)))] ?_
 refine Ey fun a hz hx1=>B0 (tj:=14) (.cp (Ac a) 0) J J J (Bt (Dy Cx Dc J hz hx1))<|Ab 5 [] [(24,(.bool (a.Kind != kind)))] ?_
 refine Bj<|Ch [(0,(.q ids 0 g)),(2,(.func (.func 212) [] [])),(6,(.q ids 1 g1)),(24,(.bool (a.Kind != kind)))] (FI J)<|hJ (a.Kind != kind) _ _ ⟨J,J⟩
theorem Cu (s_l:List Token)(s_end:Int)(h0:Ae)(o0:Nat)(w:AV)(w1:AV)(w2:AV)(w3:AV)(w4:AV)(w5:AV)(w6:AV)(w7:AV)(g:Nat)(hI0:Ids h0 [o0] 1):Ca s_l s_end≠.bad→Bh Tryz.prog 177 [(.ptr o0 g 0 0)] (hp h0 [o0] [some (.rows g 10 [[(.sl 4 (List.map Ac s_l)),(.int .i64 s_end),w,w1,w2,w3,w4,w5,w6,w7]])]) (Cs (fun a_ v h'=>v=(.str a_)∧h'=hp h0 [o0] [some (.rows g 10 [[(.sl 4 (List.map Ac (s_l.drop 1))),(.int .i64 s_end),w,w1,w2,w3,w4,w5,w6,w7]])]) h0 (Ca s_l s_end)):=by
 refine Bb (n:=6) 0 Tryz.func177 J (by decide) J J hI0 J fun ids he hI=>?_
 clear hI0
 obtain rfl:ix ids 0=o0:=he 0 rfl
 clear he
 refine Bm (Ak (Ca.eq_1 _ _) ?_)
 refine Y<|O<|Z (.str []) J Al<|Aa<|Y<|O<|Z (.q ids 0 g) J Ad ?_
 refine An [0] hI J J (Xk 1 s_l s_end _ (ix ids 0) w w1 w2 w3 w4 w5 w6 w7 g (by exact hI.sub' J J)) J J J J J J (fun v _=>Ao (K:=1) (N:=0) Tryz.func177 hI) ?_
 rintro r _ _ _ ⟨rfl,rfl⟩
 refine Aw [0] hI J J J ?_
 refine Ap<|Ab 2 [] [(2,(.str r.Text))] ?_
 refine Aa<|Aj ?_
 exact D3 (K:=1) (N:=0) (a:=r.Text) (vs:=[(.str r.Text)]) [some (.rows g 10 [[(.sl 4 (List.map Ac (s_l.drop 1))),(.I s_end),w,w1,w2,w3,w4,w5,w6,w7]])] Tryz.func177 hI J J J (.keep .nil) (.same _) ⟨J,J⟩
theorem X1 (t:Token)(b:Ar):CP Tryz.prog 213 [(.agg (Ac t)),(.cp [(.str b)] 0)] (Kq t b) (fun(x:Bool)=>(AV.bool x)):=by
 refine C3 (n:=8) 1 Tryz.func213 J (by decide) J J fun h0 ids hI=>Bm (Ak (Kq.eq_1 _ _) ?_)
 refine Y<|O<|Cv (v:=(.agg (Ac t))) (j:=0) hI J J J J J J J fun g=>Z (.bool false) J Al<|Aa<|Aj ?_
 refine Y<|O<|Ab 5 [0] [(3,(.bool (t.Text==b)))] ?_
 refine Aa<|Bs (a:=(t.Text==b)) (vs:=[(.bool (t.Text==b))]) Tryz.func213 hI J (.same _)
theorem Wp (kind:Int)(s0_l:List Token)(s0_end:Int)(s1:Ar)(h0:Ae)(o0:Nat)(o1:Nat)(w:AV)(w1:AV)(w2:AV)(w3:AV)(w4:AV)(w5:AV)(w6:AV)(w7:AV)(g:Nat)(g1:Nat)(hI0:Ids h0 [o0,o1] 2):L4 kind s0_l s0_end s1≠.bad→Bh Tryz.prog 207 [(.ptr o0 g 0 0),(.int .i64 kind),(.func (.func 213) [] [(.ptr o1 g1 0 0)])] (hp h0 [o0,o1] [some (.rows g 10 [[(.sl 4 (List.map Ac s0_l)),(.int .i64 s0_end),w,w1,w2,w3,w4,w5,w6,w7]]),some (.rows g1 1 [[(.str s1)]])]) (Cs (fun a_ v h'=>v=(.agg (Ac a_))∧h'=hp h0 [o0,o1] [some (.rows g 10 [[(.sl 4 (List.map Ac (s0_l.drop 1))),(.int .i64 s0_end),w,w1,w2,w3,w4,w5,w6,w7]]),some (.rows g1 1 [[(.str s1)]])]) h0 (L4 kind s0_l s0_end s1)):=by
 refine Bb (n:=53) 2 Tryz.func207 J (by decide) J J hI0 J fun ids he hI=>?_
 clear hI0
 obtain rfl:ix ids 0=o0:=he 0 rfl
 obtain rfl:ix ids 1=o1:=he 1 rfl
 clear he
 refine Bm (Ak (L4.eq_1 _ _ _ _) ?_)
 refine Aj ?_
 refine Y<|O<|Bc (j:=2) hI J J J J Dc J fun g2=>Aa<|Aj ?_
 refine Y<|Y<|O<|Ab 4 [0] [(11,(.sl 4 (List.map Ac s0_l)))] ?_
 refine Z (.I (s0_l.length:Int)) J (A0 (Bd Cx))<|Ab 2 [] [(14,(.bool ((s0_l.length:Int)==0)))] ?_
 refine Dk 10 ((fun(b:Bool)=>(if b then R.ok true else(E0 s0_l 0).bind fun a1=>(Kq a1 s1).bind fun r=>R.ok (!r)).bind (fun(b1:Bool)=>if b1 then((Bl 80 s0_l s0_end).bind fun _=>Et s0_l) else(Et s0_l))):Bool→R Token) (fun(b:Bool) (fr:Nat→AV) (h:Ae)=>fr=A2 [(0,(.q ids 0 g)),(2,(.func (.func 213) [] [(.q ids 1 g1)])),(6,(.q ids 2 g2)),(24,(.bool b))]∧h=hp h0 ids [(some (.rows g 10 [[(.sl 4 (List.map Ac s0_l)),(.I s0_end),w,w1,w2,w3,w4,w5,w6,w7]])),(some (.rows g1 1 [[(.str s1)]])),(some (.rows g2 4 [[(.I 0),(.str []),(.I 0),(.I 0)]])),none]) ?_ fun hJ=>D7 (fun hb1=>?_) (fun hb1=>?_)
 ·rintro b fr h ⟨rfl,rfl⟩
  refine Z (.bool b) J Ad<|Dk 10 ((fun(b1:Bool)=>if b1 then((Bl 80 s0_l s0_end).bind fun _=>Et s0_l) else(Et s0_l)):Bool→R Token) (fun(b1:Bool) (fr:Nat→AV) (h:Ae)=>fr=A2 [(0,(.q ids 0 g)),(6,(.q ids 2 g2)),(35,(.bool b1))]∧h=hp h0 ids [(some (.rows g 10 [[(.sl 4 (List.map Ac s0_l)),(.I s0_end),w,w1,w2,w3,w4,w5,w6,w7]])),(some (.rows g1 1 [[(.str s1)]])),(some (.rows g2 4 [[(.I 0),(.str []),(.I 0),(.I 0)]])),none]) ?_ fun hJ1=>D7 (fun hb3=>?_) (fun hb3=>?_)
  ·rintro b1 fr h ⟨rfl,rfl⟩
   refine Aa<|Ed (π:=Unit) (fun _=>Et s0_l) (fun _=>fun(fr:Nat→AV) (h:Ae)=>fr=A2 [(0,(.q ids 0 g)),(6,(.q ids 2 g2))]∧h=hp h0 ids [(some (.rows g 10 [[(.sl 4 (List.map Ac s0_l)),(.I s0_end),w,w1,w2,w3,w4,w5,w6,w7]])),(some (.rows g1 1 [[(.str s1)]])),(some (.rows g2 4 [[(.I 0),(.str []),(.I 0),(.I 0)]])),none]) ?_ fun hJ2=>?_
   ·rintro _ fr h ⟨rfl,rfl⟩
    refine Ak (Et.eq_1 _)<|Y<|O<|Ab 4 [0] [(41,(.sl 4 (List.map Ac s0_l)))] ?_
    refine Ey fun a2 hz2 hx3=>Z (.cp (Ac a2) 0) J (Bt (Dy Cx Dc J hz2 hx3))<|Z (.agg (Ac a2)) J (Au (Cp Dc J))<|Bc (j:=3) hI J J J J Dc J fun g3=>Aq (Ax (v:=(.agg (Ac a2))) hI J J J J Dc J J J J J)<|Aa<|Aj ?_
    refine Y<|O<|Ab 5 [0] [(48,(.sl 4 (List.map Ac s0_l))),(44,(.q ids 0 g))] ?_
    refine Gb fun hs=>Z (.sl 4 (List.map Ac (s0_l.drop 1))) J (Gu (Ny Cx Dc J hs))<|Ab 2 [] [(51,(.q ids 0 g))] ?_
    refine Aq (Ax (v:=(.sl 4 (List.map Ac (s0_l.drop 1)))) hI J J J J Cx J J J J J)<|Aa<|Aj ?_
    refine Y<|O<|Ab 1 [3] [(52,(.agg (Ac a2)))] ?_
    refine Aq (Ax (v:=(.agg (Ac a2))) hI J J J J Dc J J J J J)<|Aa<|Aj ?_
    exact D3 (K:=2) (N:=2) (a:=a2) (vs:=[(.agg (Ac a2))]) [some (.rows g 10 [[(.sl 4 (List.map Ac (s0_l.drop 1))),(.I s0_end),w,w1,w2,w3,w4,w5,w6,w7]]),some (.rows g1 1 [[(.str s1)]])] Tryz.func207 hI J (Dt (Be hI J J J Dc J) Fi) J (.keep (.keep (.drop (.drop .nil)))) (.same _) ⟨J,J⟩
   refine Cd J (fun hc=>?_) (fun hc=>?_)
   ·refine O<|Z (.q ids 0 g) J Ad<|An [0] hI J J (Ci 80 s0_l s0_end _ (ix ids 0) w w1 w2 w3 w4 w5 w6 w7 g (by exact hI.sub' J J)) J J J J J J (fun v _=>Ao (K:=2) (N:=2) Tryz.func207 hI) ?_
    rintro _ _ _ _ ⟨rfl,rfl⟩
    refine Aw [0] hI J J J ?_
    refine Ap<|Aa<|Bo (hJ2 () _ _ ⟨J,J⟩)
   refine Az<|Bo (hJ2 () _ _ ⟨J,J⟩)
  ·refine A4 (t:=25) hb3 J<|Ab 10 [] [(35,(.bool true))] ?_
   refine Bj<|Ch [(0,(.q ids 0 g)),(6,(.q ids 2 g2)),(35,(.bool true))] (FI J)<|hJ1 true _ _ ⟨J,J⟩
  refine A4 (t:=25) hb3 J<|Ab 5 [0] [(30,(.sl 4 (List.map Ac s0_l))),(26,(.func (.func 213) [] [(.q ids 1 g1)]))] ?_
  refine Ey fun a1 hz1 hx2=>B0 (tj:=25) (.cp (Ac a1) 0) J J J (Bt (Dy Cx Dc J hz1 hx2))<|B0 (tj:=25) (.agg (Ac a1)) J J J (Au (Cp Dc J))<|Bz [(.agg (Ac a1)),(.q ids 1 g1)] J (Co (tj:=25) J J) J J (CP.lend (X1 a1 s1) (LF.lfz (.cons (.same _) (.cons (.ptrL (hI.at J J) J J (Zt _)) .nil))) (fun _ _=>(.bool _))) (fun v _=>Ao (K:=2) (N:=2) Tryz.func207 hI) fun r _=>Ab 2 [] [(35,(.bool (!r)))] ?_
  refine Bj<|Ch [(0,(.q ids 0 g)),(6,(.q ids 2 g2)),(35,(.bool (!r)))] (FI J)<|hJ1 (!r) _ _ ⟨J,J⟩
 ·refine A4 (t:=14) hb1 J<|Ab 10 [] [(24,(.bool true))] ?_
  refine Bj<|Ch [(0,(.q ids 0 g)),(2,(.func (.func 213) [] [(.q ids 1 g1)])),(6,(.q ids 2 g2)),(24,(.bool true))] (FI J)<|hJ true _ _ ⟨J,J⟩
 refine A4 (t:=14) hb1 J<|Ab 4 [0] [(18,(.sl 4 (List.map Ac s0_l)))] ?_
 refine Ey fun a hz hx1=>B0 (tj:=14) (.cp (Ac a) 0) J J J (Bt (Dy Cx Dc J hz hx1))<|Ab 5 [] [(24,(.bool (a.Kind != kind)))] ?_
 refine Bj<|Ch [(0,(.q ids 0 g)),(2,(.func (.func 213) [] [(.q ids 1 g1)])),(6,(.q ids 2 g2)),(24,(.bool (a.Kind != kind)))] (FI J)<|hJ (a.Kind != kind) _ _ ⟨J,J⟩
theorem Dn (text:Ar)(s_l:List Token)(s_end:Int)(h0:Ae)(o0:Nat)(w:AV)(w1:AV)(w2:AV)(w3:AV)(w4:AV)(w5:AV)(w6:AV)(w7:AV)(g:Nat)(hI0:Ids h0 [o0] 1):Da text s_l s_end≠.bad→Bh Tryz.prog 178 [(.ptr o0 g 0 0),(.str text)] (hp h0 [o0] [some (.rows g 10 [[(.sl 4 (List.map Ac s_l)),(.int .i64 s_end),w,w1,w2,w3,w4,w5,w6,w7]])]) (Cs (fun a_ v h'=>v=(.tup [])∧h'=hp h0 [o0] [some (.rows g 10 [[(.sl 4 (List.map Ac (s_l.drop 1))),(.int .i64 s_end),w,w1,w2,w3,w4,w5,w6,w7]])]) h0 (Da text s_l s_end)):=by
 refine Bb (n:=7) 1 Tryz.func178 J (by decide) J J hI0 J fun ids he hI=>?_
 clear hI0
 obtain rfl:ix ids 0=o0:=he 0 rfl
 clear he
 refine Bm (Ak (Da.eq_1 _ _ _) ?_)
 refine Aj ?_
 refine Y<|O<|Cv (v:=(.str text)) (j:=1) hI J J J J J J J fun g1=>Aa<|Aj ?_
 refine O<|Ab 2 [] [(5,(.func (.func 213) [] [(.q ids 1 g1)])),(4,(.q ids 0 g))] ?_
 refine An [0,1] hI J J (Wp 1 s_l s_end text _ (ix ids 0) (ix ids 1) w w1 w2 w3 w4 w5 w6 w7 g g1 (by exact hI.sub' J J)) J J J J J J (fun v _=>Ao (K:=1) (N:=1) Tryz.func178 hI) ?_
 rintro r _ _ _ ⟨rfl,rfl⟩
 refine Aw [0,1] hI J J J ?_
 refine Ap<|Aa<|Aj ?_
 exact Ce (K:=1) (N:=1) (a:=()) (vs:=[]) [some (.rows g 10 [[(.sl 4 (List.map Ac (s_l.drop 1))),(.I s_end),w,w1,w2,w3,w4,w5,w6,w7]])] Tryz.func178 hI J J J (.keep (.drop .nil)) (.same _) ⟨J,J⟩
theorem V3 (t:Token)(b:Int)(c:Int):CP Tryz.prog 214 [(.agg (Ac t)),(.cp [(.int .i64 b)] 0),(.cp [(.int .i64 c)] 0)] (Hw t b c) (fun(x:Bool)=>(AV.bool x)):=by
 refine C3 (n:=15) 1 Tryz.func214 J (by decide) J J fun h0 ids hI=>Bm (Ak (Hw.eq_1 _ _ _) ?_)
 refine Y<|O<|Cv (v:=(.agg (Ac t))) (j:=0) hI J J J J J J J fun g=>Z (.bool false) J Al<|Aa<|Aj ?_
 refine Y<|O<|Ab 5 [0] [(9,(.bool (decide (t.N≥b))))] ?_
 refine B8 5 [(14,(.bool ((decide (t.N≥b))&&(decide (t.N≤c)))))] ?_ fun hJ=>Bu (decide (t.N≥b)) (fun hb1=>?_) (fun hb1=>?_)
 ·refine Z (.bool ((decide (t.N≥b))&&(decide (t.N≤c)))) J Al<|Aa<|Bs (a:=((decide (t.N≥b))&&(decide (t.N≤c)))) (vs:=[(.bool ((decide (t.N≥b))&&(decide (t.N≤c))))]) Tryz.func214 hI J (.same _)
 ·refine A4 (t:=9) hb1 J<|Ab 5 [0] [(14,(.bool (decide (t.N≤c))))] ?_
  exact Bk hJ (.cons (Lf hb1) .nil)
 refine A4 (t:=9) hb1 J<|Ab 5 [] [(14,(.bool false))] ?_
 exact Bk hJ (.cons (Li hb1) .nil)
theorem Wd (kind:Int)(s0_l:List Token)(s0_end:Int)(s1:Int)(s2:Int)(h0:Ae)(o0:Nat)(o1:Nat)(o2:Nat)(w:AV)(w1:AV)(w2:AV)(w3:AV)(w4:AV)(w5:AV)(w6:AV)(w7:AV)(g:Nat)(g1:Nat)(g2:Nat)(hI0:Ids h0 [o0,o1,o2] 3):L1 kind s0_l s0_end s1 s2≠.bad→Bh Tryz.prog 207 [(.ptr o0 g 0 0),(.int .i64 kind),(.func (.func 214) [] [(.ptr o1 g1 0 0),(.ptr o2 g2 0 0)])] (hp h0 [o0,o1,o2] [some (.rows g 10 [[(.sl 4 (List.map Ac s0_l)),(.int .i64 s0_end),w,w1,w2,w3,w4,w5,w6,w7]]),some (.rows g1 1 [[(.int .i64 s1)]]),some (.rows g2 1 [[(.int .i64 s2)]])]) (Cs (fun a_ v h'=>v=(.agg (Ac a_))∧h'=hp h0 [o0,o1,o2] [some (.rows g 10 [[(.sl 4 (List.map Ac (s0_l.drop 1))),(.int .i64 s0_end),w,w1,w2,w3,w4,w5,w6,w7]]),some (.rows g1 1 [[(.int .i64 s1)]]),some (.rows g2 1 [[(.int .i64 s2)]])]) h0 (L1 kind s0_l s0_end s1 s2)):=by
 refine Bb (n:=53) 2 Tryz.func207 J (by decide) J J hI0 J fun ids he hI=>?_
 clear hI0
 obtain rfl:ix ids 0=o0:=he 0 rfl
 obtain rfl:ix ids 1=o1:=he 1 rfl
 obtain rfl:ix ids 2=o2:=he 2 rfl
 clear he
 refine Bm (Ak (L1.eq_1 _ _ _ _ _) ?_)
 refine Aj ?_
 refine Y<|O<|Bc (j:=3) hI J J J J Dc J fun g3=>Aa<|Aj ?_
 refine Y<|Y<|O<|Ab 4 [0] [(11,(.sl 4 (List.map Ac s0_l)))] ?_
 refine Z (.I (s0_l.length:Int)) J (A0 (Bd Cx))<|Ab 2 [] [(14,(.bool ((s0_l.length:Int)==0)))] ?_
 refine Dk 10 ((fun(b:Bool)=>(if b then R.ok true else(E0 s0_l 0).bind fun a1=>(Hw a1 s1 s2).bind fun r=>R.ok (!r)).bind (fun(b1:Bool)=>if b1 then((Bl 80 s0_l s0_end).bind fun _=>Es s0_l) else(Es s0_l))):Bool→R Token) (fun(b:Bool) (fr:Nat→AV) (h:Ae)=>fr=A2 [(0,(.q ids 0 g)),(2,(.func (.func 214) [] [(.q ids 1 g1),(.q ids 2 g2)])),(6,(.q ids 3 g3)),(24,(.bool b))]∧h=hp h0 ids [(some (.rows g 10 [[(.sl 4 (List.map Ac s0_l)),(.I s0_end),w,w1,w2,w3,w4,w5,w6,w7]])),(some (.rows g1 1 [[(.I s1)]])),(some (.rows g2 1 [[(.I s2)]])),(some (.rows g3 4 [[(.I 0),(.str []),(.I 0),(.I 0)]])),none]) ?_ fun hJ=>D7 (fun hb1=>?_) (fun hb1=>?_)
 ·rintro b fr h ⟨rfl,rfl⟩
  refine Z (.bool b) J Ad<|Dk 10 ((fun(b1:Bool)=>if b1 then((Bl 80 s0_l s0_end).bind fun _=>Es s0_l) else(Es s0_l)):Bool→R Token) (fun(b1:Bool) (fr:Nat→AV) (h:Ae)=>fr=A2 [(0,(.q ids 0 g)),(6,(.q ids 3 g3)),(35,(.bool b1))]∧h=hp h0 ids [(some (.rows g 10 [[(.sl 4 (List.map Ac s0_l)),(.I s0_end),w,w1,w2,w3,w4,w5,w6,w7]])),(some (.rows g1 1 [[(.I s1)]])),(some (.rows g2 1 [[(.I s2)]])),(some (.rows g3 4 [[(.I 0),(.str []),(.I 0),(.I 0)]])),none]) ?_ fun hJ1=>D7 (fun hb3=>?_) (fun hb3=>?_)
  ·rintro b1 fr h ⟨rfl,rfl⟩
   refine Aa<|Ed (π:=Unit) (fun _=>Es s0_l) (fun _=>fun(fr:Nat→AV) (h:Ae)=>fr=A2 [(0,(.q ids 0 g)),(6,(.q ids 3 g3))]∧h=hp h0 ids [(some (.rows g 10 [[(.sl 4 (List.map Ac s0_l)),(.I s0_end),w,w1,w2,w3,w4,w5,w6,w7]])),(some (.rows g1 1 [[(.I s1)]])),(some (.rows g2 1 [[(.I s2)]])),(some (.rows g3 4 [[(.I 0),(.str []),(.I 0),(.I 0)]])),none]) ?_ fun hJ2=>?_
   ·rintro _ fr h ⟨rfl,rfl⟩
    refine Ak (Es.eq_1 _)<|Y<|O<|Ab 4 [0] [(41,(.sl 4 (List.map Ac s0_l)))] ?_
    refine Ey fun a2 hz2 hx3=>Z (.cp (Ac a2) 0) J (Bt (Dy Cx Dc J hz2 hx3))<|Z (.agg (Ac a2)) J (Au (Cp Dc J))<|Bc (j:=4) hI J J J J Dc J fun g4=>Aq (Ax (v:=(.agg (Ac a2))) hI J J J J Dc J J J J J)<|Aa<|Aj ?_
    refine Y<|O<|Ab 5 [0] [(48,(.sl 4 (List.map Ac s0_l))),(44,(.q ids 0 g))] ?_
    refine Gb fun hs=>Z (.sl 4 (List.map Ac (s0_l.drop 1))) J (Gu (Ny Cx Dc J hs))<|Ab 2 [] [(51,(.q ids 0 g))] ?_
    refine Aq (Ax (v:=(.sl 4 (List.map Ac (s0_l.drop 1)))) hI J J J J Cx J J J J J)<|Aa<|Aj ?_
    refine Y<|O<|Ab 1 [4] [(52,(.agg (Ac a2)))] ?_
    refine Aq (Ax (v:=(.agg (Ac a2))) hI J J J J Dc J J J J J)<|Aa<|Aj ?_
    exact D3 (K:=3) (N:=2) (a:=a2) (vs:=[(.agg (Ac a2))]) [some (.rows g 10 [[(.sl 4 (List.map Ac (s0_l.drop 1))),(.I s0_end),w,w1,w2,w3,w4,w5,w6,w7]]),some (.rows g1 1 [[(.I s1)]]),some (.rows g2 1 [[(.I s2)]])] Tryz.func207 hI J (Dt (Be hI J J J Dc J) Fi) J (.keep (.keep (.keep (.drop (.drop .nil))))) (.same _) ⟨J,J⟩
   refine Cd J (fun hc=>?_) (fun hc=>?_)
   ·refine O<|Z (.q ids 0 g) J Ad<|An [0] hI J J (Ci 80 s0_l s0_end _ (ix ids 0) w w1 w2 w3 w4 w5 w6 w7 g (by exact hI.sub' J J)) J J J J J J (fun v _=>Ao (K:=3) (N:=2) Tryz.func207 hI) ?_
    rintro _ _ _ _ ⟨rfl,rfl⟩
    refine Aw [0] hI J J J ?_
    refine Ap<|Aa<|Bo (hJ2 () _ _ ⟨J,J⟩)
   refine Az<|Bo (hJ2 () _ _ ⟨J,J⟩)
  ·refine A4 (t:=25) hb3 J<|Ab 10 [] [(35,(.bool true))] ?_
   refine Bj<|Ch [(0,(.q ids 0 g)),(6,(.q ids 3 g3)),(35,(.bool true))] (FI J)<|hJ1 true _ _ ⟨J,J⟩
  refine A4 (t:=25) hb3 J<|Ab 5 [0] [(30,(.sl 4 (List.map Ac s0_l))),(26,(.func (.func 214) [] [(.q ids 1 g1),(.q ids 2 g2)]))] ?_
  refine Ey fun a1 hz1 hx2=>B0 (tj:=25) (.cp (Ac a1) 0) J J J (Bt (Dy Cx Dc J hz1 hx2))<|B0 (tj:=25) (.agg (Ac a1)) J J J (Au (Cp Dc J))<|Bz [(.agg (Ac a1)),(.q ids 1 g1),(.q ids 2 g2)] J (Co (tj:=25) J J) J J (CP.lend (V3 a1 s1 s2) (LF.lfz (.cons (.same _) (.cons (.ptrL (hI.at J J) J J (Zt _)) (.cons (.ptrL (hI.at J J) J J (Zt _)) .nil)))) (fun _ _=>(.bool _))) (fun v _=>Ao (K:=3) (N:=2) Tryz.func207 hI) fun r _=>Ab 2 [] [(35,(.bool (!r)))] ?_
  refine Bj<|Ch [(0,(.q ids 0 g)),(6,(.q ids 3 g3)),(35,(.bool (!r)))] (FI J)<|hJ1 (!r) _ _ ⟨J,J⟩
 ·refine A4 (t:=14) hb1 J<|Ab 10 [] [(24,(.bool true))] ?_
  refine Bj<|Ch [(0,(.q ids 0 g)),(2,(.func (.func 214) [] [(.q ids 1 g1),(.q ids 2 g2)])),(6,(.q ids 3 g3)),(24,(.bool true))] (FI J)<|hJ true _ _ ⟨J,J⟩
 refine A4 (t:=14) hb1 J<|Ab 4 [0] [(18,(.sl 4 (List.map Ac s0_l)))] ?_
 refine Ey fun a hz hx1=>B0 (tj:=14) (.cp (Ac a) 0) J J J (Bt (Dy Cx Dc J hz hx1))<|Ab 5 [] [(24,(.bool (a.Kind != kind)))] ?_
 refine Bj<|Ch [(0,(.q ids 0 g)),(2,(.func (.func 214) [] [(.q ids 1 g1),(.q ids 2 g2)])),(6,(.q ids 3 g3)),(24,(.bool (a.Kind != kind)))] (FI J)<|hJ (a.Kind != kind) _ _ ⟨J,J⟩
theorem Ej (least:Int)(most:Int)(s_l:List Token)(s_end:Int)(h0:Ae)(o0:Nat)(w:AV)(w1:AV)(w2:AV)(w3:AV)(w4:AV)(w5:AV)(w6:AV)(w7:AV)(g:Nat)(hI0:Ids h0 [o0] 1):Dq least most s_l s_end≠.bad→Bh Tryz.prog 179 [(.ptr o0 g 0 0),(.int .i64 least),(.int .i64 most)] (hp h0 [o0] [some (.rows g 10 [[(.sl 4 (List.map Ac s_l)),(.int .i64 s_end),w,w1,w2,w3,w4,w5,w6,w7]])]) (Cs (fun a_ v h'=>v=(.int .i64 a_)∧h'=hp h0 [o0] [some (.rows g 10 [[(.sl 4 (List.map Ac (s_l.drop 1))),(.int .i64 s_end),w,w1,w2,w3,w4,w5,w6,w7]])]) h0 (Dq least most s_l s_end)):=by
 refine Bb (n:=11) 2 Tryz.func179 J (by decide) J J hI0 J fun ids he hI=>?_
 clear hI0
 obtain rfl:ix ids 0=o0:=he 0 rfl
 clear he
 refine Bm (Ak (Dq.eq_1 _ _ _ _) ?_)
 refine Aj ?_
 refine Y<|O<|Cv (v:=(.I least)) (j:=1) hI J J J J J J J fun g1=>Cv (v:=(.I most)) (j:=2) hI J J J J J J J fun g2=>Z (.I 0) J Al<|Aa<|Aj ?_
 refine Y<|O<|Ab 2 [] [(8,(.func (.func 214) [] [(.q ids 1 g1),(.q ids 2 g2)])),(7,(.q ids 0 g))] ?_
 refine An [0,1,2] hI J J (Wd 2 s_l s_end least most _ (ix ids 0) (ix ids 1) (ix ids 2) w w1 w2 w3 w4 w5 w6 w7 g g1 g2 (by exact hI.sub' J J)) J J J J J J (fun v _=>Ao (K:=1) (N:=2) Tryz.func179 hI) ?_
 rintro r _ _ _ ⟨rfl,rfl⟩
 refine Aw [0,1,2] hI J J J ?_
 refine Ap<|Ab 2 [] [(6,(.I r.N))] ?_
 refine Aa<|Aj ?_
 exact D3 (K:=1) (N:=2) (a:=r.N) (vs:=[(.I r.N)]) [some (.rows g 10 [[(.sl 4 (List.map Ac (s_l.drop 1))),(.I s_end),w,w1,w2,w3,w4,w5,w6,w7]])] Tryz.func179 hI J J J (.keep (.drop (.drop .nil))) (.same _) ⟨J,J⟩
theorem T1 (s1_l:List Token)(s1_end:Int)(h0:Ae)(o0:Nat)(o1:Nat)(g:Nat)(w:AV)(w1:AV)(w2:AV)(w3:AV)(w4:AV)(w5:AV)(w6:AV)(w7:AV)(g1:Nat)(hI0:Ids h0 [o0,o1] 2):Ga s1_l s1_end≠.bad→Bh Tryz.prog 193 [(.ptr o0 g 0 0)] (hp h0 [o0,o1] [some (.rows g 1 [[(.ptr o1 g1 0 0)]]),some (.rows g1 10 [[(.sl 4 (List.map Ac s1_l)),(.int .i64 s1_end),w,w1,w2,w3,w4,w5,w6,w7]])]) (Cs (fun a_ v h'=>v=(.agg (Dv a_))∧h'=hp h0 [o0,o1] [some (.rows g 1 [[(.ptr o1 g1 0 0)]]),some (.rows g1 10 [[(.sl 4 (List.map Ac (((s1_l.drop 1).drop 1).drop 1))),(.int .i64 s1_end),w,w1,w2,w3,w4,w5,w6,w7]])]) h0 (Ga s1_l s1_end)):=by
 refine Bb (n:=11) 1 Tryz.func193 J (by decide) J J hI0 J fun ids he hI=>?_
 clear hI0
 obtain rfl:ix ids 0=o0:=he 0 rfl
 obtain rfl:ix ids 1=o1:=he 1 rfl
 clear he
 refine Bm (Ak (Ga.eq_1 _ _) ?_)
 refine Aj ?_
 refine Y<|O<|Bc (j:=2) hI J J J J Pu J fun g2=>Aa<|Aj ?_
 refine Y<|O<|Ab 1 [0] [(2,(.q ids 1 g1))] ?_
 refine An [1] hI J J (Dn [109,111,100,101] s1_l s1_end _ (ix ids 1) w w1 w2 w3 w4 w5 w6 w7 g1 (by exact hI.sub' J J)) J J J J J J (fun v _=>Ao (K:=2) (N:=1) Tryz.func193 hI) ?_
 rintro _ _ _ _ ⟨rfl,rfl⟩
 refine Aw [1] hI J J J ?_
 refine Ap<|Aa<|Aj ?_
 refine Y<|O<|Ab 1 [0] [(4,(.q ids 1 g1))] ?_
 refine An [1] hI J J (Cu (s1_l.drop 1) s1_end _ (ix ids 1) w w1 w2 w3 w4 w5 w6 w7 g1 (by exact hI.sub' J J)) J J J J J J (fun v _=>Ao (K:=2) (N:=1) Tryz.func193 hI) ?_
 rintro r1 _ _ _ ⟨rfl,rfl⟩
 refine Aw [1] hI J J J ?_
 refine Ap<|Z (.q ids 2 g2) J (B9 (By (c:=0) (off:=0) (i:=0) Pu J Cy J))<|Aq (Ax (v:=(.str r1)) hI J J J J Cy J J J J J)<|Aa<|Aj ?_
 refine Y<|O<|Ab 1 [0] [(7,(.q ids 1 g1))] ?_
 refine An [1] hI J J (Ej 0 64 ((s1_l.drop 1).drop 1) s1_end _ (ix ids 1) w w1 w2 w3 w4 w5 w6 w7 g1 (by exact hI.sub' J J)) J J J J J J (fun v _=>Ao (K:=2) (N:=1) Tryz.func193 hI) ?_
 rintro r2 _ _ _ ⟨rfl,rfl⟩
 refine Aw [1] hI J J J ?_
 refine Ap<|Z (.ptr (ix ids 2) g2 0 1) J (B9 (By (c:=0) (off:=1) (i:=1) Pu J Ds J))<|Aq (Ax (v:=(.I r2)) hI J J J J Ds J J J J J)<|Aa<|Aj ?_
 refine Y<|O<|Ab 1 [2] [(10,(.agg [(.str r1),(.I r2)]))] ?_
 refine Aq (Ax (v:=(.agg [(.str r1),(.I r2)])) hI J J J J Pu J J J J J)<|Aa<|D3 (K:=2) (N:=1) (a:=({ Name:=r1,Places:=r2 }:Mode)) (vs:=[(.agg [(.str r1),(.I r2)])]) [some (.rows g 1 [[(.q ids 1 g1)]]),some (.rows g1 10 [[(.sl 4 (List.map Ac (((s1_l.drop 1).drop 1).drop 1))),(.I s1_end),w,w1,w2,w3,w4,w5,w6,w7]])] Tryz.func193 hI J (Dt (Be hI J J J Pu J) Fi) J (.keep (.keep (.drop .nil))) (.aggL (.cons (.same _) (.cons (.same _) .nil))) ⟨J,J⟩
theorem Nj (kind:Int)(text:Ar)(s_l:List Token)(s_end:Int)(h0:Ae)(o0:Nat)(w:AV)(w1:AV)(w2:AV)(w3:AV)(w4:AV)(w5:AV)(w6:AV)(w7:AV)(g:Nat)(hI0:Ids h0 [o0] 1):Fy kind text s_l s_end≠.bad→Bh Tryz.prog 209 [(.ptr o0 g 0 0),(.int .i64 kind),(.str text)] (hp h0 [o0] [some (.rows g 10 [[(.sl 4 (List.map Ac s_l)),(.int .i64 s_end),w,w1,w2,w3,w4,w5,w6,w7]])]) (Cs (fun a_ v h'=>v=(.bool a_)∧h'=hp h0 [o0] [some (.rows g 10 [[(.sl 4 (List.map Ac s_l)),(.int .i64 s_end),w,w1,w2,w3,w4,w5,w6,w7]])]) h0 (Fy kind text s_l s_end)):=by
 refine Bb (n:=35) 0 Tryz.func209 J (by decide) J J hI0 J fun ids he hI=>?_
 clear hI0
 obtain rfl:ix ids 0=o0:=he 0 rfl
 clear he
 refine Bm (Ak (Fy.eq_1 _ _ _ _) ?_)
 refine Y<|O<|Z (.bool false) J Al<|Aa<|Y<|O<|Ab 4 [0] [(10,(.sl 4 (List.map Ac s_l)))] ?_
 refine Z (.I (s_l.length:Int)) J (A0 (Bd Cx))<|Ab 2 [] [(13,(.bool (decide ((s_l.length:Int) > 0))))] ?_
 refine Dk 10 ((fun(b:Bool)=>(if b then(E0 s_l 0).bind fun a1=>R.ok (a1.Text==text) else R.ok false).bind (fun(b1:Bool)=>.ok b1)):Bool→R Bool) (fun(b:Bool) (fr:Nat→AV) (h:Ae)=>fr=A2 [(0,(.q ids 0 g)),(2,(.str text)),(23,(.bool b))]∧h=hp h0 ids [(some (.rows g 10 [[(.sl 4 (List.map Ac s_l)),(.I s_end),w,w1,w2,w3,w4,w5,w6,w7]]))]) ?_ fun hJ=>D7 (fun hb1=>?_) (fun hb1=>?_)
 ·rintro b fr h ⟨rfl,rfl⟩
  refine Z (.bool b) J Ad<|Dk 10 ((fun(b1:Bool)=>.ok b1):Bool→R Bool) (fun(b1:Bool) (fr:Nat→AV) (h:Ae)=>fr=A2 [(34,(.bool b1))]∧h=hp h0 ids [(some (.rows g 10 [[(.sl 4 (List.map Ac s_l)),(.I s_end),w,w1,w2,w3,w4,w5,w6,w7]]))]) ?_ fun hJ1=>D7 (fun hb3=>?_) (fun hb3=>?_)
  ·rintro b1 fr h ⟨rfl,rfl⟩
   refine Z (.bool b1) J Al<|Aa<|D3 (K:=1) (N:=0) (a:=b1) (vs:=[(.bool b1)]) [some (.rows g 10 [[(.sl 4 (List.map Ac s_l)),(.I s_end),w,w1,w2,w3,w4,w5,w6,w7]])] Tryz.func209 hI J J J (.keep .nil) (.same _) ⟨J,J⟩
  ·refine A4 (t:=24) hb3 J<|Ab 4 [0] [(28,(.sl 4 (List.map Ac s_l)))] ?_
   refine Ey fun a1 hz1 hx2=>B0 (tj:=24) (.cp (Ac a1) 0) J J J (Bt (Dy Cx Dc J hz1 hx2))<|Ab 5 [] [(34,(.bool (a1.Text==text)))] ?_
   refine Bj<|Ch [(34,(.bool (a1.Text==text)))] (FI J)<|hJ1 (a1.Text==text) _ _ ⟨J,J⟩
  refine A4 (t:=24) hb3 J<|Ab 10 [] [(34,(.bool false))] ?_
  refine Bj<|Ch [(34,(.bool false))] (FI J)<|hJ1 false _ _ ⟨J,J⟩
 ·refine A4 (t:=13) hb1 J<|Ab 4 [0] [(17,(.sl 4 (List.map Ac s_l)))] ?_
  refine Ey fun a hz hx1=>B0 (tj:=13) (.cp (Ac a) 0) J J J (Bt (Dy Cx Dc J hz hx1))<|Ab 5 [] [(23,(.bool (a.Kind==kind)))] ?_
  refine Bj<|Ch [(0,(.q ids 0 g)),(2,(.str text)),(23,(.bool (a.Kind==kind)))] (FI J)<|hJ (a.Kind==kind) _ _ ⟨J,J⟩
 refine A4 (t:=13) hb1 J<|Ab 10 [] [(23,(.bool false))] ?_
 refine Bj<|Ch [(0,(.q ids 0 g)),(2,(.str text)),(23,(.bool false))] (FI J)<|hJ false _ _ ⟨J,J⟩
theorem Xh (t:Token)(b:Ar):CP Tryz.prog 211 [(.agg (Ac t)),(.cp [(.str b)] 0)] (Kr t b) (fun(x:Bool)=>(AV.bool x)):=by
 refine C3 (n:=8) 1 Tryz.func211 J (by decide) J J fun h0 ids hI=>Bm (Ak (Kr.eq_1 _ _) ?_)
 refine Y<|O<|Cv (v:=(.agg (Ac t))) (j:=0) hI J J J J J J J fun g=>Z (.bool false) J Al<|Aa<|Aj ?_
 refine Y<|O<|Ab 5 [0] [(3,(.bool (t.Text==b)))] ?_
 refine Aa<|Bs (a:=(t.Text==b)) (vs:=[(.bool (t.Text==b))]) Tryz.func211 hI J (.same _)
theorem Ws (kind:Int)(s0_l:List Token)(s0_end:Int)(s1:Ar)(h0:Ae)(o0:Nat)(o1:Nat)(w:AV)(w1:AV)(w2:AV)(w3:AV)(w4:AV)(w5:AV)(w6:AV)(w7:AV)(g:Nat)(g1:Nat)(hI0:Ids h0 [o0,o1] 2):L5 kind s0_l s0_end s1≠.bad→Bh Tryz.prog 207 [(.ptr o0 g 0 0),(.int .i64 kind),(.func (.func 211) [] [(.ptr o1 g1 0 0)])] (hp h0 [o0,o1] [some (.rows g 10 [[(.sl 4 (List.map Ac s0_l)),(.int .i64 s0_end),w,w1,w2,w3,w4,w5,w6,w7]]),some (.rows g1 1 [[(.str s1)]])]) (Cs (fun a_ v h'=>v=(.agg (Ac a_))∧h'=hp h0 [o0,o1] [some (.rows g 10 [[(.sl 4 (List.map Ac (s0_l.drop 1))),(.int .i64 s0_end),w,w1,w2,w3,w4,w5,w6,w7]]),some (.rows g1 1 [[(.str s1)]])]) h0 (L5 kind s0_l s0_end s1)):=by
 refine Bb (n:=53) 2 Tryz.func207 J (by decide) J J hI0 J fun ids he hI=>?_
 clear hI0
 obtain rfl:ix ids 0=o0:=he 0 rfl
 obtain rfl:ix ids 1=o1:=he 1 rfl
 clear he
 refine Bm (Ak (L5.eq_1 _ _ _ _) ?_)
 refine Aj ?_
 refine Y<|O<|Bc (j:=2) hI J J J J Dc J fun g2=>Aa<|Aj ?_
 refine Y<|Y<|O<|Ab 4 [0] [(11,(.sl 4 (List.map Ac s0_l)))] ?_
 refine Z (.I (s0_l.length:Int)) J (A0 (Bd Cx))<|Ab 2 [] [(14,(.bool ((s0_l.length:Int)==0)))] ?_
 refine Dk 10 ((fun(b:Bool)=>(if b then R.ok true else(E0 s0_l 0).bind fun a1=>(Kr a1 s1).bind fun r=>R.ok (!r)).bind (fun(b1:Bool)=>if b1 then((Bl 80 s0_l s0_end).bind fun _=>Eu s0_l) else(Eu s0_l))):Bool→R Token) (fun(b:Bool) (fr:Nat→AV) (h:Ae)=>fr=A2 [(0,(.q ids 0 g)),(2,(.func (.func 211) [] [(.q ids 1 g1)])),(6,(.q ids 2 g2)),(24,(.bool b))]∧h=hp h0 ids [(some (.rows g 10 [[(.sl 4 (List.map Ac s0_l)),(.I s0_end),w,w1,w2,w3,w4,w5,w6,w7]])),(some (.rows g1 1 [[(.str s1)]])),(some (.rows g2 4 [[(.I 0),(.str []),(.I 0),(.I 0)]])),none]) ?_ fun hJ=>D7 (fun hb1=>?_) (fun hb1=>?_)
 ·rintro b fr h ⟨rfl,rfl⟩
  refine Z (.bool b) J Ad<|Dk 10 ((fun(b1:Bool)=>if b1 then((Bl 80 s0_l s0_end).bind fun _=>Eu s0_l) else(Eu s0_l)):Bool→R Token) (fun(b1:Bool) (fr:Nat→AV) (h:Ae)=>fr=A2 [(0,(.q ids 0 g)),(6,(.q ids 2 g2)),(35,(.bool b1))]∧h=hp h0 ids [(some (.rows g 10 [[(.sl 4 (List.map Ac s0_l)),(.I s0_end),w,w1,w2,w3,w4,w5,w6,w7]])),(some (.rows g1 1 [[(.str s1)]])),(some (.rows g2 4 [[(.I 0),(.str []),(.I 0),(.I 0)]])),none]) ?_ fun hJ1=>D7 (fun hb3=>?_) (fun hb3=>?_)
  ·rintro b1 fr h ⟨rfl,rfl⟩
   refine Aa<|Ed (π:=Unit) (fun _=>Eu s0_l) (fun _=>fun(fr:Nat→AV) (h:Ae)=>fr=A2 [(0,(.q ids 0 g)),(6,(.q ids 2 g2))]∧h=hp h0 ids [(some (.rows g 10 [[(.sl 4 (List.map Ac s0_l)),(.I s0_end),w,w1,w2,w3,w4,w5,w6,w7]])),(some (.rows g1 1 [[(.str s1)]])),(some (.rows g2 4 [[(.I 0),(.str []),(.I 0),(.I 0)]])),none]) ?_ fun hJ2=>?_
   ·rintro _ fr h ⟨rfl,rfl⟩
    refine Ak (Eu.eq_1 _)<|Y<|O<|Ab 4 [0] [(41,(.sl 4 (List.map Ac s0_l)))] ?_
    refine Ey fun a2 hz2 hx3=>Z (.cp (Ac a2) 0) J (Bt (Dy Cx Dc J hz2 hx3))<|Z (.agg (Ac a2)) J (Au (Cp Dc J))<|Bc (j:=3) hI J J J J Dc J fun g3=>Aq (Ax (v:=(.agg (Ac a2))) hI J J J J Dc J J J J J)<|Aa<|Aj ?_
    refine Y<|O<|Ab 5 [0] [(48,(.sl 4 (List.map Ac s0_l))),(44,(.q ids 0 g))] ?_
    refine Gb fun hs=>Z (.sl 4 (List.map Ac (s0_l.drop 1))) J (Gu (Ny Cx Dc J hs))<|Ab 2 [] [(51,(.q ids 0 g))] ?_
    refine Aq (Ax (v:=(.sl 4 (List.map Ac (s0_l.drop 1)))) hI J J J J Cx J J J J J)<|Aa<|Aj ?_
    refine Y<|O<|Ab 1 [3] [(52,(.agg (Ac a2)))] ?_
    refine Aq (Ax (v:=(.agg (Ac a2))) hI J J J J Dc J J J J J)<|Aa<|Aj ?_
    exact D3 (K:=2) (N:=2) (a:=a2) (vs:=[(.agg (Ac a2))]) [some (.rows g 10 [[(.sl 4 (List.map Ac (s0_l.drop 1))),(.I s0_end),w,w1,w2,w3,w4,w5,w6,w7]]),some (.rows g1 1 [[(.str s1)]])] Tryz.func207 hI J (Dt (Be hI J J J Dc J) Fi) J (.keep (.keep (.drop (.drop .nil)))) (.same _) ⟨J,J⟩
   refine Cd J (fun hc=>?_) (fun hc=>?_)
   ·refine O<|Z (.q ids 0 g) J Ad<|An [0] hI J J (Ci 80 s0_l s0_end _ (ix ids 0) w w1 w2 w3 w4 w5 w6 w7 g (by exact hI.sub' J J)) J J J J J J (fun v _=>Ao (K:=2) (N:=2) Tryz.func207 hI) ?_
    rintro _ _ _ _ ⟨rfl,rfl⟩
    refine Aw [0] hI J J J ?_
    refine Ap<|Aa<|Bo (hJ2 () _ _ ⟨J,J⟩)
   refine Az<|Bo (hJ2 () _ _ ⟨J,J⟩)
  ·refine A4 (t:=25) hb3 J<|Ab 10 [] [(35,(.bool true))] ?_
   refine Bj<|Ch [(0,(.q ids 0 g)),(6,(.q ids 2 g2)),(35,(.bool true))] (FI J)<|hJ1 true _ _ ⟨J,J⟩
  refine A4 (t:=25) hb3 J<|Ab 5 [0] [(30,(.sl 4 (List.map Ac s0_l))),(26,(.func (.func 211) [] [(.q ids 1 g1)]))] ?_
  refine Ey fun a1 hz1 hx2=>B0 (tj:=25) (.cp (Ac a1) 0) J J J (Bt (Dy Cx Dc J hz1 hx2))<|B0 (tj:=25) (.agg (Ac a1)) J J J (Au (Cp Dc J))<|Bz [(.agg (Ac a1)),(.q ids 1 g1)] J (Co (tj:=25) J J) J J (CP.lend (Xh a1 s1) (LF.lfz (.cons (.same _) (.cons (.ptrL (hI.at J J) J J (Zt _)) .nil))) (fun _ _=>(.bool _))) (fun v _=>Ao (K:=2) (N:=2) Tryz.func207 hI) fun r _=>Ab 2 [] [(35,(.bool (!r)))] ?_
  refine Bj<|Ch [(0,(.q ids 0 g)),(6,(.q ids 2 g2)),(35,(.bool (!r)))] (FI J)<|hJ1 (!r) _ _ ⟨J,J⟩
 ·refine A4 (t:=14) hb1 J<|Ab 10 [] [(24,(.bool true))] ?_
  refine Bj<|Ch [(0,(.q ids 0 g)),(2,(.func (.func 211) [] [(.q ids 1 g1)])),(6,(.q ids 2 g2)),(24,(.bool true))] (FI J)<|hJ true _ _ ⟨J,J⟩
 refine A4 (t:=14) hb1 J<|Ab 4 [0] [(18,(.sl 4 (List.map Ac s0_l)))] ?_
 refine Ey fun a hz hx1=>B0 (tj:=14) (.cp (Ac a) 0) J J J (Bt (Dy Cx Dc J hz hx1))<|Ab 5 [] [(24,(.bool (a.Kind != kind)))] ?_
 refine Bj<|Ch [(0,(.q ids 0 g)),(2,(.func (.func 211) [] [(.q ids 1 g1)])),(6,(.q ids 2 g2)),(24,(.bool (a.Kind != kind)))] (FI J)<|hJ (a.Kind != kind) _ _ ⟨J,J⟩
theorem C5 (text:Ar)(s_l:List Token)(s_end:Int)(h0:Ae)(o0:Nat)(w:AV)(w1:AV)(w2:AV)(w3:AV)(w4:AV)(w5:AV)(w6:AV)(w7:AV)(g:Nat)(hI0:Ids h0 [o0] 1):Cf text s_l s_end≠.bad→Bh Tryz.prog 175 [(.ptr o0 g 0 0),(.str text)] (hp h0 [o0] [some (.rows g 10 [[(.sl 4 (List.map Ac s_l)),(.int .i64 s_end),w,w1,w2,w3,w4,w5,w6,w7]])]) (Cs (fun a_ v h'=>v=(.tup [])∧h'=hp h0 [o0] [some (.rows g 10 [[(.sl 4 (List.map Ac (s_l.drop 1))),(.int .i64 s_end),w,w1,w2,w3,w4,w5,w6,w7]])]) h0 (Cf text s_l s_end)):=by
 refine Bb (n:=7) 1 Tryz.func175 J (by decide) J J hI0 J fun ids he hI=>?_
 clear hI0
 obtain rfl:ix ids 0=o0:=he 0 rfl
 clear he
 refine Bm (Ak (Cf.eq_1 _ _ _) ?_)
 refine Aj ?_
 refine Y<|O<|Cv (v:=(.str text)) (j:=1) hI J J J J J J J fun g1=>Aa<|Aj ?_
 refine O<|Ab 2 [] [(5,(.func (.func 211) [] [(.q ids 1 g1)])),(4,(.q ids 0 g))] ?_
 refine An [0,1] hI J J (Ws 3 s_l s_end text _ (ix ids 0) (ix ids 1) w w1 w2 w3 w4 w5 w6 w7 g g1 (by exact hI.sub' J J)) J J J J J J (fun v _=>Ao (K:=1) (N:=1) Tryz.func175 hI) ?_
 rintro r _ _ _ ⟨rfl,rfl⟩
 refine Aw [0,1] hI J J J ?_
 refine Ap<|Aa<|Aj ?_
 exact Ce (K:=1) (N:=1) (a:=()) (vs:=[]) [some (.rows g 10 [[(.sl 4 (List.map Ac (s_l.drop 1))),(.I s_end),w,w1,w2,w3,w4,w5,w6,w7]])] Tryz.func175 hI J J J (.keep (.drop .nil)) (.same _) ⟨J,J⟩
theorem Vp (s:Ar)(s1_l:List Token)(s1_end:Int)(h0:Ae)(o0:Nat)(o1:Nat)(g:Nat)(w:AV)(w1:AV)(w2:AV)(w3:AV)(w4:AV)(w5:AV)(w6:AV)(w7:AV)(g1:Nat)(hI0:Ids h0 [o0,o1] 2):F7 s s1_l s1_end≠.bad→Bh Tryz.prog 196 [(.str s),(.ptr o0 g 0 0)] (hp h0 [o0,o1] [some (.rows g 1 [[(.ptr o1 g1 0 0)]]),some (.rows g1 10 [[(.sl 4 (List.map Ac s1_l)),(.int .i64 s1_end),w,w1,w2,w3,w4,w5,w6,w7]])]) (Cs (fun a_ v h'=>v=(.agg (Bx a_))∧h'=hp h0 [o0,o1] [some (.rows g 1 [[(.ptr o1 g1 0 0)]]),some (.rows g1 10 [[(.sl 4 (List.map Ac ((((((s1_l.drop 1).drop 1).drop 1).drop 1).drop 1).drop 1))),(.int .i64 s1_end),w,w1,w2,w3,w4,w5,w6,w7]])]) h0 (F7 s s1_l s1_end)):=by
 refine Bb (n:=25) 2 Tryz.func196 J (by decide) J J hI0 J fun ids he hI=>?_
 clear hI0
 obtain rfl:ix ids 0=o0:=he 0 rfl
 obtain rfl:ix ids 1=o1:=he 1 rfl
 clear he
 refine Bm (Ak (F7.eq_1 _ _ _) ?_)
 refine Aj ?_
 refine Y<|O<|Bc (j:=2) hI J J J J Na J fun g2=>Aa<|Aj ?_
 refine Y<|O<|Ab 2 [] [(6,(.agg [(.str s),(.I 0),(.I 0),(.I 0)]))] ?_
 refine Bc (j:=3) hI J J J J Na J fun g3=>Aq (Ax (v:=(.agg [(.str s),(.I 0),(.I 0),(.I 0)])) hI J J J J Na J J J J J)<|Aa<|Aj ?_
 refine Y<|O<|Ab 1 [0] [(7,(.q ids 1 g1))] ?_
 refine An [1] hI J J (Dn [115,108,111,119] s1_l s1_end _ (ix ids 1) w w1 w2 w3 w4 w5 w6 w7 g1 (by exact hI.sub' J J)) J J J J J J (fun v _=>Ao (K:=2) (N:=2) Tryz.func196 hI) ?_
 rintro _ _ _ _ ⟨rfl,rfl⟩
 refine Aw [1] hI J J J ?_
 refine Ap<|Aa<|Aj ?_
 refine Y<|O<|Ab 1 [0] [(9,(.q ids 1 g1))] ?_
 refine An [1] hI J J (Ej 1 64 (s1_l.drop 1) s1_end _ (ix ids 1) w w1 w2 w3 w4 w5 w6 w7 g1 (by exact hI.sub' J J)) J J J J J J (fun v _=>Ao (K:=2) (N:=2) Tryz.func196 hI) ?_
 rintro r1 _ _ _ ⟨rfl,rfl⟩
 refine Aw [1] hI J J J ?_
 refine Ap<|Z (.ptr (ix ids 3) g3 0 1) J (B9 (By (c:=0) (off:=1) (i:=1) Na J Ds J))<|Aq (Ax (v:=(.I r1)) hI J J J J Ds J J J J J)<|Aa<|Aj ?_
 refine Y<|O<|Ab 1 [0] [(12,(.q ids 1 g1))] ?_
 refine An [1] hI J J (Dn [102,97,115,116] ((s1_l.drop 1).drop 1) s1_end _ (ix ids 1) w w1 w2 w3 w4 w5 w6 w7 g1 (by exact hI.sub' J J)) J J J J J J (fun v _=>Ao (K:=2) (N:=2) Tryz.func196 hI) ?_
 rintro _ _ _ _ ⟨rfl,rfl⟩
 refine Aw [1] hI J J J ?_
 refine Ap<|Aa<|Aj ?_
 refine Y<|O<|Ab 3 [0,3] [(16,(.I r1)),(14,(.q ids 1 g1))] ?_
 refine An [1] hI J J (Ej r1 64 (((s1_l.drop 1).drop 1).drop 1) s1_end _ (ix ids 1) w w1 w2 w3 w4 w5 w6 w7 g1 (by exact hI.sub' J J)) J J J J J J (fun v _=>Ao (K:=2) (N:=2) Tryz.func196 hI) ?_
 rintro r3 _ _ _ ⟨rfl,rfl⟩
 refine Aw [1] hI J J J ?_
 refine Ap<|Z (.ptr (ix ids 3) g3 0 2) J (B9 (By (c:=0) (off:=2) (i:=2) Na J Ds J))<|Aq (Ax (v:=(.I r3)) hI J J J J Ds J J J J J)<|Aa<|Aj ?_
 refine Y<|O<|Ab 1 [0] [(19,(.q ids 1 g1))] ?_
 refine An [1] hI J J (Dn [112,108,97,99,101,115] ((((s1_l.drop 1).drop 1).drop 1).drop 1) s1_end _ (ix ids 1) w w1 w2 w3 w4 w5 w6 w7 g1 (by exact hI.sub' J J)) J J J J J J (fun v _=>Ao (K:=2) (N:=2) Tryz.func196 hI) ?_
 rintro _ _ _ _ ⟨rfl,rfl⟩
 refine Aw [1] hI J J J ?_
 refine Ap<|Aa<|Aj ?_
 refine Y<|O<|Ab 1 [0] [(21,(.q ids 1 g1))] ?_
 refine An [1] hI J J (Ej 1 8 (((((s1_l.drop 1).drop 1).drop 1).drop 1).drop 1) s1_end _ (ix ids 1) w w1 w2 w3 w4 w5 w6 w7 g1 (by exact hI.sub' J J)) J J J J J J (fun v _=>Ao (K:=2) (N:=2) Tryz.func196 hI) ?_
 rintro r5 _ _ _ ⟨rfl,rfl⟩
 refine Aw [1] hI J J J ?_
 refine Ap<|Z (.ptr (ix ids 3) g3 0 3) J (B9 (By (c:=0) (off:=3) (i:=3) Na J Ds J))<|Aq (Ax (v:=(.I r5)) hI J J J J Ds J J J J J)<|Aa<|Aj ?_
 refine Y<|O<|Ab 1 [3] [(24,(.agg [(.str s),(.I r1),(.I r3),(.I r5)]))] ?_
 refine Aq (Ax (v:=(.agg [(.str s),(.I r1),(.I r3),(.I r5)])) hI J J J J Na J J J J J)<|Aa<|Aj ?_
 exact D3 (K:=2) (N:=2) (a:=({ Name:=s,Slow:=r1,Fast:=r3,Places:=r5 }:Class)) (vs:=[(.agg [(.str s),(.I r1),(.I r3),(.I r5)])]) [some (.rows g 1 [[(.q ids 1 g1)]]),some (.rows g1 10 [[(.sl 4 (List.map Ac ((((((s1_l.drop 1).drop 1).drop 1).drop 1).drop 1).drop 1))),(.I s1_end),w,w1,w2,w3,w4,w5,w6,w7]])] Tryz.func196 hI J (Dt (Be hI J J J Na J) Fi) J (.keep (.keep (.drop (.drop .nil)))) (.aggL (.cons (.same _) (.cons (.same _) (.cons (.same _) (.cons (.same _) .nil))))) ⟨J,J⟩
theorem Sl (s_l:List Token)(s_end:Int)(h0:Ae)(o0:Nat)(w:AV)(w1:AV)(w2:AV)(w3:AV)(w4:AV)(w5:AV)(w6:AV)(w7:AV)(g:Nat)(hI0:Ids h0 [o0] 1):Ig s_l s_end≠.bad→Bh Tryz.prog 200 [(.ptr o0 g 0 0)] (hp h0 [o0] [some (.rows g 10 [[(.sl 4 (List.map Ac s_l)),(.int .i64 s_end),w,w1,w2,w3,w4,w5,w6,w7]])]) (Cs (fun a_ v h'=>v=(.agg (Cc a_))∧h'=hp h0 [o0] [some (.rows g 10 [[(.sl 4 (List.map Ac (((s_l.drop 1).drop 1).drop 1))),(.int .i64 s_end),w,w1,w2,w3,w4,w5,w6,w7]])]) h0 (Ig s_l s_end)):=by
 refine Bb (n:=15) 1 Tryz.func200 J (by decide) J J hI0 J fun ids he hI=>?_
 clear hI0
 obtain rfl:ix ids 0=o0:=he 0 rfl
 clear he
 refine Bm (Ak (Ig.eq_1 _ _) ?_)
 refine Aj ?_
 refine Y<|O<|Bc (j:=1) hI J J J J Ly J fun g1=>Aa<|Aj ?_
 refine Y<|O<|Z (.q ids 0 g) J Ad<|An [0] hI J J (Ej 0 1439 s_l s_end _ (ix ids 0) w w1 w2 w3 w4 w5 w6 w7 g (by exact hI.sub' J J)) J J J J J J (fun v _=>Ao (K:=1) (N:=1) Tryz.func200 hI) ?_
 rintro r _ _ _ ⟨rfl,rfl⟩
 refine Aw [0] hI J J J ?_
 refine Ap<|Z (.q ids 1 g1) J (B9 (By (c:=0) (off:=0) (i:=0) Ly J Ds J))<|Aq (Ax (v:=(.I r)) hI J J J J Ds J J J J J)<|Aa<|Aj ?_
 refine Y<|O<|Z (.q ids 0 g) J Ad<|An [0] hI J J (Dn [116,111] (s_l.drop 1) s_end _ (ix ids 0) w w1 w2 w3 w4 w5 w6 w7 g (by exact hI.sub' J J)) J J J J J J (fun v _=>Ao (K:=1) (N:=1) Tryz.func200 hI) ?_
 rintro _ _ _ _ ⟨rfl,rfl⟩
 refine Aw [0] hI J J J ?_
 refine Ap<|Aa<|Aj ?_
 refine Y<|O<|Ab 4 [1] [(11,(.I (IntKind.wrap .i64 (r+1)))),(8,(.q ids 0 g))] ?_
 refine An [0] hI J J (Ej (IntKind.wrap .i64 (r+1)) 1440 ((s_l.drop 1).drop 1) s_end _ (ix ids 0) w w1 w2 w3 w4 w5 w6 w7 g (by exact hI.sub' J J)) J J J J J J (fun v _=>Ao (K:=1) (N:=1) Tryz.func200 hI) ?_
 rintro r2 _ _ _ ⟨rfl,rfl⟩
 refine Aw [0] hI J J J ?_
 refine Ap<|Z (.ptr (ix ids 1) g1 0 1) J (B9 (By (c:=0) (off:=1) (i:=1) Ly J Ds J))<|Aq (Ax (v:=(.I r2)) hI J J J J Ds J J J J J)<|Aa<|Aj ?_
 refine Y<|O<|Ab 1 [1] [(14,(.agg [(.I r),(.I r2)]))] ?_
 refine Aq (Ax (v:=(.agg [(.I r),(.I r2)])) hI J J J J Ly J J J J J)<|Aa<|D3 (K:=1) (N:=1) (a:=({ From:=r,To:=r2 }:Span)) (vs:=[(.agg [(.I r),(.I r2)])]) [some (.rows g 10 [[(.sl 4 (List.map Ac (((s_l.drop 1).drop 1).drop 1))),(.I s_end),w,w1,w2,w3,w4,w5,w6,w7]])] Tryz.func200 hI J (Dt (Be hI J J J Ly J) Fi) J (.keep (.drop .nil)) (.aggL (.cons (.same _) (.cons (.same _) .nil))) ⟨J,J⟩
theorem Vi (s0:Rule)(s2_l:List Token)(s2_end:Int)(h0:Ae)(o0:Nat)(o1:Nat)(o2:Nat)(g:Nat)(g1:Nat)(w:AV)(w1:AV)(w2:AV)(w3:AV)(w4:AV)(w5:AV)(w6:AV)(w7:AV)(g2:Nat)(hI0:Ids h0 [o0,o1,o2] 3):Lm s0 s2_l s2_end≠.bad→Bh Tryz.prog 199 [(.ptr o0 g 0 0),(.ptr o1 g1 0 0)] (hp h0 [o0,o1,o2] [some (.rows g 8 [(A7 s0)]),some (.rows g1 1 [[(.ptr o2 g2 0 0)]]),some (.rows g2 10 [[(.sl 4 (List.map Ac s2_l)),(.int .i64 s2_end),w,w1,w2,w3,w4,w5,w6,w7]])]) (Cs (fun a_ v h'=>v=(.tup [])∧h'=hp h0 [o0,o1,o2] [some (.rows g 8 [(A7 a_)]),some (.rows g1 1 [[(.ptr o2 g2 0 0)]]),some (.rows g2 10 [[(.sl 4 (List.map Ac (((((s2_l.drop 1).drop 1).drop 1).drop 1).drop 1))),(.int .i64 s2_end),w,w1,w2,w3,w4,w5,w6,w7]])]) h0 (Lm s0 s2_l s2_end)):=by
 refine Bb (n:=15) 0 Tryz.func199 J (by decide) J J hI0 J fun ids he hI=>?_
 clear hI0
 obtain rfl:ix ids 0=o0:=he 0 rfl
 obtain rfl:ix ids 1=o1:=he 1 rfl
 obtain rfl:ix ids 2=o2:=he 2 rfl
 clear he
 refine Bm (Ak (Lm.eq_1 _ _ _) ?_)
 refine Y<|O<|Ab 1 [1] [(3,(.q ids 2 g2))] ?_
 refine An [2] hI J J (Dn [97,116] s2_l s2_end _ (ix ids 2) w w1 w2 w3 w4 w5 w6 w7 g2 (by exact hI.sub' J J)) J J J J J J (fun v _=>Ao (K:=3) (N:=0) Tryz.func199 hI) ?_
 rintro _ _ _ _ ⟨rfl,rfl⟩
 refine Aw [2] hI J J J ?_
 refine Ap<|Aa<|Aj ?_
 refine Y<|O<|Ab 2 [1] [(6,(.q ids 2 g2)),(5,(.q ids 0 g))] ?_
 refine An [2] hI J J (Cu (s2_l.drop 1) s2_end _ (ix ids 2) w w1 w2 w3 w4 w5 w6 w7 g2 (by exact hI.sub' J J)) J J J J J J (fun v _=>Ao (K:=3) (N:=0) Tryz.func199 hI) ?_
 rintro r1 _ _ _ ⟨rfl,rfl⟩
 refine Aw [2] hI J J J ?_
 refine Ap<|Ab 2 [] [(9,(.ptr (ix ids 0) g 0 2))] ?_
 refine Aq (Ax (v:=(.str r1)) hI J J J J Cy J J J J J)<|Aa<|Aj ?_
 refine O<|Ab 2 [1] [(11,(.q ids 2 g2)),(10,(.q ids 0 g))] ?_
 refine An [2] hI J J (Sl ((s2_l.drop 1).drop 1) s2_end _ (ix ids 2) w w1 w2 w3 w4 w5 w6 w7 g2 (by exact hI.sub' J J)) J J J J J J (fun v _=>Ao (K:=3) (N:=0) Tryz.func199 hI) ?_
 rintro r2 _ _ _ ⟨rfl,rfl⟩
 refine Aw [2] hI J J J ?_
 refine Ap<|Ab 2 [] [(14,(.ptr (ix ids 0) g 0 6))] ?_
 refine Aq (Ax (v:=(.agg (Cc r2))) hI J J J J Ly J J J J J)<|Aa<|Aj ?_
 exact Ce (K:=3) (N:=0) (a:=({ Kind:=s0.Kind,C:=s0.C,A:=r1,Class:=s0.Class,Airport:=s0.Airport,N:=s0.N,Hours:=r2 }:Rule)) (vs:=[]) [some (.rows g 8 [(A7 ({ Kind:=s0.Kind,C:=s0.C,A:=r1,Class:=s0.Class,Airport:=s0.Airport,N:=s0.N,Hours:=r2 }:Rule))]),some (.rows g1 1 [[(.q ids 2 g2)]]),some (.rows g2 10 [[(.sl 4 (List.map Ac (((((s2_l.drop 1).drop 1).drop 1).drop 1).drop 1))),(.I s2_end),w,w1,w2,w3,w4,w5,w6,w7]])] Tryz.func199 hI J J J (.fz (.cons (.same _) (.cons (.same _) (.cons (.same _) (.cons (.same _) (.cons (.same _) (.cons (.same _) (.cons (.same _) (.cons (.same _) .nil)))))))) J (Cz J (Cz J (Cz J (Cz J (Cz J (Cz J (Cz J (Cz J Xu)))))))) (.keep (.keep .nil))) (.same _) ⟨J,J⟩
theorem Wc (class1:Ar)(s0:Int)(s3_l:List Token)(s3_end:Int)(h0:Ae)(o0:Nat)(o1:Nat)(o2:Nat)(o3:Nat)(g:Nat)(g1:Nat)(g2:Nat)(w:AV)(w1:AV)(w2:AV)(w3:AV)(w4:AV)(w5:AV)(w6:AV)(w7:AV)(g3:Nat)(hI0:Ids h0 [o0,o1,o2,o3] 4):Gk class1 s0 s3_l s3_end≠.bad→Bh Tryz.prog 216 [(.str class1),(.ptr o0 g 0 0),(.ptr o1 g1 0 0)] (hp h0 [o0,o1,o2,o3] [some (.rows g 1 [[(.int .i64 s0)]]),some (.rows g1 1 [[(.func (.func 199) [] [(.ptr o2 g2 0 0)])]]),some (.rows g2 1 [[(.ptr o3 g3 0 0)]]),some (.rows g3 10 [[(.sl 4 (List.map Ac s3_l)),(.int .i64 s3_end),w,w1,w2,w3,w4,w5,w6,w7]])]) (Cs (fun a_ v h'=>v=(.agg (A7 a_))∧h'=hp h0 [o0,o1,o2,o3] [some (.rows g 1 [[(.int .i64 s0)]]),some (.rows g1 1 [[(.func (.func 199) [] [(.ptr o2 g2 0 0)])]]),some (.rows g2 1 [[(.ptr o3 g3 0 0)]]),some (.rows g3 10 [[(.sl 4 (List.map Ac (((((s3_l.drop 1).drop 1).drop 1).drop 1).drop 1))),(.int .i64 s3_end),w,w1,w2,w3,w4,w5,w6,w7]])]) h0 (Gk class1 s0 s3_l s3_end)):=by
 refine Bb (n:=12) 2 Tryz.func216 J (by decide) J J hI0 J fun ids he hI=>?_
 clear hI0
 obtain rfl:ix ids 0=o0:=he 0 rfl
 obtain rfl:ix ids 1=o1:=he 1 rfl
 obtain rfl:ix ids 2=o2:=he 2 rfl
 obtain rfl:ix ids 3=o3:=he 3 rfl
 clear he
 refine Bm (Ak (Gk.eq_1 _ _ _ _) ?_)
 refine Aj ?_
 refine Y<|O<|Bc (j:=4) hI J J J J Do J fun g4=>Aa<|Aj ?_
 refine Y<|O<|Ab 3 [0] [(8,(.agg [(.I s0),(.str class1),(.str []),(.I 0),(.I 0),(.I 0),(.I 0),(.I 0)]))] ?_
 refine Bc (j:=5) hI J J J J Do J fun g5=>Aq (Ax (v:=(.agg [(.I s0),(.str class1),(.str []),(.I 0),(.I 0),(.I 0),(.I 0),(.I 0)])) hI J J J J Do J J J J J)<|Aa<|Aj ?_
 refine Y<|O<|Ab 1 [1] [(9,(.func (.func 199) [] [(.q ids 2 g2)]))] ?_
 refine An [5,2,3] hI J J (Vi ({ Kind:=s0,C:=class1,A:=[],Class:=0,Airport:=0,N:=0,Hours:=({ From:=0,To:=0 }:Span) }:Rule) s3_l s3_end _ (ix ids 5) (ix ids 2) (ix ids 3) g5 g2 w w1 w2 w3 w4 w5 w6 w7 g3 (by exact hI.sub' J J)) J J J J J J (fun v _=>Ao (K:=4) (N:=2) Tryz.func216 hI) ?_
 rintro r _ _ _ ⟨rfl,rfl⟩
 refine Aw [5,2,3] hI J J J ?_
 refine Ap<|Aa<|Aj ?_
 refine Y<|O<|Ab 1 [5] [(11,(.agg (A7 r)))] ?_
 refine Aq (Ax (v:=(.agg (A7 r))) hI J J J J Do J J J J J)<|Aa<|Aj ?_
 exact D3 (K:=4) (N:=2) (a:=r) (vs:=[(.agg (A7 r))]) [some (.rows g 1 [[(.I s0)]]),some (.rows g1 1 [[(.func (.func 199) [] [(.q ids 2 g2)])]]),some (.rows g2 1 [[(.q ids 3 g3)]]),some (.rows g3 10 [[(.sl 4 (List.map Ac (((((s3_l.drop 1).drop 1).drop 1).drop 1).drop 1))),(.I s3_end),w,w1,w2,w3,w4,w5,w6,w7]])] Tryz.func216 hI J (Dt (Be hI J J J Do J) Fi) J (.keep (.keep (.keep (.keep (.drop (.drop .nil)))))) (.same _) ⟨J,J⟩
theorem Vq (a:Rule):CP Tryz.prog 202 [(.cp (A7 a) 0)] (Oh a) (fun(_:Unit)=>AV.tup []):=by
 refine C3 (n:=2) 0 Tryz.func202 J (by decide) J J fun h0 ids hI=>Bm (Ak (Oh.eq_1 _) ?_)
 refine Az<|As8 (a:=()) (vs:=[]) Tryz.func202 hI J (.tupL .nil)
theorem V7 (class1:Ar)(s0:Int)(h0:Ae)(o0:Nat)(o1:Nat)(g:Nat)(g1:Nat)(hI0:Ids h0 [o0,o1] 2):Hv class1 s0≠.bad→Bh Tryz.prog 216 [(.str class1),(.ptr o0 g 0 0),(.ptr o1 g1 0 0)] (hp h0 [o0,o1] [some (.rows g 1 [[(.int .i64 s0)]]),some (.rows g1 1 [[(.func (.func 202) [] [])]])]) (Cs (fun a_ v h'=>v=(.agg [(.int .i64 s0),(.str class1),(.str []),(.int .i64 0),(.int .i64 0),(.int .i64 0),(.int .i64 0),(.int .i64 0)])∧h'=hp h0 [o0,o1] [some (.rows g 1 [[(.int .i64 s0)]]),some (.rows g1 1 [[(.func (.func 202) [] [])]])]) h0 (Hv class1 s0)):=by
 refine Bb (n:=12) 2 Tryz.func216 J (by decide) J J hI0 J fun ids he hI=>?_
 clear hI0
 obtain rfl:ix ids 0=o0:=he 0 rfl
 obtain rfl:ix ids 1=o1:=he 1 rfl
 clear he
 refine Bm (Ak (Hv.eq_1 _ _) ?_)
 refine Aj ?_
 refine Y<|O<|Bc (j:=2) hI J J J J Do J fun g2=>Aa<|Aj ?_
 refine Y<|O<|Ab 3 [0] [(8,(.agg [(.I s0),(.str class1),(.str []),(.I 0),(.I 0),(.I 0),(.I 0),(.I 0)]))] ?_
 refine Bc (j:=3) hI J J J J Do J fun g3=>Aq (Ax (v:=(.agg [(.I s0),(.str class1),(.str []),(.I 0),(.I 0),(.I 0),(.I 0),(.I 0)])) hI J J J J Do J J J J J)<|Aa<|Aj ?_
 refine Y<|O<|Ab 1 [1] [(9,(.func (.func 202) [] []))] ?_
 refine Bz [(.q ids 3 g3)] J J J J (CP.lend (Vq ({ Kind:=s0,C:=class1,A:=[],Class:=0,Airport:=0,N:=0,Hours:=({ From:=0,To:=0 }:Span) }:Rule)) (LF.lfz (.cons (.ptrL (hI.at J J) J J (.cons (.same _) (.cons (.same _) (.cons (.same _) (.cons (.same _) (.cons (.same _) (.cons (.same _) (.cons (.same _) (.cons (.same _) .nil))))))))) .nil)) (fun _ _=>.tup0)) (fun v _=>Ao (K:=2) (N:=2) Tryz.func216 hI) fun _ _=>Aa<|Y<|O<|Ab 1 [3] [(11,(.agg [(.I s0),(.str class1),(.str []),(.I 0),(.I 0),(.I 0),(.I 0),(.I 0)]))] ?_
 refine Aq (Ax (v:=(.agg [(.I s0),(.str class1),(.str []),(.I 0),(.I 0),(.I 0),(.I 0),(.I 0)])) hI J J J J Do J J J J J)<|Aa<|Aj ?_
 exact D3 (K:=2) (N:=2) (a:=()) (vs:=[(.agg [(.I s0),(.str class1),(.str []),(.I 0),(.I 0),(.I 0),(.I 0),(.I 0)])]) [some (.rows g 1 [[(.I s0)]]),some (.rows g1 1 [[(.func (.func 202) [] [])]])] Tryz.func216 hI J (Dt (Be hI J J J Do J) Fi) J (.keep (.keep (.drop (.drop .nil)))) (.same _) ⟨J,J⟩
theorem Tf (t:Token):CP Tryz.prog 208 [(.agg (Ac t))] (Hg t) (fun(x:Bool)=>(AV.bool x)):=by
 refine C3 (n:=12) 1 Tryz.func208 J (by decide) J J fun h0 ids hI=>Bm (Ak (Hg.eq_1 _) ?_)
 refine Y<|O<|Cv (v:=(.agg (Ac t))) (j:=0) hI J J J J J J J fun g=>Z (.bool false) J Al<|Aa<|Aj ?_
 refine Y<|O<|Ab 4 [0] [(6,(.bool (decide (t.N≤60))))] ?_
 refine B8 5 [(11,(.bool ((decide (t.N≤60))&&((Int.tmod t.N 10)==0))))] ?_ fun hJ=>Bu (decide (t.N≤60)) (fun hb1=>?_) (fun hb1=>?_)
 ·refine Z (.bool ((decide (t.N≤60))&&((Int.tmod t.N 10)==0))) J Al<|Aa<|Bs (a:=((decide (t.N≤60))&&((Int.tmod t.N 10)==0))) (vs:=[(.bool ((decide (t.N≤60))&&((Int.tmod t.N 10)==0)))]) Tryz.func208 hI J (.same _)
 ·refine A4 (t:=6) hb1 J<|Ab 2 [0] [(8,(.I t.N))] ?_
  refine B0 (tj:=6) (.I (Int.tmod t.N 10)) J J J (Ba J J (Ajy J (by decide)))<|Ab 2 [] [(11,(.bool ((Int.tmod t.N 10)==0)))] ?_
  exact Bk hJ (.cons (Lf hb1) .nil)
 refine A4 (t:=6) hb1 J<|Ab 5 [] [(11,(.bool false))] ?_
 exact Bk hJ (.cons (Li hb1) .nil)
theorem V8 (kind:Int)(s_l:List Token)(s_end:Int)(h0:Ae)(o0:Nat)(w:AV)(w1:AV)(w2:AV)(w3:AV)(w4:AV)(w5:AV)(w6:AV)(w7:AV)(g:Nat)(hI0:Ids h0 [o0] 1):H0 kind s_l s_end≠.bad→Bh Tryz.prog 207 [(.ptr o0 g 0 0),(.int .i64 kind),(.func (.func 208) [] [])] (hp h0 [o0] [some (.rows g 10 [[(.sl 4 (List.map Ac s_l)),(.int .i64 s_end),w,w1,w2,w3,w4,w5,w6,w7]])]) (Cs (fun a_ v h'=>v=(.agg (Ac a_))∧h'=hp h0 [o0] [some (.rows g 10 [[(.sl 4 (List.map Ac (s_l.drop 1))),(.int .i64 s_end),w,w1,w2,w3,w4,w5,w6,w7]])]) h0 (H0 kind s_l s_end)):=by
 refine Bb (n:=53) 2 Tryz.func207 J (by decide) J J hI0 J fun ids he hI=>?_
 clear hI0
 obtain rfl:ix ids 0=o0:=he 0 rfl
 clear he
 refine Bm (Ak (H0.eq_1 _ _ _) ?_)
 refine Aj ?_
 refine Y<|O<|Bc (j:=1) hI J J J J Dc J fun g1=>Aa<|Aj ?_
 refine Y<|Y<|O<|Ab 4 [0] [(11,(.sl 4 (List.map Ac s_l)))] ?_
 refine Z (.I (s_l.length:Int)) J (A0 (Bd Cx))<|Ab 2 [] [(14,(.bool ((s_l.length:Int)==0)))] ?_
 refine Dk 10 ((fun(b:Bool)=>(if b then R.ok true else(E0 s_l 0).bind fun a1=>(Hg a1).bind fun r=>R.ok (!r)).bind (fun(b1:Bool)=>if b1 then((Bl 80 s_l s_end).bind fun _=>Ev s_l) else(Ev s_l))):Bool→R Token) (fun(b:Bool) (fr:Nat→AV) (h:Ae)=>fr=A2 [(0,(.q ids 0 g)),(2,(.func (.func 208) [] [])),(6,(.q ids 1 g1)),(24,(.bool b))]∧h=hp h0 ids [(some (.rows g 10 [[(.sl 4 (List.map Ac s_l)),(.I s_end),w,w1,w2,w3,w4,w5,w6,w7]])),(some (.rows g1 4 [[(.I 0),(.str []),(.I 0),(.I 0)]])),none]) ?_ fun hJ=>D7 (fun hb1=>?_) (fun hb1=>?_)
 ·rintro b fr h ⟨rfl,rfl⟩
  refine Z (.bool b) J Ad<|Dk 10 ((fun(b1:Bool)=>if b1 then((Bl 80 s_l s_end).bind fun _=>Ev s_l) else(Ev s_l)):Bool→R Token) (fun(b1:Bool) (fr:Nat→AV) (h:Ae)=>fr=A2 [(0,(.q ids 0 g)),(6,(.q ids 1 g1)),(35,(.bool b1))]∧h=hp h0 ids [(some (.rows g 10 [[(.sl 4 (List.map Ac s_l)),(.I s_end),w,w1,w2,w3,w4,w5,w6,w7]])),(some (.rows g1 4 [[(.I 0),(.str []),(.I 0),(.I 0)]])),none]) ?_ fun hJ1=>D7 (fun hb3=>?_) (fun hb3=>?_)
  ·rintro b1 fr h ⟨rfl,rfl⟩
   refine Aa<|Ed (π:=Unit) (fun _=>Ev s_l) (fun _=>fun(fr:Nat→AV) (h:Ae)=>fr=A2 [(0,(.q ids 0 g)),(6,(.q ids 1 g1))]∧h=hp h0 ids [(some (.rows g 10 [[(.sl 4 (List.map Ac s_l)),(.I s_end),w,w1,w2,w3,w4,w5,w6,w7]])),(some (.rows g1 4 [[(.I 0),(.str []),(.I 0),(.I 0)]])),none]) ?_ fun hJ2=>?_
   ·rintro _ fr h ⟨rfl,rfl⟩
    refine Ak (Ev.eq_1 _)<|Y<|O<|Ab 4 [0] [(41,(.sl 4 (List.map Ac s_l)))] ?_
    refine Ey fun a2 hz2 hx3=>Z (.cp (Ac a2) 0) J (Bt (Dy Cx Dc J hz2 hx3))<|Z (.agg (Ac a2)) J (Au (Cp Dc J))<|Bc (j:=2) hI J J J J Dc J fun g2=>Aq (Ax (v:=(.agg (Ac a2))) hI J J J J Dc J J J J J)<|Aa<|Aj ?_
    refine Y<|O<|Ab 5 [0] [(48,(.sl 4 (List.map Ac s_l))),(44,(.q ids 0 g))] ?_
    refine Gb fun hs=>Z (.sl 4 (List.map Ac (s_l.drop 1))) J (Gu (Ny Cx Dc J hs))<|Ab 2 [] [(51,(.q ids 0 g))] ?_
    refine Aq (Ax (v:=(.sl 4 (List.map Ac (s_l.drop 1)))) hI J J J J Cx J J J J J)<|Aa<|Aj ?_
    refine Y<|O<|Ab 1 [2] [(52,(.agg (Ac a2)))] ?_
    refine Aq (Ax (v:=(.agg (Ac a2))) hI J J J J Dc J J J J J)<|Aa<|Aj ?_
    exact D3 (K:=1) (N:=2) (a:=a2) (vs:=[(.agg (Ac a2))]) [some (.rows g 10 [[(.sl 4 (List.map Ac (s_l.drop 1))),(.I s_end),w,w1,w2,w3,w4,w5,w6,w7]])] Tryz.func207 hI J (Dt (Be hI J J J Dc J) Fi) J (.keep (.drop (.drop .nil))) (.same _) ⟨J,J⟩
   refine Cd J (fun hc=>?_) (fun hc=>?_)
   ·refine O<|Z (.q ids 0 g) J Ad<|An [0] hI J J (Ci 80 s_l s_end _ (ix ids 0) w w1 w2 w3 w4 w5 w6 w7 g (by exact hI.sub' J J)) J J J J J J (fun v _=>Ao (K:=1) (N:=2) Tryz.func207 hI) ?_
    rintro _ _ _ _ ⟨rfl,rfl⟩
    refine Aw [0] hI J J J ?_
    refine Ap<|Aa<|Bo (hJ2 () _ _ ⟨J,J⟩)
   refine Az<|Bo (hJ2 () _ _ ⟨J,J⟩)
  ·refine A4 (t:=25) hb3 J<|Ab 10 [] [(35,(.bool true))] ?_
   refine Bj<|Ch [(0,(.q ids 0 g)),(6,(.q ids 1 g1)),(35,(.bool true))] (FI J)<|hJ1 true _ _ ⟨J,J⟩
  refine A4 (t:=25) hb3 J<|Ab 5 [0] [(30,(.sl 4 (List.map Ac s_l))),(26,(.func (.func 208) [] []))] ?_
  refine Ey fun a1 hz1 hx2=>B0 (tj:=25) (.cp (Ac a1) 0) J J J (Bt (Dy Cx Dc J hz1 hx2))<|B0 (tj:=25) (.agg (Ac a1)) J J J (Au (Cp Dc J))<|Bz [(.agg (Ac a1))] J (Co (tj:=25) J J) J J ((Tf a1) _) (fun v _=>Ao (K:=1) (N:=2) Tryz.func207 hI) fun r _=>Ab 2 [] [(35,(.bool (!r)))] ?_
  refine Bj<|Ch [(0,(.q ids 0 g)),(6,(.q ids 1 g1)),(35,(.bool (!r)))] (FI J)<|hJ1 (!r) _ _ ⟨J,J⟩
 ·refine A4 (t:=14) hb1 J<|Ab 10 [] [(24,(.bool true))] ?_
  refine Bj<|Ch [(0,(.q ids 0 g)),(2,(.func (.func 208) [] [])),(6,(.q ids 1 g1)),(24,(.bool true))] (FI J)<|hJ true _ _ ⟨J,J⟩
 refine A4 (t:=14) hb1 J<|Ab 4 [0] [(18,(.sl 4 (List.map Ac s_l)))] ?_
 refine Ey fun a hz hx1=>B0 (tj:=14) (.cp (Ac a) 0) J J J (Bt (Dy Cx Dc J hz hx1))<|Ab 5 [] [(24,(.bool (a.Kind != kind)))] ?_
 refine Bj<|Ch [(0,(.q ids 0 g)),(2,(.func (.func 208) [] [])),(6,(.q ids 1 g1)),(24,(.bool (a.Kind != kind)))] (FI J)<|hJ (a.Kind != kind) _ _ ⟨J,J⟩
theorem U2 (s0:Rule)(s2_l:List Token)(s2_end:Int)(h0:Ae)(o0:Nat)(o1:Nat)(o2:Nat)(g:Nat)(g1:Nat)(w:AV)(w1:AV)(w2:AV)(w3:AV)(w4:AV)(w5:AV)(w6:AV)(w7:AV)(g2:Nat)(hI0:Ids h0 [o0,o1,o2] 3):Ky s0 s2_l s2_end≠.bad→Bh Tryz.prog 206 [(.ptr o0 g 0 0),(.ptr o1 g1 0 0)] (hp h0 [o0,o1,o2] [some (.rows g 8 [(A7 s0)]),some (.rows g1 1 [[(.ptr o2 g2 0 0)]]),some (.rows g2 10 [[(.sl 4 (List.map Ac s2_l)),(.int .i64 s2_end),w,w1,w2,w3,w4,w5,w6,w7]])]) (Cs (fun a_ v h'=>v=(.tup [])∧h'=hp h0 [o0,o1,o2] [some (.rows g 8 [(A7 a_)]),some (.rows g1 1 [[(.ptr o2 g2 0 0)]]),some (.rows g2 10 [[(.sl 4 (List.map Ac (s2_l.drop 1))),(.int .i64 s2_end),w,w1,w2,w3,w4,w5,w6,w7]])]) h0 (Ky s0 s2_l s2_end)):=by
 refine Bb (n:=9) 0 Tryz.func206 J (by decide) J J hI0 J fun ids he hI=>?_
 clear hI0
 obtain rfl:ix ids 0=o0:=he 0 rfl
 obtain rfl:ix ids 1=o1:=he 1 rfl
 obtain rfl:ix ids 2=o2:=he 2 rfl
 clear he
 refine Bm (Ak (Ky.eq_1 _ _ _) ?_)
 refine O<|Ab 2 [1] [(4,(.q ids 2 g2)),(3,(.q ids 0 g))] ?_
 refine An [2] hI J J (V8 2 s2_l s2_end _ (ix ids 2) w w1 w2 w3 w4 w5 w6 w7 g2 (by exact hI.sub' J J)) J J J J J J (fun v _=>Ao (K:=3) (N:=0) Tryz.func206 hI) ?_
 rintro r _ _ _ ⟨rfl,rfl⟩
 refine Aw [2] hI J J J ?_
 refine Ap<|Ab 3 [] [(8,(.ptr (ix ids 0) g 0 5)),(6,(.I r.N))] ?_
 refine Aq (Ax (v:=(.I r.N)) hI J J J J Ds J J J J J)<|Aa<|Aj ?_
 exact Ce (K:=3) (N:=0) (a:=({ Kind:=s0.Kind,C:=s0.C,A:=s0.A,Class:=s0.Class,Airport:=s0.Airport,N:=r.N,Hours:=s0.Hours }:Rule)) (vs:=[]) [some (.rows g 8 [(A7 ({ Kind:=s0.Kind,C:=s0.C,A:=s0.A,Class:=s0.Class,Airport:=s0.Airport,N:=r.N,Hours:=s0.Hours }:Rule))]),some (.rows g1 1 [[(.q ids 2 g2)]]),some (.rows g2 10 [[(.sl 4 (List.map Ac (s2_l.drop 1))),(.I s2_end),w,w1,w2,w3,w4,w5,w6,w7]])] Tryz.func206 hI J J J (.fz (.cons (.same _) (.cons (.same _) (.cons (.same _) (.cons (.same _) (.cons (.same _) (.cons (.same _) (.cons (.same _) (.cons (.same _) .nil)))))))) J (Cz J (Cz J (Cz J (Cz J (Cz J (Cz J (Cz J (Cz J Xu)))))))) (.keep (.keep .nil))) (.same _) ⟨J,J⟩
theorem Wg (class1:Ar)(s0:Int)(s3_l:List Token)(s3_end:Int)(h0:Ae)(o0:Nat)(o1:Nat)(o2:Nat)(o3:Nat)(g:Nat)(g1:Nat)(g2:Nat)(w:AV)(w1:AV)(w2:AV)(w3:AV)(w4:AV)(w5:AV)(w6:AV)(w7:AV)(g3:Nat)(hI0:Ids h0 [o0,o1,o2,o3] 4):Gi class1 s0 s3_l s3_end≠.bad→Bh Tryz.prog 216 [(.str class1),(.ptr o0 g 0 0),(.ptr o1 g1 0 0)] (hp h0 [o0,o1,o2,o3] [some (.rows g 1 [[(.int .i64 s0)]]),some (.rows g1 1 [[(.func (.func 206) [] [(.ptr o2 g2 0 0)])]]),some (.rows g2 1 [[(.ptr o3 g3 0 0)]]),some (.rows g3 10 [[(.sl 4 (List.map Ac s3_l)),(.int .i64 s3_end),w,w1,w2,w3,w4,w5,w6,w7]])]) (Cs (fun a_ v h'=>v=(.agg (A7 a_))∧h'=hp h0 [o0,o1,o2,o3] [some (.rows g 1 [[(.int .i64 s0)]]),some (.rows g1 1 [[(.func (.func 206) [] [(.ptr o2 g2 0 0)])]]),some (.rows g2 1 [[(.ptr o3 g3 0 0)]]),some (.rows g3 10 [[(.sl 4 (List.map Ac (s3_l.drop 1))),(.int .i64 s3_end),w,w1,w2,w3,w4,w5,w6,w7]])]) h0 (Gi class1 s0 s3_l s3_end)):=by
 refine Bb (n:=12) 2 Tryz.func216 J (by decide) J J hI0 J fun ids he hI=>?_
 clear hI0
 obtain rfl:ix ids 0=o0:=he 0 rfl
 obtain rfl:ix ids 1=o1:=he 1 rfl
 obtain rfl:ix ids 2=o2:=he 2 rfl
 obtain rfl:ix ids 3=o3:=he 3 rfl
 clear he
 refine Bm (Ak (Gi.eq_1 _ _ _ _) ?_)
 refine Aj ?_
 refine Y<|O<|Bc (j:=4) hI J J J J Do J fun g4=>Aa<|Aj ?_
 refine Y<|O<|Ab 3 [0] [(8,(.agg [(.I s0),(.str class1),(.str []),(.I 0),(.I 0),(.I 0),(.I 0),(.I 0)]))] ?_
 refine Bc (j:=5) hI J J J J Do J fun g5=>Aq (Ax (v:=(.agg [(.I s0),(.str class1),(.str []),(.I 0),(.I 0),(.I 0),(.I 0),(.I 0)])) hI J J J J Do J J J J J)<|Aa<|Aj ?_
 refine Y<|O<|Ab 1 [1] [(9,(.func (.func 206) [] [(.q ids 2 g2)]))] ?_
 refine An [5,2,3] hI J J (U2 ({ Kind:=s0,C:=class1,A:=[],Class:=0,Airport:=0,N:=0,Hours:=({ From:=0,To:=0 }:Span) }:Rule) s3_l s3_end _ (ix ids 5) (ix ids 2) (ix ids 3) g5 g2 w w1 w2 w3 w4 w5 w6 w7 g3 (by exact hI.sub' J J)) J J J J J J (fun v _=>Ao (K:=4) (N:=2) Tryz.func216 hI) ?_
 rintro r _ _ _ ⟨rfl,rfl⟩
 refine Aw [5,2,3] hI J J J ?_
 refine Ap<|Aa<|Aj ?_
 refine Y<|O<|Ab 1 [5] [(11,(.agg (A7 r)))] ?_
 refine Aq (Ax (v:=(.agg (A7 r))) hI J J J J Do J J J J J)<|Aa<|Aj ?_
 exact D3 (K:=4) (N:=2) (a:=r) (vs:=[(.agg (A7 r))]) [some (.rows g 1 [[(.I s0)]]),some (.rows g1 1 [[(.func (.func 206) [] [(.q ids 2 g2)])]]),some (.rows g2 1 [[(.q ids 3 g3)]]),some (.rows g3 10 [[(.sl 4 (List.map Ac (s3_l.drop 1))),(.I s3_end),w,w1,w2,w3,w4,w5,w6,w7]])] Tryz.func216 hI J (Dt (Be hI J J J Do J) Fi) J (.keep (.keep (.keep (.keep (.drop (.drop .nil)))))) (.same _) ⟨J,J⟩
theorem Uv (s0:Rule)(s2_l:List Token)(s2_end:Int)(h0:Ae)(o0:Nat)(o1:Nat)(o2:Nat)(g:Nat)(g1:Nat)(w:AV)(w1:AV)(w2:AV)(w3:AV)(w4:AV)(w5:AV)(w6:AV)(w7:AV)(g2:Nat)(hI0:Ids h0 [o0,o1,o2] 3):Kz s0 s2_l s2_end≠.bad→Bh Tryz.prog 204 [(.ptr o0 g 0 0),(.ptr o1 g1 0 0)] (hp h0 [o0,o1,o2] [some (.rows g 8 [(A7 s0)]),some (.rows g1 1 [[(.ptr o2 g2 0 0)]]),some (.rows g2 10 [[(.sl 4 (List.map Ac s2_l)),(.int .i64 s2_end),w,w1,w2,w3,w4,w5,w6,w7]])]) (Cs (fun a_ v h'=>v=(.tup [])∧h'=hp h0 [o0,o1,o2] [some (.rows g 8 [(A7 a_)]),some (.rows g1 1 [[(.ptr o2 g2 0 0)]]),some (.rows g2 10 [[(.sl 4 (List.map Ac (s2_l.drop 1))),(.int .i64 s2_end),w,w1,w2,w3,w4,w5,w6,w7]])]) h0 (Kz s0 s2_l s2_end)):=by
 refine Bb (n:=8) 0 Tryz.func204 J (by decide) J J hI0 J fun ids he hI=>?_
 clear hI0
 obtain rfl:ix ids 0=o0:=he 0 rfl
 obtain rfl:ix ids 1=o1:=he 1 rfl
 obtain rfl:ix ids 2=o2:=he 2 rfl
 clear he
 refine Bm (Ak (Kz.eq_1 _ _ _) ?_)
 refine O<|Ab 2 [1] [(4,(.q ids 2 g2)),(3,(.q ids 0 g))] ?_
 refine An [2] hI J J (Ej 1 8 s2_l s2_end _ (ix ids 2) w w1 w2 w3 w4 w5 w6 w7 g2 (by exact hI.sub' J J)) J J J J J J (fun v _=>Ao (K:=3) (N:=0) Tryz.func204 hI) ?_
 rintro r _ _ _ ⟨rfl,rfl⟩
 refine Aw [2] hI J J J ?_
 refine Ap<|Ab 2 [] [(7,(.ptr (ix ids 0) g 0 5))] ?_
 refine Aq (Ax (v:=(.I r)) hI J J J J Ds J J J J J)<|Aa<|Aj ?_
 exact Ce (K:=3) (N:=0) (a:=({ Kind:=s0.Kind,C:=s0.C,A:=s0.A,Class:=s0.Class,Airport:=s0.Airport,N:=r,Hours:=s0.Hours }:Rule)) (vs:=[]) [some (.rows g 8 [(A7 ({ Kind:=s0.Kind,C:=s0.C,A:=s0.A,Class:=s0.Class,Airport:=s0.Airport,N:=r,Hours:=s0.Hours }:Rule))]),some (.rows g1 1 [[(.q ids 2 g2)]]),some (.rows g2 10 [[(.sl 4 (List.map Ac (s2_l.drop 1))),(.I s2_end),w,w1,w2,w3,w4,w5,w6,w7]])] Tryz.func204 hI J J J (.fz (.cons (.same _) (.cons (.same _) (.cons (.same _) (.cons (.same _) (.cons (.same _) (.cons (.same _) (.cons (.same _) (.cons (.same _) .nil)))))))) J (Cz J (Cz J (Cz J (Cz J (Cz J (Cz J (Cz J (Cz J Xu)))))))) (.keep (.keep .nil))) (.same _) ⟨J,J⟩
theorem V2 (class1:Ar)(s0:Int)(s3_l:List Token)(s3_end:Int)(h0:Ae)(o0:Nat)(o1:Nat)(o2:Nat)(o3:Nat)(g:Nat)(g1:Nat)(g2:Nat)(w:AV)(w1:AV)(w2:AV)(w3:AV)(w4:AV)(w5:AV)(w6:AV)(w7:AV)(g3:Nat)(hI0:Ids h0 [o0,o1,o2,o3] 4):Gl class1 s0 s3_l s3_end≠.bad→Bh Tryz.prog 216 [(.str class1),(.ptr o0 g 0 0),(.ptr o1 g1 0 0)] (hp h0 [o0,o1,o2,o3] [some (.rows g 1 [[(.int .i64 s0)]]),some (.rows g1 1 [[(.func (.func 204) [] [(.ptr o2 g2 0 0)])]]),some (.rows g2 1 [[(.ptr o3 g3 0 0)]]),some (.rows g3 10 [[(.sl 4 (List.map Ac s3_l)),(.int .i64 s3_end),w,w1,w2,w3,w4,w5,w6,w7]])]) (Cs (fun a_ v h'=>v=(.agg (A7 a_))∧h'=hp h0 [o0,o1,o2,o3] [some (.rows g 1 [[(.int .i64 s0)]]),some (.rows g1 1 [[(.func (.func 204) [] [(.ptr o2 g2 0 0)])]]),some (.rows g2 1 [[(.ptr o3 g3 0 0)]]),some (.rows g3 10 [[(.sl 4 (List.map Ac (s3_l.drop 1))),(.int .i64 s3_end),w,w1,w2,w3,w4,w5,w6,w7]])]) h0 (Gl class1 s0 s3_l s3_end)):=by
 refine Bb (n:=12) 2 Tryz.func216 J (by decide) J J hI0 J fun ids he hI=>?_
 clear hI0
 obtain rfl:ix ids 0=o0:=he 0 rfl
 obtain rfl:ix ids 1=o1:=he 1 rfl
 obtain rfl:ix ids 2=o2:=he 2 rfl
 obtain rfl:ix ids 3=o3:=he 3 rfl
 clear he
 refine Bm (Ak (Gl.eq_1 _ _ _ _) ?_)
 refine Aj ?_
 refine Y<|O<|Bc (j:=4) hI J J J J Do J fun g4=>Aa<|Aj ?_
 refine Y<|O<|Ab 3 [0] [(8,(.agg [(.I s0),(.str class1),(.str []),(.I 0),(.I 0),(.I 0),(.I 0),(.I 0)]))] ?_
 refine Bc (j:=5) hI J J J J Do J fun g5=>Aq (Ax (v:=(.agg [(.I s0),(.str class1),(.str []),(.I 0),(.I 0),(.I 0),(.I 0),(.I 0)])) hI J J J J Do J J J J J)<|Aa<|Aj ?_
 refine Y<|O<|Ab 1 [1] [(9,(.func (.func 204) [] [(.q ids 2 g2)]))] ?_
 refine An [5,2,3] hI J J (Uv ({ Kind:=s0,C:=class1,A:=[],Class:=0,Airport:=0,N:=0,Hours:=({ From:=0,To:=0 }:Span) }:Rule) s3_l s3_end _ (ix ids 5) (ix ids 2) (ix ids 3) g5 g2 w w1 w2 w3 w4 w5 w6 w7 g3 (by exact hI.sub' J J)) J J J J J J (fun v _=>Ao (K:=4) (N:=2) Tryz.func216 hI) ?_
 rintro r _ _ _ ⟨rfl,rfl⟩
 refine Aw [5,2,3] hI J J J ?_
 refine Ap<|Aa<|Aj ?_
 refine Y<|O<|Ab 1 [5] [(11,(.agg (A7 r)))] ?_
 refine Aq (Ax (v:=(.agg (A7 r))) hI J J J J Do J J J J J)<|Aa<|Aj ?_
 exact D3 (K:=4) (N:=2) (a:=r) (vs:=[(.agg (A7 r))]) [some (.rows g 1 [[(.I s0)]]),some (.rows g1 1 [[(.func (.func 204) [] [(.q ids 2 g2)])]]),some (.rows g2 1 [[(.q ids 3 g3)]]),some (.rows g3 10 [[(.sl 4 (List.map Ac (s3_l.drop 1))),(.I s3_end),w,w1,w2,w3,w4,w5,w6,w7]])] Tryz.func216 hI J (Dt (Be hI J J J Do J) Fi) J (.keep (.keep (.keep (.keep (.drop (.drop .nil)))))) (.same _) ⟨J,J⟩
theorem V4 (most:Int)(s0_l:List Token)(s0_end:Int)(l:List Volume)(h0:Ae)(o0:Nat)(o1:Nat)(o2:Nat)(w:AV)(w1:AV)(w2:AV)(w3:AV)(w4:AV)(w5:AV)(w6:AV)(g:Nat)(v1:AV)(g1:Nat)(g2:Nat)(vH:Ay v1 o1 g1 l.length)(hI0:Ids h0 [o0,o1,o2] 3):Hz most s0_l s0_end l≠.bad→Bh Tryz.prog 192 [(.ptr o0 g 0 0),(.int .i64 most),(.func (.func 193) [] [(.ptr o2 g2 0 0)])] (hp h0 [o0,o1,o2] [some (.rows g 10 [[(.sl 4 (List.map Ac s0_l)),(.int .i64 s0_end),v1,w,w1,w2,w3,w4,w5,w6]]),Ah v1 g1 2 (List.map As l),some (.rows g2 1 [[(.ptr o0 g 0 0)]])]) (Cs (fun a_ v h'=>v=(.sl 2 (List.map Dv a_.1))∧h'=hp h0 [o0,o1,o2] [some (.rows g 10 [[(.sl 4 (List.map Ac a_.2)),(.int .i64 s0_end),v1,w,w1,w2,w3,w4,w5,w6]]),Ah v1 g1 2 (List.map As l),some (.rows g2 1 [[(.ptr o0 g 0 0)]])]) h0 (Hz most s0_l s0_end l)):=by
 refine Bb (n:=24) 1 Tryz.func192 J (by decide) J J hI0 J fun ids he hI=>?_
 clear hI0
 obtain rfl:ix ids 0=o0:=he 0 rfl
 obtain rfl:ix ids 1=o1:=he 1 rfl
 obtain rfl:ix ids 2=o2:=he 2 rfl
 clear he
 refine Bm (Ak (Hz.eq_1 _ _ _ _) ?_)
 refine Aj ?_
 refine Y<|O<|Z .emp J Al<|Aa<|A8<|Ee [(0,(.q ids 0 g)),(1,(.I most)),(2,(.func (.func 193) [] [(.q ids 2 g2)])),(6,.emp)] (FI J)<|Uk (P:=Tryz.prog) (C2 fun fL l1=>H8 most s0_end fL l1) ((fun r=>.ok r):((List Mode)×(List Token))→R ((List Mode)×(List Token))) (C2 fun fL l1=>fun(fr:Nat→AV) (h:Ae) => ∃ (v2:AV),∃ (g3:Nat),Ay v2 (ix ids 3) g3 l1.length∧fr=A2 [(0,(.q ids 0 g)),(1,(.I most)),(2,(.func (.func 193) [] [(.q ids 2 g2)])),(6,v2)]∧h=hp h0 ids [(some (.rows g 10 [[(.sl 4 (List.map Ac fL)),(.I s0_end),v1,w,w1,w2,w3,w4,w5,w6]])),(Ah v1 g1 2 (List.map As l)),(some (.rows g2 1 [[(.q ids 0 g)]])),(Ah v2 g3 2 (List.map Dv l1))]) (s0_l,[]) ?_ ?_
 ·exact⟨.emp,0,.nil,J,J⟩
 rintro vW hW ⟨fL,l1⟩ fr h ⟨v2,g3,vH1,rfl,rfl⟩
 refine Ak (m':=H8 most s0_end fL l1) J (Ak (H8.eq_1 _ _ _ _) ?_)
 refine A8<|Y<|O<|Ab 2 [] [(8,(.func (.func 193) [] [(.q ids 2 g2)])),(7,v2)] ?_
 refine An [2,0] hI J J (T1 fL s0_end _ (ix ids 2) (ix ids 0) g2 v1 w w1 w2 w3 w4 w5 w6 g (by exact hI.sub' J J)) J J J J J J (fun v _=>Ao (K:=3) (N:=1) Tryz.func192 hI) ?_
 rintro r _ _ _ ⟨rfl,rfl⟩
 refine Aw [2,0] hI J J J ?_
 refine Ap<|Dh (e:=Dv) (L:=[r]) (st:=2) (rows:=[[(.str r.Name),(.I r.Places)]]) J Oc Pu J J J J J (.cons (RowSim.refl _) .nil) (fun x=>Akf x) J J<|Gb fun hl=>P2 (e:=Dv) (L:=l1) (L2:=[r]) (v:=v2) (g:=g3) (st:=2) (j:=3) hI J J J J vH1 J (Ke J) Oc Oc J Pu J J J hl fun v3 g4 vH2=>Z v3 J Al<|Aa<|Aj ?_
 refine Y<|Y<|O<|Z (.q ids 0 g) J Ad<|An [0] hI J J (Nj 3 [44] (((fL.drop 1).drop 1).drop 1) s0_end _ (ix ids 0) v1 w w1 w2 w3 w4 w5 w6 g (by exact hI.sub' J J)) J J J J J J (fun v _=>Ao (K:=3) (N:=1) Tryz.func192 hI) ?_
 rintro r1 _ _ _ ⟨rfl,rfl⟩
 refine Aw [0] hI J J J ?_
 refine Ap<|Z (.bool (!r1)) J (Q7 J)<|Aa<|Ei J (fun hc=>?_) (fun hc=>?_)
 ·refine Az<|Y<|Y<|O<|Z v3 J Ad<|Z (.I ((l1++[r]).length:Int)) J (A0 (Ay.len vH2 Oc))<|Ab 2 [] [(19,(.bool (((l1++[r]).length:Int)==most)))] ?_
  refine Aa<|Ed (π:=Unit) (fun _=>Ia s0_end fL l1 r) (fun _=>fun(fr:Nat→AV) (h:Ae)=>fr=A2 [(0,(.q ids 0 g)),(1,(.I most)),(2,(.func (.func 193) [] [(.q ids 2 g2)])),(6,v3)]∧h=hp h0 ids [(some (.rows g 10 [[(.sl 4 (List.map Ac (((fL.drop 1).drop 1).drop 1))),(.I s0_end),v1,w,w1,w2,w3,w4,w5,w6]])),(Ah v1 g1 2 (List.map As l)),(some (.rows g2 1 [[(.q ids 0 g)]])),(Ah v3 g4 2 (List.map Dv (l1++[r])))]) ?_ fun hJ=>?_
  ·rintro _ fr h ⟨rfl,rfl⟩
   refine Ak (Ia.eq_1 _ _ _ _)<|O<|Z (.q ids 0 g) J Ad<|An [0] hI J J (C5 [44] (((fL.drop 1).drop 1).drop 1) s0_end _ (ix ids 0) v1 w w1 w2 w3 w4 w5 w6 g (by exact hI.sub' J J)) J J J J J J (fun v _=>Ao (K:=3) (N:=1) Tryz.func192 hI) ?_
   rintro _ _ _ _ ⟨rfl,rfl⟩
   refine Aw [0] hI J J J ?_
   refine Ap<|Aa<|Aj ?_
   refine Bn<|Bo (Po (hW (((((fL.drop 1).drop 1).drop 1).drop 1),(l1++[r])) _ _ ⟨v3,g4,vH2,J,J⟩))
  refine Cd J (fun hc1=>?_) (fun hc1=>?_)
  ·refine O<|Z (.q ids 0 g) J Ad<|An [0] hI J J (Ci 2 (((fL.drop 1).drop 1).drop 1) s0_end _ (ix ids 0) v1 w w1 w2 w3 w4 w5 w6 g (by exact hI.sub' J J)) J J J J J J (fun v _=>Ao (K:=3) (N:=1) Tryz.func192 hI) ?_
   rintro _ _ _ _ ⟨rfl,rfl⟩
   refine Aw [0] hI J J J ?_
   refine Ap<|Aa<|Bo (hJ () _ _ ⟨J,J⟩)
  refine Az<|Bo (hJ () _ _ ⟨J,J⟩)
 refine Y<|O<|Ab 2 [] [(6,v3)] ?_
 refine Aa<|Xd<|D3 (K:=3) (N:=1) (a:=((l1++[r]),(((fL.drop 1).drop 1).drop 1))) (vs:=[v3]) [some (.rows g 10 [[(.sl 4 (List.map Ac (((fL.drop 1).drop 1).drop 1))),(.I s0_end),v1,w,w1,w2,w3,w4,w5,w6]]),Ah v1 g1 2 (List.map As l),some (.rows g2 1 [[(.q ids 0 g)]])] Tryz.func192 hI J J J (.keep (.keep (.keep (.drop .nil)))) (Fo vH2 (hI.at J J) (hI.at J J) (fun x=>Akf x)) ⟨J,J⟩
theorem Uf (s:Ar)(s1_l:List Token)(s1_end:Int)(l:List Volume)(h0:Ae)(o0:Nat)(o1:Nat)(o2:Nat)(g:Nat)(w:AV)(w1:AV)(w2:AV)(w3:AV)(w4:AV)(w5:AV)(w6:AV)(g1:Nat)(v1:AV)(g2:Nat)(vH:Ay v1 o2 g2 l.length)(hI0:Ids h0 [o0,o1,o2] 3):Fg s s1_l s1_end l≠.bad→Bh Tryz.prog 191 [(.str s),(.ptr o0 g 0 0)] (hp h0 [o0,o1,o2] [some (.rows g 1 [[(.ptr o1 g1 0 0)]]),some (.rows g1 10 [[(.sl 4 (List.map Ac s1_l)),(.int .i64 s1_end),v1,w,w1,w2,w3,w4,w5,w6]]),Ah v1 g2 2 (List.map As l)]) (Cs (fun a_ v h'=>v=(.agg (A6 a_.1))∧h'=hp h0 [o0,o1,o2] [some (.rows g 1 [[(.ptr o1 g1 0 0)]]),some (.rows g1 10 [[(.sl 4 (List.map Ac a_.2)),(.int .i64 s1_end),v1,w,w1,w2,w3,w4,w5,w6]]),Ah v1 g2 2 (List.map As l)]) h0 (Fg s s1_l s1_end l)):=by
 refine Bb (n:=9) 1 Tryz.func191 J (by decide) J J hI0 J fun ids he hI=>?_
 clear hI0
 obtain rfl:ix ids 0=o0:=he 0 rfl
 obtain rfl:ix ids 1=o1:=he 1 rfl
 obtain rfl:ix ids 2=o2:=he 2 rfl
 clear he
 refine Bm (Ak (Fg.eq_1 _ _ _ _) ?_)
 refine Aj ?_
 refine Y<|O<|Bc (j:=3) hI J J J J J3 J fun g3=>Aa<|Aj ?_
 refine Y<|O<|Ab 3 [0] [(6,(.func (.func 193) [] [(.q ids 0 g)])),(5,(.q ids 1 g1)),(4,(.str s))] ?_
 refine An [1,2,0] hI J J (V4 16 s1_l s1_end l _ (ix ids 1) (ix ids 2) (ix ids 0) w w1 w2 w3 w4 w5 w6 g1 v1 g2 g vH (by exact hI.sub' J J)) J J J J J J (fun v _=>Ao (K:=3) (N:=1) Tryz.func191 hI) ?_
 rintro r _ _ _ ⟨rfl,rfl⟩
 refine Aw [1,2,0] hI J J J ?_
 refine Ap<|Z (.agg [(.str s),(.sl 2 (List.map Dv r.1))]) J (Mf (R1 J3 At1 J))<|Aq (Ax (v:=(.agg [(.str s),(.sl 2 (List.map Dv r.1))])) hI J J J J J3 J J J J J)<|Aa<|Aj ?_
 exact D3 (K:=3) (N:=1) (a:=(({ Name:=s,Modes:=r.1 }:Airport),r.2)) (vs:=[(.agg [(.str s),(.sl 2 (List.map Dv r.1))])]) [some (.rows g 1 [[(.q ids 1 g1)]]),some (.rows g1 10 [[(.sl 4 (List.map Ac r.2)),(.I s1_end),v1,w,w1,w2,w3,w4,w5,w6]]),Ah v1 g2 2 (List.map As l)] Tryz.func191 hI J (Dt (Be hI J J J J3 J) Fi) J (.keep (.keep (.keep (.drop .nil)))) (.aggL (.cons (.same _) (.cons (.same _) .nil))) ⟨J,J⟩
theorem Lj (most:Int)(s0_l:List Token)(s0_end:Int)(l:List Volume)(h0:Ae)(o0:Nat)(o1:Nat)(w:AV)(w1:AV)(w2:AV)(w3:AV)(w4:AV)(w5:AV)(w6:AV)(g:Nat)(v1:AV)(g1:Nat)(vH:Ay v1 o1 g1 l.length)(hI0:Ids h0 [o0,o1] 2):En most s0_l s0_end l≠.bad→Bh Tryz.prog 176 [(.ptr o0 g 0 0),(.int .i64 most),(.func (.func 177) [(.ptr o0 g 0 0)] [])] (hp h0 [o0,o1] [some (.rows g 10 [[(.sl 4 (List.map Ac s0_l)),(.int .i64 s0_end),v1,w,w1,w2,w3,w4,w5,w6]]),Ah v1 g1 2 (List.map As l)]) (Cs (fun a_ v h'=>v=(.sl 1 (List.map rS a_.1))∧h'=hp h0 [o0,o1] [some (.rows g 10 [[(.sl 4 (List.map Ac a_.2)),(.int .i64 s0_end),v1,w,w1,w2,w3,w4,w5,w6]]),Ah v1 g1 2 (List.map As l)]) h0 (En most s0_l s0_end l)):=by
 refine Bb (n:=24) 1 Tryz.func176 J (by decide) J J hI0 J fun ids he hI=>?_
 clear hI0
 obtain rfl:ix ids 0=o0:=he 0 rfl
 obtain rfl:ix ids 1=o1:=he 1 rfl
 clear he
 refine Bm (Ak (En.eq_1 _ _ _ _) ?_)
 refine Aj ?_
 refine Y<|O<|Z .emp J Al<|Aa<|A8<|Ee [(0,(.q ids 0 g)),(1,(.I most)),(2,(.func (.func 177) [(.q ids 0 g)] [])),(6,.emp)] (FI J)<|Uk (P:=Tryz.prog) (C2 fun fL l1=>Gs most s0_end fL l1) ((fun r=>.ok r):((List Ar)×(List Token))→R ((List Ar)×(List Token))) (C2 fun fL l1=>fun(fr:Nat→AV) (h:Ae) => ∃ (v2:AV),∃ (g2:Nat),Ay v2 (ix ids 2) g2 l1.length∧fr=A2 [(0,(.q ids 0 g)),(1,(.I most)),(2,(.func (.func 177) [(.q ids 0 g)] [])),(6,v2)]∧h=hp h0 ids [(some (.rows g 10 [[(.sl 4 (List.map Ac fL)),(.I s0_end),v1,w,w1,w2,w3,w4,w5,w6]])),(Ah v1 g1 2 (List.map As l)),(Ah v2 g2 1 (List.map rS l1))]) (s0_l,[]) ?_ ?_
 ·exact⟨.emp,0,.nil,J,J⟩
 rintro vW hW ⟨fL,l1⟩ fr h ⟨v2,g2,vH1,rfl,rfl⟩
 refine Ak (m':=Gs most s0_end fL l1) J (Ak (Gs.eq_1 _ _ _ _) ?_)
 refine A8<|Y<|O<|Ab 2 [] [(8,(.func (.func 177) [(.q ids 0 g)] [])),(7,v2)] ?_
 refine An [0] hI J J (Cu fL s0_end _ (ix ids 0) v1 w w1 w2 w3 w4 w5 w6 g (by exact hI.sub' J J)) J J J J J J (fun v _=>Ao (K:=2) (N:=1) Tryz.func176 hI) ?_
 rintro r _ _ _ ⟨rfl,rfl⟩
 refine Aw [0] hI J J J ?_
 refine Ap<|Dh (e:=rS) (L:=[r]) (st:=1) (rows:=[[(.str r)]]) J D5 Cy J J J J J (.cons (RowSim.refl _) .nil) (fun x=>Hd x) J J<|Gb fun hl=>P2 (e:=rS) (L:=l1) (L2:=[r]) (v:=v2) (g:=g2) (st:=1) (j:=2) hI J J J J vH1 J (Ke J) D5 D5 J Cy J J J hl fun v3 g3 vH2=>Z v3 J Al<|Aa<|Aj ?_
 refine Y<|Y<|O<|Z (.q ids 0 g) J Ad<|An [0] hI J J (Nj 3 [44] (fL.drop 1) s0_end _ (ix ids 0) v1 w w1 w2 w3 w4 w5 w6 g (by exact hI.sub' J J)) J J J J J J (fun v _=>Ao (K:=2) (N:=1) Tryz.func176 hI) ?_
 rintro r1 _ _ _ ⟨rfl,rfl⟩
 refine Aw [0] hI J J J ?_
 refine Ap<|Z (.bool (!r1)) J (Q7 J)<|Aa<|Ei J (fun hc=>?_) (fun hc=>?_)
 ·refine Az<|Y<|Y<|O<|Z v3 J Ad<|Z (.I ((l1++[r]).length:Int)) J (A0 (Ay.len vH2 D5))<|Ab 2 [] [(19,(.bool (((l1++[r]).length:Int)==most)))] ?_
  refine Aa<|Ed (π:=Unit) (fun _=>Gq s0_end fL l1 r) (fun _=>fun(fr:Nat→AV) (h:Ae)=>fr=A2 [(0,(.q ids 0 g)),(1,(.I most)),(2,(.func (.func 177) [(.q ids 0 g)] [])),(6,v3)]∧h=hp h0 ids [(some (.rows g 10 [[(.sl 4 (List.map Ac (fL.drop 1))),(.I s0_end),v1,w,w1,w2,w3,w4,w5,w6]])),(Ah v1 g1 2 (List.map As l)),(Ah v3 g3 1 (List.map rS (l1++[r])))]) ?_ fun hJ=>?_
  ·rintro _ fr h ⟨rfl,rfl⟩
   refine Ak (Gq.eq_1 _ _ _ _)<|O<|Z (.q ids 0 g) J Ad<|An [0] hI J J (C5 [44] (fL.drop 1) s0_end _ (ix ids 0) v1 w w1 w2 w3 w4 w5 w6 g (by exact hI.sub' J J)) J J J J J J (fun v _=>Ao (K:=2) (N:=1) Tryz.func176 hI) ?_
   rintro _ _ _ _ ⟨rfl,rfl⟩
   refine Aw [0] hI J J J ?_
   refine Ap<|Aa<|Aj ?_
   refine Bn<|Bo (Po (hW (((fL.drop 1).drop 1),(l1++[r])) _ _ ⟨v3,g3,vH2,J,J⟩))
  refine Cd J (fun hc1=>?_) (fun hc1=>?_)
  ·refine O<|Z (.q ids 0 g) J Ad<|An [0] hI J J (Ci 2 (fL.drop 1) s0_end _ (ix ids 0) v1 w w1 w2 w3 w4 w5 w6 g (by exact hI.sub' J J)) J J J J J J (fun v _=>Ao (K:=2) (N:=1) Tryz.func176 hI) ?_
   rintro _ _ _ _ ⟨rfl,rfl⟩
   refine Aw [0] hI J J J ?_
   refine Ap<|Aa<|Bo (hJ () _ _ ⟨J,J⟩)
  refine Az<|Bo (hJ () _ _ ⟨J,J⟩)
 refine Y<|O<|Ab 2 [] [(6,v3)] ?_
 refine Aa<|Xd<|D3 (K:=2) (N:=1) (a:=((l1++[r]),(fL.drop 1))) (vs:=[v3]) [some (.rows g 10 [[(.sl 4 (List.map Ac (fL.drop 1))),(.I s0_end),v1,w,w1,w2,w3,w4,w5,w6]]),Ah v1 g1 2 (List.map As l)] Tryz.func176 hI J J J (.keep (.keep (.drop .nil))) (Fo vH2 (hI.at J J) (hI.at J J) (fun x=>Hd x)) ⟨J,J⟩
theorem Ug (s:Ar)(s1_l:List Token)(s1_end:Int)(l:List Volume)(h0:Ae)(o0:Nat)(o1:Nat)(o2:Nat)(g:Nat)(w:AV)(w1:AV)(w2:AV)(w3:AV)(w4:AV)(w5:AV)(w6:AV)(g1:Nat)(v1:AV)(g2:Nat)(vH:Ay v1 o2 g2 l.length)(hI0:Ids h0 [o0,o1,o2] 3):Fb s s1_l s1_end l≠.bad→Bh Tryz.prog 182 [(.str s),(.ptr o0 g 0 0)] (hp h0 [o0,o1,o2] [some (.rows g 1 [[(.ptr o1 g1 0 0)]]),some (.rows g1 10 [[(.sl 4 (List.map Ac s1_l)),(.int .i64 s1_end),v1,w,w1,w2,w3,w4,w5,w6]]),Ah v1 g2 2 (List.map As l)]) (Cs (fun a_ v h'=>v=(.agg (Bf a_.1))∧h'=hp h0 [o0,o1,o2] [some (.rows g 1 [[(.ptr o1 g1 0 0)]]),some (.rows g1 10 [[(.sl 4 (List.map Ac a_.2)),(.int .i64 s1_end),v1,w,w1,w2,w3,w4,w5,w6]]),Ah v1 g2 2 (List.map As l)]) h0 (Fb s s1_l s1_end l)):=by
 refine Bb (n:=12) 1 Tryz.func182 J (by decide) J J hI0 J fun ids he hI=>?_
 clear hI0
 obtain rfl:ix ids 0=o0:=he 0 rfl
 obtain rfl:ix ids 1=o1:=he 1 rfl
 obtain rfl:ix ids 2=o2:=he 2 rfl
 clear he
 refine Bm (Ak (Fb.eq_1 _ _ _ _) ?_)
 refine Aj ?_
 refine Y<|O<|Bc (j:=3) hI J J J J Iu J fun g3=>Aa<|Aj ?_
 refine Y<|O<|Ab 1 [0] [(4,(.q ids 1 g1))] ?_
 refine An [1] hI J J (C5 [61] s1_l s1_end _ (ix ids 1) v1 w w1 w2 w3 w4 w5 w6 g1 (by exact hI.sub' J J)) J J J J J J (fun v _=>Ao (K:=3) (N:=1) Tryz.func182 hI) ?_
 rintro _ _ _ _ ⟨rfl,rfl⟩
 refine Aw [1] hI J J J ?_
 refine Ap<|Aa<|Aj ?_
 refine Y<|O<|Ab 4 [0,0] [(9,(.func (.func 177) [(.q ids 1 g1)] [])),(7,(.q ids 1 g1)),(6,(.str s))] ?_
 refine An [1,2] hI J J (Lj 64 (s1_l.drop 1) s1_end l _ (ix ids 1) (ix ids 2) w w1 w2 w3 w4 w5 w6 g1 v1 g2 vH (by exact hI.sub' J J)) J J J J J J (fun v _=>Ao (K:=3) (N:=1) Tryz.func182 hI) ?_
 rintro r1 _ _ _ ⟨rfl,rfl⟩
 refine Aw [1,2] hI J J J ?_
 refine Ap<|Z (.agg [(.str s),(.sl 1 (List.map rS r1.1)),.emp]) J (Mf (R1 Iu Avy J))<|Aq (Ax (v:=(.agg [(.str s),(.sl 1 (List.map rS r1.1)),.emp])) hI J J J J Iu J J J J J)<|Aa<|Aj ?_
 exact D3 (K:=3) (N:=1) (a:=(({ Name:=s,Names:=r1.1,Sectors:=[] }:Config),r1.2)) (vs:=[(.agg [(.str s),(.sl 1 (List.map rS r1.1)),.emp])]) [some (.rows g 1 [[(.q ids 1 g1)]]),some (.rows g1 10 [[(.sl 4 (List.map Ac r1.2)),(.I s1_end),v1,w,w1,w2,w3,w4,w5,w6]]),Ah v1 g2 2 (List.map As l)] Tryz.func182 hI J (Dt (Be hI J J J Iu J) Fi) J (.keep (.keep (.keep (.drop .nil)))) (.aggL (.cons (.same _) (.cons (.same _) (.cons (.emp _) .nil)))) ⟨J,J⟩
theorem Ue (s:Ar)(s1_l:List Token)(s1_end:Int)(l:List Volume)(h0:Ae)(o0:Nat)(o1:Nat)(o2:Nat)(g:Nat)(w:AV)(w1:AV)(w2:AV)(w3:AV)(w4:AV)(w5:AV)(w6:AV)(g1:Nat)(v1:AV)(g2:Nat)(vH:Ay v1 o2 g2 l.length)(hI0:Ids h0 [o0,o1,o2] 3):Ff s s1_l s1_end l≠.bad→Bh Tryz.prog 188 [(.str s),(.ptr o0 g 0 0)] (hp h0 [o0,o1,o2] [some (.rows g 1 [[(.ptr o1 g1 0 0)]]),some (.rows g1 10 [[(.sl 4 (List.map Ac s1_l)),(.int .i64 s1_end),v1,w,w1,w2,w3,w4,w5,w6]]),Ah v1 g2 2 (List.map As l)]) (Cs (fun a_ v h'=>v=(.agg (Bp a_.1))∧h'=hp h0 [o0,o1,o2] [some (.rows g 1 [[(.ptr o1 g1 0 0)]]),some (.rows g1 10 [[(.sl 4 (List.map Ac a_.2)),(.int .i64 s1_end),v1,w,w1,w2,w3,w4,w5,w6]]),Ah v1 g2 2 (List.map As l)]) h0 (Ff s s1_l s1_end l)):=by
 refine Bb (n:=25) 2 Tryz.func188 J (by decide) J J hI0 J fun ids he hI=>?_
 clear hI0
 obtain rfl:ix ids 0=o0:=he 0 rfl
 obtain rfl:ix ids 1=o1:=he 1 rfl
 obtain rfl:ix ids 2=o2:=he 2 rfl
 clear he
 refine Bm (Ak (Ff.eq_1 _ _ _ _) ?_)
 refine Aj ?_
 refine Y<|O<|Bc (j:=3) hI J J J J Gz J fun g3=>Aa<|Aj ?_
 refine Y<|O<|Ab 2 [] [(6,(.agg [(.str s),(.str []),(.str []),(.I 0),(.I 0),.emp,.emp]))] ?_
 refine Bc (j:=4) hI J J J J Gz J fun g4=>Aq (Ax (v:=(.agg [(.str s),(.str []),(.str []),(.I 0),(.I 0),.emp,.emp])) hI J J J J Gz J J J J J)<|Aa<|Aj ?_
 refine Y<|O<|Ab 1 [0] [(7,(.q ids 1 g1))] ?_
 refine An [1] hI J J (Dn [102,114,111,109] s1_l s1_end _ (ix ids 1) v1 w w1 w2 w3 w4 w5 w6 g1 (by exact hI.sub' J J)) J J J J J J (fun v _=>Ao (K:=3) (N:=2) Tryz.func188 hI) ?_
 rintro _ _ _ _ ⟨rfl,rfl⟩
 refine Aw [1] hI J J J ?_
 refine Ap<|Aa<|Aj ?_
 refine Y<|O<|Ab 1 [0] [(9,(.q ids 1 g1))] ?_
 refine An [1] hI J J (Cu (s1_l.drop 1) s1_end _ (ix ids 1) v1 w w1 w2 w3 w4 w5 w6 g1 (by exact hI.sub' J J)) J J J J J J (fun v _=>Ao (K:=3) (N:=2) Tryz.func188 hI) ?_
 rintro r1 _ _ _ ⟨rfl,rfl⟩
 refine Aw [1] hI J J J ?_
 refine Ap<|Z (.ptr (ix ids 4) g4 0 1) J (B9 (By (c:=0) (off:=1) (i:=1) Gz J Cy J))<|Aq (Ax (v:=(.str r1)) hI J J J J Cy J J J J J)<|Aa<|Aj ?_
 refine Y<|O<|Ab 1 [0] [(12,(.q ids 1 g1))] ?_
 refine An [1] hI J J (Dn [116,111] ((s1_l.drop 1).drop 1) s1_end _ (ix ids 1) v1 w w1 w2 w3 w4 w5 w6 g1 (by exact hI.sub' J J)) J J J J J J (fun v _=>Ao (K:=3) (N:=2) Tryz.func188 hI) ?_
 rintro _ _ _ _ ⟨rfl,rfl⟩
 refine Aw [1] hI J J J ?_
 refine Ap<|Aa<|Aj ?_
 refine Y<|O<|Ab 1 [0] [(14,(.q ids 1 g1))] ?_
 refine An [1] hI J J (Cu (((s1_l.drop 1).drop 1).drop 1) s1_end _ (ix ids 1) v1 w w1 w2 w3 w4 w5 w6 g1 (by exact hI.sub' J J)) J J J J J J (fun v _=>Ao (K:=3) (N:=2) Tryz.func188 hI) ?_
 rintro r3 _ _ _ ⟨rfl,rfl⟩
 refine Aw [1] hI J J J ?_
 refine Ap<|Z (.ptr (ix ids 4) g4 0 2) J (B9 (By (c:=0) (off:=2) (i:=2) Gz J Cy J))<|Aq (Ax (v:=(.str r3)) hI J J J J Cy J J J J J)<|Aa<|Aj ?_
 refine Y<|O<|Ab 1 [0] [(17,(.q ids 1 g1))] ?_
 refine An [1] hI J J (Dn [118,105,97] ((((s1_l.drop 1).drop 1).drop 1).drop 1) s1_end _ (ix ids 1) v1 w w1 w2 w3 w4 w5 w6 g1 (by exact hI.sub' J J)) J J J J J J (fun v _=>Ao (K:=3) (N:=2) Tryz.func188 hI) ?_
 rintro _ _ _ _ ⟨rfl,rfl⟩
 refine Aw [1] hI J J J ?_
 refine Ap<|Aa<|Aj ?_
 refine Y<|O<|Ab 3 [0,0] [(21,(.func (.func 177) [(.q ids 1 g1)] [])),(19,(.q ids 1 g1))] ?_
 refine An [1,2] hI J J (Lj 8 (((((s1_l.drop 1).drop 1).drop 1).drop 1).drop 1) s1_end l _ (ix ids 1) (ix ids 2) w w1 w2 w3 w4 w5 w6 g1 v1 g2 vH (by exact hI.sub' J J)) J J J J J J (fun v _=>Ao (K:=3) (N:=2) Tryz.func188 hI) ?_
 rintro r5 _ _ _ ⟨rfl,rfl⟩
 refine Aw [1,2] hI J J J ?_
 refine Ap<|Z (.ptr (ix ids 4) g4 0 5) J (B9 (By (c:=0) (off:=5) (i:=5) Gz J D5 J))<|Aq (Ax (v:=(.sl 1 (List.map rS r5.1))) hI J J J J D5 J J J J J)<|Aa<|Aj ?_
 refine Y<|O<|Ab 1 [4] [(24,(.agg [(.str s),(.str r1),(.str r3),(.I 0),(.I 0),(.sl 1 (List.map rS r5.1)),.emp]))] ?_
 refine Aq (Ax (v:=(.agg [(.str s),(.str r1),(.str r3),(.I 0),(.I 0),(.sl 1 (List.map rS r5.1)),.emp])) hI J J J J Gz J J J J J)<|Aa<|Aj ?_
 exact D3 (K:=3) (N:=2) (a:=(({ Name:=s,A:=r1,B:=r3,From:=0,To:=0,Names:=r5.1,Segments:=[] }:Route),r5.2)) (vs:=[(.agg [(.str s),(.str r1),(.str r3),(.I 0),(.I 0),(.sl 1 (List.map rS r5.1)),.emp])]) [some (.rows g 1 [[(.q ids 1 g1)]]),some (.rows g1 10 [[(.sl 4 (List.map Ac r5.2)),(.I s1_end),v1,w,w1,w2,w3,w4,w5,w6]]),Ah v1 g2 2 (List.map As l)] Tryz.func188 hI J (Dt (Be hI J J J Gz J) Fi) J (.keep (.keep (.keep (.drop (.drop .nil))))) (.aggL (.cons (.same _) (.cons (.same _) (.cons (.same _) (.cons (.same _) (.cons (.same _) (.cons (.same _) (.cons (.emp _) .nil)))))))) ⟨J,J⟩
theorem Uc (s:Ar)(s1_l:List Token)(s1_end:Int)(l:List Volume)(h0:Ae)(o0:Nat)(o1:Nat)(o2:Nat)(g:Nat)(w:AV)(w1:AV)(w2:AV)(w3:AV)(w4:AV)(w5:AV)(w6:AV)(g1:Nat)(v1:AV)(g2:Nat)(vH:Ay v1 o2 g2 l.length)(hI0:Ids h0 [o0,o1,o2] 3):Fj s s1_l s1_end l≠.bad→Bh Tryz.prog 174 [(.str s),(.ptr o0 g 0 0)] (hp h0 [o0,o1,o2] [some (.rows g 1 [[(.ptr o1 g1 0 0)]]),some (.rows g1 10 [[(.sl 4 (List.map Ac s1_l)),(.int .i64 s1_end),v1,w,w1,w2,w3,w4,w5,w6]]),Ah v1 g2 2 (List.map As l)]) (Cs (fun a_ v h'=>v=(.agg (A3 a_.1))∧h'=hp h0 [o0,o1,o2] [some (.rows g 1 [[(.ptr o1 g1 0 0)]]),some (.rows g1 10 [[(.sl 4 (List.map Ac a_.2)),(.int .i64 s1_end),v1,w,w1,w2,w3,w4,w5,w6]]),Ah v1 g2 2 (List.map As l)]) h0 (Fj s s1_l s1_end l)):=by
 refine Bb (n:=27) 2 Tryz.func174 J (by decide) J J hI0 J fun ids he hI=>?_
 clear hI0
 obtain rfl:ix ids 0=o0:=he 0 rfl
 obtain rfl:ix ids 1=o1:=he 1 rfl
 obtain rfl:ix ids 2=o2:=he 2 rfl
 clear he
 refine Bm (Ak (Fj.eq_1 _ _ _ _) ?_)
 refine Aj ?_
 refine Y<|O<|Bc (j:=3) hI J J J J Gp J fun g3=>Aa<|Aj ?_
 refine Y<|O<|Ab 2 [] [(6,(.agg [(.str s),.emp,.emp,(.I 0),(.I 0)]))] ?_
 refine Bc (j:=4) hI J J J J Gp J fun g4=>Aq (Ax (v:=(.agg [(.str s),.emp,.emp,(.I 0),(.I 0)])) hI J J J J Gp J J J J J)<|Aa<|Aj ?_
 refine Y<|O<|Ab 1 [0] [(7,(.q ids 1 g1))] ?_
 refine An [1] hI J J (C5 [61] s1_l s1_end _ (ix ids 1) v1 w w1 w2 w3 w4 w5 w6 g1 (by exact hI.sub' J J)) J J J J J J (fun v _=>Ao (K:=3) (N:=2) Tryz.func174 hI) ?_
 rintro _ _ _ _ ⟨rfl,rfl⟩
 refine Aw [1] hI J J J ?_
 refine Ap<|Aa<|Aj ?_
 refine Y<|O<|Ab 3 [0,0] [(11,(.func (.func 177) [(.q ids 1 g1)] [])),(9,(.q ids 1 g1))] ?_
 refine An [1,2] hI J J (Lj 64 (s1_l.drop 1) s1_end l _ (ix ids 1) (ix ids 2) w w1 w2 w3 w4 w5 w6 g1 v1 g2 vH (by exact hI.sub' J J)) J J J J J J (fun v _=>Ao (K:=3) (N:=2) Tryz.func174 hI) ?_
 rintro r1 _ _ _ ⟨rfl,rfl⟩
 refine Aw [1,2] hI J J J ?_
 refine Ap<|Z (.ptr (ix ids 4) g4 0 1) J (B9 (By (c:=0) (off:=1) (i:=1) Gp J D5 J))<|Aq (Ax (v:=(.sl 1 (List.map rS r1.1))) hI J J J J D5 J J J J J)<|Aa<|Aj ?_
 refine Y<|O<|Ab 1 [0] [(14,(.q ids 1 g1))] ?_
 refine An [1] hI J J (Dn [114,97,100,97,114] r1.2 s1_end _ (ix ids 1) v1 w w1 w2 w3 w4 w5 w6 g1 (by exact hI.sub' J J)) J J J J J J (fun v _=>Ao (K:=3) (N:=2) Tryz.func174 hI) ?_
 rintro _ _ _ _ ⟨rfl,rfl⟩
 refine Aw [1] hI J J J ?_
 refine Ap<|Aa<|Aj ?_
 refine Y<|O<|Ab 1 [0] [(16,(.q ids 1 g1))] ?_
 refine An [1] hI J J (Ej 0 64 (r1.2.drop 1) s1_end _ (ix ids 1) v1 w w1 w2 w3 w4 w5 w6 g1 (by exact hI.sub' J J)) J J J J J J (fun v _=>Ao (K:=3) (N:=2) Tryz.func174 hI) ?_
 rintro r3 _ _ _ ⟨rfl,rfl⟩
 refine Aw [1] hI J J J ?_
 refine Ap<|Z (.ptr (ix ids 4) g4 0 3) J (B9 (By (c:=0) (off:=3) (i:=3) Gp J Ds J))<|Aq (Ax (v:=(.I r3)) hI J J J J Ds J J J J J)<|Aa<|Aj ?_
 refine Y<|O<|Ab 1 [0] [(19,(.q ids 1 g1))] ?_
 refine An [1] hI J J (Dn [112,114,111,99,101,100,117,114,97,108] ((r1.2.drop 1).drop 1) s1_end _ (ix ids 1) v1 w w1 w2 w3 w4 w5 w6 g1 (by exact hI.sub' J J)) J J J J J J (fun v _=>Ao (K:=3) (N:=2) Tryz.func174 hI) ?_
 rintro _ _ _ _ ⟨rfl,rfl⟩
 refine Aw [1] hI J J J ?_
 refine Ap<|Aa<|Aj ?_
 refine Y<|O<|Ab 3 [0,4] [(23,(.I r3)),(21,(.q ids 1 g1))] ?_
 refine An [1] hI J J (Ej 0 r3 (((r1.2.drop 1).drop 1).drop 1) s1_end _ (ix ids 1) v1 w w1 w2 w3 w4 w5 w6 g1 (by exact hI.sub' J J)) J J J J J J (fun v _=>Ao (K:=3) (N:=2) Tryz.func174 hI) ?_
 rintro r5 _ _ _ ⟨rfl,rfl⟩
 refine Aw [1] hI J J J ?_
 refine Ap<|Z (.ptr (ix ids 4) g4 0 4) J (B9 (By (c:=0) (off:=4) (i:=4) Gp J Ds J))<|Aq (Ax (v:=(.I r5)) hI J J J J Ds J J J J J)<|Aa<|Aj ?_
 refine Y<|O<|Ab 1 [4] [(26,(.agg [(.str s),(.sl 1 (List.map rS r1.1)),.emp,(.I r3),(.I r5)]))] ?_
 refine Aq (Ax (v:=(.agg [(.str s),(.sl 1 (List.map rS r1.1)),.emp,(.I r3),(.I r5)])) hI J J J J Gp J J J J J)<|Aa<|Aj ?_
 exact D3 (K:=3) (N:=2) (a:=(({ Name:=s,Names:=r1.1,Volumes:=[],Radar:=r3,Procedural:=r5 }:Sector),((((r1.2.drop 1).drop 1).drop 1).drop 1))) (vs:=[(.agg [(.str s),(.sl 1 (List.map rS r1.1)),.emp,(.I r3),(.I r5)])]) [some (.rows g 1 [[(.q ids 1 g1)]]),some (.rows g1 10 [[(.sl 4 (List.map Ac ((((r1.2.drop 1).drop 1).drop 1).drop 1))),(.I s1_end),v1,w,w1,w2,w3,w4,w5,w6]]),Ah v1 g2 2 (List.map As l)] Tryz.func174 hI J (Dt (Be hI J J J Gp J) Fi) J (.keep (.keep (.keep (.drop (.drop .nil))))) (.aggL (.cons (.same _) (.cons (.same _) (.cons (.emp _) (.cons (.same _) (.cons (.same _) .nil)))))) ⟨J,J⟩
theorem Ui (most:Int)(s0_l:List Token)(s0_end:Int)(l:List Volume)(h0:Ae)(o0:Nat)(o1:Nat)(w:AV)(w1:AV)(w2:AV)(w3:AV)(w4:AV)(w5:AV)(w6:AV)(g:Nat)(v1:AV)(g1:Nat)(vH:Ay v1 o1 g1 l.length)(hI0:Ids h0 [o0,o1] 2):Fd most s0_l s0_end l≠.bad→Bh Tryz.prog 210 [(.ptr o0 g 0 0),(.int .i64 most),(.func (.func 200) [(.ptr o0 g 0 0)] [])] (hp h0 [o0,o1] [some (.rows g 10 [[(.sl 4 (List.map Ac s0_l)),(.int .i64 s0_end),v1,w,w1,w2,w3,w4,w5,w6]]),Ah v1 g1 2 (List.map As l)]) (Cs (fun a_ v h'=>v=(.sl 2 (List.map Cc a_.1))∧h'=hp h0 [o0,o1] [some (.rows g 10 [[(.sl 4 (List.map Ac a_.2)),(.int .i64 s0_end),v1,w,w1,w2,w3,w4,w5,w6]]),Ah v1 g1 2 (List.map As l)]) h0 (Fd most s0_l s0_end l)):=by
 refine Bb (n:=24) 1 Tryz.func210 J (by decide) J J hI0 J fun ids he hI=>?_
 clear hI0
 obtain rfl:ix ids 0=o0:=he 0 rfl
 obtain rfl:ix ids 1=o1:=he 1 rfl
 clear he
 refine Bm (Ak (Fd.eq_1 _ _ _ _) ?_)
 refine Aj ?_
 refine Y<|O<|Z .emp J Al<|Aa<|A8<|Ee [(0,(.q ids 0 g)),(1,(.I most)),(2,(.func (.func 200) [(.q ids 0 g)] [])),(6,.emp)] (FI J)<|Uk (P:=Tryz.prog) (C2 fun fL l1=>Gy most s0_end fL l1) ((fun r=>.ok r):((List Span)×(List Token))→R ((List Span)×(List Token))) (C2 fun fL l1=>fun(fr:Nat→AV) (h:Ae) => ∃ (v2:AV),∃ (g2:Nat),Ay v2 (ix ids 2) g2 l1.length∧fr=A2 [(0,(.q ids 0 g)),(1,(.I most)),(2,(.func (.func 200) [(.q ids 0 g)] [])),(6,v2)]∧h=hp h0 ids [(some (.rows g 10 [[(.sl 4 (List.map Ac fL)),(.I s0_end),v1,w,w1,w2,w3,w4,w5,w6]])),(Ah v1 g1 2 (List.map As l)),(Ah v2 g2 2 (List.map Cc l1))]) (s0_l,[]) ?_ ?_
 ·exact⟨.emp,0,.nil,J,J⟩
 rintro vW hW ⟨fL,l1⟩ fr h ⟨v2,g2,vH1,rfl,rfl⟩
 refine Ak (m':=Gy most s0_end fL l1) J (Ak (Gy.eq_1 _ _ _ _) ?_)
 refine A8<|Y<|O<|Ab 2 [] [(8,(.func (.func 200) [(.q ids 0 g)] [])),(7,v2)] ?_
 refine An [0] hI J J (Sl fL s0_end _ (ix ids 0) v1 w w1 w2 w3 w4 w5 w6 g (by exact hI.sub' J J)) J J J J J J (fun v _=>Ao (K:=2) (N:=1) Tryz.func210 hI) ?_
 rintro r _ _ _ ⟨rfl,rfl⟩
 refine Aw [0] hI J J J ?_
 refine Ap<|Dh (e:=Cc) (L:=[r]) (st:=2) (rows:=[[(.I r.From),(.I r.To)]]) J Mw Ly J J J J J (.cons (RowSim.refl _) .nil) (fun x=>Aj6 x) J J<|Gb fun hl=>P2 (e:=Cc) (L:=l1) (L2:=[r]) (v:=v2) (g:=g2) (st:=2) (j:=2) hI J J J J vH1 J (Ke J) Mw Mw J Ly J J J hl fun v3 g3 vH2=>Z v3 J Al<|Aa<|Aj ?_
 refine Y<|Y<|O<|Z (.q ids 0 g) J Ad<|An [0] hI J J (Nj 3 [44] (((fL.drop 1).drop 1).drop 1) s0_end _ (ix ids 0) v1 w w1 w2 w3 w4 w5 w6 g (by exact hI.sub' J J)) J J J J J J (fun v _=>Ao (K:=2) (N:=1) Tryz.func210 hI) ?_
 rintro r1 _ _ _ ⟨rfl,rfl⟩
 refine Aw [0] hI J J J ?_
 refine Ap<|Z (.bool (!r1)) J (Q7 J)<|Aa<|Ei J (fun hc=>?_) (fun hc=>?_)
 ·refine Az<|Y<|Y<|O<|Z v3 J Ad<|Z (.I ((l1++[r]).length:Int)) J (A0 (Ay.len vH2 Mw))<|Ab 2 [] [(19,(.bool (((l1++[r]).length:Int)==most)))] ?_
  refine Aa<|Ed (π:=Unit) (fun _=>Gv s0_end fL l1 r) (fun _=>fun(fr:Nat→AV) (h:Ae)=>fr=A2 [(0,(.q ids 0 g)),(1,(.I most)),(2,(.func (.func 200) [(.q ids 0 g)] [])),(6,v3)]∧h=hp h0 ids [(some (.rows g 10 [[(.sl 4 (List.map Ac (((fL.drop 1).drop 1).drop 1))),(.I s0_end),v1,w,w1,w2,w3,w4,w5,w6]])),(Ah v1 g1 2 (List.map As l)),(Ah v3 g3 2 (List.map Cc (l1++[r])))]) ?_ fun hJ=>?_
  ·rintro _ fr h ⟨rfl,rfl⟩
   refine Ak (Gv.eq_1 _ _ _ _)<|O<|Z (.q ids 0 g) J Ad<|An [0] hI J J (C5 [44] (((fL.drop 1).drop 1).drop 1) s0_end _ (ix ids 0) v1 w w1 w2 w3 w4 w5 w6 g (by exact hI.sub' J J)) J J J J J J (fun v _=>Ao (K:=2) (N:=1) Tryz.func210 hI) ?_
   rintro _ _ _ _ ⟨rfl,rfl⟩
   refine Aw [0] hI J J J ?_
   refine Ap<|Aa<|Aj ?_
   refine Bn<|Bo (Po (hW (((((fL.drop 1).drop 1).drop 1).drop 1),(l1++[r])) _ _ ⟨v3,g3,vH2,J,J⟩))
  refine Cd J (fun hc1=>?_) (fun hc1=>?_)
  ·refine O<|Z (.q ids 0 g) J Ad<|An [0] hI J J (Ci 2 (((fL.drop 1).drop 1).drop 1) s0_end _ (ix ids 0) v1 w w1 w2 w3 w4 w5 w6 g (by exact hI.sub' J J)) J J J J J J (fun v _=>Ao (K:=2) (N:=1) Tryz.func210 hI) ?_
   rintro _ _ _ _ ⟨rfl,rfl⟩
   refine Aw [0] hI J J J ?_
   refine Ap<|Aa<|Bo (hJ () _ _ ⟨J,J⟩)
  refine Az<|Bo (hJ () _ _ ⟨J,J⟩)
 refine Y<|O<|Ab 2 [] [(6,v3)] ?_
 refine Aa<|Xd<|D3 (K:=2) (N:=1) (a:=((l1++[r]),(((fL.drop 1).drop 1).drop 1))) (vs:=[v3]) [some (.rows g 10 [[(.sl 4 (List.map Ac (((fL.drop 1).drop 1).drop 1))),(.I s0_end),v1,w,w1,w2,w3,w4,w5,w6]]),Ah v1 g1 2 (List.map As l)] Tryz.func210 hI J J J (.keep (.keep (.drop .nil))) (Fo vH2 (hI.at J J) (hI.at J J) (fun x=>Aj6 x)) ⟨J,J⟩
theorem Rc (text:Ar)(s0_l:List Token)(s0_end:Int)(l:List Volume)(h0:Ae)(o0:Nat)(o1:Nat)(w:AV)(w1:AV)(w2:AV)(w3:AV)(w4:AV)(w5:AV)(w6:AV)(g:Nat)(v1:AV)(g1:Nat)(vH:Ay v1 o1 g1 l.length)(hI0:Ids h0 [o0,o1] 2):Hl text s0_l s0_end l≠.bad→Bh Tryz.prog 171 [(.ptr o0 g 0 0),(.str text)] (hp h0 [o0,o1] [some (.rows g 10 [[(.sl 4 (List.map Ac s0_l)),(.int .i64 s0_end),v1,w,w1,w2,w3,w4,w5,w6]]),Ah v1 g1 2 (List.map As l)]) (Cs (fun a_ v h'=>v=(.sl 2 (List.map Cc a_.1))∧h'=hp h0 [o0,o1] [some (.rows g 10 [[(.sl 4 (List.map Ac a_.2)),(.int .i64 s0_end),v1,w,w1,w2,w3,w4,w5,w6]]),Ah v1 g1 2 (List.map As l)]) h0 (Hl text s0_l s0_end l)):=by
 refine Bb (n:=16) 0 Tryz.func171 J (by decide) J J hI0 J fun ids he hI=>?_
 clear hI0
 obtain rfl:ix ids 0=o0:=he 0 rfl
 obtain rfl:ix ids 1=o1:=he 1 rfl
 clear he
 refine Bm (Ak (Hl.eq_1 _ _ _ _) ?_)
 refine Y<|O<|Z .emp J Al<|Aa<|Y<|Y<|O ?_
 refine Ab 2 [] [(6,(.str text)),(5,(.q ids 0 g))] ?_
 refine An [0] hI J J (Nj 1 text s0_l s0_end _ (ix ids 0) v1 w w1 w2 w3 w4 w5 w6 g (by exact hI.sub' J J)) J J J J J J (fun v _=>Ao (K:=2) (N:=0) Tryz.func171 hI) ?_
 rintro r _ _ _ ⟨rfl,rfl⟩
 refine Aw [0] hI J J J ?_
 refine Ap<|Z (.bool (!r)) J (Q7 J)<|Aa<|Ei J (fun hc=>?_) (fun hc=>?_)
 ·refine Az<|Y<|O<|Ab 2 [] [(10,(.str text)),(9,(.q ids 0 g))] ?_
  refine An [0] hI J J (Dn text s0_l s0_end _ (ix ids 0) v1 w w1 w2 w3 w4 w5 w6 g (by exact hI.sub' J J)) J J J J J J (fun v _=>Ao (K:=2) (N:=0) Tryz.func171 hI) ?_
  rintro _ _ _ _ ⟨rfl,rfl⟩
  refine Aw [0] hI J J J ?_
  refine Ap<|Aa<|Aj ?_
  refine Y<|O<|Ab 3 [] [(14,(.func (.func 200) [(.q ids 0 g)] [])),(12,(.q ids 0 g))] ?_
  refine An [0,1] hI J J (Ui 16 (s0_l.drop 1) s0_end l _ (ix ids 0) (ix ids 1) w w1 w2 w3 w4 w5 w6 g v1 g1 vH (by exact hI.sub' J J)) J J J J J J (fun v _=>Ao (K:=2) (N:=0) Tryz.func171 hI) ?_
  rintro r2 _ _ _ ⟨rfl,rfl⟩
  refine Aw [0,1] hI J J J ?_
  refine Ap<|Z (.sl 2 (List.map Cc r2.1)) J Al<|Aa<|Aj ?_
  exact D3 (K:=2) (N:=0) (a:=(r2.1,r2.2)) (vs:=[(.sl 2 (List.map Cc r2.1))]) [some (.rows g 10 [[(.sl 4 (List.map Ac r2.2)),(.I s0_end),v1,w,w1,w2,w3,w4,w5,w6]]),Ah v1 g1 2 (List.map As l)] Tryz.func171 hI J J J (.keep (.keep .nil)) (.same _) ⟨J,J⟩
 refine Y<|O<|Z .emp J Al<|Aa<|D3 (K:=2) (N:=0) (a:=([],s0_l)) (vs:=[.emp]) [some (.rows g 10 [[(.sl 4 (List.map Ac s0_l)),(.I s0_end),v1,w,w1,w2,w3,w4,w5,w6]]),Ah v1 g1 2 (List.map As l)] Tryz.func171 hI J J J (.keep (.keep .nil)) (.emp _) ⟨J,J⟩
theorem Uh (s:Ar)(s1_l:List Token)(s1_end:Int)(l:List Volume)(h0:Ae)(o0:Nat)(o1:Nat)(o2:Nat)(g:Nat)(w:AV)(w1:AV)(w2:AV)(w3:AV)(w4:AV)(w5:AV)(w6:AV)(g1:Nat)(v1:AV)(g2:Nat)(vH:Ay v1 o2 g2 l.length)(hI0:Ids h0 [o0,o1,o2] 3):Fe s s1_l s1_end l≠.bad→Bh Tryz.prog 185 [(.str s),(.ptr o0 g 0 0)] (hp h0 [o0,o1,o2] [some (.rows g 1 [[(.ptr o1 g1 0 0)]]),some (.rows g1 10 [[(.sl 4 (List.map Ac s1_l)),(.int .i64 s1_end),v1,w,w1,w2,w3,w4,w5,w6]]),Ah v1 g2 2 (List.map As l)]) (Cs (fun a_ v h'=>v=(.agg (A9 a_.1))∧h'=hp h0 [o0,o1,o2] [some (.rows g 1 [[(.ptr o1 g1 0 0)]]),some (.rows g1 10 [[(.sl 4 (List.map Ac a_.2)),(.int .i64 s1_end),v1,w,w1,w2,w3,w4,w5,w6]]),Ah v1 g2 2 (List.map As l)]) h0 (Fe s s1_l s1_end l)):=by
 refine Bb (n:=21) 2 Tryz.func185 J (by decide) J J hI0 J fun ids he hI=>?_
 clear hI0
 obtain rfl:ix ids 0=o0:=he 0 rfl
 obtain rfl:ix ids 1=o1:=he 1 rfl
 obtain rfl:ix ids 2=o2:=he 2 rfl
 clear he
 refine Bm (Ak (Fe.eq_1 _ _ _ _) ?_)
 refine Aj ?_
 refine Y<|O<|Bc (j:=3) hI J J J J Hn J fun g3=>Aa<|Aj ?_
 refine Y<|O<|Ab 2 [] [(6,(.agg [(.str s),(.str []),(.I 0),(.I 0),.emp]))] ?_
 refine Bc (j:=4) hI J J J J Hn J fun g4=>Aq (Ax (v:=(.agg [(.str s),(.str []),(.I 0),(.I 0),.emp])) hI J J J J Hn J J J J J)<|Aa<|Aj ?_
 refine Y<|O<|Ab 1 [0] [(7,(.q ids 1 g1))] ?_
 refine An [1] hI J J (Dn [105,110] s1_l s1_end _ (ix ids 1) v1 w w1 w2 w3 w4 w5 w6 g1 (by exact hI.sub' J J)) J J J J J J (fun v _=>Ao (K:=3) (N:=2) Tryz.func185 hI) ?_
 rintro _ _ _ _ ⟨rfl,rfl⟩
 refine Aw [1] hI J J J ?_
 refine Ap<|Aa<|Aj ?_
 refine Y<|O<|Ab 1 [0] [(9,(.q ids 1 g1))] ?_
 refine An [1] hI J J (Cu (s1_l.drop 1) s1_end _ (ix ids 1) v1 w w1 w2 w3 w4 w5 w6 g1 (by exact hI.sub' J J)) J J J J J J (fun v _=>Ao (K:=3) (N:=2) Tryz.func185 hI) ?_
 rintro r1 _ _ _ ⟨rfl,rfl⟩
 refine Aw [1] hI J J J ?_
 refine Ap<|Z (.ptr (ix ids 4) g4 0 1) J (B9 (By (c:=0) (off:=1) (i:=1) Hn J Cy J))<|Aq (Ax (v:=(.str r1)) hI J J J J Cy J J J J J)<|Aa<|Aj ?_
 refine Y<|O<|Ab 1 [0] [(12,(.q ids 1 g1))] ?_
 refine An [1] hI J J (Dn [108,101,110,103,116,104] ((s1_l.drop 1).drop 1) s1_end _ (ix ids 1) v1 w w1 w2 w3 w4 w5 w6 g1 (by exact hI.sub' J J)) J J J J J J (fun v _=>Ao (K:=3) (N:=2) Tryz.func185 hI) ?_
 rintro _ _ _ _ ⟨rfl,rfl⟩
 refine Aw [1] hI J J J ?_
 refine Ap<|Aa<|Aj ?_
 refine Y<|O<|Ab 1 [0] [(14,(.q ids 1 g1))] ?_
 refine An [1] hI J J (Ej 1 4096 (((s1_l.drop 1).drop 1).drop 1) s1_end _ (ix ids 1) v1 w w1 w2 w3 w4 w5 w6 g1 (by exact hI.sub' J J)) J J J J J J (fun v _=>Ao (K:=3) (N:=2) Tryz.func185 hI) ?_
 rintro r3 _ _ _ ⟨rfl,rfl⟩
 refine Aw [1] hI J J J ?_
 refine Ap<|Z (.ptr (ix ids 4) g4 0 3) J (B9 (By (c:=0) (off:=3) (i:=3) Hn J Ds J))<|Aq (Ax (v:=(.I r3)) hI J J J J Ds J J J J J)<|Aa<|Aj ?_
 refine Y<|O<|Ab 1 [0] [(17,(.q ids 1 g1))] ?_
 refine An [1,2] hI J J (Rc [111,112,101,110] ((((s1_l.drop 1).drop 1).drop 1).drop 1) s1_end l _ (ix ids 1) (ix ids 2) w w1 w2 w3 w4 w5 w6 g1 v1 g2 vH (by exact hI.sub' J J)) J J J J J J (fun v _=>Ao (K:=3) (N:=2) Tryz.func185 hI) ?_
 rintro r4 _ _ _ ⟨rfl,rfl⟩
 refine Aw [1,2] hI J J J ?_
 refine Ap<|Z (.ptr (ix ids 4) g4 0 4) J (B9 (By (c:=0) (off:=4) (i:=4) Hn J Mw J))<|Aq (Ax (v:=(.sl 2 (List.map Cc r4.1))) hI J J J J Mw J J J J J)<|Aa<|Aj ?_
 refine Y<|O<|Ab 1 [4] [(20,(.agg [(.str s),(.str r1),(.I 0),(.I r3),(.sl 2 (List.map Cc r4.1))]))] ?_
 refine Aq (Ax (v:=(.agg [(.str s),(.str r1),(.I 0),(.I r3),(.sl 2 (List.map Cc r4.1))])) hI J J J J Hn J J J J J)<|Aa<|Aj ?_
 exact D3 (K:=3) (N:=2) (a:=(({ Name:=s,In:=r1,Volume:=0,Length:=r3,Open:=r4.1 }:Segment),r4.2)) (vs:=[(.agg [(.str s),(.str r1),(.I 0),(.I r3),(.sl 2 (List.map Cc r4.1))])]) [some (.rows g 1 [[(.q ids 1 g1)]]),some (.rows g1 10 [[(.sl 4 (List.map Ac r4.2)),(.I s1_end),v1,w,w1,w2,w3,w4,w5,w6]]),Ah v1 g2 2 (List.map As l)] Tryz.func185 hI J (Dt (Be hI J J J Hn J) Fi) J (.keep (.keep (.keep (.drop (.drop .nil))))) (.aggL (.cons (.same _) (.cons (.same _) (.cons (.same _) (.cons (.same _) (.cons (.same _) .nil)))))) ⟨J,J⟩
theorem Ud (s:Ar)(s1_l:List Token)(s1_end:Int)(l:List Volume)(h0:Ae)(o0:Nat)(o1:Nat)(o2:Nat)(g:Nat)(w:AV)(w1:AV)(w2:AV)(w3:AV)(w4:AV)(w5:AV)(w6:AV)(g1:Nat)(v1:AV)(g2:Nat)(vH:Ay v1 o2 g2 l.length)(hI0:Ids h0 [o0,o1,o2] 3):Fc s s1_l s1_end l≠.bad→Bh Tryz.prog 170 [(.str s),(.ptr o0 g 0 0)] (hp h0 [o0,o1,o2] [some (.rows g 1 [[(.ptr o1 g1 0 0)]]),some (.rows g1 10 [[(.sl 4 (List.map Ac s1_l)),(.int .i64 s1_end),v1,w,w1,w2,w3,w4,w5,w6]]),Ah v1 g2 2 (List.map As l)]) (Cs (fun a_ v h'=>v=(.agg (As a_.1))∧h'=hp h0 [o0,o1,o2] [some (.rows g 1 [[(.ptr o1 g1 0 0)]]),some (.rows g1 10 [[(.sl 4 (List.map Ac a_.2)),(.int .i64 s1_end),v1,w,w1,w2,w3,w4,w5,w6]]),Ah v1 g2 2 (List.map As l)]) h0 (Fc s s1_l s1_end l)):=by
 refine Bb (n:=8) 1 Tryz.func170 J (by decide) J J hI0 J fun ids he hI=>?_
 clear hI0
 obtain rfl:ix ids 0=o0:=he 0 rfl
 obtain rfl:ix ids 1=o1:=he 1 rfl
 obtain rfl:ix ids 2=o2:=he 2 rfl
 clear he
 refine Bm (Ak (Fc.eq_1 _ _ _ _) ?_)
 refine Aj ?_
 refine Y<|O<|Bc (j:=3) hI J J J J Ko J fun g3=>Aa<|Aj ?_
 refine Y<|O<|Ab 2 [0] [(5,(.q ids 1 g1)),(4,(.str s))] ?_
 refine An [1,2] hI J J (Rc [99,108,111,115,101,100] s1_l s1_end l _ (ix ids 1) (ix ids 2) w w1 w2 w3 w4 w5 w6 g1 v1 g2 vH (by exact hI.sub' J J)) J J J J J J (fun v _=>Ao (K:=3) (N:=1) Tryz.func170 hI) ?_
 rintro r _ _ _ ⟨rfl,rfl⟩
 refine Aw [1,2] hI J J J ?_
 refine Ap<|Z (.agg [(.str s),(.sl 2 (List.map Cc r.1))]) J (Mf (R1 Ko At8 J))<|Aq (Ax (v:=(.agg [(.str s),(.sl 2 (List.map Cc r.1))])) hI J J J J Ko J J J J J)<|Aa<|Aj ?_
 exact D3 (K:=3) (N:=1) (a:=(({ Name:=s,Closed:=r.1 }:Volume),r.2)) (vs:=[(.agg [(.str s),(.sl 2 (List.map Cc r.1))])]) [some (.rows g 1 [[(.q ids 1 g1)]]),some (.rows g1 10 [[(.sl 4 (List.map Ac r.2)),(.I s1_end),v1,w,w1,w2,w3,w4,w5,w6]]),Ah v1 g2 2 (List.map As l)] Tryz.func170 hI J (Dt (Be hI J J J Ko J) Fi) J (.keep (.keep (.keep (.drop .nil)))) (.aggL (.cons (.same _) (.cons (.same _) .nil))) ⟨J,J⟩
theorem W1 (most:Int)(s0_l:List Token)(s0_end:Int)(l:List Volume)(h0:Ae)(o0:Nat)(o1:Nat)(o2:Nat)(w:AV)(w1:AV)(w2:AV)(w3:AV)(w4:AV)(w5:AV)(w6:AV)(g:Nat)(v1:AV)(g1:Nat)(g2:Nat)(vH:Ay v1 o1 g1 l.length)(hI0:Ids h0 [o0,o1,o2] 3):Id most s0_l s0_end l≠.bad→Bh Tryz.prog 169 [(.ptr o0 g 0 0),(.ptr o0 g 0 2),(.int .i64 most),(.func (.func 170) [] [(.ptr o2 g2 0 0)])] (hp h0 [o0,o1,o2] [some (.rows g 10 [[(.sl 4 (List.map Ac s0_l)),(.int .i64 s0_end),v1,w,w1,w2,w3,w4,w5,w6]]),Ah v1 g1 2 (List.map As l),some (.rows g2 1 [[(.ptr o0 g 0 0)]])]) (Cs (fun a_ v h' => ∃ (v3:AV),∃ (g5:Nat),Ay v3 o1 g5 a_.2.length∧v=(.tup [])∧h'=hp h0 [o0,o1,o2] [some (.rows g 10 [[(.sl 4 (List.map Ac a_.1)),(.int .i64 s0_end),v3,w,w1,w2,w3,w4,w5,w6]]),Ah v3 g5 2 (List.map As a_.2),some (.rows g2 1 [[(.ptr o0 g 0 0)]])]) h0 (Id most s0_l s0_end l)):=by
 refine Bb (n:=39) 1 Tryz.func169 J (by decide) J J hI0 J fun ids he hI=>?_
 clear hI0
 obtain rfl:ix ids 0=o0:=he 0 rfl
 obtain rfl:ix ids 1=o1:=he 1 rfl
 obtain rfl:ix ids 2=o2:=he 2 rfl
 clear he
 refine Bm (Ak (Id.eq_1 _ _ _ _) ?_)
 refine Aj ?_
 refine Y<|Y<|O<|Ab 3 [0] [(11,v1)] ?_
 refine Z (.I (l.length:Int)) J (A0 (Ay.len vH J2))<|Ab 2 [] [(14,(.bool ((l.length:Int)==most)))] ?_
 refine Aa<|Ed (π:=Unit) (fun _=>Ip s0_l s0_end l) (fun _=>fun(fr:Nat→AV) (h:Ae)=>fr=A2 [(0,(.q ids 0 g)),(1,(.ptr (ix ids 0) g 0 2)),(3,(.func (.func 170) [] [(.q ids 2 g2)]))]∧h=hp h0 ids [(some (.rows g 10 [[(.sl 4 (List.map Ac s0_l)),(.I s0_end),v1,w,w1,w2,w3,w4,w5,w6]])),(Ah v1 g1 2 (List.map As l)),(some (.rows g2 1 [[(.q ids 0 g)]])),none]) ?_ fun hJ=>?_
 ·rintro _ fr h ⟨rfl,rfl⟩
  refine Ak (Ip.eq_1 _ _ _)<|Y<|O<|Ab 5 [0] [(21,(.sl 4 (List.map Ac s0_l))),(17,(.q ids 0 g))] ?_
  refine Gb fun hs=>Z (.sl 4 (List.map Ac (s0_l.drop 1))) J (Gu (Ny Cx Dc J hs))<|Ab 2 [] [(24,(.q ids 0 g))] ?_
  refine Aq (Ax (v:=(.sl 4 (List.map Ac (s0_l.drop 1)))) hI J J J J Cx J J J J J)<|Aa<|Aj ?_
  refine Y<|O<|Ab 2 [] [(26,(.q ids 0 g)),(25,(.func (.func 170) [] [(.q ids 2 g2)]))] ?_
  refine An [0] hI J J (Cu (s0_l.drop 1) s0_end _ (ix ids 0) v1 w w1 w2 w3 w4 w5 w6 g (by exact hI.sub' J J)) J J J J J J (fun v _=>Ao (K:=3) (N:=1) Tryz.func169 hI) ?_
  rintro r1 _ _ _ ⟨rfl,rfl⟩
  refine Aw [0] hI J J J ?_
  refine Ap<|An [2,0,1] hI J J (Ud r1 ((s0_l.drop 1).drop 1) s0_end l _ (ix ids 2) (ix ids 0) (ix ids 1) g2 w w1 w2 w3 w4 w5 w6 g v1 g1 vH (by exact hI.sub' J J)) J J J J J J (fun v _=>Ao (K:=3) (N:=1) Tryz.func169 hI) ?_
  rintro r2 _ _ _ ⟨rfl,rfl⟩
  refine Aw [2,0,1] hI J J J ?_
  refine Ap<|Bc (j:=3) hI J J J J Ko J fun g3=>Aq (Ax (v:=(.agg (As r2.1))) hI J J J J Ko J J J J J)<|Aa<|Aj ?_
  refine Y<|O<|Z (.q ids 0 g) J Ad<|An [0] hI J J (C5 [59] r2.2 s0_end _ (ix ids 0) v1 w w1 w2 w3 w4 w5 w6 g (by exact hI.sub' J J)) J J J J J J (fun v _=>Ao (K:=3) (N:=1) Tryz.func169 hI) ?_
  rintro _ _ _ _ ⟨rfl,rfl⟩
  refine Aw [0] hI J J J ?_
  refine Ap<|Aa<|Aj ?_
  refine Di Gg [[],[],[1],[1,2],[],[4],[1,2,3,4,5],[0,0,1,2,3,4,5,6],[0,1,2,3,4,5,6,6,6,7]] [(false,0),(false,1),(false,2),(false,3),(false,4),(true,5),(true,6),(false,7),(true,8)] (by kernel_rfl)<|Ag (.ptr (ix ids 0) g 0 2) J J Ad<|Ag (.ptr (ix ids 0) g 0 2) J J Ad<|Ag (.ptr (ix ids 0) g 0 2) J J (Bg J)<|Ag v1 J J (Au (Be hI J J J J2 J))<|Ag (.agg (As r2.1)) J J (Au (Be hI J J J Ko J))<|Jh J J (fun _ _=>J) (fun K hK=>Mc (e:=As) (L:=[r2.1]) (st:=2) (rows:=[[(.str r2.1.Name),(.sl 2 (List.map Cc r2.1.Closed))]]) J2 Ko J J J J J (.cons (RowSim.refl _) .nil) (fun x=>Ye x) J J (hK _ _ (Af J (Br J (Au (Be hI J J J J2 J)) (Br J (Bg J) (Br J Ad (Br J Ad Bw))))) ?_))
  clear hK K
  refine Kt fun hl=>Jh J J (fun _ _=>J) (fun K hK=>Iq (e:=As) (L:=l) (L2:=[r2.1]) (v:=v1) (g:=g1) (st:=2) (j:=1) hI J J J vH J (Ke J) J2 J2 J Ko J J J hl fun v2 g4 vH1=>hK _ _ (Af J (Af J (Af J (Af J (Br J Ad Bw))))) ?_)
  clear hK K
  refine Ag (.ptr (ix ids 0) g 0 2) J J (Bg J)<|Gr J (fun _ _=>J) (fun K hK=>D4 (Jj vH1 hI J J J J J2 J J J) (hK _ _ (Af J (Af J (Af J (Af J (Af J (Af J Bw)))))) ?_))
  clear hK K
  refine Ct<|Aj ?_
  exact Ce (K:=3) (N:=1) (a:=((r2.2.drop 1),(l++[r2.1]))) (vs:=[]) [some (.rows g 10 [[(.sl 4 (List.map Ac (r2.2.drop 1))),(.I s0_end),v2,w,w1,w2,w3,w4,w5,w6]]),Ah v2 g4 2 (List.map As (l++[r2.1])),some (.rows g2 1 [[(.q ids 0 g)]])] Tryz.func169 hI J J J (.keep (.keep (.keep (.drop .nil)))) (.same _) ⟨v2,g4,vH1,J,J⟩
 refine Cd J (fun hc=>?_) (fun hc=>?_)
 ·refine O<|Z (.q ids 0 g) J Ad<|An [0] hI J J (Ci 2 s0_l s0_end _ (ix ids 0) v1 w w1 w2 w3 w4 w5 w6 g (by exact hI.sub' J J)) J J J J J J (fun v _=>Ao (K:=3) (N:=1) Tryz.func169 hI) ?_
  rintro _ _ _ _ ⟨rfl,rfl⟩
  refine Aw [0] hI J J J ?_
  refine Ap<|Aa<|Bo (hJ () _ _ ⟨J,J⟩)
 refine Az<|Bo (hJ () _ _ ⟨J,J⟩)
theorem V9 (s0_l:List Token)(s0_end:Int)(l:List Volume)(h0:Ae)(o0:Nat)(o1:Nat)(w:AV)(w1:AV)(w2:AV)(w3:AV)(w4:AV)(w5:AV)(w6:AV)(g:Nat)(v1:AV)(g1:Nat)(vH:Ay v1 o1 g1 l.length)(hI0:Ids h0 [o0,o1] 2):Jn s0_l s0_end l≠.bad→Bh Tryz.prog 168 [(.ptr o0 g 0 0)] (hp h0 [o0,o1] [some (.rows g 10 [[(.sl 4 (List.map Ac s0_l)),(.int .i64 s0_end),v1,w,w1,w2,w3,w4,w5,w6]]),Ah v1 g1 2 (List.map As l)]) (Cs (fun a_ v h' => ∃ (v3:AV),∃ (g4:Nat),Ay v3 o1 g4 a_.2.length∧v=(.tup [])∧h'=hp h0 [o0,o1] [some (.rows g 10 [[(.sl 4 (List.map Ac a_.1)),(.int .i64 s0_end),v3,w,w1,w2,w3,w4,w5,w6]]),Ah v3 g4 2 (List.map As a_.2)]) h0 (Jn s0_l s0_end l)):=by
 refine Bb (n:=9) 1 Tryz.func168 J (by decide) J J hI0 J fun ids he hI=>?_
 clear hI0
 obtain rfl:ix ids 0=o0:=he 0 rfl
 obtain rfl:ix ids 1=o1:=he 1 rfl
 clear he
 refine Bm (Ak (Jn.eq_1 _ _ _) ?_)
 refine Aj ?_
 refine Y<|O<|Cv (v:=(.q ids 0 g)) (j:=2) hI J J J J J J J fun g2=>Aa<|Aj ?_
 refine Di Gg [[],[],[1],[1,2],[1,2,3],[],[0,1,2,3,4,5]] [(false,0),(false,1),(false,2),(false,3),(false,4),(false,5),(true,6)] (by kernel_rfl)<|Ag (.q ids 0 g) J J (Au (Be hI J J J Ua J))<|Ag (.q ids 0 g) J J (Au (Be hI J J J Ua J))<|Ag (.q ids 0 g) J J (Bg J)<|Ag (.ptr (ix ids 0) g 0 2) J J (B9 (By (c:=0) (off:=2) (i:=2) Z8 J Ec J))<|Ag (.ptr (ix ids 0) g 0 2) J J (B9 (By (c:=2) (off:=0) (i:=0) Ec J J2 J))<|Ag (.func (.func 170) [] [(.q ids 2 g2)]) J J R0 ?_
 refine Sz [0,1,2] hI J J (W1 64 s0_l s0_end l _ (ix ids 0) (ix ids 1) (ix ids 2) w w1 w2 w3 w4 w5 w6 g v1 g1 g2 vH (by exact hI.sub' J J)) J J J J J J J (fun v _ _ _=>Ao (K:=2) (N:=1) Tryz.func168 hI) ?_
 rintro r _ _ _ ⟨v2,g3,vH1,rfl,rfl⟩
 refine U6 [0,1,2] [some (.rows g 10 [[(.sl 4 (List.map Ac r.1)),(.I s0_end),v2,w,w1,w2,w3,w4,w5,w6]]),Ah v2 g3 2 (List.map As r.2),some (.rows g2 1 [[(.q ids 0 g)]])] hI J J J J ⟨(Af J (Af J (Af J (Af J (Af J (Af J Bw)))))),?_⟩
 refine Ur<|Ct<|Aj ?_
 exact Ce (K:=2) (N:=1) (a:=(r.1,r.2)) (vs:=[]) [some (.rows g 10 [[(.sl 4 (List.map Ac r.1)),(.I s0_end),v2,w,w1,w2,w3,w4,w5,w6]]),Ah v2 g3 2 (List.map As r.2)] Tryz.func168 hI J J J (.keep (.keep (.drop .nil))) (.same _) ⟨v2,g3,vH1,J,J⟩
end Go.Am

/- Written by shrink.py from texts of ours: comments struck, what is not reached left out, names short. -/
import Derived.Test.YtlephacmljbibaaGreatDoorU4
import Derived.Shelf.Strings.Builder1
import Derived.Shelf.Strings.Builder2
import Derived.Shelf.Strings.OnBuilder
import Derived.Shelf.Small.Strs
import Derived.Shelf.Strings.Builder2Cap
import Derived.Shelf.Strconv.Atoi
import Derived.Shelf.Strconv.Itoa0
import Derived.Shelf.Strconv.Itoa1
import Derived.Shelf.LaysM
import Derived.Shelf.Strconv.Itoa2
import Derived.Shelf.Strconv.Itoa3
import Derived.Shelf.Strconv.AtoiErrFast
import Derived.Shelf.Strconv.ParseIntEmpty
import Derived.Shelf.Strconv.AtoiFail
import Derived.Shelf.Strconv.Clone
import Derived.Shelf.Strconv.SyntaxError
import Derived.Shelf.LaysC
import Derived.Shelf.Strconv.ToError
import Derived.Shelf.Strconv.Lower
import Derived.Shelf.Strconv.ParseUint10
import Derived.Shelf.Strconv.ParseUint10Empty
import Derived.Shelf.Strconv.ParseUint10Any
import Derived.Shelf.Strconv.ParseInt10
import Derived.Shelf.Strconv.AtoiLong
import Derived.Shelf.Strconv.AtoiInnerAll
import Derived.Shelf.Strconv.RangeError
import Derived.Shelf.Strconv.ToErrorRange
import Derived.Shelf.Strconv.AtoiAll
import Derived.Shelf.Strconv.ErrVarAll
import Derived.Shelf.Strings.Search1
import Derived.Test.YtlephacmljbibaaGreatDoorProg
namespace Go.Am
open Go
set_option linter.unusedVariables false
set_option linter.unusedSimpArgs false
def G0 {α:Type}(p:Rd α)(T:List Token)(x:α)(ok:List Token→Prop):Prop := ∀ r,ok r→p (T++r)=.ok (x,r)
def Ra:List Token→Prop:=fun _=>True
def NoC:List Token→Prop:=fun r => ∀ t r',r=t::r'→Uq 3 [44] t=false
def Art:List Token→Prop:=fun r => ∃ r',r=Kx [59]::r'
section
variable {α β:Type} {p:Rd α} {f:α→Rd β} {T U:List Token} {a:α} {b:β} {ok ok':List Token→Prop}
theorem Aig (hp:G0 p T a ok)(hf:G0 (f a) U b ok')(h : ∀ r,ok' r→ok (U++r)):G0 (p.bind f) (T++U) b ok':=fun r hr=>by
 unfold Rd.bind
 rw [List.append_assoc,hp _ (h r hr)]
 exact hf r hr
theorem F2 (hp:G0 p T a Ra)(hf:G0 (f a) U b ok'):G0 (p.bind f) (T++U) b ok':=Aig hp hf fun _ _=>trivial
theorem Qa {g:α→β}(hp:G0 p T a ok):G0 (p.bind fun x=>.pure (g x)) T (g a) ok:=fun r hr=>by
 unfold Rd.bind
 rw [hp r hr]; rfl
theorem Aeo (hp:G0 p T a Ra):G0 p T a ok:=fun r _=>hp r trivial
theorem Adk {r:List Token}(h:Art r):NoC r:=fun t r' e=>by
 obtain⟨q,rfl⟩:=h
 injection e with e1 e2
 subst e1; rfl
theorem Ayt (s:An)(r:List Token):NoC (Do s::r):=fun t r' e=>by
 injection e with e1 e2
 subst e1; rfl
theorem Aa2 (s:An):G0 Oy [Do s] s Ra:=fun r _=>by
 show Oy (Do s::r)=_
 rw [Apa]; rfl
theorem Qc (s:An):G0 (O8 1 s) [Do s] () Ra:=fun r _=>by
 show O8 1 s (Do s::r)=_
 rw [Amn,if_pos (by simp [Uq,Do])]
theorem Ahr (s:An):G0 (O8 3 s) [Kx s] () Ra:=fun r _=>by
 show O8 3 s (Kx s::r)=_
 rw [Amn,if_pos (by simp [Uq,Kx])]
theorem Xm {n lo hi:Int}(h:(!O9 n lo hi)=false):G0 (Ph lo hi 1) [Od n] n Ra:=fun r _=>by
 have h:O9 n lo hi=true:=by simpa using h
 simp only [O9,Bool.and_eq_true,decide_eq_true_eq] at h
 show Ph lo hi 1 (Od n::r)=_
 rw [Aj1,if_pos (by simp [Air,Od]; exact⟨decide_eq_true h.1,decide_eq_true h.2⟩)]; rfl
theorem Av1 {n lo hi:Int}(h:(!O9 n lo hi)=false)(h2:Int.tmod n 10=0):G0 (Ph lo hi 10) [Od n] n Ra:=fun r _=>by
 have h:O9 n lo hi=true:=by simpa using h
 simp only [O9,Bool.and_eq_true,decide_eq_true_eq] at h
 show Ph lo hi 10 (Od n::r)=_
 rw [Aj1,if_pos (by simp [Air,Od,h2]; exact⟨decide_eq_true h.1,decide_eq_true h.2⟩)]; rfl
theorem An6 {s:Span}(h:Yx s=false):G0 Sd (W6 s) s Ra:=by
 simp only [Yx,Bool.or_eq_false_iff] at h
 have h1:O9 s.From 0 1439=true:=by simpa using h.1
 simp only [O9,Bool.and_eq_true,decide_eq_true_eq] at h1
 have e:=h.2
 rw [Ac9 (by omega) (by omega)] at e
 exact F2 (Xm h.1) (F2 (Qc [116,111]) (Qa (g:=fun b=>(⟨s.From,b⟩:Span)) (Xm e)))
theorem Alr {p:Rd α}{g:α→List Token}{B:α→Bool}(hp : ∀ a,B a=false→G0 p (g a) a Ra) : ∀ (l:List α) (n:Nat) (acc:List α),l≠[]→l.length≤n+1→(∀ a ∈ l,B a=false)→G0 (Fo p n acc) (H8 g l) (acc++l) NoC
 | [],n,acc,h,_,_=>absurd rfl h
 | [a],n,acc,_,hn,hB=>fun r hr=>by
  have e:H8 g [a]=g a:=by simp [H8,Vl]
  have h1:=hp a (hB a (List.mem_cons_self ..)) r trivial
  rw [e]
  have key : ∀ (K:Rd (List α)),(p.bind fun a=>(rIs 3 [44]).bind fun b=>if b=true then K else .pure (acc++[a])) (g a++r)=.ok (acc++[a],r):=fun K=>by
   unfold Rd.bind
   rw [h1]
   cases r with
   | nil=>rfl
   | cons t r=>
    have:=hr t r rfl
    simp only [rIs,this,Bool.false_eq_true,if_false]; rfl
  have key2 : ∀ (K:α→Rd (List α)),(p.bind fun a=>(rIs 3 [44]).bind fun b=>if b=true then K a else .pure (acc++[a])) (g a++r)=.ok (acc++[a],r):=fun K=>by
   unfold Rd.bind
   rw [h1]
   cases r with
   | nil=>rfl
   | cons t r=>
    have:=hr t r rfl
    simp only [rIs,this,Bool.false_eq_true,if_false]; rfl
  cases n with
  | zero=>rw [Fo]; exact key _
  | succ n=>rw [Fo]; exact key2 _
 | a::b::l,n,acc,_,hn,hB=>fun r hr=>by
  cases n with
  | zero=>simp at hn
  | succ n=>
   have e:H8 g (a::b::l)++r=g a++(Kx [44]::(H8 g (b::l)++r)):=by simp [H8,Vl]
   have h1:=hp a (hB a (List.mem_cons_self ..)) (Kx [44]::(H8 g (b::l)++r)) trivial
   have h2:=Alr hp (b::l) n (acc++[a]) (by simp) (by simpa using hn) (fun x hx=>hB x (List.mem_cons_of_mem _ hx)) r hr
   rw [Fo,e]
   unfold Rd.bind
   rw [h1]
   have h3:O8 3 [44] (Kx [44]::(H8 g (b::l)++r))=.ok ((),H8 g (b::l)++r):=Ahr [44] _ trivial
   have h4:Uq 3 [44] (Kx [44])=true:=rfl
   simp only [rIs,h4,if_true,h3]
   rw [h2,List.append_assoc]; rfl
theorem App {p:Rd α}{g:α→List Token}{B:α→Bool}(hp : ∀ a,B a=false→G0 p (g a) a Ra){most:Nat}{l:List α}(h:Oi B (most+1) l=false):G0 (Fo p most []) (H8 g l) l NoC:=by
 obtain⟨h1,h2,h3⟩:=S4 h
 exact Alr hp l most [] h1 h2 h3
theorem Ao1 {w:An}{l:List Span}(h:Qr l=false):G0 (V5 w) (Rk w l) l Art:=by
 cases l with
 | nil=>
  intro r hr
  obtain⟨r',rfl⟩:=hr
  rfl
 | cons a l=>
  have h:Oi Yx 16 (a::l)=false:=by simpa [Qr] using h
  intro r hr
  show V5 w (Do w::(H8 W6 (a::l)++r))=_
  have h1:=App (p:=Sd) (most:=15) (fun _=>An6) h r (Adk hr)
  have h3:Uq 1 w (Do w)=true:=by simp [Uq,Do]
  have h2:O8 1 w (Do w::(H8 W6 (a::l)++r))=.ok ((),H8 W6 (a::l)++r):=Qc w _ trivial
  unfold V5 Rd.bind
  simp only [rIs,h3,if_true,h2]
  exact h1
theorem Aim {most:Nat}{l:List An}(h:Ae2 (most+1) l=false):G0 (Fo Oy most []) (Aay l) l NoC:=App (p:=Oy) (fun a _=>Aa2 a) h
theorem Awx {m:Mode}(h:Agh m=false):G0 Xu (Ai9 m) m Ra:=by
 simp only [Agh,Bool.or_eq_false_iff] at h
 exact F2 (Qc _) (F2 (Aa2 m.Name) (Qa (g:=fun k=>({ Name:=m.Name,Places:=k }:Mode)) (Xm h.2)))
def Agi (a:Sector):Sector:={ Name:=a.Name,Names:=a.Names,Volumes:=[],Radar:=a.Radar,Procedural:=a.Procedural }
def Agv (a:Config):Config:={ Name:=a.Name,Names:=a.Names,Sectors:=[] }
def Ag1 (a:Segment):Segment:={ Name:=a.Name,In:=a.In,Volume:=0,Length:=a.Length,Open:=a.Open }
def Agl (a:Route):Route:={ Name:=a.Name,A:=a.A,B:=a.B,From:=0,To:=0,Names:=a.Names,Segments:=[] }
def Agr (a:Rule):Rule:=Ez a.Kind a.C a.A a.N a.Hours
theorem Vf {p:An→Rd α}{n:An}{T:List Token}{x:α}(h:G0 (p n) T x Art):G0 (E7 p) (([Do n]++T)++[Kx [59]]) x Ra:=by
 rw [List.append_assoc]
 exact F2 (Aa2 n) (Aig h (Qa (g:=fun _=>x) (Ahr [59])) fun r _=>⟨r,rfl⟩)
theorem Ayx {a:Volume}(h:Vz a=false):G0 (E7 Aew) (Vh a++[Kx [59]]) a Ra:=by
 simp only [Vz,Bool.or_eq_false_iff] at h
 exact Vf (Qa (g:=fun c=>({ Name:=a.Name,Closed:=c }:Volume)) (Ao1 h.2))
theorem Aym {a:Sector}(h:Vb a=false):G0 (E7 Ae7) (Wc a++[Kx [59]]) (Agi a) Ra:=by
 simp only [Vb,Bool.or_eq_false_iff] at h
 exact Vf (F2 (Ahr _) (Aig (Aim h.2.1) (F2 (Qc _) (F2 (Xm h.2.2.1) (F2 (Qc _) (Aeo (Qa (g:=fun k=>Agi { a with Procedural:=k }) (Xm h.2.2.2)))))) fun r _=>Ayt _ _))
theorem Ayv {a:Config}(h:Wb a=false):G0 (E7 Afp) (Vk a++[Kx [59]]) (Agv a) Ra:=by
 simp only [Wb,Bool.or_eq_false_iff] at h
 exact Vf (F2 (Ahr _) fun r hr=>Qa (g:=fun l=>Agv { a with Names:=l }) (Aim h.2) r (Adk hr))
theorem Ayg {a:Segment}(h:Vj a=false):G0 (E7 Afn) (Vi a++[Kx [59]]) (Ag1 a) Ra:=by
 simp only [Vj,Bool.or_eq_false_iff] at h
 exact Vf (F2 (Qc _) (F2 (Aa2 a.In) (F2 (Qc _) (F2 (Xm h.2.2.1) (Qa (g:=fun l=>Ag1 { a with Open:=l }) (Ao1 h.2.2.2))))))
theorem Ayu {a:Route}(h:V3 a=false):G0 (E7 Ae3) (Ve a++[Kx [59]]) (Agl a) Ra:=by
 simp only [V3,Bool.or_eq_false_iff] at h
 exact Vf (F2 (Qc _) (F2 (Aa2 a.A) (F2 (Qc _) (F2 (Aa2 a.B) (F2 (Qc _) fun r hr=>Qa (g:=fun l=>Agl { a with Names:=l }) (Aim h.2.2.2) r (Adk hr))))))
theorem Ayb {a:Airport}(h:Vr a=false):G0 (E7 Afq) (Wa a++[Kx [59]]) a Ra:=by
 simp only [Vr,Bool.or_eq_false_iff] at h
 exact Vf (fun r hr=>Qa (g:=fun l=>({ Name:=a.Name,Modes:=l }:Airport)) (App (p:=Xu) (most:=15) (fun _=>Awx) h.2) r (Adk hr))
theorem Ayn {a:Class}(h:Xx a=false):G0 (E7 Aer) (V6 a++[Kx [59]]) a Ra:=by
 simp only [Xx,Bool.or_eq_false_iff] at h
 exact Vf (F2 (Qc _) (F2 (Xm h.2.1) (F2 (Qc _) (F2 (Xm h.2.2.1) (F2 (Qc _) (Aeo (Qa (g:=fun k=>({ a with Places:=k }:Class)) (Xm h.2.2.2))))))))
end
end Go.Am
namespace Go.Am
open Go
set_option linter.unusedVariables false
set_option linter.unusedSimpArgs false
theorem Afx {b:Rule}{k:Int}{c a:An}{n:Int}{h:Span}(e:(!Tz b (Ez k c a n h))=false):Agr b=Ez k c a n h:=by
 have e:Tz b (Ez k c a n h)=true:=by simpa using e
 simp only [Tz,Ez,Bool.and_eq_true,beq_iff_eq] at e
 obtain⟨e1,e2,e3,_,_,e4,e5,e6⟩:=e
 unfold Agr Ez
 have:b.Hours=h:=by
  cases hh:b.Hours with
  | mk f t=>rw [hh] at e5 e6; cases h; simp at e5 e6; simp [e5,e6]
 rw [e1,e2,e3,e4,this]
theorem S2 {α:Type}{p:An→Rd α}{w:An}{T:List Token}{x:α}{A:Airspace}{c:Bool}{upd:α→Airspace}(hi:Xo w A=some (c,(E7 p).bind fun x=>.pure (upd x)))(hc:c=false)(h:G0 (E7 p) (T++[Kx [59]]) x Ra)(r:List Token) :
  Qu A (Ep w T++r)=.ok (upd x,r):=by
 show Qu A (Do w::((T++[Kx [59]])++r))=_
 subst hc
 have e:((Do w).Kind==1)=true:=rfl
 simp only [Qu,e,if_true,show(Do w).Text=w from rfl,hi,Bool.false_eq_true,if_false]
 exact Qa (g:=upd) h r trivial
theorem T0 {α:Type}{d:α→List Token}{add:Airspace→α→Airspace}{cnt:Airspace→Nat}{most:Nat}(hadd : ∀ A a,cnt (add A a)=cnt A+1)(hne : ∀ a r,∃ t r',d a++r=t::r'∧r.length≤r'.length) :
  ∀ (l:List α) (A:Airspace) (n:Nat) (r:List Token),(∀ a ∈ l,∀ A r,cnt A<most→Qu A (d a++r)=.ok (add A a,r))→cnt A+l.length≤most→(l.flatMap d++r).length≤n → ∃ j,r.length≤j∧Xj n A (l.flatMap d++r)=Xj j (l.foldl add A) r
 | [],A,n,r,_,_,hn=>⟨n,by simpa using hn,rfl⟩
 | a::l,A,n,r,hd,hc,hn=>by
  have e:(a::l).flatMap d++r=d a++(l.flatMap d++r):=by rw [List.flatMap_cons,List.append_assoc]
  rw [e] at hn ⊢
  have hc':cnt A+(l.length+1)≤most:=hc
  obtain⟨t,r',h1,h2⟩:=hne a (l.flatMap d++r)
  have h3:=hd a (List.mem_cons_self ..) A (l.flatMap d++r) (by omega)
  rw [h1] at hn h3 ⊢
  cases n with
  | zero=>simp at hn
  | succ n=>
   simp only [List.length_cons] at hn
   rw [Xj,h3]
   exact T0 hadd hne l (add A a) n r (fun x hx=>hd x (List.mem_cons_of_mem _ hx)) (by rw [hadd]; omega) (by omega)
theorem Agy (w:An)(T:List Token)(r:List Token) : ∃ t r',Ep w T++r=t::r'∧r.length≤r'.length:=⟨_,_,rfl,by simp; omega⟩
def Aho (a:Airspace):Airspace:={ Volumes:=a.Volumes,Sectors:=a.Sectors.map Agi,Configs:=a.Configs.map Agv,Segments:=a.Segments.map Ag1,Routes:=a.Routes.map Agl,Airports:=a.Airports,Classes:=a.Classes,Rules:=a.Rules.map Agr }
section
variable {α:Type} {add:Airspace→α→Airspace} {l:List α}
theorem Arr (l:List Volume) : ∀ A:Airspace,l.foldl (fun(A:Airspace) x=>{ A with Volumes:=A.Volumes++[x] }) A={ A with Volumes:=A.Volumes++l }:=by
 induction l with
 | nil=>intro A; simp
 | cons a l ih=>intro A; rw [List.foldl_cons,ih]; simp
theorem Asp (l:List Sector) : ∀ A:Airspace,l.foldl (fun(A:Airspace) x=>{ A with Sectors:=A.Sectors++[Agi x] }) A={ A with Sectors:=A.Sectors++l.map Agi }:=by
 induction l with
 | nil=>intro A; simp
 | cons a l ih=>intro A; rw [List.foldl_cons,ih]; simp
theorem Asa (l:List Config) : ∀ A:Airspace,l.foldl (fun(A:Airspace) x=>{ A with Configs:=A.Configs++[Agv x] }) A={ A with Configs:=A.Configs++l.map Agv }:=by
 induction l with
 | nil=>intro A; simp
 | cons a l ih=>intro A; rw [List.foldl_cons,ih]; simp
theorem Ask (l:List Segment) : ∀ A:Airspace,l.foldl (fun(A:Airspace) x=>{ A with Segments:=A.Segments++[Ag1 x] }) A={ A with Segments:=A.Segments++l.map Ag1 }:=by
 induction l with
 | nil=>intro A; simp
 | cons a l ih=>intro A; rw [List.foldl_cons,ih]; simp
theorem Atb (l:List Route) : ∀ A:Airspace,l.foldl (fun(A:Airspace) x=>{ A with Routes:=A.Routes++[Agl x] }) A={ A with Routes:=A.Routes++l.map Agl }:=by
 induction l with
 | nil=>intro A; simp
 | cons a l ih=>intro A; rw [List.foldl_cons,ih]; simp
theorem Atj (l:List Airport) : ∀ A:Airspace,l.foldl (fun(A:Airspace) x=>{ A with Airports:=A.Airports++[x] }) A={ A with Airports:=A.Airports++l }:=by
 induction l with
 | nil=>intro A; simp
 | cons a l ih=>intro A; rw [List.foldl_cons,ih]; simp
theorem Ate (l:List Class) : ∀ A:Airspace,l.foldl (fun(A:Airspace) x=>{ A with Classes:=A.Classes++[x] }) A={ A with Classes:=A.Classes++l }:=by
 induction l with
 | nil=>intro A; simp
 | cons a l ih=>intro A; rw [List.foldl_cons,ih]; simp
theorem Ar6 (l:List Rule) : ∀ A:Airspace,l.foldl (fun(A:Airspace) x=>{ A with Rules:=A.Rules++[Agr x] }) A={ A with Rules:=A.Rules++l.map Agr }:=by
 induction l with
 | nil=>intro A; simp
 | cons a l ih=>intro A; rw [List.foldl_cons,ih]; simp
end
theorem Tj {m n:Nat}(h:n<m):decide (m≤n)=false:=by simpa using h
theorem Asw {b:Rule}(h:Mt b=false)(A:Airspace)(r:List Token)(hc:A.Rules.length<64):Qu A (S0 b++r)=.ok ({ A with Rules:=A.Rules++[Agr b] },r):=by
 unfold Mt at h
 by_cases h1:b.Kind=1
 ·rw [if_pos h1] at h
  simp only [Bool.or_eq_false_iff] at h
  have e:S0 b=Ep Ap0 ([Do b.C]++([Do [97,116]]++([Do b.A]++W6 b.Hours))):=by simp [S0,Ll,Pb,N5,h1,Ep]
  rw [e,Afx h.2.2.2,h1]
  exact S2 (p:=Agq) (x:=Ez 1 b.C b.A 0 b.Hours) (c:=decide (64≤A.Rules.length)) (upd:=fun x=>{ A with Rules:=A.Rules++[x] }) rfl (Tj hc)
   (Vf (F2 (Qc _) (F2 (Aa2 b.A) (Aeo (Qa (g:=fun x=>Ez 1 b.C b.A 0 x) (An6 h.2.2.1)))))) r
 rw [if_neg h1] at h
 by_cases h2:b.Kind=2
 ·rw [if_pos h2] at h
  simp only [Bool.or_eq_false_iff] at h
  have e:S0 b=Ep Api ([Do b.C]++[]):=by simp [S0,Ll,Pb,N5,h2,Ep]
  rw [e,Afx h.2,h2]
  exact S2 (p:=Ag5) (x:=Ez 2 b.C [] 0 ⟨0,0⟩) (c:=decide (64≤A.Rules.length)) (upd:=fun x=>{ A with Rules:=A.Rules++[x] }) rfl (Tj hc)
   (Vf (p:=Ag5) fun r _=>rfl) r
 rw [if_neg h2] at h
 by_cases h3:b.Kind=3
 ·rw [if_pos h3] at h
  simp only [Bool.or_eq_false_iff] at h
  have e:S0 b=Ep Apr ([Do b.C]++[Od b.N]):=by simp [S0,Ll,Pb,N5,h3,Ep]
  rw [e,Afx h.2.2,h3]
  exact S2 (p:=Agp) (x:=Ez 3 b.C [] b.N ⟨0,0⟩) (c:=decide (64≤A.Rules.length)) (upd:=fun x=>{ A with Rules:=A.Rules++[x] }) rfl (Tj hc)
   (Vf (Aeo (Qa (g:=fun n=>Ez 3 b.C [] n ⟨0,0⟩) (Xm h.2.1)))) r
 rw [if_neg h3] at h
 by_cases h4:b.Kind=4
 ·rw [if_pos h4] at h
  simp only [Bool.or_eq_false_iff] at h
  have e:S0 b=Ep Ao6 ([Do b.C]++[Od b.N]):=by simp [S0,Ll,Pb,N5,h4,Ep]
  rw [e,Afx h.2.2.2,h4]
  exact S2 (p:=Ae6) (x:=Ez 4 b.C [] b.N ⟨0,0⟩) (c:=decide (64≤A.Rules.length)) (upd:=fun x=>{ A with Rules:=A.Rules++[x] }) rfl (Tj hc)
   (Vf (Aeo (Qa (g:=fun n=>Ez 4 b.C [] n ⟨0,0⟩) (Av1 h.2.1 (by simpa using h.2.2.1))))) r
 rw [if_neg h4] at h; cases h
abbrev B1 (a:Airspace):Airspace:={ V2 with Volumes:=V2.Volumes++a.Volumes }
abbrev B2 (a:Airspace):Airspace:={ B1 a with Sectors:=(B1 a).Sectors++a.Sectors.map Agi }
abbrev B3 (a:Airspace):Airspace:={ B2 a with Configs:=(B2 a).Configs++a.Configs.map Agv }
abbrev B4 (a:Airspace):Airspace:={ B3 a with Segments:=(B3 a).Segments++a.Segments.map Ag1 }
abbrev B5 (a:Airspace):Airspace:={ B4 a with Routes:=(B4 a).Routes++a.Routes.map Agl }
abbrev B6 (a:Airspace):Airspace:={ B5 a with Airports:=(B5 a).Airports++a.Airports }
abbrev B7 (a:Airspace):Airspace:={ B6 a with Classes:=(B6 a).Classes++a.Classes }
theorem Ao3 {a:Airspace}(h:GoodA a):Tc (Ti a)=.ok (Aho a):=by
 obtain⟨f1,f2,f3,f4,f5,f6,f7,f8⟩:=h.fits
 unfold Tc
 unfold Ti
 obtain⟨j1,k1,e1⟩:=T0 (d:=fun x=>Ep Acj (Vh x)) (add:=fun(A:Airspace) x=>{ A with Volumes:=A.Volumes++[x] }) (cnt:=fun A=>A.Volumes.length) (most:=64) (fun _ _=>by simp) (fun _ _=>Agy _ _ _) a.Volumes V2 _ _
  (fun x hx A r hc=>S2 (p:=Aew) (c:=decide (64≤A.Volumes.length)) (upd:=fun x=>{ A with Volumes:=A.Volumes++[x] }) rfl (Tj hc) (Ayx (h.vol x hx)) r) (by simpa [V2] using f1) (Nat.le_refl _)
 rw [e1,show List.foldl _ V2 a.Volumes=B1 a from Arr _ _]
 obtain⟨j2,k2,e2⟩:=T0 (d:=fun x=>Ep Acl (Wc x)) (add:=fun(A:Airspace) x=>{ A with Sectors:=A.Sectors++[Agi x] }) (cnt:=fun A=>A.Sectors.length) (most:=64) (fun _ _=>by simp) (fun _ _=>Agy _ _ _) a.Sectors (B1 a) j1 _
  (fun x hx A r hc=>S2 (p:=Ae7) (c:=decide (64≤A.Sectors.length)) (upd:=fun x=>{ A with Sectors:=A.Sectors++[x] }) rfl (Tj hc) (Aym (h.sec x hx)) r) (by simpa [V2] using f2) k1
 rw [e2,show List.foldl _ (B1 a) a.Sectors=B2 a from Asp _ _]
 obtain⟨j3,k3,e3⟩:=T0 (d:=fun x=>Ep Acf (Vk x)) (add:=fun(A:Airspace) x=>{ A with Configs:=A.Configs++[Agv x] }) (cnt:=fun A=>A.Configs.length) (most:=32) (fun _ _=>by simp) (fun _ _=>Agy _ _ _) a.Configs (B2 a) j2 _
  (fun x hx A r hc=>S2 (p:=Afp) (c:=decide (32≤A.Configs.length)) (upd:=fun x=>{ A with Configs:=A.Configs++[x] }) rfl (Tj hc) (Ayv (h.con x hx)) r) (by simpa [V2] using f3) k2
 rw [e3,show List.foldl _ (B2 a) a.Configs=B3 a from Asa _ _]
 obtain⟨j4,k4,e4⟩:=T0 (d:=fun x=>Ep Acd (Vi x)) (add:=fun(A:Airspace) x=>{ A with Segments:=A.Segments++[Ag1 x] }) (cnt:=fun A=>A.Segments.length) (most:=128) (fun _ _=>by simp) (fun _ _=>Agy _ _ _) a.Segments (B3 a) j3 _
  (fun x hx A r hc=>S2 (p:=Afn) (c:=decide (128≤A.Segments.length)) (upd:=fun x=>{ A with Segments:=A.Segments++[x] }) rfl (Tj hc) (Ayg (h.seg x hx)) r) (by simpa [V2] using f4) k3
 rw [e4,show List.foldl _ (B3 a) a.Segments=B4 a from Ask _ _]
 obtain⟨j5,k5,e5⟩:=T0 (d:=fun x=>Ep Acg (Ve x)) (add:=fun(A:Airspace) x=>{ A with Routes:=A.Routes++[Agl x] }) (cnt:=fun A=>A.Routes.length) (most:=64) (fun _ _=>by simp) (fun _ _=>Agy _ _ _) a.Routes (B4 a) j4 _
  (fun x hx A r hc=>S2 (p:=Ae3) (c:=decide (64≤A.Routes.length)) (upd:=fun x=>{ A with Routes:=A.Routes++[x] }) rfl (Tj hc) (Ayu (h.rou x hx)) r) (by simpa [V2] using f5) k4
 rw [e5,show List.foldl _ (B4 a) a.Routes=B5 a from Atb _ _]
 obtain⟨j6,k6,e6⟩:=T0 (d:=fun x=>Ep Aco (Wa x)) (add:=fun(A:Airspace) x=>{ A with Airports:=A.Airports++[x] }) (cnt:=fun A=>A.Airports.length) (most:=16) (fun _ _=>by simp) (fun _ _=>Agy _ _ _) a.Airports (B5 a) j5 _
  (fun x hx A r hc=>S2 (p:=Afq) (c:=decide (16≤A.Airports.length)) (upd:=fun x=>{ A with Airports:=A.Airports++[x] }) rfl (Tj hc) (Ayb (h.air x hx)) r) (by simpa [V2] using f6) k5
 rw [e6,show List.foldl _ (B5 a) a.Airports=B6 a from Atj _ _]
 obtain⟨j7,k7,e7⟩:=T0 (d:=fun x=>Ep Ace (V6 x)) (add:=fun(A:Airspace) x=>{ A with Classes:=A.Classes++[x] }) (cnt:=fun A=>A.Classes.length) (most:=8) (fun _ _=>by simp) (fun _ _=>Agy _ _ _) a.Classes (B6 a) j6 _
  (fun x hx A r hc=>S2 (p:=Aer) (c:=decide (8≤A.Classes.length)) (upd:=fun x=>{ A with Classes:=A.Classes++[x] }) rfl (Tj hc) (Ayn (h.cla x hx)) r) (by simpa [V2] using f7) k6
 rw [e7,show List.foldl _ (B6 a) a.Classes=B7 a from Ate _ _]
 rw [← List.append_nil (a.Rules.flatMap S0)]
 obtain⟨j8,k8,e8⟩:=T0 (d:=S0) (add:=fun(A:Airspace) x=>{ A with Rules:=A.Rules++[Agr x] }) (cnt:=fun A=>A.Rules.length) (most:=64) (fun _ _=>by simp) (fun b r=>by
   unfold S0
   cases ht:Ll b with
   | nil=>exact⟨_,_,rfl,by simp⟩
   | cons t q=>exact⟨t,_,rfl,by simp; omega⟩) a.Rules (B7 a) j7 []
  (fun x hx A r hc=>Asw (h.rul x hx) A r hc) (by simpa [V2] using f8) (by simpa using k7)
 rw [e8,Ar6,Xj.eq_1]
 simp [V2,Aho]
end Go.Am
namespace Go.Am
open Go
set_option linter.unusedVariables false
set_option linter.unusedSimpArgs false
theorem Abb {α σ ε:Type}{b:Nat→α→σ→R (σ ⊕ ε)}(hb : ∀ j a s,∃ x,b j a s=.ok x) : ∀ (l:List α) (k:Nat) (s:σ),∃ x,each b k l s=.ok x
 | [],k,s=>⟨_,rfl⟩
 | a::l,k,s=>by
  obtain⟨x,h⟩:=hb k a s
  rw [Uy,h,R.ok_bind]
  cases x with
  | inl s'=>exact Abb hb l (k+1) s'
  | inr e=>exact⟨_,rfl⟩
theorem Qo {α β:Type}{x:R α}{f:α→R β}(hx : ∃ a,x=.ok a)(hf : ∀ a,∃ b,f a=.ok b) : ∃ b,x.bind f=.ok b:=by
 obtain⟨a,rfl⟩:=hx
 exact hf a
theorem Af0 {β:Type}{c:Prop}[Decidable c]{x y:R β}(hx : ∃ a,x=.ok a)(hy : ∃ a,y=.ok a) : ∃ b,(if c then x else y)=.ok b:=by
 split
 ·exact hx
 ·exact hy
theorem Afv {α β γ:Type}{f:α→R γ}{g:β→R γ}(hf : ∀ a,∃ b,f a=.ok b)(hg : ∀ a,∃ b,g a=.ok b) : ∀ x,∃ b,Dv f g x=.ok b:=fun x=>by
 cases x with
 | inl a=>exact hf a
 | inr b=>exact hg b
theorem Aa6 (l:List An) : ∃ b,Nh l=.ok b:=by
 unfold Nh
 exact Qo (Abb (fun j a s=>by unfold Og; exact Af0 ⟨_,rfl⟩ ⟨_,rfl⟩) _ _ _) (Afv (fun _=>⟨_,rfl⟩) fun _=>⟨_,rfl⟩)
theorem Aua (a:Airspace) : ∃ b,Xv a=.ok b∧(b=true→a.Volumes.length≤70∧a.Sectors.length≤70∧a.Configs.length≤40∧a.Segments.length≤130∧a.Routes.length≤70∧a.Airports.length≤20∧a.Classes.length≤12∧a.Rules.length≤70):=by
 unfold Xv
 split
 ·exact⟨false,rfl,fun h=>nomatch h⟩
 ·rename_i h
  simp only [Bool.or_eq_true,decide_eq_true_eq] at h
  obtain⟨b,hb⟩ : ∃ b,((B0 (fun _ a1=>fun x=>Tk a1 x) 0 a.Volumes 0).bind ((fun x=>(each (fun _ a2=>fun x2=>Pm a2 x2) 0 a.Sectors x).bind (Dv (fun x2=>(each (fun _ a3=>fun x4=>Ny a3 x4) 0 a.Configs x2).bind (Dv (fun x4=>(B0 (fun _ a4=>fun x6=>Ns a4 x6) 0 a.Segments x4).bind ((fun x6=>(each (fun _ a5=>fun x8=>Ku a5 x8) 0 a.Routes x6).bind (Dv (fun x8=>(B0 (fun _ a6=>fun x10=>Kv a6 x10) 0 a.Airports x8).bind ((fun x10=>.ok (decide (x10≤600))))) (fun r=>.ok r))))) (fun r=>.ok r))) (fun r=>.ok r)))):R Bool)=.ok b:=by
   refine Qo (Qg (fun _ _ _=>⟨_,rfl⟩) _ _ _) fun x=>Qo (Abb (fun j a s=>by unfold Pm; exact Qo (Aa6 _) fun _=>Af0 ⟨_,rfl⟩ ⟨_,rfl⟩) _ _ _) (Afv (fun x=>?_) fun _=>⟨_,rfl⟩)
   refine Qo (Abb (fun j a s=>by unfold Ny; exact Qo (Aa6 _) fun _=>Af0 ⟨_,rfl⟩ ⟨_,rfl⟩) _ _ _) (Afv (fun x=>?_) fun _=>⟨_,rfl⟩)
   refine Qo (Qg (fun _ _ _=>⟨_,rfl⟩) _ _ _) fun x=>Qo (Abb (fun j a s=>by unfold Ku; exact Qo (Aa6 _) fun _=>Af0 ⟨_,rfl⟩ ⟨_,rfl⟩) _ _ _) (Afv (fun x=>?_) fun _=>⟨_,rfl⟩)
   exact Qo (Qg (fun _ _ _=>⟨_,rfl⟩) _ _ _) fun x=>⟨_,rfl⟩
  exact⟨b,hb,fun _=>by omega⟩
theorem Akk {a:Airspace}(h:GoodA a)(hl:(Afw a).length≤65536):Xe (Afw a)=(Aho a,0,0):=by
 obtain⟨r,h1,h2⟩:=Aq5 (Aix h) 0
 rw [Am4 hl h1]
 have hn:=Aj2 _ _ h2
 have e2:Ao9 (Tc (Ti a))=Ao9 (Tc r):=by rw [← Ajg,← Ajg,hn]
 rw [Ao3 h] at e2
 cases h3:Tc r with
 | ok B=>rw [h3] at e2; cases e2; rfl
 | error x=>rw [h3] at e2; cases e2
theorem Atk {a:Airspace}(h:Lo.bulk a≤1048576):Mid 1048576 a where
 vol:=fun x hx=>by
  have h1:=So (st:=2) (T:=Ts) hx
  have h2:=Kr (st:=2) (T:=Tm) (fun _=>Nat.le_add_left _ _) x.Closed
  simp only [Lo,Ts] at h h1 h2; omega
 sec:=fun x hx=>by
  have h1:=So (st:=5) (T:=Py) hx
  have h2:=Kr (st:=1) (T:=D7) (fun _=>Nat.le_add_left _ _) x.Names
  simp only [Lo,Py] at h h1 h2; omega
 con:=fun x hx=>by
  have h1:=So (st:=3) (T:=P0) hx
  have h2:=Kr (st:=1) (T:=D7) (fun _=>Nat.le_add_left _ _) x.Names
  simp only [Lo,P0] at h h1 h2; omega
 seg:=fun x hx=>by
  have h1:=So (st:=5) (T:=R0) hx
  have h2:=Kr (st:=2) (T:=Tm) (fun _=>Nat.le_add_left _ _) x.Open
  simp only [Lo,R0] at h h1 h2; omega
 rou:=fun x hx=>by
  have h1:=So (st:=7) (T:=Sb) hx
  have h2:=Kr (st:=1) (T:=D7) (fun _=>Nat.le_add_left _ _) x.Names
  simp only [Lo,Sb] at h h1 h2; omega
 air:=fun x hx=>by
  have h1:=So (st:=2) (T:=Oc) hx
  have h2:=Kr (st:=2) (T:=Abw) (fun _=>Nat.le_add_left _ _) x.Modes
  simp only [Lo,Oc] at h h1 h2; omega
end Go.Am
namespace Go.Am
open Go
set_option linter.unusedVariables false
set_option linter.unusedSimpArgs false
theorem Awy (a:Airspace):unn a=Aho a:=rfl
theorem law_NamesPrinted:Pt:=by
 intro a _ hb
 unfold Qk
 rw [Aqr,R.ok_bind,if_pos rfl]
 obtain⟨b,h1⟩:=Arv a
 obtain⟨c,h2,h3⟩:=Aua a
 rw [h1,R.ok_bind]
 cases b with
 | false=>rfl
 | true=>
  simp only [Bool.not_true,Bool.false_eq_true,if_false,h2,R.ok_bind]
  cases c with
  | false=>rfl
  | true=>
   simp only [Bool.not_true,Bool.false_eq_true,if_false]
   obtain⟨c1,c2,c3,c4,c5,c6,c7,c8⟩:=h3 rfl
   have hlen:=Alz (Atk hb)
   by_cases hg:GoodA a
   ·rw [Apu hg,R.ok_bind]
    by_cases hl:(Afw a).length≤65536
    ·rw [if_neg (by simp; omega),Arp,R.ok_bind,Akk hg hl]
     have hs:=Ann hb
     have hA:=Aqk a
     rw [Aa4 a hs,R.ok_bind,Aa4 (Aho a) (hs.alike hA),R.ok_bind,← Awy,Akj hA]
     simp only [beq_self_eq_true,Bool.and_self,if_true,Anr,R.ok_bind]
    ·rw [if_pos (by simp; omega)]
   ·rw [Aq6 hg (by omega),R.ok_bind]; rfl
end Go.Am
namespace Go.Proofs
open Go.Shelf
def Tryz.lays156_ren:Go.Shelf.Ren:=⟨fun | 156=>80 | 165=>97 | 166=>98 | 169=>99 | 240=>106 | 241=>107 | 276=>117 | 277=>118 | n=>n,fun | 31=>45 | 9=>9 | 3=>3 | 4=>4 | 0=>0 | 20=>20 | 72=>170 | 76=>174 | 70=>167 | 37=>168 | 75=>173 | 127=>182 | 164=>191 | 5=>5 | 80=>176 | n=>n,fun | n=>n⟩
theorem Tryz.lays156:Go.Proofs.Lays.n156 Tryz.prog Tryz.lays156_ren:={
 mixed:=by kernel_rfl
 f156:=Tryz.func80.trans (congrArg some (by kernel_rfl))
 f165:=Tryz.func97.trans (congrArg some (by kernel_rfl))
 f166:=Tryz.func98.trans (congrArg some (by kernel_rfl))
 f169:=Tryz.func99.trans (congrArg some (by kernel_rfl))
 f240:=Tryz.func106.trans (congrArg some (by kernel_rfl))
 f241:=Tryz.func107.trans (congrArg some (by kernel_rfl))
 f276:=Tryz.func117.trans (congrArg some (by kernel_rfl))
 f277:=Tryz.func118.trans (congrArg some (by kernel_rfl))
 t0:=Tryz.underlying0
 a0:=Tryz.isAgg0
 z0:=Tryz.sizeOf0
 v0:=Tryz.zeroValue0
 t3:=Tryz.underlying3
 a3:=Tryz.isAgg3
 z3:=Tryz.sizeOf3
 v3:=Tryz.zeroValue3
 t4:=Tryz.underlying4
 a4:=Tryz.isAgg4
 z4:=Tryz.sizeOf4
 v4:=Tryz.zeroValue4
 t9:=Tryz.underlying9
 a9:=Tryz.isAgg9
 z9:=Tryz.sizeOf9
 v9:=Tryz.zeroValue9
 t20:=Tryz.underlying20
 a20:=Tryz.isAgg20
 z20:=Tryz.sizeOf20
 v20:=Tryz.zeroValue20
 t31:=Tryz.underlying45
 a31:=Tryz.isAgg45
 z31:=Tryz.sizeOf45
 v31:=Tryz.zeroValue45
 t37:=Tryz.underlying168
 a37:=Tryz.isAgg168
 z37:=Tryz.sizeOf168
 v37:=Tryz.zeroValue168
 t70:=Tryz.underlying167
 a70:=Tryz.isAgg167
 z70:=Tryz.sizeOf167
 v70:=Tryz.zeroValue167
 t72:=Tryz.underlying170
 a72:=Tryz.isAgg170
 z72:=Tryz.sizeOf170
 v72:=Tryz.zeroValue170
 t75:=Tryz.underlying173
 a75:=Tryz.isAgg173
 z75:=Tryz.sizeOf173
 v75:=Tryz.zeroValue173
 t76:=Tryz.underlying174
 a76:=Tryz.isAgg174
 z76:=Tryz.sizeOf174
 v76:=Tryz.zeroValue174
 t127:=Tryz.underlying182
 a127:=Tryz.isAgg182
 z127:=Tryz.sizeOf182
 v127:=Tryz.zeroValue182
 t164:=Tryz.underlying191
 a164:=Tryz.isAgg191
 z164:=Tryz.sizeOf191
 v164:=Tryz.zeroValue191 }
theorem Tryz.Builder_Extra_156:Builder.Extra Tryz.prog Tryz.lays156_ren:={
 sizeBuilder:=by kernel_rfl
 liesBuilder:=by kernel_rfl
 t5:=Tryz.underlying5
 a5:=Tryz.isAgg5
 z5:=Tryz.sizeOf5
 v5:=Tryz.zeroValue5
 infoByte:=by kernel_rfl
 cellsByte:=by kernel_rfl
 sizeByte:=by kernel_rfl
 neB5:=by decide }
open Go.RowKit in
theorem Tryz.strings_Join_none (a : Option Addr) (c : Nat) (sep : ByteArray) (w : World) :
  Calls Tryz.prog 80 #[.slice a 0 c, .string sep] w fun e w' => e = .returned (.string ⟨#[]⟩) ∧ w' = w := Any.strings_Join_none Tryz.lays156 Tryz.Builder_Extra_156 a c sep w
open Go.RowKit in
theorem Tryz.strings_Join (bk o c : Nat) (xs : List ByteArray) (sep : ByteArray) (w : World) (hcells : ∀ (j : Nat) x, xs[j]? = some x → w.cell? ⟨bk, o + j, none⟩ = some (.string x)) (hbk : bk < w.heap.size) (hN : xs.length ≤ 140737488355328) (hcap : xs.length ≤ c) (hlen : (Lib.join (xs.map (·.data.toList)) sep.data.toList).length ≤ 140737488355328) :
  Calls Tryz.prog 80 #[.slice (some ⟨bk, o, none⟩) xs.length c, .string sep] w fun e w' => e = .returned (.string ⟨(Lib.join (xs.map (·.data.toList)) sep.data.toList).toArray⟩) ∧ Below w.heap.size w w' := Any.strings_Join Tryz.lays156 Tryz.Builder_Extra_156 bk o c xs sep w hcells hbk hN hcap hlen
def Tryz.lays137_ren:Go.Shelf.Ren:=⟨fun | 137=>104 | 217=>112 | 266=>125 | n=>n,fun | 9=>9 | 5=>5 | 3=>3 | n=>n,fun | n=>n⟩
theorem Tryz.lays137:Go.Proofs.Lays.n137 Tryz.prog Tryz.lays137_ren:={
 mixed:=by kernel_rfl
 f137:=Tryz.func104.trans (congrArg some (by kernel_rfl))
 f217:=Tryz.func112.trans (congrArg some (by kernel_rfl))
 f266:=Tryz.func125.trans (congrArg some (by kernel_rfl))
 t3:=Tryz.underlying3
 a3:=Tryz.isAgg3
 z3:=Tryz.sizeOf3
 v3:=Tryz.zeroValue3
 t5:=Tryz.underlying5
 a5:=Tryz.isAgg5
 z5:=Tryz.sizeOf5
 v5:=Tryz.zeroValue5
 t9:=Tryz.underlying9
 a9:=Tryz.isAgg9
 z9:=Tryz.sizeOf9
 v9:=Tryz.zeroValue9 }
open Go.RowKit in
theorem Tryz.strings_IndexByte (s : ByteArray) (c : Int) (w : World) :
  Calls Tryz.prog 104 #[.string s, .int .u8 c] w fun e w' => e = .returned (.int .i64 (Lib.indexByte s.data.toList c.toNat.toUInt8)) ∧ w' = w := Any.strings_IndexByte Tryz.lays137 s c w
def Tryz.laysM171_ren:Go.Shelf.Ren:=⟨fun | 171=>79 | 243=>96 | 246=>105 | 283=>113 | 284=>114 | 285=>115 | 286=>116 | 129=>127 | 317=>126 | 318=>128 | 319=>129 | 320=>130 | 337=>134 | 338=>135 | n=>n,fun | 3=>3 | 9=>9 | 2=>2 | 4=>4 | 171=>185 | 0=>0 | 53=>186 | 37=>168 | 5=>5 | 173=>189 | 212=>203 | 51=>204 | 20=>20 | 213=>205 | 46=>207 | 232=>220 | 233=>221 | n=>n,fun | 17=>1 | 18=>5 | 19=>6 | n=>n⟩
theorem Tryz.laysM171:Go.Proofs.LaysM.n171 Tryz.prog Tryz.laysM171_ren:={
 mixed:=by kernel_rfl
 f129:=Tryz.func127.trans (congrArg some (by kernel_rfl))
 f171:=Tryz.func79.trans (congrArg some (by kernel_rfl))
 f243:=Tryz.func96.trans (congrArg some (by kernel_rfl))
 f246:=Tryz.func105.trans (congrArg some (by kernel_rfl))
 f283:=Tryz.func113.trans (congrArg some (by kernel_rfl))
 f284:=Tryz.func114.trans (congrArg some (by kernel_rfl))
 f285:=Tryz.func115.trans (congrArg some (by kernel_rfl))
 f286:=Tryz.func116.trans (congrArg some (by kernel_rfl))
 f317:=Tryz.func126.trans (congrArg some (by kernel_rfl))
 f318:=Tryz.func128.trans (congrArg some (by kernel_rfl))
 f319:=Tryz.func129.trans (congrArg some (by kernel_rfl))
 f320:=Tryz.func130.trans (congrArg some (by kernel_rfl))
 f337:=Tryz.func134.trans (congrArg some (by kernel_rfl))
 f338:=Tryz.func135.trans (congrArg some (by kernel_rfl))
 t0:=Tryz.underlying0
 a0:=Tryz.isAgg0
 z0:=Tryz.sizeOf0
 v0:=Tryz.zeroValue0
 t2:=Tryz.underlying2
 a2:=Tryz.isAgg2
 z2:=Tryz.sizeOf2
 v2:=Tryz.zeroValue2
 t3:=Tryz.underlying3
 a3:=Tryz.isAgg3
 z3:=Tryz.sizeOf3
 v3:=Tryz.zeroValue3
 t4:=Tryz.underlying4
 a4:=Tryz.isAgg4
 z4:=Tryz.sizeOf4
 v4:=Tryz.zeroValue4
 t5:=Tryz.underlying5
 a5:=Tryz.isAgg5
 z5:=Tryz.sizeOf5
 v5:=Tryz.zeroValue5
 t9:=Tryz.underlying9
 a9:=Tryz.isAgg9
 z9:=Tryz.sizeOf9
 v9:=Tryz.zeroValue9
 t20:=Tryz.underlying20
 a20:=Tryz.isAgg20
 z20:=Tryz.sizeOf20
 v20:=Tryz.zeroValue20
 t37:=Tryz.underlying168
 a37:=Tryz.isAgg168
 z37:=Tryz.sizeOf168
 v37:=Tryz.zeroValue168
 t46:=Tryz.underlying207
 a46:=Tryz.isAgg207
 z46:=Tryz.sizeOf207
 v46:=Tryz.zeroValue207
 t51:=Tryz.underlying204
 a51:=Tryz.isAgg204
 z51:=Tryz.sizeOf204
 v51:=Tryz.zeroValue204
 t53:=Tryz.underlying186
 a53:=Tryz.isAgg186
 z53:=Tryz.sizeOf186
 v53:=Tryz.zeroValue186
 t171:=Tryz.underlying185
 a171:=Tryz.isAgg185
 z171:=Tryz.sizeOf185
 v171:=Tryz.zeroValue185
 t173:=Tryz.underlying189
 a173:=Tryz.isAgg189
 z173:=Tryz.sizeOf189
 v173:=Tryz.zeroValue189
 t212:=Tryz.underlying203
 a212:=Tryz.isAgg203
 z212:=Tryz.sizeOf203
 v212:=Tryz.zeroValue203
 t213:=Tryz.underlying205
 a213:=Tryz.isAgg205
 z213:=Tryz.sizeOf205
 t232:=Tryz.underlying220
 a232:=Tryz.isAgg220
 z232:=Tryz.sizeOf220
 v232:=Tryz.zeroValue220
 t233:=Tryz.underlying221
 a233:=Tryz.isAgg221
 z233:=Tryz.sizeOf221
 v233:=Tryz.zeroValue221
 g17:=by kernel_rfl
 g18:=by kernel_rfl
 g19:=by kernel_rfl
 i0:=by kernel_rfl
 i2:=by kernel_rfl
 i3:=by kernel_rfl
 i4:=by kernel_rfl
 i5:=by kernel_rfl
 i9:=by kernel_rfl
 i20:=by kernel_rfl
 i37:=by kernel_rfl
 i46:=by kernel_rfl
 i51:=by kernel_rfl
 i53:=by kernel_rfl
 i171:=by kernel_rfl
 i173:=by kernel_rfl
 i212:=by kernel_rfl
 i232:=by kernel_rfl
 i233:=by kernel_rfl
 m17:=by kernel_rfl
 m18:=by kernel_rfl
 m19:=by kernel_rfl }
open Go.RowKit Go.Sort Go.Lib in
theorem Tryz.strconv_Itoa (n : Int) (h0 : -9223372036854775808 ≤ n) (h1 : n ≤ 9223372036854775807) (w : World) (htab : Lib.TabIs Tryz.prog w "internal/strconv.uint64pow10" .u64 Lib.pow10Tab) :
  Calls Tryz.prog 79 #[.int .i64 n] w fun e w' => e = .returned (.string ⟨(Lib.itoa n).toArray⟩) ∧ ∃ k os, w' = grow (w.drewN k) os := Any.strconv_Itoa Tryz.laysM171 n h0 h1 w htab
def Tryz.laysC172_ren:Go.Shelf.Ren:=⟨fun | 172=>102 | 244=>109 | 245=>110 | 247=>120 | 279=>121 | 280=>122 | 281=>123 | 282=>124 | 287=>131 | 316=>132 | 171=>79 | 205=>133 | 321=>136 | 322=>137 | 243=>96 | 246=>105 | 283=>113 | 284=>114 | 285=>115 | 286=>116 | 129=>127 | 317=>126 | 318=>128 | 319=>129 | 320=>130 | 337=>134 | 338=>135 | n=>n,fun | 9=>9 | 3=>3 | 75=>173 | 76=>174 | 4=>4 | 5=>5 | 167=>195 | 37=>168 | 0=>0 | 85=>196 | 2=>2 | 168=>198 | 53=>186 | 175=>209 | 46=>207 | 210=>213 | 127=>182 | 145=>219 | 143=>217 | 21=>21 | 171=>185 | 173=>189 | 212=>203 | 51=>204 | 20=>20 | 213=>205 | 232=>220 | 233=>221 | 80=>176 | n=>n,fun | 15=>3 | 16=>4 | 17=>1 | 18=>5 | 19=>6 | n=>n⟩
theorem Tryz.laysC172:Go.Proofs.LaysC.n172 Tryz.prog Tryz.laysC172_ren:={
 mixed:=by kernel_rfl
 f129:=Tryz.func127.trans (congrArg some (by kernel_rfl))
 f171:=Tryz.func79.trans (congrArg some (by kernel_rfl))
 f172:=Tryz.func102.trans (congrArg some (by kernel_rfl))
 f205:=Tryz.func133.trans (congrArg some (by kernel_rfl))
 f243:=Tryz.func96.trans (congrArg some (by kernel_rfl))
 f244:=Tryz.func109.trans (congrArg some (by kernel_rfl))
 f245:=Tryz.func110.trans (congrArg some (by kernel_rfl))
 f246:=Tryz.func105.trans (congrArg some (by kernel_rfl))
 f247:=Tryz.func120.trans (congrArg some (by kernel_rfl))
 f279:=Tryz.func121.trans (congrArg some (by kernel_rfl))
 f280:=Tryz.func122.trans (congrArg some (by kernel_rfl))
 f281:=Tryz.func123.trans (congrArg some (by kernel_rfl))
 f282:=Tryz.func124.trans (congrArg some (by kernel_rfl))
 f283:=Tryz.func113.trans (congrArg some (by kernel_rfl))
 f284:=Tryz.func114.trans (congrArg some (by kernel_rfl))
 f285:=Tryz.func115.trans (congrArg some (by kernel_rfl))
 f286:=Tryz.func116.trans (congrArg some (by kernel_rfl))
 f287:=Tryz.func131.trans (congrArg some (by kernel_rfl))
 f316:=Tryz.func132.trans (congrArg some (by kernel_rfl))
 f317:=Tryz.func126.trans (congrArg some (by kernel_rfl))
 f318:=Tryz.func128.trans (congrArg some (by kernel_rfl))
 f319:=Tryz.func129.trans (congrArg some (by kernel_rfl))
 f320:=Tryz.func130.trans (congrArg some (by kernel_rfl))
 f321:=Tryz.func136.trans (congrArg some (by kernel_rfl))
 f322:=Tryz.func137.trans (congrArg some (by kernel_rfl))
 f337:=Tryz.func134.trans (congrArg some (by kernel_rfl))
 f338:=Tryz.func135.trans (congrArg some (by kernel_rfl))
 t0:=Tryz.underlying0
 a0:=Tryz.isAgg0
 z0:=Tryz.sizeOf0
 v0:=Tryz.zeroValue0
 t2:=Tryz.underlying2
 a2:=Tryz.isAgg2
 z2:=Tryz.sizeOf2
 v2:=Tryz.zeroValue2
 t3:=Tryz.underlying3
 a3:=Tryz.isAgg3
 z3:=Tryz.sizeOf3
 v3:=Tryz.zeroValue3
 t4:=Tryz.underlying4
 a4:=Tryz.isAgg4
 z4:=Tryz.sizeOf4
 v4:=Tryz.zeroValue4
 t5:=Tryz.underlying5
 a5:=Tryz.isAgg5
 z5:=Tryz.sizeOf5
 v5:=Tryz.zeroValue5
 t9:=Tryz.underlying9
 a9:=Tryz.isAgg9
 z9:=Tryz.sizeOf9
 v9:=Tryz.zeroValue9
 t20:=Tryz.underlying20
 a20:=Tryz.isAgg20
 z20:=Tryz.sizeOf20
 v20:=Tryz.zeroValue20
 t21:=Tryz.underlying21
 a21:=Tryz.isAgg21
 z21:=Tryz.sizeOf21
 v21:=Tryz.zeroValue21
 t37:=Tryz.underlying168
 a37:=Tryz.isAgg168
 z37:=Tryz.sizeOf168
 v37:=Tryz.zeroValue168
 t46:=Tryz.underlying207
 a46:=Tryz.isAgg207
 z46:=Tryz.sizeOf207
 v46:=Tryz.zeroValue207
 t51:=Tryz.underlying204
 a51:=Tryz.isAgg204
 z51:=Tryz.sizeOf204
 v51:=Tryz.zeroValue204
 t53:=Tryz.underlying186
 a53:=Tryz.isAgg186
 z53:=Tryz.sizeOf186
 v53:=Tryz.zeroValue186
 t75:=Tryz.underlying173
 a75:=Tryz.isAgg173
 z75:=Tryz.sizeOf173
 v75:=Tryz.zeroValue173
 t76:=Tryz.underlying174
 a76:=Tryz.isAgg174
 z76:=Tryz.sizeOf174
 v76:=Tryz.zeroValue174
 t85:=Tryz.underlying196
 a85:=Tryz.isAgg196
 z85:=Tryz.sizeOf196
 v85:=Tryz.zeroValue196
 t127:=Tryz.underlying182
 a127:=Tryz.isAgg182
 z127:=Tryz.sizeOf182
 v127:=Tryz.zeroValue182
 t143:=Tryz.underlying217
 a143:=Tryz.isAgg217
 z143:=Tryz.sizeOf217
 v143:=Tryz.zeroValue217
 t145:=Tryz.underlying219
 a145:=Tryz.isAgg219
 z145:=Tryz.sizeOf219
 v145:=Tryz.zeroValue219
 t167:=Tryz.underlying195
 a167:=Tryz.isAgg195
 z167:=Tryz.sizeOf195
 v167:=Tryz.zeroValue195
 t168:=Tryz.underlying198
 a168:=Tryz.isAgg198
 z168:=Tryz.sizeOf198
 v168:=Tryz.zeroValue198
 t171:=Tryz.underlying185
 a171:=Tryz.isAgg185
 z171:=Tryz.sizeOf185
 v171:=Tryz.zeroValue185
 t173:=Tryz.underlying189
 a173:=Tryz.isAgg189
 z173:=Tryz.sizeOf189
 v173:=Tryz.zeroValue189
 t175:=Tryz.underlying209
 a175:=Tryz.isAgg209
 z175:=Tryz.sizeOf209
 v175:=Tryz.zeroValue209
 t210:=Tryz.underlying213
 a210:=Tryz.isAgg213
 z210:=Tryz.sizeOf213
 v210:=Tryz.zeroValue213
 t212:=Tryz.underlying203
 a212:=Tryz.isAgg203
 z212:=Tryz.sizeOf203
 v212:=Tryz.zeroValue203
 t213:=Tryz.underlying205
 a213:=Tryz.isAgg205
 z213:=Tryz.sizeOf205
 t232:=Tryz.underlying220
 a232:=Tryz.isAgg220
 z232:=Tryz.sizeOf220
 v232:=Tryz.zeroValue220
 t233:=Tryz.underlying221
 a233:=Tryz.isAgg221
 z233:=Tryz.sizeOf221
 v233:=Tryz.zeroValue221
 g15:=by kernel_rfl
 g16:=by kernel_rfl
 g17:=by kernel_rfl
 g18:=by kernel_rfl
 g19:=by kernel_rfl
 t80:=Tryz.underlying176
 a80:=Tryz.isAgg176
 z80:=Tryz.sizeOf176
 v80:=Tryz.zeroValue176
 i0:=by kernel_rfl
 i2:=by kernel_rfl
 i3:=by kernel_rfl
 i4:=by kernel_rfl
 i5:=by kernel_rfl
 i9:=by kernel_rfl
 i20:=by kernel_rfl
 i21:=by kernel_rfl
 i37:=by kernel_rfl
 i46:=by kernel_rfl
 i51:=by kernel_rfl
 i53:=by kernel_rfl
 i75:=by kernel_rfl
 i76:=by kernel_rfl
 i80:=by kernel_rfl
 i85:=by kernel_rfl
 i127:=by kernel_rfl
 i143:=by kernel_rfl
 i145:=by kernel_rfl
 i167:=by kernel_rfl
 i168:=by kernel_rfl
 i171:=by kernel_rfl
 i173:=by kernel_rfl
 i175:=by kernel_rfl
 i210:=by kernel_rfl
 i212:=by kernel_rfl
 i232:=by kernel_rfl
 i233:=by kernel_rfl
 m15:=by kernel_rfl
 m16:=by kernel_rfl
 m17:=by kernel_rfl
 m18:=by kernel_rfl
 m19:=by kernel_rfl
 c0:=by kernel_rfl
 c2:=by kernel_rfl
 c3:=by kernel_rfl
 c4:=by kernel_rfl
 c5:=by kernel_rfl
 c9:=by kernel_rfl
 c20:=by kernel_rfl
 c21:=by kernel_rfl
 c37:=by kernel_rfl
 c46:=by kernel_rfl
 c51:=by kernel_rfl
 c53:=by kernel_rfl
 c75:=by kernel_rfl
 c76:=by kernel_rfl
 c80:=by kernel_rfl
 c85:=by kernel_rfl
 c127:=by kernel_rfl
 c143:=by kernel_rfl
 c145:=by kernel_rfl
 c167:=by kernel_rfl
 c168:=by kernel_rfl
 c171:=by kernel_rfl
 c173:=by kernel_rfl
 c175:=by kernel_rfl
 c210:=by kernel_rfl
 c212:=by kernel_rfl
 c213:=by kernel_rfl
 c232:=by kernel_rfl
 c233:=by kernel_rfl }
open Go.RowKit in
theorem Tryz.strconv_Atoi_ok (s : ByteArray) (hmax : s.size ≤ 9223372036854775806) (v : Int) (h : Lib.atoiAll s.data.toList = .ok v) (w : World) :
  Calls Tryz.prog 102 #[.string s] w fun e w' => e = .returned (.tuple #[.int .i64 v, .nilIface]) ∧ (w' = w ∨ ∃ t, w' = Lib.bytesWorld w 5 t) := Any.strconv_Atoi_ok Tryz.laysC172 s hmax v h w
open Go.RowKit in
theorem Tryz.strconv_Atoi_syntax_var (s : ByteArray) (hlim : s.size ≤ 281474976710656) (h : Lib.atoiAll s.data.toList = Lib.NumEnd.syntax) (tp : TypeId) (p : Value) (w : World) (hvar : w.var? Tryz.prog "strconv.ErrSyntax" = some #[.iface tp p]) :
  Calls Tryz.prog 102 #[.string s] w fun e w' => ∃ N, e = .returned (.tuple #[.int .i64 0, .iface 198 (.pointer (some ⟨N, 0, none⟩))]) ∧ w.heap.size ≤ N ∧ w'.heap[N]? = some (.cells #[.string ⟨#[65, 116, 111, 105]⟩, .string s, .iface tp p] 213 (0, 0)) ∧ Below w.heap.size w w' := Any.strconv_Atoi_syntax_var Tryz.laysC172 s hlim h tp p w hvar
open Go.RowKit in
theorem Tryz.strconv_Atoi_range_var (s : ByteArray) (hlim : s.size ≤ 281474976710656) (h : Lib.atoiAll s.data.toList = .range) (tp : TypeId) (p : Value) (w : World) (hvar : w.var? Tryz.prog "strconv.ErrRange" = some #[.iface tp p]) :
  Calls Tryz.prog 102 #[.string s] w fun e w' => ∃ N, e = .returned (.tuple #[.int .i64 (Lib.atoiSat s.data.toList), .iface 198 (.pointer (some ⟨N, 0, none⟩))]) ∧ w.heap.size ≤ N ∧ w'.heap[N]? = some (.cells #[.string ⟨#[65, 116, 111, 105]⟩, .string s, .iface tp p] 213 (0, 0)) ∧ Below w.heap.size w w' := Any.strconv_Atoi_range_var Tryz.laysC172 s hlim h tp p w hvar
end Go.Proofs
namespace Go.Am
open Go Go.Proofs
set_option linter.unusedVariables false
set_option linter.unusedSimpArgs false
theorem Amh {w w':World}{s:String}(hs:(Tryz.prog.globalNamed s).all (fun g=>Nat.blt g 7)=true)(e : ∀ b,b<7→w'.heap[b]? = w.heap[b]?):w'.var? Tryz.prog s=w.var? Tryz.prog s:=by
 unfold World.var?
 cases hq:Tryz.prog.globalNamed s with
 | none=>rfl
 | some g=>
  rw [hq] at hs
  simp only [Option.bind_some]
  rw [e g (by simpa using hs)]
def GWp (w : World) : Prop := ((∃ tp p, w.var? Tryz.prog "strconv.ErrRange" = some #[.iface tp p])) ∧ ((∃ tp p, w.var? Tryz.prog "strconv.ErrSyntax" = some #[.iface tp p])) ∧ (Lib.TabIs Tryz.prog w "internal/strconv.uint64pow10" .u64 Lib.pow10Tab)
theorem Aug {w w':World}(e : ∀ b,b<7→w'.heap[b]? = w.heap[b]?)(k:GWp w):GWp w':=⟨(by obtain⟨tp,p,h⟩:=k.1; exact⟨tp,p,by rw [Amh (by kernel_rfl) e]; exact h⟩),(by obtain⟨tp,p,h⟩:=k.2.1; exact⟨tp,p,by rw [Amh (by kernel_rfl) e]; exact h⟩),(by rw [Lib.TabIs,Amh (by kernel_rfl) e]; exact k.2.2)⟩
def Qw:List (An×An×FuncId):=[([97,105,114,112,111,114,116],[111,118,101,114,102,108,105,103,104,116,47,115,121,110,116,97,120,46,100,101,102,105,110,105,116,105,111,110,115,36,54],179),([99,108,97,115,115],[111,118,101,114,102,108,105,103,104,116,47,115,121,110,116,97,120,46,100,101,102,105,110,105,116,105,111,110,115,36,55],184),([99,111,110,102,105,103],[111,118,101,114,102,108,105,103,104,116,47,115,121,110,116,97,120,46,100,101,102,105,110,105,116,105,111,110,115,36,51],170),([99,117,114,102,101,119],[111,118,101,114,102,108,105,103,104,116,47,115,121,110,116,97,120,46,100,101,102,105,110,105,116,105,111,110,115,36,56],187),([101,120,101,109,112,116],[111,118,101,114,102,108,105,103,104,116,47,115,121,110,116,97,120,46,100,101,102,105,110,105,116,105,111,110,115,36,57],191),([108,111,110,103,101,115,116],[111,118,101,114,102,108,105,103,104,116,47,115,121,110,116,97,120,46,100,101,102,105,110,105,116,105,111,110,115,36,49,49],195),([114,111,117,116,101],[111,118,101,114,102,108,105,103,104,116,47,115,121,110,116,97,120,46,100,101,102,105,110,105,116,105,111,110,115,36,53],176),([115,101,99,116,111,114],[111,118,101,114,102,108,105,103,104,116,47,115,121,110,116,97,120,46,100,101,102,105,110,105,116,105,111,110,115,36,50],162),([115,101,103,109,101,110,116],[111,118,101,114,102,108,105,103,104,116,47,115,121,110,116,97,120,46,100,101,102,105,110,105,116,105,111,110,115,36,52],173),([118,111,108,117,109,101],[111,118,101,114,102,108,105,103,104,116,47,115,121,110,116,97,120,46,100,101,102,105,110,105,116,105,111,110,115,36,49],158),([119,101,105,103,104,116],[111,118,101,114,102,108,105,103,104,116,47,115,121,110,116,97,120,46,100,101,102,105,110,105,116,105,111,110,115,36,49,48],193)]
instance gwI:GW Tryz.prog where
 n:=7
 G:=fun m w=>GWp w∧FMapAt w m 0 (Li Qw)
 keep:=fun hn e k=>⟨Aug (fun b hb=>e b (Nat.lt_of_lt_of_le hb hn)) k.1,k.2.keep (Nat.lt_of_lt_of_le (by decide) hn) e⟩
 row:=fun b=>if b=0 then some [.mapc (Li Qw)] else none
 rowOk:=by
  intro m w b r hn hm k hr
  by_cases h0:b=0
  ·subst h0
   simp at hr
   subst hr
   refine⟨by decide,fun mu M hM j hj=>?_⟩
   obtain rfl:j=0:=by simpa using hj
   exact k.2.rv hm hM
  simp [h0] at hr
theorem Ans {m : Nat} {w : World} (k : GW.G Tryz.prog m w) : (∃ tp p, w.var? Tryz.prog "strconv.ErrRange" = some #[.iface tp p]) := k.1.1
theorem Amm {m : Nat} {w : World} (k : GW.G Tryz.prog m w) : (∃ tp p, w.var? Tryz.prog "strconv.ErrSyntax" = some #[.iface tp p]) := k.1.2.1
theorem Asm {m : Nat} {w : World} (k : GW.G Tryz.prog m w) : Lib.TabIs Tryz.prog w "internal/strconv.uint64pow10" .u64 Lib.pow10Tab := k.1.2.2
theorem Fl:Tryz.prog.follows .mixedOrders=true:=by kernel_rfl
theorem Dl:ti Tryz.prog 3=some ⟨.int .i64,1,8,[.int .i64 0]⟩:=by kernel_rfl
theorem R9:ti Tryz.prog 4=some ⟨.bool,1,1,[.bool false]⟩:=by kernel_rfl
theorem Cf:ti Tryz.prog 9=some ⟨.str,1,16,[.str []]⟩:=by kernel_rfl
theorem Ail:ti Tryz.prog 20=some ⟨.ifc,1,16,[.nili]⟩:=by kernel_rfl
theorem H7:ti Tryz.prog 22=some ⟨.sl 44,1,24,[.emp]⟩:=by kernel_rfl
theorem Fp:ti Tryz.prog 23=some ⟨.sl 48,1,24,[.emp]⟩:=by kernel_rfl
theorem F7:ti Tryz.prog 24=some ⟨.sl 61,1,24,[.emp]⟩:=by kernel_rfl
theorem Gl:ti Tryz.prog 25=some ⟨.sl 56,1,24,[.emp]⟩:=by kernel_rfl
theorem H4:ti Tryz.prog 26=some ⟨.sl 63,1,24,[.emp]⟩:=by kernel_rfl
theorem Lg:ti Tryz.prog 27=some ⟨.sl 66,1,24,[.emp]⟩:=by kernel_rfl
theorem Mn:ti Tryz.prog 28=some ⟨.sl 50,1,24,[.emp]⟩:=by kernel_rfl
theorem Ec:ti Tryz.prog 29=some ⟨.sl 54,1,24,[.emp]⟩:=by kernel_rfl
theorem Df:ti Tryz.prog 31=some ⟨.st [(0,22),(1,23),(2,24),(3,25),(4,26),(5,27),(6,28),(7,29)],8,192,[.emp,.emp,.emp,.emp,.emp,.emp,.emp,.emp]⟩:=by kernel_rfl
theorem Ld:ti Tryz.prog 34=some ⟨.int .i64,1,8,[.int .i64 0]⟩:=by kernel_rfl
theorem Pu:ti Tryz.prog 42=some ⟨.sl 52,1,24,[.emp]⟩:=by kernel_rfl
theorem Lb:ti Tryz.prog 44=some ⟨.st [(0,9),(1,42)],2,40,[.str [],.emp]⟩:=by kernel_rfl
theorem Dg:ti Tryz.prog 45=some ⟨.sl 9,1,24,[.emp]⟩:=by kernel_rfl
theorem O4:ti Tryz.prog 46=some ⟨.sl 3,1,24,[.emp]⟩:=by kernel_rfl
theorem Gg:ti Tryz.prog 48=some ⟨.st [(0,9),(1,45),(2,46),(3,3),(4,3)],5,80,[.str [],.emp,.emp,.int .i64 0,.int .i64 0]⟩:=by kernel_rfl
theorem Lc:ti Tryz.prog 50=some ⟨.st [(0,9),(1,3),(2,3),(3,3)],4,40,[.str [],.int .i64 0,.int .i64 0,.int .i64 0]⟩:=by kernel_rfl
theorem O1:ti Tryz.prog 52=some ⟨.st [(0,3),(1,3)],2,16,[.int .i64 0,.int .i64 0]⟩:=by kernel_rfl
theorem Dy:ti Tryz.prog 54=some ⟨.st [(0,3),(1,9),(2,9),(3,3),(4,3),(5,3),(6,52)],8,80,[.int .i64 0,.str [],.str [],.int .i64 0,.int .i64 0,.int .i64 0,.int .i64 0,.int .i64 0]⟩:=by kernel_rfl
theorem Hd:ti Tryz.prog 56=some ⟨.st [(0,9),(1,9),(2,3),(3,3),(4,42)],5,72,[.str [],.str [],.int .i64 0,.int .i64 0,.emp]⟩:=by kernel_rfl
theorem Iq:ti Tryz.prog 61=some ⟨.st [(0,9),(1,45),(2,46)],3,64,[.str [],.emp,.emp]⟩:=by kernel_rfl
theorem Gk:ti Tryz.prog 63=some ⟨.st [(0,9),(1,9),(2,9),(3,3),(4,3),(5,45),(6,46)],7,112,[.str [],.str [],.str [],.int .i64 0,.int .i64 0,.emp,.emp]⟩:=by kernel_rfl
theorem Px:ti Tryz.prog 64=some ⟨.sl 90,1,24,[.emp]⟩:=by kernel_rfl
theorem I8:ti Tryz.prog 66=some ⟨.st [(0,9),(1,64)],2,40,[.str [],.emp]⟩:=by kernel_rfl
theorem Ajb:ti Tryz.prog 68=some ⟨.ptr 71,1,8,[.nilp]⟩:=by kernel_rfl
theorem Cz:ti Tryz.prog 69=some ⟨.sl 141,1,24,[.emp]⟩:=by kernel_rfl
theorem Acn:ti Tryz.prog 71=some ⟨.st [(0,69),(1,4)],2,32,[.emp,.bool false]⟩:=by kernel_rfl
theorem Q9:ti Tryz.prog 90=some ⟨.st [(0,9),(1,3)],2,24,[.str [],.int .i64 0]⟩:=by kernel_rfl
theorem Abz:ti Tryz.prog 101=some ⟨.st [(0,3),(1,34)],2,16,[.int .i64 0,.int .i64 0]⟩:=by kernel_rfl
theorem Sv:ti Tryz.prog 103=some ⟨.ptr 105,1,8,[.nilp]⟩:=by kernel_rfl
theorem Zz:ti Tryz.prog 105=some ⟨.st [(0,69),(1,3),(2,31)],10,224,[.emp,.int .i64 0,.emp,.emp,.emp,.emp,.emp,.emp,.emp,.emp]⟩:=by kernel_rfl
theorem Qj:ti Tryz.prog 107=some ⟨.map 9 3,1,8,[.mnil]⟩:=by kernel_rfl
theorem Ayh:ti Tryz.prog 109=some ⟨.fn,1,8,[.nilf]⟩:=by kernel_rfl
theorem Ax8:ti Tryz.prog 119=some ⟨.fn,1,8,[.nilf]⟩:=by kernel_rfl
theorem Ayf:ti Tryz.prog 121=some ⟨.fn,1,8,[.nilf]⟩:=by kernel_rfl
theorem Cn:ti Tryz.prog 141=some ⟨.st [(0,3),(1,9),(2,3),(3,3)],4,40,[.int .i64 0,.str [],.int .i64 0,.int .i64 0]⟩:=by kernel_rfl
theorem Atv:ti Tryz.prog 147=some ⟨.int .i64,1,8,[.int .i64 0]⟩:=by kernel_rfl
theorem Afy:ti Tryz.prog 148=some ⟨.fn,1,8,[.nilf]⟩:=by kernel_rfl
theorem Abq:ti Tryz.prog 149=some ⟨.arr 6 148,6,48,[.nilf,.nilf,.nilf,.nilf,.nilf,.nilf]⟩:=by kernel_rfl
theorem Ats:ti Tryz.prog 151=some ⟨.st [(0,149)],6,48,[.nilf,.nilf,.nilf,.nilf,.nilf,.nilf]⟩:=by kernel_rfl
theorem Qt:ti Tryz.prog 154=some ⟨.st [(0,9),(1,3),(2,69)],3,48,[.str [],.int .i64 0,.emp]⟩:=by kernel_rfl
theorem Uh:ti Tryz.prog 156=some ⟨.fn,1,8,[.nilf]⟩:=by kernel_rfl
theorem Tu:ti Tryz.prog 158=some ⟨.map 9 156,1,8,[.mnil]⟩:=by kernel_rfl
theorem Ayz:ti Tryz.prog 173=some ⟨.ifc,1,16,[.nili]⟩:=by kernel_rfl
theorem Ag2:Hv Tryz.prog [(0,22),(1,23),(2,24),(3,25),(4,26),(5,27),(6,28),(7,29)]=some [(0,1),(1,1),(2,1),(3,1),(4,1),(5,1),(6,1),(7,1)]:=by kernel_rfl
theorem Azg:Hv Tryz.prog [(0,9),(1,42)]=some [(0,1),(1,1)]:=by kernel_rfl
theorem Azt:Hv Tryz.prog [(0,9),(1,45),(2,46),(3,3),(4,3)]=some [(0,1),(1,1),(2,1),(3,1),(4,1)]:=by kernel_rfl
theorem Ay9:Hv Tryz.prog [(0,9),(1,3),(2,3),(3,3)]=some [(0,1),(1,1),(2,1),(3,1)]:=by kernel_rfl
theorem Ay6:Hv Tryz.prog [(0,3),(1,9),(2,9),(3,3),(4,3),(5,3),(6,52)]=some [(0,1),(1,1),(2,1),(3,1),(4,1),(5,1),(6,2)]:=by kernel_rfl
theorem Azp:Hv Tryz.prog [(0,9),(1,9),(2,3),(3,3),(4,42)]=some [(0,1),(1,1),(2,1),(3,1),(4,1)]:=by kernel_rfl
theorem Azu:Hv Tryz.prog [(0,9),(1,45),(2,46)]=some [(0,1),(1,1),(2,1)]:=by kernel_rfl
theorem Azi:Hv Tryz.prog [(0,9),(1,64)]=some [(0,1),(1,1)]:=by kernel_rfl
theorem Aze:Hv Tryz.prog [(0,69),(1,4)]=some [(0,1),(1,1)]:=by kernel_rfl
theorem Ayo:Hv Tryz.prog [(0,69),(1,3),(2,31)]=some [(0,1),(1,1),(2,8)]:=by kernel_rfl
theorem Axt {o:BinOp}{x y:Operand}{a b:AV}(ha:a.isAgg=true)(hb:b.isAgg=true):Ng Tryz.prog o 50 x y a b=true:=Ab1 ha hb (by kernel_rfl)
theorem Aw7 {aName:An}{aSlow:Int}{aFast:Int}{Hv:Int}{bName:An}{bSlow:Int}{bFast:Int}{bPlaces:Int}:Qq Tryz.prog .neq 50 (AV.agg [(.str aName),(.int .i64 aSlow),(.int .i64 aFast),(.int .i64 Hv)]) (AV.agg [(.str bName),(.int .i64 bSlow),(.int .i64 bFast),(.int .i64 bPlaces)])=some (.bool (!((aName==bName)&&((aSlow==bSlow)&&((aFast==bFast)&&(Hv==bPlaces)))))):=by
 have he50:Yr Tryz.prog 50=true:=by kernel_rfl
 simp only [Qq,Y8,he50,if_true,List.drop_succ_cons,List.drop_zero,List.take_succ_cons,List.take_zero,List.take_nil,Afu,Adp,Uk,K9,Dl,Cf,Lc,TK.agg,Nat.reduceAdd,Nat.reduceLT,Nat.reduceLeDiff,List.length_cons,List.length_nil,List.getD_cons_zero,List.getD_cons_succ,Abu,Bool.and_true,Option.map_some,if_false,Bool.false_eq_true,reduceCtorEq,Nat.zero_add]
 try rfl
theorem Axc {o:BinOp}{x y:Operand}{a b:AV}(ha:a.isAgg=true)(hb:b.isAgg=true):Ng Tryz.prog o 52 x y a b=true:=Ab1 ha hb (by kernel_rfl)
theorem Awo {aFrom:Int}{aTo:Int}{bFrom:Int}{bTo:Int}:Qq Tryz.prog .neq 52 (AV.agg [(.int .i64 aFrom),(.int .i64 aTo)]) (AV.agg [(.int .i64 bFrom),(.int .i64 bTo)])=some (.bool (!((aFrom==bFrom)&&(aTo==bTo)))):=by
 have he52:Yr Tryz.prog 52=true:=by kernel_rfl
 simp only [Qq,Y8,he52,if_true,List.drop_succ_cons,List.drop_zero,List.take_succ_cons,List.take_zero,List.take_nil,Afu,Adp,Uk,K9,Dl,O1,TK.agg,Nat.reduceAdd,Nat.reduceLT,Nat.reduceLeDiff,List.length_cons,List.length_nil,List.getD_cons_zero,List.getD_cons_succ,Abu,Bool.and_true,Option.map_some,if_false,Bool.false_eq_true,reduceCtorEq,Nat.zero_add]
 try rfl
theorem Aqm {o:BinOp}{x y:Operand}{a b:AV}(ha:a.isAgg=true)(hb:b.isAgg=true):Ng Tryz.prog o 54 x y a b=true:=Ab1 ha hb (by kernel_rfl)
theorem Aqz {aKind:Int}{aC:An}{aA:An}{aClass:Int}{aAirport:Int}{aN:Int}{aHours_From:Int}{aHours_To:Int}{bKind:Int}{bC:An}{bA:An}{bClass:Int}{bAirport:Int}{bN:Int}{bHours_From:Int}{bHours_To:Int}:Qq Tryz.prog .neq 54 (AV.agg [(.int .i64 aKind),(.str aC),(.str aA),(.int .i64 aClass),(.int .i64 aAirport),(.int .i64 aN),(.int .i64 aHours_From),(.int .i64 aHours_To)]) (AV.agg [(.int .i64 bKind),(.str bC),(.str bA),(.int .i64 bClass),(.int .i64 bAirport),(.int .i64 bN),(.int .i64 bHours_From),(.int .i64 bHours_To)])=some (.bool (!((aKind==bKind)&&((aC==bC)&&((aA==bA)&&((aClass==bClass)&&((aAirport==bAirport)&&((aN==bN)&&((aHours_From==bHours_From)&&(aHours_To==bHours_To)))))))))):=by
 have he52:Yr Tryz.prog 52=true:=by kernel_rfl
 have he54:Yr Tryz.prog 54=true:=by kernel_rfl
 simp only [Qq,Y8,he52,he54,if_true,List.drop_succ_cons,List.drop_zero,List.take_succ_cons,List.take_zero,List.take_nil,Afu,Adp,Uk,K9,Dl,Cf,O1,Dy,TK.agg,Nat.reduceAdd,Nat.reduceLT,Nat.reduceLeDiff,List.length_cons,List.length_nil,List.getD_cons_zero,List.getD_cons_succ,Abu,Bool.and_true,Option.map_some,if_false,Bool.false_eq_true,reduceCtorEq,Nat.zero_add]
 try rfl
theorem Awg {o:BinOp}{x y:Operand}{a b:AV}(ha:a.isAgg=true)(hb:b.isAgg=true):Ng Tryz.prog o 90 x y a b=true:=Ab1 ha hb (by kernel_rfl)
theorem Awt {aName:An}{Hv:Int}{bName:An}{bPlaces:Int}:Qq Tryz.prog .neq 90 (AV.agg [(.str aName),(.int .i64 Hv)]) (AV.agg [(.str bName),(.int .i64 bPlaces)])=some (.bool (!((aName==bName)&&(Hv==bPlaces)))):=by
 have he90:Yr Tryz.prog 90=true:=by kernel_rfl
 simp only [Qq,Y8,he90,if_true,List.drop_succ_cons,List.drop_zero,List.take_succ_cons,List.take_zero,List.take_nil,Afu,Adp,Uk,K9,Dl,Cf,Q9,TK.agg,Nat.reduceAdd,Nat.reduceLT,Nat.reduceLeDiff,List.length_cons,List.length_nil,List.getD_cons_zero,List.getD_cons_succ,Abu,Bool.and_true,Option.map_some,if_false,Bool.false_eq_true,reduceCtorEq,Nat.zero_add]
 try rfl
end Go.Am
namespace Go.Am
open Go Go.Proofs
set_option maxRecDepth 100000
set_option maxHeartbeats 4000000
set_option linter.unusedSimpArgs false
set_option linter.unusedVariables false
theorem V0 (v:Volume):CP Tryz.prog 46 [(.agg (Ar v))] (Q5 v) (fun(x:An)=>(AV.str x)):=by
 refine C8 (n:=5) 1 Tryz.func46 J (by decide) J J fun h0 ids hI=>Bk (Al (Q5.eq_1 _) ?_)
 refine Y<|O<|Ck (v:=(.agg (Ar v))) (j:=0) hI J J J J J J J fun g=>Aa (.str []) J Aj<|Z<|Ak ?_
 refine Y<|O<|Ac 3 [0] [(2,(.str v.Name))] ?_
 refine Z<|B8 (a:=v.Name) (vs:=[(.str v.Name)]) Tryz.func46 hI J (.same _)
theorem K3 (ok:Bool)(e:Int):CP Tryz.prog 89 [(.bool ok),(.int .i64 e)] (Ju ok e) (fun(_:Unit)=>AV.tup []):=by
 refine C8 (n:=8) 0 Tryz.func89 J (by decide) J J fun h0 ids hI=>Bk (Al (Ju.eq_1 _ _) ?_)
 refine Y<|O<|Ac 2 [] [(5,(.bool (!ok)))] ?_
 refine Z<|Fj J (fun hc=>?_) (fun hc=>?_)
 ·refine A0<|Ap9 (a:=()) (vs:=[]) Tryz.func89 hI J (.tupL .nil)
 refine O<|Ac 2 [] [(7,(.iface 34 (.I e)))] ?_
 exact Td (v:=⟨34,.I e⟩) J J (Cy Tryz.func89 hI)
theorem Wn (l:List Volume):CPM Tryz.prog 45 [(.sl 2 (List.map Ar l)),(.func (.func 46) [] [])] (Iy l) (fun x:An=>(AV.str x)) (fun x:Int=>(AV.int .i64 x)):=by
 refine Rh (n:=36) 1 Tryz.func45 J (by decide) J J fun h0 ids hI=>Bk (Al (Iy.eq_1 _) ?_)
 refine Y<|O<|Aa .mnil J Aj<|Z<|Y<|O<|Qe (j:=0) hI J J J J fun g=>?_
 refine Aa (.map (ix ids 0) g) J Aj<|Z<|Ak ?_
 refine Y<|Y<|O<|Aa (.sl 2 (List.map Ar l)) J Ae<|Aa (.I (l.length:Int)) J (Ay (A8 H7))<|Aa (.I 0) J Ae<|Z ?_
 refine A3<|Db [(1,(.func (.func 46) [] [])),(5,(.map (ix ids 0) g)),(11,(.sl 2 (List.map Ar l))),(12,(.I (l.length:Int))),(13,(.I 0))] (FI J)<|Di (P:=Tryz.prog) l (fun j a=>fun m=>Fq j a m) (((fun m=>.ok m)):(List (An×Int))→R (List (An×Int))) (fun j=>fun m=>fun(fr:Nat→AV) (h:Af)=>fr=A2 [(1,(.func (.func 46) [] [])),(5,(.map (ix ids 0) g)),(11,(.sl 2 (List.map Ar l))),(12,(.I (l.length:Int))),(13,(.I (j:Int)))]∧h=hp h0 ids [(some (.mp g (mE (fun x:An=>(AV.str x)) (fun x:Int=>(AV.I x)) m))),none]) [] ?_ ?_ ?_
 ·exact⟨J,J⟩
 ·rintro j a ha W hW m fr h ⟨rfl,rfl⟩
  refine Al (m':=Fq j a m) J (Al (Fq.eq_1 _ _ _) ?_)
  refine Y<|O<|Aa (.bool (decide ((j:Int)<(l.length:Int)))) J (Ba J J J)<|Z<|Y<|Dn (t:=11) (L:=l) J fun hlim=>Ch J (Int.ofNat_lt.2 (Av ha)) ?_
  refine A0<|Y<|A3<|Y<|O<|Aa (.I (j:Int)) J Ae<|Aa (.cp (Ar a) 0) J (Bt (Ct H7 Lb J ha)) ?_
  refine Aa (.agg (Ar a)) J (As (Dh Lb J))<|Bl (j:=1) hI J J J J Lb J fun g1=>Aa (.I (j:Int)) J Aj<|Au (A4 (v:=(.agg (Ar a))) hI J J J J Lb J J J J J)<|Z<|Ak ?_
  refine Y<|O<|Ac 3 [1] [(21,(.agg (Ar a))),(20,(.func (.func 46) [] [])),(19,(.map (ix ids 0) g))] ?_
  refine Bv [(.agg (Ar a))] J J J J ((V0 a) _) (fun v _=>Gs Tryz.func45 hI) fun r _=>Aa (.tup [(.I (Option.getD (Cv m r) 0)),(.bool (Option.isSome (Cv m r)))]) J (Ip (Ry (eK:=(fun x:An=>(AV.str x))) (eV:=(fun x:Int=>(AV.I x))) (zv:=0) (Rs (hI.at J J)) Qj Cf Dl Jl J).2)<|Ac 5 [] [(9,(.bool (Option.isSome (Cv m r))))] ?_
  refine Z<|Y<|O<|Ac 2 [] [(27,(.bool (!(Option.isSome (Cv m r)))))] ?_
  refine Bv [(.bool (!(Option.isSome (Cv m r)))),(.I 91)] J J J J ((K3 (!(Option.isSome (Cv m r))) 91) _) (fun v _=>Gs Tryz.func45 hI) fun _ _=>Z<|O<|Ac 3 [1] [(31,(.agg (Ar a))),(30,(.func (.func 46) [] [])),(29,(.map (ix ids 0) g))] ?_
  refine Bv [(.agg (Ar a))] J J J J ((V0 a) _) (fun v _=>Gs Tryz.func45 hI) fun r2 _=>Aa (.I (j:Int)) J Ae<|Np (j:=0) (eK:=(fun x:An=>(AV.str x))) (eV:=(fun x:Int=>(AV.I x))) (M:=m) (ky:=r2) (w:=(j:Int)) hI J J J J J J Qj Cf Jl<|Z<|Ak ?_
  refine Bf<|O<|Ac 2 [] [(13,(.I (IntKind.wrap .i64 ((j:Int)+1))))] ?_
  refine Z<|Dr [(some (.mp g (mE (fun x:An=>(AV.str x)) (fun x:Int=>(AV.I x)) (G5 m r2 (j:Int))))),none] hI J (.keep (.drop .nil))<|Bp (I7 (hW (G5 m r2 (j:Int)) _ _ ⟨J,J⟩)) (.cons J (.cons J (.cons J (.cons J (.cons (C3 (Av ha) hlim) .nil)))))
 rintro m fr h ⟨rfl,rfl⟩
 refine Y<|O<|Aa (.bool (decide ((l.length:Int)<(l.length:Int)))) J (Ba J J J)<|Z<|Y<|Cg J (Int.lt_irrefl _)<|Cl J ?_
 refine Y<|O<|Ac 2 [] [(4,(.map (ix ids 0) g))] ?_
 refine Z<|U7 (a:=m) (g:=g) Tryz.func45 hI J J J
theorem Ws (s:Sector):CP Tryz.prog 48 [(.agg (A9 s))] (Pp s) (fun(x:An)=>(AV.str x)):=by
 refine C8 (n:=5) 1 Tryz.func48 J (by decide) J J fun h0 ids hI=>Bk (Al (Pp.eq_1 _) ?_)
 refine Y<|O<|Ck (v:=(.agg (A9 s))) (j:=0) hI J J J J J J J fun g=>Aa (.str []) J Aj<|Z<|Ak ?_
 refine Y<|O<|Ac 3 [0] [(2,(.str s.Name))] ?_
 refine Z<|B8 (a:=s.Name) (vs:=[(.str s.Name)]) Tryz.func48 hI J (.same _)
theorem Zy (l:List Sector):CPM Tryz.prog 47 [(.sl 5 (List.map A9 l)),(.func (.func 48) [] [])] (Lq l) (fun x:An=>(AV.str x)) (fun x:Int=>(AV.int .i64 x)):=by
 refine Rh (n:=36) 1 Tryz.func47 J (by decide) J J fun h0 ids hI=>Bk (Al (Lq.eq_1 _) ?_)
 refine Y<|O<|Aa .mnil J Aj<|Z<|Y<|O<|Qe (j:=0) hI J J J J fun g=>?_
 refine Aa (.map (ix ids 0) g) J Aj<|Z<|Ak ?_
 refine Y<|Y<|O<|Aa (.sl 5 (List.map A9 l)) J Ae<|Aa (.I (l.length:Int)) J (Ay (A8 Fp))<|Aa (.I 0) J Ae<|Z ?_
 refine A3<|Db [(1,(.func (.func 48) [] [])),(5,(.map (ix ids 0) g)),(11,(.sl 5 (List.map A9 l))),(12,(.I (l.length:Int))),(13,(.I 0))] (FI J)<|Di (P:=Tryz.prog) l (fun j a=>fun m=>He j a m) (((fun m=>.ok m)):(List (An×Int))→R (List (An×Int))) (fun j=>fun m=>fun(fr:Nat→AV) (h:Af)=>fr=A2 [(1,(.func (.func 48) [] [])),(5,(.map (ix ids 0) g)),(11,(.sl 5 (List.map A9 l))),(12,(.I (l.length:Int))),(13,(.I (j:Int)))]∧h=hp h0 ids [(some (.mp g (mE (fun x:An=>(AV.str x)) (fun x:Int=>(AV.I x)) m))),none]) [] ?_ ?_ ?_
 ·exact⟨J,J⟩
 ·rintro j a ha W hW m fr h ⟨rfl,rfl⟩
  refine Al (m':=He j a m) J (Al (He.eq_1 _ _ _) ?_)
  refine Y<|O<|Aa (.bool (decide ((j:Int)<(l.length:Int)))) J (Ba J J J)<|Z<|Y<|Dn (t:=11) (L:=l) J fun hlim=>Ch J (Int.ofNat_lt.2 (Av ha)) ?_
  refine A0<|Y<|A3<|Y<|O<|Aa (.I (j:Int)) J Ae<|Aa (.cp (A9 a) 0) J (Bt (Ct Fp Gg J ha)) ?_
  refine Aa (.agg (A9 a)) J (As (Dh Gg J))<|Bl (j:=1) hI J J J J Gg J fun g1=>Aa (.I (j:Int)) J Aj<|Au (A4 (v:=(.agg (A9 a))) hI J J J J Gg J J J J J)<|Z<|Ak ?_
  refine Y<|O<|Ac 3 [1] [(21,(.agg (A9 a))),(20,(.func (.func 48) [] [])),(19,(.map (ix ids 0) g))] ?_
  refine Bv [(.agg (A9 a))] J J J J ((Ws a) _) (fun v _=>Gs Tryz.func47 hI) fun r _=>Aa (.tup [(.I (Option.getD (Cv m r) 0)),(.bool (Option.isSome (Cv m r)))]) J (Ip (Ry (eK:=(fun x:An=>(AV.str x))) (eV:=(fun x:Int=>(AV.I x))) (zv:=0) (Rs (hI.at J J)) Qj Cf Dl Jl J).2)<|Ac 5 [] [(9,(.bool (Option.isSome (Cv m r))))] ?_
  refine Z<|Y<|O<|Ac 2 [] [(27,(.bool (!(Option.isSome (Cv m r)))))] ?_
  refine Bv [(.bool (!(Option.isSome (Cv m r)))),(.I 91)] J J J J ((K3 (!(Option.isSome (Cv m r))) 91) _) (fun v _=>Gs Tryz.func47 hI) fun _ _=>Z<|O<|Ac 3 [1] [(31,(.agg (A9 a))),(30,(.func (.func 48) [] [])),(29,(.map (ix ids 0) g))] ?_
  refine Bv [(.agg (A9 a))] J J J J ((Ws a) _) (fun v _=>Gs Tryz.func47 hI) fun r2 _=>Aa (.I (j:Int)) J Ae<|Np (j:=0) (eK:=(fun x:An=>(AV.str x))) (eV:=(fun x:Int=>(AV.I x))) (M:=m) (ky:=r2) (w:=(j:Int)) hI J J J J J J Qj Cf Jl<|Z<|Ak ?_
  refine Bf<|O<|Ac 2 [] [(13,(.I (IntKind.wrap .i64 ((j:Int)+1))))] ?_
  refine Z<|Dr [(some (.mp g (mE (fun x:An=>(AV.str x)) (fun x:Int=>(AV.I x)) (G5 m r2 (j:Int))))),none] hI J (.keep (.drop .nil))<|Bp (I7 (hW (G5 m r2 (j:Int)) _ _ ⟨J,J⟩)) (.cons J (.cons J (.cons J (.cons J (.cons (C3 (Av ha) hlim) .nil)))))
 rintro m fr h ⟨rfl,rfl⟩
 refine Y<|O<|Aa (.bool (decide ((l.length:Int)<(l.length:Int)))) J (Ba J J J)<|Z<|Y<|Cg J (Int.lt_irrefl _)<|Cl J ?_
 refine Y<|O<|Ac 2 [] [(4,(.map (ix ids 0) g))] ?_
 refine Z<|U7 (a:=m) (g:=g) Tryz.func47 hI J J J
theorem Wq (c:Config):CP Tryz.prog 50 [(.agg (Bh c))] (Pi c) (fun(x:An)=>(AV.str x)):=by
 refine C8 (n:=5) 1 Tryz.func50 J (by decide) J J fun h0 ids hI=>Bk (Al (Pi.eq_1 _) ?_)
 refine Y<|O<|Ck (v:=(.agg (Bh c))) (j:=0) hI J J J J J J J fun g=>Aa (.str []) J Aj<|Z<|Ak ?_
 refine Y<|O<|Ac 3 [0] [(2,(.str c.Name))] ?_
 refine Z<|B8 (a:=c.Name) (vs:=[(.str c.Name)]) Tryz.func50 hI J (.same _)
theorem Zv (l:List Config):CPM Tryz.prog 49 [(.sl 3 (List.map Bh l)),(.func (.func 50) [] [])] (Lk l) (fun x:An=>(AV.str x)) (fun x:Int=>(AV.int .i64 x)):=by
 refine Rh (n:=36) 1 Tryz.func49 J (by decide) J J fun h0 ids hI=>Bk (Al (Lk.eq_1 _) ?_)
 refine Y<|O<|Aa .mnil J Aj<|Z<|Y<|O<|Qe (j:=0) hI J J J J fun g=>?_
 refine Aa (.map (ix ids 0) g) J Aj<|Z<|Ak ?_
 refine Y<|Y<|O<|Aa (.sl 3 (List.map Bh l)) J Ae<|Aa (.I (l.length:Int)) J (Ay (A8 F7))<|Aa (.I 0) J Ae<|Z ?_
 refine A3<|Db [(1,(.func (.func 50) [] [])),(5,(.map (ix ids 0) g)),(11,(.sl 3 (List.map Bh l))),(12,(.I (l.length:Int))),(13,(.I 0))] (FI J)<|Di (P:=Tryz.prog) l (fun j a=>fun m=>Hf j a m) (((fun m=>.ok m)):(List (An×Int))→R (List (An×Int))) (fun j=>fun m=>fun(fr:Nat→AV) (h:Af)=>fr=A2 [(1,(.func (.func 50) [] [])),(5,(.map (ix ids 0) g)),(11,(.sl 3 (List.map Bh l))),(12,(.I (l.length:Int))),(13,(.I (j:Int)))]∧h=hp h0 ids [(some (.mp g (mE (fun x:An=>(AV.str x)) (fun x:Int=>(AV.I x)) m))),none]) [] ?_ ?_ ?_
 ·exact⟨J,J⟩
 ·rintro j a ha W hW m fr h ⟨rfl,rfl⟩
  refine Al (m':=Hf j a m) J (Al (Hf.eq_1 _ _ _) ?_)
  refine Y<|O<|Aa (.bool (decide ((j:Int)<(l.length:Int)))) J (Ba J J J)<|Z<|Y<|Dn (t:=11) (L:=l) J fun hlim=>Ch J (Int.ofNat_lt.2 (Av ha)) ?_
  refine A0<|Y<|A3<|Y<|O<|Aa (.I (j:Int)) J Ae<|Aa (.cp (Bh a) 0) J (Bt (Ct F7 Iq J ha)) ?_
  refine Aa (.agg (Bh a)) J (As (Dh Iq J))<|Bl (j:=1) hI J J J J Iq J fun g1=>Aa (.I (j:Int)) J Aj<|Au (A4 (v:=(.agg (Bh a))) hI J J J J Iq J J J J J)<|Z<|Ak ?_
  refine Y<|O<|Ac 3 [1] [(21,(.agg (Bh a))),(20,(.func (.func 50) [] [])),(19,(.map (ix ids 0) g))] ?_
  refine Bv [(.agg (Bh a))] J J J J ((Wq a) _) (fun v _=>Gs Tryz.func49 hI) fun r _=>Aa (.tup [(.I (Option.getD (Cv m r) 0)),(.bool (Option.isSome (Cv m r)))]) J (Ip (Ry (eK:=(fun x:An=>(AV.str x))) (eV:=(fun x:Int=>(AV.I x))) (zv:=0) (Rs (hI.at J J)) Qj Cf Dl Jl J).2)<|Ac 5 [] [(9,(.bool (Option.isSome (Cv m r))))] ?_
  refine Z<|Y<|O<|Ac 2 [] [(27,(.bool (!(Option.isSome (Cv m r)))))] ?_
  refine Bv [(.bool (!(Option.isSome (Cv m r)))),(.I 91)] J J J J ((K3 (!(Option.isSome (Cv m r))) 91) _) (fun v _=>Gs Tryz.func49 hI) fun _ _=>Z<|O<|Ac 3 [1] [(31,(.agg (Bh a))),(30,(.func (.func 50) [] [])),(29,(.map (ix ids 0) g))] ?_
  refine Bv [(.agg (Bh a))] J J J J ((Wq a) _) (fun v _=>Gs Tryz.func49 hI) fun r2 _=>Aa (.I (j:Int)) J Ae<|Np (j:=0) (eK:=(fun x:An=>(AV.str x))) (eV:=(fun x:Int=>(AV.I x))) (M:=m) (ky:=r2) (w:=(j:Int)) hI J J J J J J Qj Cf Jl<|Z<|Ak ?_
  refine Bf<|O<|Ac 2 [] [(13,(.I (IntKind.wrap .i64 ((j:Int)+1))))] ?_
  refine Z<|Dr [(some (.mp g (mE (fun x:An=>(AV.str x)) (fun x:Int=>(AV.I x)) (G5 m r2 (j:Int))))),none] hI J (.keep (.drop .nil))<|Bp (I7 (hW (G5 m r2 (j:Int)) _ _ ⟨J,J⟩)) (.cons J (.cons J (.cons J (.cons J (.cons (C3 (Av ha) hlim) .nil)))))
 rintro m fr h ⟨rfl,rfl⟩
 refine Y<|O<|Aa (.bool (decide ((l.length:Int)<(l.length:Int)))) J (Ba J J J)<|Z<|Y<|Cg J (Int.lt_irrefl _)<|Cl J ?_
 refine Y<|O<|Ac 2 [] [(4,(.map (ix ids 0) g))] ?_
 refine Z<|U7 (a:=m) (g:=g) Tryz.func49 hI J J J
theorem Wp (s:Segment):CP Tryz.prog 52 [(.agg (Bc s))] (Pq s) (fun(x:An)=>(AV.str x)):=by
 refine C8 (n:=5) 1 Tryz.func52 J (by decide) J J fun h0 ids hI=>Bk (Al (Pq.eq_1 _) ?_)
 refine Y<|O<|Ck (v:=(.agg (Bc s))) (j:=0) hI J J J J J J J fun g=>Aa (.str []) J Aj<|Z<|Ak ?_
 refine Y<|O<|Ac 3 [0] [(2,(.str s.Name))] ?_
 refine Z<|B8 (a:=s.Name) (vs:=[(.str s.Name)]) Tryz.func52 hI J (.same _)
theorem Ze (l:List Segment):CPM Tryz.prog 51 [(.sl 5 (List.map Bc l)),(.func (.func 52) [] [])] (Ky l) (fun x:An=>(AV.str x)) (fun x:Int=>(AV.int .i64 x)):=by
 refine Rh (n:=36) 1 Tryz.func51 J (by decide) J J fun h0 ids hI=>Bk (Al (Ky.eq_1 _) ?_)
 refine Y<|O<|Aa .mnil J Aj<|Z<|Y<|O<|Qe (j:=0) hI J J J J fun g=>?_
 refine Aa (.map (ix ids 0) g) J Aj<|Z<|Ak ?_
 refine Y<|Y<|O<|Aa (.sl 5 (List.map Bc l)) J Ae<|Aa (.I (l.length:Int)) J (Ay (A8 Gl))<|Aa (.I 0) J Ae<|Z ?_
 refine A3<|Db [(1,(.func (.func 52) [] [])),(5,(.map (ix ids 0) g)),(11,(.sl 5 (List.map Bc l))),(12,(.I (l.length:Int))),(13,(.I 0))] (FI J)<|Di (P:=Tryz.prog) l (fun j a=>fun m=>Gt j a m) (((fun m=>.ok m)):(List (An×Int))→R (List (An×Int))) (fun j=>fun m=>fun(fr:Nat→AV) (h:Af)=>fr=A2 [(1,(.func (.func 52) [] [])),(5,(.map (ix ids 0) g)),(11,(.sl 5 (List.map Bc l))),(12,(.I (l.length:Int))),(13,(.I (j:Int)))]∧h=hp h0 ids [(some (.mp g (mE (fun x:An=>(AV.str x)) (fun x:Int=>(AV.I x)) m))),none]) [] ?_ ?_ ?_
 ·exact⟨J,J⟩
 ·rintro j a ha W hW m fr h ⟨rfl,rfl⟩
  refine Al (m':=Gt j a m) J (Al (Gt.eq_1 _ _ _) ?_)
  refine Y<|O<|Aa (.bool (decide ((j:Int)<(l.length:Int)))) J (Ba J J J)<|Z<|Y<|Dn (t:=11) (L:=l) J fun hlim=>Ch J (Int.ofNat_lt.2 (Av ha)) ?_
  refine A0<|Y<|A3<|Y<|O<|Aa (.I (j:Int)) J Ae<|Aa (.cp (Bc a) 0) J (Bt (Ct Gl Hd J ha)) ?_
  refine Aa (.agg (Bc a)) J (As (Dh Hd J))<|Bl (j:=1) hI J J J J Hd J fun g1=>Aa (.I (j:Int)) J Aj<|Au (A4 (v:=(.agg (Bc a))) hI J J J J Hd J J J J J)<|Z<|Ak ?_
  refine Y<|O<|Ac 3 [1] [(21,(.agg (Bc a))),(20,(.func (.func 52) [] [])),(19,(.map (ix ids 0) g))] ?_
  refine Bv [(.agg (Bc a))] J J J J ((Wp a) _) (fun v _=>Gs Tryz.func51 hI) fun r _=>Aa (.tup [(.I (Option.getD (Cv m r) 0)),(.bool (Option.isSome (Cv m r)))]) J (Ip (Ry (eK:=(fun x:An=>(AV.str x))) (eV:=(fun x:Int=>(AV.I x))) (zv:=0) (Rs (hI.at J J)) Qj Cf Dl Jl J).2)<|Ac 5 [] [(9,(.bool (Option.isSome (Cv m r))))] ?_
  refine Z<|Y<|O<|Ac 2 [] [(27,(.bool (!(Option.isSome (Cv m r)))))] ?_
  refine Bv [(.bool (!(Option.isSome (Cv m r)))),(.I 91)] J J J J ((K3 (!(Option.isSome (Cv m r))) 91) _) (fun v _=>Gs Tryz.func51 hI) fun _ _=>Z<|O<|Ac 3 [1] [(31,(.agg (Bc a))),(30,(.func (.func 52) [] [])),(29,(.map (ix ids 0) g))] ?_
  refine Bv [(.agg (Bc a))] J J J J ((Wp a) _) (fun v _=>Gs Tryz.func51 hI) fun r2 _=>Aa (.I (j:Int)) J Ae<|Np (j:=0) (eK:=(fun x:An=>(AV.str x))) (eV:=(fun x:Int=>(AV.I x))) (M:=m) (ky:=r2) (w:=(j:Int)) hI J J J J J J Qj Cf Jl<|Z<|Ak ?_
  refine Bf<|O<|Ac 2 [] [(13,(.I (IntKind.wrap .i64 ((j:Int)+1))))] ?_
  refine Z<|Dr [(some (.mp g (mE (fun x:An=>(AV.str x)) (fun x:Int=>(AV.I x)) (G5 m r2 (j:Int))))),none] hI J (.keep (.drop .nil))<|Bp (I7 (hW (G5 m r2 (j:Int)) _ _ ⟨J,J⟩)) (.cons J (.cons J (.cons J (.cons J (.cons (C3 (Av ha) hlim) .nil)))))
 rintro m fr h ⟨rfl,rfl⟩
 refine Y<|O<|Aa (.bool (decide ((l.length:Int)<(l.length:Int)))) J (Ba J J J)<|Z<|Y<|Cg J (Int.lt_irrefl _)<|Cl J ?_
 refine Y<|O<|Ac 2 [] [(4,(.map (ix ids 0) g))] ?_
 refine Z<|U7 (a:=m) (g:=g) Tryz.func51 hI J J J
theorem Wt (r:Route):CP Tryz.prog 54 [(.agg (Bs r))] (Po r) (fun(x:An)=>(AV.str x)):=by
 refine C8 (n:=5) 1 Tryz.func54 J (by decide) J J fun h0 ids hI=>Bk (Al (Po.eq_1 _) ?_)
 refine Y<|O<|Ck (v:=(.agg (Bs r))) (j:=0) hI J J J J J J J fun g=>Aa (.str []) J Aj<|Z<|Ak ?_
 refine Y<|O<|Ac 3 [0] [(2,(.str r.Name))] ?_
 refine Z<|B8 (a:=r.Name) (vs:=[(.str r.Name)]) Tryz.func54 hI J (.same _)
theorem Aaz (l:List Route):CPM Tryz.prog 53 [(.sl 7 (List.map Bs l)),(.func (.func 54) [] [])] (Mb l) (fun x:An=>(AV.str x)) (fun x:Int=>(AV.int .i64 x)):=by
 refine Rh (n:=36) 1 Tryz.func53 J (by decide) J J fun h0 ids hI=>Bk (Al (Mb.eq_1 _) ?_)
 refine Y<|O<|Aa .mnil J Aj<|Z<|Y<|O<|Qe (j:=0) hI J J J J fun g=>?_
 refine Aa (.map (ix ids 0) g) J Aj<|Z<|Ak ?_
 refine Y<|Y<|O<|Aa (.sl 7 (List.map Bs l)) J Ae<|Aa (.I (l.length:Int)) J (Ay (A8 H4))<|Aa (.I 0) J Ae<|Z ?_
 refine A3<|Db [(1,(.func (.func 54) [] [])),(5,(.map (ix ids 0) g)),(11,(.sl 7 (List.map Bs l))),(12,(.I (l.length:Int))),(13,(.I 0))] (FI J)<|Di (P:=Tryz.prog) l (fun j a=>fun m=>H3 j a m) (((fun m=>.ok m)):(List (An×Int))→R (List (An×Int))) (fun j=>fun m=>fun(fr:Nat→AV) (h:Af)=>fr=A2 [(1,(.func (.func 54) [] [])),(5,(.map (ix ids 0) g)),(11,(.sl 7 (List.map Bs l))),(12,(.I (l.length:Int))),(13,(.I (j:Int)))]∧h=hp h0 ids [(some (.mp g (mE (fun x:An=>(AV.str x)) (fun x:Int=>(AV.I x)) m))),none]) [] ?_ ?_ ?_
 ·exact⟨J,J⟩
 ·rintro j a ha W hW m fr h ⟨rfl,rfl⟩
  refine Al (m':=H3 j a m) J (Al (H3.eq_1 _ _ _) ?_)
  refine Y<|O<|Aa (.bool (decide ((j:Int)<(l.length:Int)))) J (Ba J J J)<|Z<|Y<|Dn (t:=11) (L:=l) J fun hlim=>Ch J (Int.ofNat_lt.2 (Av ha)) ?_
  refine A0<|Y<|A3<|Y<|O<|Aa (.I (j:Int)) J Ae<|Aa (.cp (Bs a) 0) J (Bt (Ct H4 Gk J ha)) ?_
  refine Aa (.agg (Bs a)) J (As (Dh Gk J))<|Bl (j:=1) hI J J J J Gk J fun g1=>Aa (.I (j:Int)) J Aj<|Au (A4 (v:=(.agg (Bs a))) hI J J J J Gk J J J J J)<|Z<|Ak ?_
  refine Y<|O<|Ac 3 [1] [(21,(.agg (Bs a))),(20,(.func (.func 54) [] [])),(19,(.map (ix ids 0) g))] ?_
  refine Bv [(.agg (Bs a))] J J J J ((Wt a) _) (fun v _=>Gs Tryz.func53 hI) fun r _=>Aa (.tup [(.I (Option.getD (Cv m r) 0)),(.bool (Option.isSome (Cv m r)))]) J (Ip (Ry (eK:=(fun x:An=>(AV.str x))) (eV:=(fun x:Int=>(AV.I x))) (zv:=0) (Rs (hI.at J J)) Qj Cf Dl Jl J).2)<|Ac 5 [] [(9,(.bool (Option.isSome (Cv m r))))] ?_
  refine Z<|Y<|O<|Ac 2 [] [(27,(.bool (!(Option.isSome (Cv m r)))))] ?_
  refine Bv [(.bool (!(Option.isSome (Cv m r)))),(.I 91)] J J J J ((K3 (!(Option.isSome (Cv m r))) 91) _) (fun v _=>Gs Tryz.func53 hI) fun _ _=>Z<|O<|Ac 3 [1] [(31,(.agg (Bs a))),(30,(.func (.func 54) [] [])),(29,(.map (ix ids 0) g))] ?_
  refine Bv [(.agg (Bs a))] J J J J ((Wt a) _) (fun v _=>Gs Tryz.func53 hI) fun r2 _=>Aa (.I (j:Int)) J Ae<|Np (j:=0) (eK:=(fun x:An=>(AV.str x))) (eV:=(fun x:Int=>(AV.I x))) (M:=m) (ky:=r2) (w:=(j:Int)) hI J J J J J J Qj Cf Jl<|Z<|Ak ?_
  refine Bf<|O<|Ac 2 [] [(13,(.I (IntKind.wrap .i64 ((j:Int)+1))))] ?_
  refine Z<|Dr [(some (.mp g (mE (fun x:An=>(AV.str x)) (fun x:Int=>(AV.I x)) (G5 m r2 (j:Int))))),none] hI J (.keep (.drop .nil))<|Bp (I7 (hW (G5 m r2 (j:Int)) _ _ ⟨J,J⟩)) (.cons J (.cons J (.cons J (.cons J (.cons (C3 (Av ha) hlim) .nil)))))
 rintro m fr h ⟨rfl,rfl⟩
 refine Y<|O<|Aa (.bool (decide ((l.length:Int)<(l.length:Int)))) J (Ba J J J)<|Z<|Y<|Cg J (Int.lt_irrefl _)<|Cl J ?_
 refine Y<|O<|Ac 2 [] [(4,(.map (ix ids 0) g))] ?_
 refine Z<|U7 (a:=m) (g:=g) Tryz.func53 hI J J J
theorem Us (p:Airport):CP Tryz.prog 56 [(.agg (A5 p))] (P2 p) (fun(x:An)=>(AV.str x)):=by
 refine C8 (n:=5) 1 Tryz.func56 J (by decide) J J fun h0 ids hI=>Bk (Al (P2.eq_1 _) ?_)
 refine Y<|O<|Ck (v:=(.agg (A5 p))) (j:=0) hI J J J J J J J fun g=>Aa (.str []) J Aj<|Z<|Ak ?_
 refine Y<|O<|Ac 3 [0] [(2,(.str p.Name))] ?_
 refine Z<|B8 (a:=p.Name) (vs:=[(.str p.Name)]) Tryz.func56 hI J (.same _)
theorem Va (l:List Airport):CPM Tryz.prog 55 [(.sl 2 (List.map A5 l)),(.func (.func 56) [] [])] (Ho l) (fun x:An=>(AV.str x)) (fun x:Int=>(AV.int .i64 x)):=by
 refine Rh (n:=36) 1 Tryz.func55 J (by decide) J J fun h0 ids hI=>Bk (Al (Ho.eq_1 _) ?_)
 refine Y<|O<|Aa .mnil J Aj<|Z<|Y<|O<|Qe (j:=0) hI J J J J fun g=>?_
 refine Aa (.map (ix ids 0) g) J Aj<|Z<|Ak ?_
 refine Y<|Y<|O<|Aa (.sl 2 (List.map A5 l)) J Ae<|Aa (.I (l.length:Int)) J (Ay (A8 Lg))<|Aa (.I 0) J Ae<|Z ?_
 refine A3<|Db [(1,(.func (.func 56) [] [])),(5,(.map (ix ids 0) g)),(11,(.sl 2 (List.map A5 l))),(12,(.I (l.length:Int))),(13,(.I 0))] (FI J)<|Di (P:=Tryz.prog) l (fun j a=>fun m=>E3 j a m) (((fun m=>.ok m)):(List (An×Int))→R (List (An×Int))) (fun j=>fun m=>fun(fr:Nat→AV) (h:Af)=>fr=A2 [(1,(.func (.func 56) [] [])),(5,(.map (ix ids 0) g)),(11,(.sl 2 (List.map A5 l))),(12,(.I (l.length:Int))),(13,(.I (j:Int)))]∧h=hp h0 ids [(some (.mp g (mE (fun x:An=>(AV.str x)) (fun x:Int=>(AV.I x)) m))),none]) [] ?_ ?_ ?_
 ·exact⟨J,J⟩
 ·rintro j a ha W hW m fr h ⟨rfl,rfl⟩
  refine Al (m':=E3 j a m) J (Al (E3.eq_1 _ _ _) ?_)
  refine Y<|O<|Aa (.bool (decide ((j:Int)<(l.length:Int)))) J (Ba J J J)<|Z<|Y<|Dn (t:=11) (L:=l) J fun hlim=>Ch J (Int.ofNat_lt.2 (Av ha)) ?_
  refine A0<|Y<|A3<|Y<|O<|Aa (.I (j:Int)) J Ae<|Aa (.cp (A5 a) 0) J (Bt (Ct Lg I8 J ha)) ?_
  refine Aa (.agg (A5 a)) J (As (Dh I8 J))<|Bl (j:=1) hI J J J J I8 J fun g1=>Aa (.I (j:Int)) J Aj<|Au (A4 (v:=(.agg (A5 a))) hI J J J J I8 J J J J J)<|Z<|Ak ?_
  refine Y<|O<|Ac 3 [1] [(21,(.agg (A5 a))),(20,(.func (.func 56) [] [])),(19,(.map (ix ids 0) g))] ?_
  refine Bv [(.agg (A5 a))] J J J J ((Us a) _) (fun v _=>Gs Tryz.func55 hI) fun r _=>Aa (.tup [(.I (Option.getD (Cv m r) 0)),(.bool (Option.isSome (Cv m r)))]) J (Ip (Ry (eK:=(fun x:An=>(AV.str x))) (eV:=(fun x:Int=>(AV.I x))) (zv:=0) (Rs (hI.at J J)) Qj Cf Dl Jl J).2)<|Ac 5 [] [(9,(.bool (Option.isSome (Cv m r))))] ?_
  refine Z<|Y<|O<|Ac 2 [] [(27,(.bool (!(Option.isSome (Cv m r)))))] ?_
  refine Bv [(.bool (!(Option.isSome (Cv m r)))),(.I 91)] J J J J ((K3 (!(Option.isSome (Cv m r))) 91) _) (fun v _=>Gs Tryz.func55 hI) fun _ _=>Z<|O<|Ac 3 [1] [(31,(.agg (A5 a))),(30,(.func (.func 56) [] [])),(29,(.map (ix ids 0) g))] ?_
  refine Bv [(.agg (A5 a))] J J J J ((Us a) _) (fun v _=>Gs Tryz.func55 hI) fun r2 _=>Aa (.I (j:Int)) J Ae<|Np (j:=0) (eK:=(fun x:An=>(AV.str x))) (eV:=(fun x:Int=>(AV.I x))) (M:=m) (ky:=r2) (w:=(j:Int)) hI J J J J J J Qj Cf Jl<|Z<|Ak ?_
  refine Bf<|O<|Ac 2 [] [(13,(.I (IntKind.wrap .i64 ((j:Int)+1))))] ?_
  refine Z<|Dr [(some (.mp g (mE (fun x:An=>(AV.str x)) (fun x:Int=>(AV.I x)) (G5 m r2 (j:Int))))),none] hI J (.keep (.drop .nil))<|Bp (I7 (hW (G5 m r2 (j:Int)) _ _ ⟨J,J⟩)) (.cons J (.cons J (.cons J (.cons J (.cons (C3 (Av ha) hlim) .nil)))))
 rintro m fr h ⟨rfl,rfl⟩
 refine Y<|O<|Aa (.bool (decide ((l.length:Int)<(l.length:Int)))) J (Ba J J J)<|Z<|Y<|Cg J (Int.lt_irrefl _)<|Cl J ?_
 refine Y<|O<|Ac 2 [] [(4,(.map (ix ids 0) g))] ?_
 refine Z<|U7 (a:=m) (g:=g) Tryz.func55 hI J J J
theorem Xb (c:Class):CP Tryz.prog 58 [(.agg (Bn c))] (Si c) (fun(x:An)=>(AV.str x)):=by
 refine C8 (n:=5) 1 Tryz.func58 J (by decide) J J fun h0 ids hI=>Bk (Al (Si.eq_1 _) ?_)
 refine Y<|O<|Ck (v:=(.agg (Bn c))) (j:=0) hI J J J J J J J fun g=>Aa (.str []) J Aj<|Z<|Ak ?_
 refine Y<|O<|Ac 3 [0] [(2,(.str c.Name))] ?_
 refine Z<|B8 (a:=c.Name) (vs:=[(.str c.Name)]) Tryz.func58 hI J (.same _)
theorem Yc (l:List Class):CPM Tryz.prog 57 [(.sl 4 (List.map Bn l)),(.func (.func 58) [] [])] (J4 l) (fun x:An=>(AV.str x)) (fun x:Int=>(AV.int .i64 x)):=by
 refine Rh (n:=36) 1 Tryz.func57 J (by decide) J J fun h0 ids hI=>Bk (Al (J4.eq_1 _) ?_)
 refine Y<|O<|Aa .mnil J Aj<|Z<|Y<|O<|Qe (j:=0) hI J J J J fun g=>?_
 refine Aa (.map (ix ids 0) g) J Aj<|Z<|Ak ?_
 refine Y<|Y<|O<|Aa (.sl 4 (List.map Bn l)) J Ae<|Aa (.I (l.length:Int)) J (Ay (A8 Mn))<|Aa (.I 0) J Ae<|Z ?_
 refine A3<|Db [(1,(.func (.func 58) [] [])),(5,(.map (ix ids 0) g)),(11,(.sl 4 (List.map Bn l))),(12,(.I (l.length:Int))),(13,(.I 0))] (FI J)<|Di (P:=Tryz.prog) l (fun j a=>fun m=>Gd j a m) (((fun m=>.ok m)):(List (An×Int))→R (List (An×Int))) (fun j=>fun m=>fun(fr:Nat→AV) (h:Af)=>fr=A2 [(1,(.func (.func 58) [] [])),(5,(.map (ix ids 0) g)),(11,(.sl 4 (List.map Bn l))),(12,(.I (l.length:Int))),(13,(.I (j:Int)))]∧h=hp h0 ids [(some (.mp g (mE (fun x:An=>(AV.str x)) (fun x:Int=>(AV.I x)) m))),none]) [] ?_ ?_ ?_
 ·exact⟨J,J⟩
 ·rintro j a ha W hW m fr h ⟨rfl,rfl⟩
  refine Al (m':=Gd j a m) J (Al (Gd.eq_1 _ _ _) ?_)
  refine Y<|O<|Aa (.bool (decide ((j:Int)<(l.length:Int)))) J (Ba J J J)<|Z<|Y<|Dn (t:=11) (L:=l) J fun hlim=>Ch J (Int.ofNat_lt.2 (Av ha)) ?_
  refine A0<|Y<|A3<|Y<|O<|Aa (.I (j:Int)) J Ae<|Aa (.cp (Bn a) 0) J (Bt (Ct Mn Lc J ha)) ?_
  refine Aa (.agg (Bn a)) J (As (Dh Lc J))<|Bl (j:=1) hI J J J J Lc J fun g1=>Aa (.I (j:Int)) J Aj<|Au (A4 (v:=(.agg (Bn a))) hI J J J J Lc J J J J J)<|Z<|Ak ?_
  refine Y<|O<|Ac 3 [1] [(21,(.agg (Bn a))),(20,(.func (.func 58) [] [])),(19,(.map (ix ids 0) g))] ?_
  refine Bv [(.agg (Bn a))] J J J J ((Xb a) _) (fun v _=>Gs Tryz.func57 hI) fun r _=>Aa (.tup [(.I (Option.getD (Cv m r) 0)),(.bool (Option.isSome (Cv m r)))]) J (Ip (Ry (eK:=(fun x:An=>(AV.str x))) (eV:=(fun x:Int=>(AV.I x))) (zv:=0) (Rs (hI.at J J)) Qj Cf Dl Jl J).2)<|Ac 5 [] [(9,(.bool (Option.isSome (Cv m r))))] ?_
  refine Z<|Y<|O<|Ac 2 [] [(27,(.bool (!(Option.isSome (Cv m r)))))] ?_
  refine Bv [(.bool (!(Option.isSome (Cv m r)))),(.I 91)] J J J J ((K3 (!(Option.isSome (Cv m r))) 91) _) (fun v _=>Gs Tryz.func57 hI) fun _ _=>Z<|O<|Ac 3 [1] [(31,(.agg (Bn a))),(30,(.func (.func 58) [] [])),(29,(.map (ix ids 0) g))] ?_
  refine Bv [(.agg (Bn a))] J J J J ((Xb a) _) (fun v _=>Gs Tryz.func57 hI) fun r2 _=>Aa (.I (j:Int)) J Ae<|Np (j:=0) (eK:=(fun x:An=>(AV.str x))) (eV:=(fun x:Int=>(AV.I x))) (M:=m) (ky:=r2) (w:=(j:Int)) hI J J J J J J Qj Cf Jl<|Z<|Ak ?_
  refine Bf<|O<|Ac 2 [] [(13,(.I (IntKind.wrap .i64 ((j:Int)+1))))] ?_
  refine Z<|Dr [(some (.mp g (mE (fun x:An=>(AV.str x)) (fun x:Int=>(AV.I x)) (G5 m r2 (j:Int))))),none] hI J (.keep (.drop .nil))<|Bp (I7 (hW (G5 m r2 (j:Int)) _ _ ⟨J,J⟩)) (.cons J (.cons J (.cons J (.cons J (.cons (C3 (Av ha) hlim) .nil)))))
 rintro m fr h ⟨rfl,rfl⟩
 refine Y<|O<|Aa (.bool (decide ((l.length:Int)<(l.length:Int)))) J (Ba J J J)<|Z<|Y<|Cg J (Int.lt_irrefl _)<|Cl J ?_
 refine Y<|O<|Ac 2 [] [(4,(.map (ix ids 0) g))] ?_
 refine Z<|U7 (a:=m) (g:=g) Tryz.func57 hI J J J
theorem Wv (m:Mode):CP Tryz.prog 60 [(.agg (Dw m))] (Pj m) (fun(x:An)=>(AV.str x)):=by
 refine C8 (n:=5) 1 Tryz.func60 J (by decide) J J fun h0 ids hI=>Bk (Al (Pj.eq_1 _) ?_)
 refine Y<|O<|Ck (v:=(.agg (Dw m))) (j:=0) hI J J J J J J J fun g=>Aa (.str []) J Aj<|Z<|Ak ?_
 refine Y<|O<|Ac 3 [0] [(2,(.str m.Name))] ?_
 refine Z<|B8 (a:=m.Name) (vs:=[(.str m.Name)]) Tryz.func60 hI J (.same _)
theorem Abg (l:List Mode):CPM Tryz.prog 59 [(.sl 2 (List.map Dw l)),(.func (.func 60) [] [])] (M9 l) (fun x:An=>(AV.str x)) (fun x:Int=>(AV.int .i64 x)):=by
 refine Rh (n:=36) 1 Tryz.func59 J (by decide) J J fun h0 ids hI=>Bk (Al (M9.eq_1 _) ?_)
 refine Y<|O<|Aa .mnil J Aj<|Z<|Y<|O<|Qe (j:=0) hI J J J J fun g=>?_
 refine Aa (.map (ix ids 0) g) J Aj<|Z<|Ak ?_
 refine Y<|Y<|O<|Aa (.sl 2 (List.map Dw l)) J Ae<|Aa (.I (l.length:Int)) J (Ay (A8 Px))<|Aa (.I 0) J Ae<|Z ?_
 refine A3<|Db [(1,(.func (.func 60) [] [])),(5,(.map (ix ids 0) g)),(11,(.sl 2 (List.map Dw l))),(12,(.I (l.length:Int))),(13,(.I 0))] (FI J)<|Di (P:=Tryz.prog) l (fun j a=>fun m=>Im j a m) (((fun m=>.ok m)):(List (An×Int))→R (List (An×Int))) (fun j=>fun m=>fun(fr:Nat→AV) (h:Af)=>fr=A2 [(1,(.func (.func 60) [] [])),(5,(.map (ix ids 0) g)),(11,(.sl 2 (List.map Dw l))),(12,(.I (l.length:Int))),(13,(.I (j:Int)))]∧h=hp h0 ids [(some (.mp g (mE (fun x:An=>(AV.str x)) (fun x:Int=>(AV.I x)) m))),none]) [] ?_ ?_ ?_
 ·exact⟨J,J⟩
 ·rintro j a ha W hW m fr h ⟨rfl,rfl⟩
  refine Al (m':=Im j a m) J (Al (Im.eq_1 _ _ _) ?_)
  refine Y<|O<|Aa (.bool (decide ((j:Int)<(l.length:Int)))) J (Ba J J J)<|Z<|Y<|Dn (t:=11) (L:=l) J fun hlim=>Ch J (Int.ofNat_lt.2 (Av ha)) ?_
  refine A0<|Y<|A3<|Y<|O<|Aa (.I (j:Int)) J Ae<|Aa (.cp (Dw a) 0) J (Bt (Ct Px Q9 J ha)) ?_
  refine Aa (.agg (Dw a)) J (As (Dh Q9 J))<|Bl (j:=1) hI J J J J Q9 J fun g1=>Aa (.I (j:Int)) J Aj<|Au (A4 (v:=(.agg (Dw a))) hI J J J J Q9 J J J J J)<|Z<|Ak ?_
  refine Y<|O<|Ac 3 [1] [(21,(.agg (Dw a))),(20,(.func (.func 60) [] [])),(19,(.map (ix ids 0) g))] ?_
  refine Bv [(.agg (Dw a))] J J J J ((Wv a) _) (fun v _=>Gs Tryz.func59 hI) fun r _=>Aa (.tup [(.I (Option.getD (Cv m r) 0)),(.bool (Option.isSome (Cv m r)))]) J (Ip (Ry (eK:=(fun x:An=>(AV.str x))) (eV:=(fun x:Int=>(AV.I x))) (zv:=0) (Rs (hI.at J J)) Qj Cf Dl Jl J).2)<|Ac 5 [] [(9,(.bool (Option.isSome (Cv m r))))] ?_
  refine Z<|Y<|O<|Ac 2 [] [(27,(.bool (!(Option.isSome (Cv m r)))))] ?_
  refine Bv [(.bool (!(Option.isSome (Cv m r)))),(.I 91)] J J J J ((K3 (!(Option.isSome (Cv m r))) 91) _) (fun v _=>Gs Tryz.func59 hI) fun _ _=>Z<|O<|Ac 3 [1] [(31,(.agg (Dw a))),(30,(.func (.func 60) [] [])),(29,(.map (ix ids 0) g))] ?_
  refine Bv [(.agg (Dw a))] J J J J ((Wv a) _) (fun v _=>Gs Tryz.func59 hI) fun r2 _=>Aa (.I (j:Int)) J Ae<|Np (j:=0) (eK:=(fun x:An=>(AV.str x))) (eV:=(fun x:Int=>(AV.I x))) (M:=m) (ky:=r2) (w:=(j:Int)) hI J J J J J J Qj Cf Jl<|Z<|Ak ?_
  refine Bf<|O<|Ac 2 [] [(13,(.I (IntKind.wrap .i64 ((j:Int)+1))))] ?_
  refine Z<|Dr [(some (.mp g (mE (fun x:An=>(AV.str x)) (fun x:Int=>(AV.I x)) (G5 m r2 (j:Int))))),none] hI J (.keep (.drop .nil))<|Bp (I7 (hW (G5 m r2 (j:Int)) _ _ ⟨J,J⟩)) (.cons J (.cons J (.cons J (.cons J (.cons (C3 (Av ha) hlim) .nil)))))
 rintro m fr h ⟨rfl,rfl⟩
 refine Y<|O<|Aa (.bool (decide ((l.length:Int)<(l.length:Int)))) J (Ba J J J)<|Z<|Y<|Cg J (Int.lt_irrefl _)<|Cl J ?_
 refine Y<|O<|Ac 2 [] [(4,(.map (ix ids 0) g))] ?_
 refine Z<|U7 (a:=m) (g:=g) Tryz.func59 hI J J J
theorem Abe (s:List Sector):CPO Tryz.prog 61 [(.sl 5 (List.map A9 s))] (M8 s) 5 A9:=by
 refine X9 (n:=8) 0 Tryz.func61 J (by decide) J J fun h0 ids hI=>Ss (M8.eq_1 _)<|Y<|O<|Aa .emp J Aj<|Z<|Y ?_
 refine Y<|O<|Aa (.sl 5 (List.map A9 s)) J Ae<|Adh (L:=s) J Fp J fun c hc=>Z ?_
 by_cases hl:s.length * 80≤D0
 case neg=>rw [if_neg hl]; exact Aeq
 rw [if_pos hl]
 refine Gu c J ?_
 cases c with
 | true=>
  have hs:=hc rfl
  subst hs
  refine Y<|O<|Aa .emp J Aj<|Z<|Sj (a:=[]) (v:=.emp) (g:=0) Tryz.func61 hI J J .nil J
 | false=>
  refine A0<|Y<|O<|Afg J Fp Gg<|Aa (.sl 5 (List.map A9 s)) J Ae<|Qf (e:=A9) (L:=[]) (L2:=s) (v:=.emp) (g:=0) (st:=5) (j:=0) hI J J J J .nil J (J3 J) Fp Fp J Gg J J J (by simpa using hl) fun v g H=>Aa v J Aj ?_
  refine Z<|Sj (a:=s) (v:=v) (g:=g) Tryz.func61 hI J J H J
theorem Abl (s:List Config):CPO Tryz.prog 62 [(.sl 3 (List.map Bh s))] (Mw s) 3 Bh:=by
 refine X9 (n:=8) 0 Tryz.func62 J (by decide) J J fun h0 ids hI=>Ss (Mw.eq_1 _)<|Y<|O<|Aa .emp J Aj<|Z<|Y ?_
 refine Y<|O<|Aa (.sl 3 (List.map Bh s)) J Ae<|Adh (L:=s) J F7 J fun c hc=>Z ?_
 by_cases hl:s.length * 64≤D0
 case neg=>rw [if_neg hl]; exact Aeq
 rw [if_pos hl]
 refine Gu c J ?_
 cases c with
 | true=>
  have hs:=hc rfl
  subst hs
  refine Y<|O<|Aa .emp J Aj<|Z<|Sj (a:=[]) (v:=.emp) (g:=0) Tryz.func62 hI J J .nil J
 | false=>
  refine A0<|Y<|O<|Afg J F7 Iq<|Aa (.sl 3 (List.map Bh s)) J Ae<|Qf (e:=Bh) (L:=[]) (L2:=s) (v:=.emp) (g:=0) (st:=3) (j:=0) hI J J J J .nil J (J3 J) F7 F7 J Iq J J J (by simpa using hl) fun v g H=>Aa v J Aj ?_
  refine Z<|Sj (a:=s) (v:=v) (g:=g) Tryz.func62 hI J J H J
theorem Aar (s:List Segment):CPO Tryz.prog 63 [(.sl 5 (List.map Bc s))] (Md s) 5 Bc:=by
 refine X9 (n:=8) 0 Tryz.func63 J (by decide) J J fun h0 ids hI=>Ss (Md.eq_1 _)<|Y<|O<|Aa .emp J Aj<|Z<|Y ?_
 refine Y<|O<|Aa (.sl 5 (List.map Bc s)) J Ae<|Adh (L:=s) J Gl J fun c hc=>Z ?_
 by_cases hl:s.length * 72≤D0
 case neg=>rw [if_neg hl]; exact Aeq
 rw [if_pos hl]
 refine Gu c J ?_
 cases c with
 | true=>
  have hs:=hc rfl
  subst hs
  refine Y<|O<|Aa .emp J Aj<|Z<|Sj (a:=[]) (v:=.emp) (g:=0) Tryz.func63 hI J J .nil J
 | false=>
  refine A0<|Y<|O<|Afg J Gl Hd<|Aa (.sl 5 (List.map Bc s)) J Ae<|Qf (e:=Bc) (L:=[]) (L2:=s) (v:=.emp) (g:=0) (st:=5) (j:=0) hI J J J J .nil J (J3 J) Gl Gl J Hd J J J (by simpa using hl) fun v g H=>Aa v J Aj ?_
  refine Z<|Sj (a:=s) (v:=v) (g:=g) Tryz.func63 hI J J H J
theorem Ach (s:List Route):CPO Tryz.prog 64 [(.sl 7 (List.map Bs s))] (N1 s) 7 Bs:=by
 refine X9 (n:=8) 0 Tryz.func64 J (by decide) J J fun h0 ids hI=>Ss (N1.eq_1 _)<|Y<|O<|Aa .emp J Aj<|Z<|Y ?_
 refine Y<|O<|Aa (.sl 7 (List.map Bs s)) J Ae<|Adh (L:=s) J H4 J fun c hc=>Z ?_
 by_cases hl:s.length * 112≤D0
 case neg=>rw [if_neg hl]; exact Aeq
 rw [if_pos hl]
 refine Gu c J ?_
 cases c with
 | true=>
  have hs:=hc rfl
  subst hs
  refine Y<|O<|Aa .emp J Aj<|Z<|Sj (a:=[]) (v:=.emp) (g:=0) Tryz.func64 hI J J .nil J
 | false=>
  refine A0<|Y<|O<|Afg J H4 Gk<|Aa (.sl 7 (List.map Bs s)) J Ae<|Qf (e:=Bs) (L:=[]) (L2:=s) (v:=.emp) (g:=0) (st:=7) (j:=0) hI J J J J .nil J (J3 J) H4 H4 J Gk J J J (by simpa using hl) fun v g H=>Aa v J Aj ?_
  refine Z<|Sj (a:=s) (v:=v) (g:=g) Tryz.func64 hI J J H J
theorem Acy (s:List Rule):CPO Tryz.prog 65 [(.sl 8 (List.map Bd s))] (Oh s) 8 Bd:=by
 refine X9 (n:=8) 0 Tryz.func65 J (by decide) J J fun h0 ids hI=>Ss (Oh.eq_1 _)<|Y<|O<|Aa .emp J Aj<|Z<|Y ?_
 refine Y<|O<|Aa (.sl 8 (List.map Bd s)) J Ae<|Adh (L:=s) J Ec J fun c hc=>Z ?_
 by_cases hl:s.length * 80≤D0
 case neg=>rw [if_neg hl]; exact Aeq
 rw [if_pos hl]
 refine Gu c J ?_
 cases c with
 | true=>
  have hs:=hc rfl
  subst hs
  refine Y<|O<|Aa .emp J Aj<|Z<|Sj (a:=[]) (v:=.emp) (g:=0) Tryz.func65 hI J J .nil J
 | false=>
  refine A0<|Y<|O<|Afg J Ec Dy<|Aa (.sl 8 (List.map Bd s)) J Ae<|Qf (e:=Bd) (L:=[]) (L2:=s) (v:=.emp) (g:=0) (st:=8) (j:=0) hI J J J J .nil J (J3 J) Ec Ec J Dy J J J (by simpa using hl) fun v g H=>Aa v J Aj ?_
  refine Z<|Sj (a:=s) (v:=v) (g:=g) Tryz.func65 hI J J H J
theorem Kt (n:(List (An×Int)))(name:An)(o g:Nat)(h0:Af)(vHm:h0 o=some (.mp g (mE (fun x:An=>(AV.str x)) (fun x:Int=>(AV.int .i64 x)) n))):Dx n name≠.bad→Bg Tryz.prog 67 [(.map o g),(.str name)] h0 (Zf (fun(x:Int)=>(AV.int .i64 x)) h0 (Dx n name)):=by
 refine Ajw (n:=16) 0 Tryz.func67 J (by decide) J J fun ids hI=>Bk (Al (Dx.eq_1 _ _) ?_)
 refine Y<|O<|Aa (.I 0) J Aj<|Z<|Y<|O<|Ac 2 [] [(9,(.str name)),(8,(.map o g))] ?_
 refine Aa (.tup [(.I (Option.getD (Cv n name) 0)),(.bool (Option.isSome (Cv n name)))]) J (Ip (Ry (eK:=(fun x:An=>(AV.str x))) (eV:=(fun x:Int=>(AV.I x))) (zv:=0) (Rs (hI.for' vHm)) Qj Cf Dl Jl J).2)<|Ac 5 [] [(6,(.bool (Option.isSome (Cv n name)))),(5,(.I (Option.getD (Cv n name) 0)))] ?_
 refine Z<|Y<|O<|Aa (.bool (Option.isSome (Cv n name))) J Ae<|Bv [(.bool (Option.isSome (Cv n name))),(.I 90)] J J J J ((K3 (Option.isSome (Cv n name)) 90) _) (fun v _=>Cy Tryz.func67 hI) fun _ _=>Z<|Y ?_
 refine O<|Ac 2 [] [(4,(.I (Option.getD (Cv n name) 0)))] ?_
 refine Z<|B8 (a:=(Option.getD (Cv n name) 0)) (vs:=[(.I (Option.getD (Cv n name) 0))]) Tryz.func67 hI J (.same _)
theorem Rx (n:(List (An×Int)))(l:List An)(o g:Nat)(h0:Af)(vHm:h0 o=some (.mp g (mE (fun x:An=>(AV.str x)) (fun x:Int=>(AV.int .i64 x)) n))):Ff n l≠.bad→Bg Tryz.prog 66 [(.map o g),(.sl 1 (List.map rS l))] h0 (Zf (fun(x:List Int)=>(AV.sl 1 (List.map (rI .i64) x))) h0 (Ff n l)):=by
 refine Ajw (n:=21) 1 Tryz.func66 J (by decide) J J fun ids hI=>Bk (Al (Ff.eq_1 _ _) ?_)
 refine Y<|O<|Aa .emp J Aj<|Z<|Y<|Y<|O ?_
 refine Aa (.sl 1 (List.map rS l)) J Ae<|Aa (.I (l.length:Int)) J (Ay (A8 Dg))<|Aa (.I 0) J Ae<|Z<|A3<|Db [(0,(.map o g)),(4,.emp),(7,(.sl 1 (List.map rS l))),(8,(.I (l.length:Int))),(9,(.I 0))] (FI J)<|Di (P:=Tryz.prog) l (fun _ a=>fun x1=>L0 n a x1) (((fun x1=>.ok x1)):(List Int)→R (List Int)) (fun j=>fun x1=>fun(fr:Nat→AV) (h:Af) => ∃ (v:AV),∃ (g1:Nat),Az v (ix ids 0) g1 x1.length∧fr=A2 [(0,(.map o g)),(4,v),(7,(.sl 1 (List.map rS l))),(8,(.I (l.length:Int))),(9,(.I (j:Int)))]∧h=hp h0 ids [(Ai v g1 1 (List.map (rI .i64) x1))]) [] ?_ ?_ ?_
 ·exact⟨.emp,0,.nil,J,J⟩
 ·rintro j a ha W hW x1 fr h ⟨v,g1,vH,rfl,rfl⟩
  refine Al (m':=L0 n a x1) J (Al (L0.eq_1 _ _ _) ?_)
  refine Y<|O<|Aa (.bool (decide ((j:Int)<(l.length:Int)))) J (Ba J J J)<|Z<|Y<|Dn (t:=7) (L:=l) J fun hlim=>Ch J (Int.ofNat_lt.2 (Av ha)) ?_
  refine A0<|Y<|A3<|Y<|O<|Aa (.cp [(.str a)] 0) J (Bt (Ct Dg Cf J ha))<|Ac 2 [] [(6,(.str a))] ?_
  refine Z<|O<|Ac 3 [] [(15,(.str a)),(14,(.map o g)),(13,v)] ?_
  refine Bv [(.map o g),(.str a)] J J J J ((Kt n a o g) _ (hI.for' vHm)) (fun v _=>Cy Tryz.func66 hI) fun r _=>Dp (e:=(rI .i64)) (L:=[r]) (st:=1) (rows:=[[(.I r)]]) J O4 Dl J J J J J (.cons (RowSim.refl _) .nil) (fun x=>Agn x) J J<|H1 fun hl=>Qf (e:=(rI .i64)) (L:=x1) (L2:=[r]) (v:=v) (g:=g1) (st:=1) (j:=0) hI J J J J vH J (J3 J) O4 O4 J Dl J J J hl fun v1 g2 vH1=>Aa v1 J Aj<|Z<|Ak ?_
  refine Bf<|O<|Ac 2 [] [(9,(.I (IntKind.wrap .i64 ((j:Int)+1))))] ?_
  refine Z<|Bp (I7 (hW (x1++[r]) _ _ ⟨v1,g2,vH1,J,J⟩)) (.cons J (.cons J (.cons J (.cons J (.cons (C3 (Av ha) hlim) .nil)))))
 rintro x1 fr h ⟨v,g1,vH,rfl,rfl⟩
 refine Y<|O<|Aa (.bool (decide ((l.length:Int)<(l.length:Int)))) J (Ba J J J)<|Z<|Y<|Cg J (Int.lt_irrefl _)<|Cl J ?_
 refine Y<|O<|Ac 2 [] [(4,v)] ?_
 refine Z<|B8 (a:=x1) (vs:=[v]) Tryz.func66 hI J (E1 vH (hI.at J J) (hI.out J) (fun x=>Agn x))
theorem Adm (a0:AV)(a1:AV)(h:Af):Pr Tryz.prog 44 [a0,a1] .ret h (Ab9 (fun _:Unit=>h) .ret (.ok ())):=by
 refine Aa1 (n:=9) Tryz.func44 J (by decide) J J ?_ ⟨(),J⟩
 refine Y<|O<|Aih J<|Aa .nili J Aj<|Z<|Y<|O ?_
 refine Aa .nili J Ae<|Aa (.bool false) J (Ba J J (Aft Ail))<|Z<|Gu false J<|A0<|Z5 Tryz.func44 J J J
theorem Aam (n:Int)(h0:Af)(ids:List Nat)(hI:Ids h0 ids 2)(g0_:Nat)(g1_:Nat)(r0_:List AV)(r1_:List AV)(hr0_:r0_.length=8)(hr1_:r1_.length=1):(∃ a,Gm n=.ok a)→Pr Tryz.prog 44 [(.ptr (ix ids 0) g0_ 0 0),(.ptr (ix ids 1) g1_ 0 0)] (.pan (.iface 34 (.int .i64 n)) false) (hp h0 ids [some (.rows g0_ 8 [r0_]),some (.rows g1_ 1 [r1_])]) (Ab9 (fun p=>hp h0 ids [some (.rows g0_ 8 [[.emp,.emp,.emp,.emp,.emp,.emp,.emp,.emp]]),some (.rows g1_ 1 [[(.int .i64 p)]])]) (.pan (.iface 34 (.int .i64 n)) true) (Gm n)):=by
 refine Aa1 (n:=9) Tryz.func44 J (by decide) J J<|Bk (Al (Gm.eq_1 _) ?_)
 refine Y<|O<|Aiz J<|Aa (.iface 34 (.I n)) J Aj<|Z<|Y<|O ?_
 refine Aa (.iface 34 (.I n)) J Ae<|Aa (.bool true) J (Ba J J (Ad7 Ail))<|Z<|Gu true J<|C6 Fl [[],[],[1],[0,0],[0,1,2,2,3,3]] [(false,0),(false,1),(false,2),(true,3),(true,4)] (by kernel_rfl)<|Ag (.agg [.emp,.emp,.emp,.emp,.emp,.emp,.emp,.emp]) J J (Kj (Qz Df Ag2 J))<|Ag (.iface 34 (.I n)) J J Ae ?_
 refine Ag (.I n) J J (Ahp (Akq Ld (by decide)))<|D4 J (fun _ _=>J) (fun K hK=>Cs (Uz (v:=(.agg [.emp,.emp,.emp,.emp,.emp,.emp,.emp,.emp])) hI J J J Df J J J hr0_ J) (hK _ _ (A6 J (Ahp (Akq Ld (by decide))) (A6 J Ae (Ab J Bm))) ?_))
 clear hK K
 refine D4 J (fun _ _=>J) (fun K hK=>Cs (Uz (v:=(.I n)) hI J J J Ld J J J hr1_ J) (hK _ _ (Ab J (Ab J (Ab J Bm))) ?_))
 clear hK K
 refine Cu<|Ak ?_
 exact Z5 (a:=n) Tryz.func44 J J J
theorem Nf (a:Airspace):CP Tryz.prog 9 [(.agg (Ax a))] (Ic a) (fun(p:(Airspace×Int))=>AV.tup [(.agg (Ax p.1)),(.int .i64 p.2)]):=by
 show CP _ _ _ ((P5 a).catch' (Nt 34 .i64 (fun n=>(Gm n).bind fun p=>.ok (({ Volumes:=[],Sectors:=[],Configs:=[],Segments:=[],Routes:=[],Airports:=[],Classes:=[],Rules:=[] }:Airspace),p)) (fun _=>.bad))) _
 refine Afh (n:=205) 20 Tryz.func9 J (by decide) J J fun h0 ids hI=>?_
 have hU : ∀ (v:PV) (fr:Nat→AV) (xs:List (Option AO)) (g0_:Nat) (r0_:List AV) (g1_:Nat) (r1_:List AV) (hl_:xs.length=20) (hr0_:r0_.length=8) (hr1_:r1_.length=1) (hy_:xs.take 2=[some (.rows g0_ 8 [r0_]),some (.rows g1_ 1 [r1_])]) (hq2_:fr 2=.q ids 0 g0_) (hq3_:fr 3=.q ids 1 g1_),WU Tryz.prog 9 205 false (Rt (fun(p:(Airspace×Int))=>AV.tup [(.agg (Ax p.1)),(.I p.2)]) h0 (Nt 34 .i64 (fun n=>(Gm n).bind fun p=>.ok (({ Volumes:=[],Sectors:=[],Configs:=[],Segments:=[],Routes:=[],Airports:=[],Classes:=[],Rules:=[] }:Airspace),p)) (fun _=>.bad))) (.pan v) (.pan v.av false) fr [⟨44,[.q ids 0 g0_,.q ids 1 g1_]⟩] (hp h0 ids xs) .ret:=by
  intro v fr xs g0_ r0_ g1_ r1_ hl_ hr0_ hr1_ hy_ hq2_ hq3_
  refine Atu (t:=34) (k:=.i64) J (fun n hv=>?_) (fun hne34=>?_)
  ·subst hv
   exact Agw (Hc:=Gm n) (fin:=fun p=>(({ Volumes:=[],Sectors:=[],Configs:=[],Segments:=[],Routes:=[],Airports:=[],Classes:=[],Rules:=[] }:Airspace),p)) (c:=2) (cells:=fun p=>[some (.rows g0_ 8 [[.emp,.emp,.emp,.emp,.emp,.emp,.emp,.emp]]),some (.rows g1_ 1 [[(.I p)]])]) (vs:=fun p=>[(.agg [.emp,.emp,.emp,.emp,.emp,.emp,.emp,.emp]),(.I p)]) Tryz.func9 hI hl_ J hy_ (by first | (rw [Abs]; done) | (rw [Abs]; rfl)) (fun hx=>by have:=Aam n h0 (ids.take 2) (hI.take J) g0_ g1_ r0_ r1_ hr0_ hr1_ hx; simp only [Mi (c:=2) (j:=0) J,Mi (c:=2) (j:=1) J] at this; exact this) (by intro w; simp [Gm]) (fun p=>(Qb hq2_ (U1 (hI.take J) (Mi J) J J J Df J) (Qb hq3_ (U1 (hI.take J) (Mi J) J J J Ld J) Ew))) (fun p=>(.tupL (.cons (.aggL (.cons (.emp _) (.cons (.emp _) (.cons (.emp _) (.cons (.emp _) (.cons (.emp _) (.cons (.emp _) (.cons (.emp _) (.cons (.emp _) .nil))))))))) (.cons (.same _) .nil))))
  exact Ao4 (by rw [Akc hne34])
 refine Bk (Al (P5.eq_1 _) ?_)
 refine Y<|O<|Ck (v:=(.agg (Ax a))) (j:=2) hI J J J J J J J fun g=>Bl (j:=0) hI J J J J Df J fun g1=>Bl (j:=1) hI J J J J Ld J fun g2=>Z<|Ak ?_
 refine Y<|O<|Aa (.func (.func 44) [] [(.q ids 0 g1),(.q ids 1 g2)]) J Sn<|Ag4 J J J ?_
 refine Z<|Y<|O<|Ac 2 [2] [(23,(.sl 2 (List.map Ar a.Volumes)))] ?_
 refine Th (j:=3) [(.sl 2 (List.map Ar a.Volumes)),(.func (.func 46) [] [])] hI J J J J J J ((Wn a.Volumes) _ _ (hI.at J J)) (fun v _=>hU v _ _ _ _ _ _ J J J J J J) fun r _ g3=>Aa (.map (ix ids 3) g3) J Aj<|Z<|Ak ?_
 refine Y<|O<|Ac 2 [2] [(26,(.sl 5 (List.map A9 a.Sectors)))] ?_
 refine Th (j:=4) [(.sl 5 (List.map A9 a.Sectors)),(.func (.func 48) [] [])] hI J J J J J J ((Zy a.Sectors) _ _ (hI.at J J)) (fun v _=>hU v _ _ _ _ _ _ J J J J J J) fun r1 _ g4=>Aa (.map (ix ids 4) g4) J Aj<|Z<|Ak ?_
 refine Y<|O<|Ac 2 [2] [(29,(.sl 3 (List.map Bh a.Configs)))] ?_
 refine Th (j:=5) [(.sl 3 (List.map Bh a.Configs)),(.func (.func 50) [] [])] hI J J J J J J ((Zv a.Configs) _ _ (hI.at J J)) (fun v _=>hU v _ _ _ _ _ _ J J J J J J) fun r2 _ g5=>Z<|Ak ?_
 refine Y<|O<|Ac 2 [2] [(32,(.sl 5 (List.map Bc a.Segments)))] ?_
 refine Th (j:=6) [(.sl 5 (List.map Bc a.Segments)),(.func (.func 52) [] [])] hI J J J J J J ((Ze a.Segments) _ _ (hI.at J J)) (fun v _=>hU v _ _ _ _ _ _ J J J J J J) fun r3 _ g6=>Aa (.map (ix ids 6) g6) J Aj<|Z<|Ak ?_
 refine Y<|O<|Ac 2 [2] [(35,(.sl 7 (List.map Bs a.Routes)))] ?_
 refine Th (j:=7) [(.sl 7 (List.map Bs a.Routes)),(.func (.func 54) [] [])] hI J J J J J J ((Aaz a.Routes) _ _ (hI.at J J)) (fun v _=>hU v _ _ _ _ _ _ J J J J J J) fun r4 _ g7=>Z<|Ak ?_
 refine Y<|O<|Ac 2 [2] [(38,(.sl 2 (List.map A5 a.Airports)))] ?_
 refine Th (j:=8) [(.sl 2 (List.map A5 a.Airports)),(.func (.func 56) [] [])] hI J J J J J J ((Va a.Airports) _ _ (hI.at J J)) (fun v _=>hU v _ _ _ _ _ _ J J J J J J) fun r5 _ g8=>Aa (.map (ix ids 8) g8) J Aj<|Z<|Ak ?_
 refine Y<|O<|Ac 2 [2] [(41,(.sl 4 (List.map Bn a.Classes)))] ?_
 refine Th (j:=9) [(.sl 4 (List.map Bn a.Classes)),(.func (.func 58) [] [])] hI J J J J J J ((Yc a.Classes) _ _ (hI.at J J)) (fun v _=>hU v _ _ _ _ _ _ J J J J J J) fun r6 _ g9=>Aa (.map (ix ids 9) g9) J Aj<|Z<|Ak ?_
 refine Y<|Y<|O<|Ac 2 [2] [(44,(.sl 2 (List.map A5 a.Airports)))] ?_
 refine Aa (.I (a.Airports.length:Int)) J (Ay (A8 Lg))<|Aa (.I 0) J Ae<|Z<|A3<|Dr [(some (.rows g1 8 [[.emp,.emp,.emp,.emp,.emp,.emp,.emp,.emp]])),(some (.rows g2 1 [[(.I 0)]])),(some (.rows g 8 [(Ax a)])),(some (.mp g3 (mE (fun x:An=>(AV.str x)) (fun x:Int=>(AV.I x)) r))),(some (.mp g4 (mE (fun x:An=>(AV.str x)) (fun x:Int=>(AV.I x)) r1))),none,(some (.mp g6 (mE (fun x:An=>(AV.str x)) (fun x:Int=>(AV.I x)) r3))),none,(some (.mp g8 (mE (fun x:An=>(AV.str x)) (fun x:Int=>(AV.I x)) r5))),(some (.mp g9 (mE (fun x:An=>(AV.str x)) (fun x:Int=>(AV.I x)) r6))),none,none,none,none,none,none,none,none,none,none] hI J (.keep (.keep (.keep (.keep (.keep (.drop (.keep (.drop (.keep (.keep (.keep (.keep (.keep (.keep (.keep (.keep (.keep (.keep (.keep (.keep .nil))))))))))))))))))))<|Db [(1,(.q ids 2 g)),(2,(.q ids 0 g1)),(3,(.q ids 1 g2)),(4,(.map (ix ids 3) g3)),(5,(.map (ix ids 4) g4)),(6,(.map (ix ids 6) g6)),(7,(.map (ix ids 8) g8)),(8,(.map (ix ids 9) g9)),(44,(.sl 2 (List.map A5 a.Airports))),(45,(.I (a.Airports.length:Int))),(46,(.I 0))] (FI J)<|Di (P:=Tryz.prog) a.Airports (fun _ a1=>fun _=>Le a1) (((fun _=>(M8 a.Sectors).bind fun r8=>(Mw a.Configs).bind fun r9=>(Md a.Segments).bind fun r10=>(N1 a.Routes).bind fun r11=>(Oh a.Rules).bind fun r12=>(B0 (fun j1 _=>fun x2=>Lf r j1 x2) 0 r8 r8).bind ((fun x2=>(B0 (fun j2 _=>fun x4=>Jm r1 j2 x4) 0 r9 r9).bind ((fun x4=>(B0 (fun j3 _=>fun x6=>H5 r j3 x6) 0 r10 r10).bind ((fun x6=>(B0 (fun j4 _=>fun l=>Gp r3 r5 j4 l) 0 r11 r11).bind ((fun l=>(B0 (fun j5 _=>fun l1=>Fv r5 r6 j5 l1) 0 r12 r12).bind ((fun l1=>.ok (({ Volumes:=a.Volumes,Sectors:=x2,Configs:=x4,Segments:=x6,Routes:=l,Airports:=a.Airports,Classes:=a.Classes,Rules:=l1 }:Airspace),0))))))))))))):Unit→R (Airspace×Int)) (fun j=>fun _=>fun(fr:Nat→AV) (h:Af)=>fr=A2 [(1,(.q ids 2 g)),(2,(.q ids 0 g1)),(3,(.q ids 1 g2)),(4,(.map (ix ids 3) g3)),(5,(.map (ix ids 4) g4)),(6,(.map (ix ids 6) g6)),(7,(.map (ix ids 8) g8)),(8,(.map (ix ids 9) g9)),(44,(.sl 2 (List.map A5 a.Airports))),(45,(.I (a.Airports.length:Int))),(46,(.I (j:Int)))]∧h=hp h0 ids [(some (.rows g1 8 [[.emp,.emp,.emp,.emp,.emp,.emp,.emp,.emp]])),(some (.rows g2 1 [[(.I 0)]])),(some (.rows g 8 [(Ax a)])),(some (.mp g3 (mE (fun x:An=>(AV.str x)) (fun x:Int=>(AV.I x)) r))),(some (.mp g4 (mE (fun x:An=>(AV.str x)) (fun x:Int=>(AV.I x)) r1))),none,(some (.mp g6 (mE (fun x:An=>(AV.str x)) (fun x:Int=>(AV.I x)) r3))),none,(some (.mp g8 (mE (fun x:An=>(AV.str x)) (fun x:Int=>(AV.I x)) r5))),(some (.mp g9 (mE (fun x:An=>(AV.str x)) (fun x:Int=>(AV.I x)) r6))),none,none,none,none,none,none,none,none,none,none]) () ?_ ?_ ?_
 ·exact⟨J,J⟩
 ·rintro j a1 ha1 W hW _ fr h ⟨rfl,rfl⟩
  refine Al (m':=Le a1) J (Al (Le.eq_1 _) ?_)
  refine Y<|O<|Aa (.bool (decide ((j:Int)<(a.Airports.length:Int)))) J (Ba J J J)<|Z<|Y<|Dn (t:=44) (L:=a.Airports) J fun hlim=>Ch J (Int.ofNat_lt.2 (Av ha1)) ?_
  refine A0<|Y<|A3<|Y<|O<|Aa (.cp (A5 a1) 0) J (Bt (Ct Lg I8 J ha1))<|Aa (.agg (A5 a1)) J (As (Dh I8 J)) ?_
  refine Bl (j:=10) hI J J J J I8 J fun g10=>Au (A4 (v:=(.agg (A5 a1))) hI J J J J I8 J J J J J)<|Z<|Ak ?_
  refine O<|Ac 2 [10] [(51,(.sl 2 (List.map Dw a1.Modes)))] ?_
  refine Th (j:=11) [(.sl 2 (List.map Dw a1.Modes)),(.func (.func 60) [] [])] hI J J J J J J ((Abg a1.Modes) _ _ (hI.at J J)) (fun v _=>hU v _ _ _ _ _ _ J J J J J J) fun r7 _ g11=>Z<|Ak ?_
  refine Bf<|O<|Ac 2 [] [(46,(.I (IntKind.wrap .i64 ((j:Int)+1))))] ?_
  refine Z<|Dr [(some (.rows g1 8 [[.emp,.emp,.emp,.emp,.emp,.emp,.emp,.emp]])),(some (.rows g2 1 [[(.I 0)]])),(some (.rows g 8 [(Ax a)])),(some (.mp g3 (mE (fun x:An=>(AV.str x)) (fun x:Int=>(AV.I x)) r))),(some (.mp g4 (mE (fun x:An=>(AV.str x)) (fun x:Int=>(AV.I x)) r1))),none,(some (.mp g6 (mE (fun x:An=>(AV.str x)) (fun x:Int=>(AV.I x)) r3))),none,(some (.mp g8 (mE (fun x:An=>(AV.str x)) (fun x:Int=>(AV.I x)) r5))),(some (.mp g9 (mE (fun x:An=>(AV.str x)) (fun x:Int=>(AV.I x)) r6))),none,none,none,none,none,none,none,none,none,none] hI J (.keep (.keep (.keep (.keep (.keep (.keep (.keep (.keep (.keep (.keep (.drop (.drop (.keep (.keep (.keep (.keep (.keep (.keep (.keep (.keep .nil))))))))))))))))))))<|Bp (I7 (hW () _ _ ⟨J,J⟩)) (.cons J (.cons J (.cons J (.cons J (.cons J (.cons J (.cons J (.cons J (.cons J (.cons J (.cons (C3 (Av ha1) hlim) .nil)))))))))))
 rintro _ fr h ⟨rfl,rfl⟩
 refine Y<|O<|Aa (.bool (decide ((a.Airports.length:Int)<(a.Airports.length:Int)))) J (Ba J J J)<|Z<|Y<|Cg J (Int.lt_irrefl _)<|Cl J ?_
 refine Y<|O<|Ac 1 [2] [(54,(.agg (Ax a)))] ?_
 refine Au (A4 (v:=(.agg (Ax a))) hI J J J J Df J J J J J)<|Z<|Ak ?_
 refine Y<|C6 Fl [[],[0],[0,1],[],[3],[0,1,2,3,4],[],[6],[0,1,2,3,4,5,6,7],[0,1,2],[0,1,2,3,4,5,6,7,8,9],[0,1,2,3,4,5,6,7,8,9,10],[0,1,2,3,4,5,6,7,8,9,10,11],[0,1,2,3,4,5,6,7,8,9,10,11,12],[0,1,2,3,4,5,6,7,8,8,9,10,11,12,12,13]] [(false,0),(false,1),(false,3),(false,4),(false,6),(false,7),(true,2),(false,9),(true,5),(true,8),(true,10),(false,11),(true,12),(false,13),(true,14)] (by kernel_rfl)<|Ag (.ptr (ix ids 2) g 0 1) J J (Bw (Bq (c:=0) (off:=1) (i:=1) Df J Fp J))<|Ag (.sl 5 (List.map A9 a.Sectors)) J J (As (A7 hI J J J Fp J))<|Ag (.ptr (ix ids 2) g 0 2) J J (Bw (Bq (c:=0) (off:=2) (i:=2) Df J F7 J))<|Ag (.sl 3 (List.map Bh a.Configs)) J J (As (A7 hI J J J F7 J))<|Ag (.ptr (ix ids 2) g 0 3) J J (Bw (Bq (c:=0) (off:=3) (i:=3) Df J Gl J)) ?_
 refine Ag (.sl 5 (List.map Bc a.Segments)) J J (As (A7 hI J J J Gl J))<|Aap (j:=13) [(.sl 5 (List.map A9 a.Sectors))] J hI J J J J J J ((Abe a.Sectors) _ _ (hI.at J J)) (fun v _ fr hf=>hU v fr _ _ _ _ _ J J J J ((hf 2 J).trans J) ((hf 3 J).trans J)) fun r8 _ v g12 vH=>⟨(A6 J (As (A7 hI J J J Gl J)) (A6 J (Bw (Bq (c:=0) (off:=3) (i:=3) Df J Gl J)) (A6 J (As (A7 hI J J J F7 J)) (A6 J (Bw (Bq (c:=0) (off:=2) (i:=2) Df J F7 J)) (Ab J (Ab J Bm)))))),?_⟩
 refine Ag (.ptr (ix ids 0) g1 0 1) J J (Bw (Bq (c:=0) (off:=1) (i:=1) Df J Fp J))<|Aap (j:=15) [(.sl 3 (List.map Bh a.Configs))] J hI J J J J J J ((Abl a.Configs) _ _ (hI.at J J)) (fun v _ fr hf=>hU v fr _ _ _ _ _ J J J J ((hf 2 J).trans J) ((hf 3 J).trans J)) fun r9 _ v1 g13 vH1=>⟨(A6 J (Bw (Bq (c:=0) (off:=1) (i:=1) Df J Fp J)) (A6 J (As (A7 hI J J J Gl J)) (A6 J (Bw (Bq (c:=0) (off:=3) (i:=3) Df J Gl J)) (Ab J (Ab J (Ab J (Ab J Bm))))))),?_⟩
 refine Aap (j:=17) [(.sl 5 (List.map Bc a.Segments))] J hI J J J J J J ((Aar a.Segments) _ _ (hI.at J J)) (fun v _ fr hf=>hU v fr _ _ _ _ _ J J J J ((hf 2 J).trans J) ((hf 3 J).trans J)) fun r10 _ v2 g14 vH2=>⟨(A6 J (Bw (Bq (c:=0) (off:=1) (i:=1) Df J Fp J)) (Ab J (Ab J (Ab J (Ab J (Ab J (Ab J Bm))))))),?_⟩
 refine D4 J (fun _ _=>J) (fun K hK=>Cs (Jr vH hI J J J J Fp J J J) (hK _ _ (Ab J (Ab J (Ab J (Ab J (Ab J (Ab J (Ab J Bm))))))) ?_))
 clear hK K
 refine Ag (.ptr (ix ids 0) g1 0 2) J J (Bw (Bq (c:=0) (off:=2) (i:=2) Df J F7 J))<|D4 J (fun _ _=>J) (fun K hK=>Cs (Jr vH1 hI J J J J F7 J J J) (hK _ _ (Ab J (Ab J (Ab J (Ab J (Ab J (Ab J (Ab J (Ab J Bm)))))))) ?_))
 clear hK K
 refine Ag (.ptr (ix ids 0) g1 0 3) J J (Bw (Bq (c:=0) (off:=3) (i:=3) Df J Gl J))<|D4 J (fun _ _=>J) (fun K hK=>Cs (Jr vH2 hI J J J J Gl J J J) (hK _ _ (Ab J (Ab J (Ab J (Ab J (Ab J (Ab J (Ab J (Ab J (Ab J Bm))))))))) ?_))
 clear hK K
 refine Cu<|Ak ?_
 refine Y<|C6 Fl [[],[0],[0,1],[],[3],[0,1,2,3,4],[0,1,2],[0,1,2,3,4,5,6],[0,1,2,3,4,5,6,7],[0,1,2,3,4,5,5,6,7,7,8]] [(false,0),(false,1),(false,3),(false,4),(true,2),(false,6),(true,5),(true,7),(false,8),(true,9)] (by kernel_rfl)<|Ag (.ptr (ix ids 2) g 0 4) J J (Bw (Bq (c:=0) (off:=4) (i:=4) Df J H4 J))<|Ag (.sl 7 (List.map Bs a.Routes)) J J (As (A7 hI J J J H4 J))<|Ag (.ptr (ix ids 2) g 0 7) J J (Bw (Bq (c:=0) (off:=7) (i:=7) Df J Ec J))<|Ag (.sl 8 (List.map Bd a.Rules)) J J (As (A7 hI J J J Ec J))<|Aap (j:=18) [(.sl 7 (List.map Bs a.Routes))] J hI J J J J J J ((Ach a.Routes) _ _ (hI.at J J)) (fun v _ fr hf=>hU v fr _ _ _ _ _ J J J J ((hf 2 J).trans J) ((hf 3 J).trans J)) fun r11 _ v3 g15 vH3=>⟨(A6 J (As (A7 hI J J J Ec J)) (A6 J (Bw (Bq (c:=0) (off:=7) (i:=7) Df J Ec J)) (Ab J (Ab J Bm)))),?_⟩
 refine Ag (.ptr (ix ids 0) g1 0 4) J J (Bw (Bq (c:=0) (off:=4) (i:=4) Df J H4 J))<|Aap (j:=19) [(.sl 8 (List.map Bd a.Rules))] J hI J J J J J J ((Acy a.Rules) _ _ (hI.at J J)) (fun v _ fr hf=>hU v fr _ _ _ _ _ J J J J ((hf 2 J).trans J) ((hf 3 J).trans J)) fun r12 _ v4 g16 vH4=>⟨(A6 J (Bw (Bq (c:=0) (off:=4) (i:=4) Df J H4 J)) (Ab J (Ab J (Ab J (Ab J Bm))))),?_⟩
 refine D4 J (fun _ _=>J) (fun K hK=>Cs (Jr vH3 hI J J J J H4 J J J) (hK _ _ (Ab J (Ab J (Ab J (Ab J (Ab J Bm))))) ?_))
 clear hK K
 refine Ag (.ptr (ix ids 0) g1 0 7) J J (Bw (Bq (c:=0) (off:=7) (i:=7) Df J Ec J))<|D4 J (fun _ _=>J) (fun K hK=>Cs (Jr vH4 hI J J J J Ec J J J) (hK _ _ (Ab J (Ab J (Ab J (Ab J (Ab J (Ab J Bm)))))) ?_))
 clear hK K
 refine Cu<|Ak ?_
 refine Y<|Y<|O<|Ac 2 [0] [(76,v)] ?_
 refine Aa (.I (r8.length:Int)) J (Ay (Az.len vH Fp))<|Aa (.I 0) J Ae<|Z<|A3<|Ac6 (t:=57) J vH fun hlim1=>Dr [(some (.rows g1 8 [[(.sl 2 (List.map Ar a.Volumes)),v,v1,v2,v3,(.sl 2 (List.map A5 a.Airports)),(.sl 4 (List.map Bn a.Classes)),v4]])),(some (.rows g2 1 [[(.I 0)]])),none,(some (.mp g3 (mE (fun x:An=>(AV.str x)) (fun x:Int=>(AV.I x)) r))),(some (.mp g4 (mE (fun x:An=>(AV.str x)) (fun x:Int=>(AV.I x)) r1))),none,(some (.mp g6 (mE (fun x:An=>(AV.str x)) (fun x:Int=>(AV.I x)) r3))),none,(some (.mp g8 (mE (fun x:An=>(AV.str x)) (fun x:Int=>(AV.I x)) r5))),(some (.mp g9 (mE (fun x:An=>(AV.str x)) (fun x:Int=>(AV.I x)) r6))),none,none,none,(Ai v g12 5 (List.map A9 r8)),none,(Ai v1 g13 3 (List.map Bh r9)),none,(Ai v2 g14 5 (List.map Bc r10)),(Ai v3 g15 7 (List.map Bs r11)),(Ai v4 g16 8 (List.map Bd r12))] hI J (.keep (.keep (.drop (.keep (.keep (.keep (.keep (.keep (.keep (.keep (.keep (.keep (.keep (.keep (.keep (.keep (.keep (.keep (.keep (.keep .nil))))))))))))))))))))<|Db [(2,(.q ids 0 g1)),(3,(.q ids 1 g2)),(4,(.map (ix ids 3) g3)),(5,(.map (ix ids 4) g4)),(6,(.map (ix ids 6) g6)),(7,(.map (ix ids 8) g8)),(8,(.map (ix ids 9) g9)),(76,v),(77,(.I (r8.length:Int))),(78,(.I 0))] (FI J) ?_
 refine Di (P:=Tryz.prog) r8 (fun j1 _=>fun x2=>Lf r j1 x2) (((fun x2=>(B0 (fun j2 _=>fun x4=>Jm r1 j2 x4) 0 r9 r9).bind ((fun x4=>(B0 (fun j3 _=>fun x6=>H5 r j3 x6) 0 r10 r10).bind ((fun x6=>(B0 (fun j4 _=>fun l=>Gp r3 r5 j4 l) 0 r11 r11).bind ((fun l=>(B0 (fun j5 _=>fun l1=>Fv r5 r6 j5 l1) 0 r12 r12).bind ((fun l1=>.ok (({ Volumes:=a.Volumes,Sectors:=x2,Configs:=x4,Segments:=x6,Routes:=l,Airports:=a.Airports,Classes:=a.Classes,Rules:=l1 }:Airspace),0))))))))))):(List Sector)→R (Airspace×Int)) (fun j1=>fun x2=>fun(fr:Nat→AV) (h:Af) => ∃ (v5:AV),∃ (g17:Nat),Az v5 (ix ids 13) g17 x2.length∧fr=A2 [(2,(.q ids 0 g1)),(3,(.q ids 1 g2)),(4,(.map (ix ids 3) g3)),(5,(.map (ix ids 4) g4)),(6,(.map (ix ids 6) g6)),(7,(.map (ix ids 8) g8)),(8,(.map (ix ids 9) g9)),(76,v5),(77,(.I (r8.length:Int))),(78,(.I (j1:Int)))]∧h=hp h0 ids [(some (.rows g1 8 [[(.sl 2 (List.map Ar a.Volumes)),v5,v1,v2,v3,(.sl 2 (List.map A5 a.Airports)),(.sl 4 (List.map Bn a.Classes)),v4]])),(some (.rows g2 1 [[(.I 0)]])),none,(some (.mp g3 (mE (fun x:An=>(AV.str x)) (fun x:Int=>(AV.I x)) r))),(some (.mp g4 (mE (fun x:An=>(AV.str x)) (fun x:Int=>(AV.I x)) r1))),none,(some (.mp g6 (mE (fun x:An=>(AV.str x)) (fun x:Int=>(AV.I x)) r3))),none,(some (.mp g8 (mE (fun x:An=>(AV.str x)) (fun x:Int=>(AV.I x)) r5))),(some (.mp g9 (mE (fun x:An=>(AV.str x)) (fun x:Int=>(AV.I x)) r6))),none,none,none,(Ai v5 g17 5 (List.map A9 x2)),none,(Ai v1 g13 3 (List.map Bh r9)),none,(Ai v2 g14 5 (List.map Bc r10)),(Ai v3 g15 7 (List.map Bs r11)),(Ai v4 g16 8 (List.map Bd r12))]) r8 ?_ ?_ ?_
 ·exact⟨v,g12,vH,J,J⟩
 ·rintro j1 a2 ha2 W hW1 x2 fr h ⟨v5,g17,vH5,rfl,rfl⟩
  refine Al (m':=Lf r j1 x2) J (Al (Lf.eq_1 _ _ _) ?_)
  refine Y<|O<|Aa (.bool (decide ((j1:Int)<(r8.length:Int)))) J (Ba J J J)<|Z<|Y<|Ch J (Int.ofNat_lt.2 (Av ha2))<|A0 ?_
  refine Y<|A3<|Y<|O<|Aa (.I (j1:Int)) J Ae<|Ed fun a3 hz hx1=>Aa (.ptr (ix ids 13) g17 (j1:Int).toNat 0) J (Bt (Sk hI J vH5 J Fp Gg J hz hx1)) ?_
  refine Aa (.agg (A9 a3)) J (As (R7 hI J vH5 J hx1 Gg J))<|Bl (j:=12) hI J J J J Gg J fun g18=>Aa (.I (j1:Int)) J Aj<|Au (A4 (v:=(.agg (A9 a3))) hI J J J J Gg J J J J J)<|Z<|Ak ?_
  refine C6 Fl [[],[0],[],[],[],[4],[3,4,5],[0,1,1,2,2,3,4,5,6],[0,1,2,3,4,5,6,7],[0,1,2,3,4,5,6,7,8]] [(false,0),(false,1),(false,2),(false,3),(false,4),(false,5),(true,6),(false,7),(false,8),(true,9)] (by kernel_rfl)<|Ag (.ptr (ix ids 0) g1 0 1) J J (Bw (Bq (c:=0) (off:=1) (i:=1) Df J Fp J))<|Ag v5 J J (As (A7 hI J J J Fp J))<|Ag (.I (j1:Int)) J J Ae<|Ag (.map (ix ids 3) g3) J J Ae<|Ag (.ptr (ix ids 12) g18 0 1) J J (Bw (Bq (c:=0) (off:=1) (i:=1) Gg J Dg J))<|Ag (.sl 1 (List.map rS a3.Names)) J J (As (A7 hI J J J Dg J)) ?_
  refine Pc [(.map (ix ids 3) g3),(.sl 1 (List.map rS a3.Names))] J J J J J ((Rx r a3.Names (ix ids 3) g3) _ (hI.at J J)) (fun v _ fr hf=>hU v fr _ _ _ _ _ J J J J ((hf 2 J).trans J) ((hf 3 J).trans J)) (Ab J (Ab J (Ab J (A6 J Ae (A6 J (As (A7 hI J J J Fp J)) (A6 J (Bw (Bq (c:=0) (off:=1) (i:=1) Df J Fp J)) Bm)))))) fun r13 _=>Ag (.ptr (ix ids 13) g17 (j1:Int).toNat 0) J J (Bt (Sk hI J vH5 J Fp Gg J hz hx1))<|Ag (.ptr (ix ids 13) g17 (j1:Int).toNat 2) J J (Bw (Bq (c:=0) (off:=2) (i:=2) Gg J O4 J))<|D4 J (fun _ _=>J) (fun K hK=>Cs (S7 (y:={ a3 with Volumes:=r13 }) hI J J vH5 J hx1 O4 J J J J J J) (hK _ _ (Ab J (Ab J (Ab J (Ab J (Ab J (Ab J (Ab J (Ab J Bm)))))))) ?_))
  clear hK K
  have vH6:=Az.set (i:=(j1:Int).toNat) (y:={ a3 with Volumes:=r13 }) vH5
  have hx2:=List.getElem?_set_self (a:={ a3 with Volumes:=r13 }) (Av hx1)
  refine Cu<|Ak ?_
  refine Bf<|O<|Ac 2 [] [(78,(.I (IntKind.wrap .i64 ((j1:Int)+1))))] ?_
  refine Z<|Dr [(some (.rows g1 8 [[(.sl 2 (List.map Ar a.Volumes)),v5,v1,v2,v3,(.sl 2 (List.map A5 a.Airports)),(.sl 4 (List.map Bn a.Classes)),v4]])),(some (.rows g2 1 [[(.I 0)]])),none,(some (.mp g3 (mE (fun x:An=>(AV.str x)) (fun x:Int=>(AV.I x)) r))),(some (.mp g4 (mE (fun x:An=>(AV.str x)) (fun x:Int=>(AV.I x)) r1))),none,(some (.mp g6 (mE (fun x:An=>(AV.str x)) (fun x:Int=>(AV.I x)) r3))),none,(some (.mp g8 (mE (fun x:An=>(AV.str x)) (fun x:Int=>(AV.I x)) r5))),(some (.mp g9 (mE (fun x:An=>(AV.str x)) (fun x:Int=>(AV.I x)) r6))),none,none,none,(Ai v5 g17 5 (List.map A9 (x2.set (j1:Int).toNat { a3 with Volumes:=r13 }))),none,(Ai v1 g13 3 (List.map Bh r9)),none,(Ai v2 g14 5 (List.map Bc r10)),(Ai v3 g15 7 (List.map Bs r11)),(Ai v4 g16 8 (List.map Bd r12))] hI J (.keep (.keep (.keep (.keep (.keep (.keep (.keep (.keep (.keep (.keep (.keep (.keep (.drop (.keep (.keep (.keep (.keep (.keep (.keep (.keep .nil))))))))))))))))))))<|Bp (I7 (hW1 (x2.set (j1:Int).toNat { a3 with Volumes:=r13 }) _ _ ⟨v5,g17,vH6,J,J⟩)) (.cons J (.cons J (.cons J (.cons J (.cons J (.cons J (.cons J (.cons J (.cons J (.cons (C3 (Av ha2) hlim1) .nil))))))))))
 rintro x2 fr h ⟨v5,g17,vH5,rfl,rfl⟩
 refine Y<|O<|Aa (.bool (decide ((r8.length:Int)<(r8.length:Int)))) J (Ba J J J)<|Z<|Y<|Cg J (Int.lt_irrefl _)<|Cl J ?_
 refine Y<|Y<|O<|Ac 2 [0] [(94,v1)] ?_
 refine Aa (.I (r9.length:Int)) J (Ay (Az.len vH1 F7))<|Aa (.I 0) J Ae<|Z<|A3<|Ac6 (t:=94) J vH1 fun hlim2=>Db [(2,(.q ids 0 g1)),(3,(.q ids 1 g2)),(4,(.map (ix ids 3) g3)),(5,(.map (ix ids 4) g4)),(6,(.map (ix ids 6) g6)),(7,(.map (ix ids 8) g8)),(8,(.map (ix ids 9) g9)),(94,v1),(95,(.I (r9.length:Int))),(96,(.I 0))] (FI J)<|Di (P:=Tryz.prog) r9 (fun j2 _=>fun x4=>Jm r1 j2 x4) (((fun x4=>(B0 (fun j3 _=>fun x6=>H5 r j3 x6) 0 r10 r10).bind ((fun x6=>(B0 (fun j4 _=>fun l=>Gp r3 r5 j4 l) 0 r11 r11).bind ((fun l=>(B0 (fun j5 _=>fun l1=>Fv r5 r6 j5 l1) 0 r12 r12).bind ((fun l1=>.ok (({ Volumes:=a.Volumes,Sectors:=x2,Configs:=x4,Segments:=x6,Routes:=l,Airports:=a.Airports,Classes:=a.Classes,Rules:=l1 }:Airspace),0))))))))):(List Config)→R (Airspace×Int)) (fun j2=>fun x4=>fun(fr:Nat→AV) (h:Af) => ∃ (v6:AV),∃ (g19:Nat),Az v6 (ix ids 15) g19 x4.length∧fr=A2 [(2,(.q ids 0 g1)),(3,(.q ids 1 g2)),(4,(.map (ix ids 3) g3)),(5,(.map (ix ids 4) g4)),(6,(.map (ix ids 6) g6)),(7,(.map (ix ids 8) g8)),(8,(.map (ix ids 9) g9)),(94,v6),(95,(.I (r9.length:Int))),(96,(.I (j2:Int)))]∧h=hp h0 ids [(some (.rows g1 8 [[(.sl 2 (List.map Ar a.Volumes)),v5,v6,v2,v3,(.sl 2 (List.map A5 a.Airports)),(.sl 4 (List.map Bn a.Classes)),v4]])),(some (.rows g2 1 [[(.I 0)]])),none,(some (.mp g3 (mE (fun x:An=>(AV.str x)) (fun x:Int=>(AV.I x)) r))),(some (.mp g4 (mE (fun x:An=>(AV.str x)) (fun x:Int=>(AV.I x)) r1))),none,(some (.mp g6 (mE (fun x:An=>(AV.str x)) (fun x:Int=>(AV.I x)) r3))),none,(some (.mp g8 (mE (fun x:An=>(AV.str x)) (fun x:Int=>(AV.I x)) r5))),(some (.mp g9 (mE (fun x:An=>(AV.str x)) (fun x:Int=>(AV.I x)) r6))),none,none,none,(Ai v5 g17 5 (List.map A9 x2)),none,(Ai v6 g19 3 (List.map Bh x4)),none,(Ai v2 g14 5 (List.map Bc r10)),(Ai v3 g15 7 (List.map Bs r11)),(Ai v4 g16 8 (List.map Bd r12))]) r9 ?_ ?_ ?_
 ·exact⟨v1,g13,vH1,J,J⟩
 ·rintro j2 a4 ha4 W hW2 x4 fr h ⟨v6,g19,vH7,rfl,rfl⟩
  refine Al (m':=Jm r1 j2 x4) J (Al (Jm.eq_1 _ _ _) ?_)
  refine Y<|O<|Aa (.bool (decide ((j2:Int)<(r9.length:Int)))) J (Ba J J J)<|Z<|Y<|Ch J (Int.ofNat_lt.2 (Av ha4))<|A0 ?_
  refine Y<|A3<|Y<|O<|Aa (.I (j2:Int)) J Ae<|Ed fun a5 hz1 hx3=>Aa (.ptr (ix ids 15) g19 (j2:Int).toNat 0) J (Bt (Sk hI J vH7 J F7 Iq J hz1 hx3)) ?_
  refine Aa (.agg (Bh a5)) J (As (R7 hI J vH7 J hx3 Iq J))<|Bl (j:=14) hI J J J J Iq J fun g20=>Aa (.I (j2:Int)) J Aj<|Au (A4 (v:=(.agg (Bh a5))) hI J J J J Iq J J J J J)<|Z<|Ak ?_
  refine C6 Fl [[],[0],[],[],[],[4],[3,4,5],[0,1,1,2,2,3,4,5,6],[0,1,2,3,4,5,6,7],[0,1,2,3,4,5,6,7,8]] [(false,0),(false,1),(false,2),(false,3),(false,4),(false,5),(true,6),(false,7),(false,8),(true,9)] (by kernel_rfl)<|Ag (.ptr (ix ids 0) g1 0 2) J J (Bw (Bq (c:=0) (off:=2) (i:=2) Df J F7 J))<|Ag v6 J J (As (A7 hI J J J F7 J))<|Ag (.I (j2:Int)) J J Ae<|Ag (.map (ix ids 4) g4) J J Ae<|Ag (.ptr (ix ids 14) g20 0 1) J J (Bw (Bq (c:=0) (off:=1) (i:=1) Iq J Dg J))<|Ag (.sl 1 (List.map rS a5.Names)) J J (As (A7 hI J J J Dg J)) ?_
  refine Pc [(.map (ix ids 4) g4),(.sl 1 (List.map rS a5.Names))] J J J J J ((Rx r1 a5.Names (ix ids 4) g4) _ (hI.at J J)) (fun v _ fr hf=>hU v fr _ _ _ _ _ J J J J ((hf 2 J).trans J) ((hf 3 J).trans J)) (Ab J (Ab J (Ab J (A6 J Ae (A6 J (As (A7 hI J J J F7 J)) (A6 J (Bw (Bq (c:=0) (off:=2) (i:=2) Df J F7 J)) Bm)))))) fun r14 _=>Ag (.ptr (ix ids 15) g19 (j2:Int).toNat 0) J J (Bt (Sk hI J vH7 J F7 Iq J hz1 hx3))<|Ag (.ptr (ix ids 15) g19 (j2:Int).toNat 2) J J (Bw (Bq (c:=0) (off:=2) (i:=2) Iq J O4 J))<|D4 J (fun _ _=>J) (fun K hK=>Cs (S7 (y:={ a5 with Sectors:=r14 }) hI J J vH7 J hx3 O4 J J J J J J) (hK _ _ (Ab J (Ab J (Ab J (Ab J (Ab J (Ab J (Ab J (Ab J Bm)))))))) ?_))
  clear hK K
  have vH8:=Az.set (i:=(j2:Int).toNat) (y:={ a5 with Sectors:=r14 }) vH7
  have hx4:=List.getElem?_set_self (a:={ a5 with Sectors:=r14 }) (Av hx3)
  refine Cu<|Ak ?_
  refine Bf<|O<|Ac 2 [] [(96,(.I (IntKind.wrap .i64 ((j2:Int)+1))))] ?_
  refine Z<|Dr [(some (.rows g1 8 [[(.sl 2 (List.map Ar a.Volumes)),v5,v6,v2,v3,(.sl 2 (List.map A5 a.Airports)),(.sl 4 (List.map Bn a.Classes)),v4]])),(some (.rows g2 1 [[(.I 0)]])),none,(some (.mp g3 (mE (fun x:An=>(AV.str x)) (fun x:Int=>(AV.I x)) r))),(some (.mp g4 (mE (fun x:An=>(AV.str x)) (fun x:Int=>(AV.I x)) r1))),none,(some (.mp g6 (mE (fun x:An=>(AV.str x)) (fun x:Int=>(AV.I x)) r3))),none,(some (.mp g8 (mE (fun x:An=>(AV.str x)) (fun x:Int=>(AV.I x)) r5))),(some (.mp g9 (mE (fun x:An=>(AV.str x)) (fun x:Int=>(AV.I x)) r6))),none,none,none,(Ai v5 g17 5 (List.map A9 x2)),none,(Ai v6 g19 3 (List.map Bh (x4.set (j2:Int).toNat { a5 with Sectors:=r14 }))),none,(Ai v2 g14 5 (List.map Bc r10)),(Ai v3 g15 7 (List.map Bs r11)),(Ai v4 g16 8 (List.map Bd r12))] hI J (.keep (.keep (.keep (.keep (.keep (.keep (.keep (.keep (.keep (.keep (.keep (.keep (.keep (.keep (.drop (.keep (.keep (.keep (.keep (.keep .nil))))))))))))))))))))<|Bp (I7 (hW2 (x4.set (j2:Int).toNat { a5 with Sectors:=r14 }) _ _ ⟨v6,g19,vH8,J,J⟩)) (.cons J (.cons J (.cons J (.cons J (.cons J (.cons J (.cons J (.cons J (.cons J (.cons (C3 (Av ha4) hlim2) .nil))))))))))
 rintro x4 fr h ⟨v6,g19,vH7,rfl,rfl⟩
 refine Y<|O<|Aa (.bool (decide ((r9.length:Int)<(r9.length:Int)))) J (Ba J J J)<|Z<|Y<|Cg J (Int.lt_irrefl _)<|Cl J ?_
 refine Y<|Y<|O<|Ac 2 [0] [(112,v2)] ?_
 refine Aa (.I (r10.length:Int)) J (Ay (Az.len vH2 Gl))<|Aa (.I 0) J Ae<|Z<|A3<|Ac6 (t:=112) J vH2 fun hlim3=>Dr [(some (.rows g1 8 [[(.sl 2 (List.map Ar a.Volumes)),v5,v6,v2,v3,(.sl 2 (List.map A5 a.Airports)),(.sl 4 (List.map Bn a.Classes)),v4]])),(some (.rows g2 1 [[(.I 0)]])),none,(some (.mp g3 (mE (fun x:An=>(AV.str x)) (fun x:Int=>(AV.I x)) r))),none,none,(some (.mp g6 (mE (fun x:An=>(AV.str x)) (fun x:Int=>(AV.I x)) r3))),none,(some (.mp g8 (mE (fun x:An=>(AV.str x)) (fun x:Int=>(AV.I x)) r5))),(some (.mp g9 (mE (fun x:An=>(AV.str x)) (fun x:Int=>(AV.I x)) r6))),none,none,none,(Ai v5 g17 5 (List.map A9 x2)),none,(Ai v6 g19 3 (List.map Bh x4)),none,(Ai v2 g14 5 (List.map Bc r10)),(Ai v3 g15 7 (List.map Bs r11)),(Ai v4 g16 8 (List.map Bd r12))] hI J (.keep (.keep (.keep (.keep (.drop (.keep (.keep (.keep (.keep (.keep (.keep (.keep (.keep (.keep (.keep (.keep (.keep (.keep (.keep (.keep .nil))))))))))))))))))))<|Db [(2,(.q ids 0 g1)),(3,(.q ids 1 g2)),(4,(.map (ix ids 3) g3)),(6,(.map (ix ids 6) g6)),(7,(.map (ix ids 8) g8)),(8,(.map (ix ids 9) g9)),(112,v2),(113,(.I (r10.length:Int))),(114,(.I 0))] (FI J) ?_
 refine Di (P:=Tryz.prog) r10 (fun j3 _=>fun x6=>H5 r j3 x6) (((fun x6=>(B0 (fun j4 _=>fun l=>Gp r3 r5 j4 l) 0 r11 r11).bind ((fun l=>(B0 (fun j5 _=>fun l1=>Fv r5 r6 j5 l1) 0 r12 r12).bind ((fun l1=>.ok (({ Volumes:=a.Volumes,Sectors:=x2,Configs:=x4,Segments:=x6,Routes:=l,Airports:=a.Airports,Classes:=a.Classes,Rules:=l1 }:Airspace),0))))))):(List Segment)→R (Airspace×Int)) (fun j3=>fun x6=>fun(fr:Nat→AV) (h:Af) => ∃ (v7:AV),∃ (g21:Nat),Az v7 (ix ids 17) g21 x6.length∧fr=A2 [(2,(.q ids 0 g1)),(3,(.q ids 1 g2)),(4,(.map (ix ids 3) g3)),(6,(.map (ix ids 6) g6)),(7,(.map (ix ids 8) g8)),(8,(.map (ix ids 9) g9)),(112,v7),(113,(.I (r10.length:Int))),(114,(.I (j3:Int)))]∧h=hp h0 ids [(some (.rows g1 8 [[(.sl 2 (List.map Ar a.Volumes)),v5,v6,v7,v3,(.sl 2 (List.map A5 a.Airports)),(.sl 4 (List.map Bn a.Classes)),v4]])),(some (.rows g2 1 [[(.I 0)]])),none,(some (.mp g3 (mE (fun x:An=>(AV.str x)) (fun x:Int=>(AV.I x)) r))),none,none,(some (.mp g6 (mE (fun x:An=>(AV.str x)) (fun x:Int=>(AV.I x)) r3))),none,(some (.mp g8 (mE (fun x:An=>(AV.str x)) (fun x:Int=>(AV.I x)) r5))),(some (.mp g9 (mE (fun x:An=>(AV.str x)) (fun x:Int=>(AV.I x)) r6))),none,none,none,(Ai v5 g17 5 (List.map A9 x2)),none,(Ai v6 g19 3 (List.map Bh x4)),none,(Ai v7 g21 5 (List.map Bc x6)),(Ai v3 g15 7 (List.map Bs r11)),(Ai v4 g16 8 (List.map Bd r12))]) r10 ?_ ?_ ?_
 ·exact⟨v2,g14,vH2,J,J⟩
 ·rintro j3 a6 ha6 W hW3 x6 fr h ⟨v7,g21,vH9,rfl,rfl⟩
  refine Al (m':=H5 r j3 x6) J (Al (H5.eq_1 _ _ _) ?_)
  refine Y<|O<|Aa (.bool (decide ((j3:Int)<(r10.length:Int)))) J (Ba J J J)<|Z<|Y<|Ch J (Int.ofNat_lt.2 (Av ha6))<|A0 ?_
  refine Y<|A3<|Y<|O<|Aa (.I (j3:Int)) J Ae<|Ed fun a7 hz2 hx5=>Aa (.ptr (ix ids 17) g21 (j3:Int).toNat 0) J (Bt (Sk hI J vH9 J Gl Hd J hz2 hx5)) ?_
  refine Aa (.agg (Bc a7)) J (As (R7 hI J vH9 J hx5 Hd J))<|Bl (j:=16) hI J J J J Hd J fun g22=>Aa (.I (j3:Int)) J Aj<|Au (A4 (v:=(.agg (Bc a7))) hI J J J J Hd J J J J J)<|Z<|Ak ?_
  refine C6 Fl [[],[0],[],[],[],[4],[3,4,5],[0,1,1,2,2,3,4,5,6],[0,1,2,3,4,5,6,7],[0,1,2,3,4,5,6,7,8]] [(false,0),(false,1),(false,2),(false,3),(false,4),(false,5),(true,6),(false,7),(false,8),(true,9)] (by kernel_rfl)<|Ag (.ptr (ix ids 0) g1 0 3) J J (Bw (Bq (c:=0) (off:=3) (i:=3) Df J Gl J))<|Ag v7 J J (As (A7 hI J J J Gl J))<|Ag (.I (j3:Int)) J J Ae<|Ag (.map (ix ids 3) g3) J J Ae<|Ag (.ptr (ix ids 16) g22 0 1) J J (Bw (Bq (c:=0) (off:=1) (i:=1) Hd J Cf J))<|Ag (.str a7.In) J J (As (A7 hI J J J Cf J)) ?_
  refine Pc [(.map (ix ids 3) g3),(.str a7.In)] J J J J J ((Kt r a7.In (ix ids 3) g3) _ (hI.at J J)) (fun v _ fr hf=>hU v fr _ _ _ _ _ J J J J ((hf 2 J).trans J) ((hf 3 J).trans J)) (Ab J (Ab J (Ab J (A6 J Ae (A6 J (As (A7 hI J J J Gl J)) (A6 J (Bw (Bq (c:=0) (off:=3) (i:=3) Df J Gl J)) Bm)))))) fun r15 _=>Ag (.ptr (ix ids 17) g21 (j3:Int).toNat 0) J J (Bt (Sk hI J vH9 J Gl Hd J hz2 hx5))<|Ag (.ptr (ix ids 17) g21 (j3:Int).toNat 2) J J (Bw (Bq (c:=0) (off:=2) (i:=2) Hd J Dl J))<|D4 J (fun _ _=>J) (fun K hK=>Cs (S7 (y:={ a7 with Volume:=r15 }) hI J J vH9 J hx5 Dl J J J J J J) (hK _ _ (Ab J (Ab J (Ab J (Ab J (Ab J (Ab J (Ab J (Ab J Bm)))))))) ?_))
  clear hK K
  have vH10:=Az.set (i:=(j3:Int).toNat) (y:={ a7 with Volume:=r15 }) vH9
  have hx6:=List.getElem?_set_self (a:={ a7 with Volume:=r15 }) (Av hx5)
  refine Cu<|Ak ?_
  refine Bf<|O<|Ac 2 [] [(114,(.I (IntKind.wrap .i64 ((j3:Int)+1))))] ?_
  refine Z<|Dr [(some (.rows g1 8 [[(.sl 2 (List.map Ar a.Volumes)),v5,v6,v7,v3,(.sl 2 (List.map A5 a.Airports)),(.sl 4 (List.map Bn a.Classes)),v4]])),(some (.rows g2 1 [[(.I 0)]])),none,(some (.mp g3 (mE (fun x:An=>(AV.str x)) (fun x:Int=>(AV.I x)) r))),none,none,(some (.mp g6 (mE (fun x:An=>(AV.str x)) (fun x:Int=>(AV.I x)) r3))),none,(some (.mp g8 (mE (fun x:An=>(AV.str x)) (fun x:Int=>(AV.I x)) r5))),(some (.mp g9 (mE (fun x:An=>(AV.str x)) (fun x:Int=>(AV.I x)) r6))),none,none,none,(Ai v5 g17 5 (List.map A9 x2)),none,(Ai v6 g19 3 (List.map Bh x4)),none,(Ai v7 g21 5 (List.map Bc (x6.set (j3:Int).toNat { a7 with Volume:=r15 }))),(Ai v3 g15 7 (List.map Bs r11)),(Ai v4 g16 8 (List.map Bd r12))] hI J (.keep (.keep (.keep (.keep (.keep (.keep (.keep (.keep (.keep (.keep (.keep (.keep (.keep (.keep (.keep (.keep (.drop (.keep (.keep (.keep .nil))))))))))))))))))))<|Bp (I7 (hW3 (x6.set (j3:Int).toNat { a7 with Volume:=r15 }) _ _ ⟨v7,g21,vH10,J,J⟩)) (.cons J (.cons J (.cons J (.cons J (.cons J (.cons J (.cons J (.cons J (.cons (C3 (Av ha6) hlim3) .nil)))))))))
 rintro x6 fr h ⟨v7,g21,vH9,rfl,rfl⟩
 refine Y<|O<|Aa (.bool (decide ((r10.length:Int)<(r10.length:Int)))) J (Ba J J J)<|Z<|Y<|Cg J (Int.lt_irrefl _)<|Cl J ?_
 refine Y<|Y<|O<|Ac 2 [0] [(130,v3)] ?_
 refine Aa (.I (r11.length:Int)) J (Ay (Az.len vH3 H4))<|Aa (.I 0) J Ae<|Z<|A3<|Ac6 (t:=130) J vH3 fun hlim4=>Dr [(some (.rows g1 8 [[(.sl 2 (List.map Ar a.Volumes)),v5,v6,v7,v3,(.sl 2 (List.map A5 a.Airports)),(.sl 4 (List.map Bn a.Classes)),v4]])),(some (.rows g2 1 [[(.I 0)]])),none,none,none,none,(some (.mp g6 (mE (fun x:An=>(AV.str x)) (fun x:Int=>(AV.I x)) r3))),none,(some (.mp g8 (mE (fun x:An=>(AV.str x)) (fun x:Int=>(AV.I x)) r5))),(some (.mp g9 (mE (fun x:An=>(AV.str x)) (fun x:Int=>(AV.I x)) r6))),none,none,none,(Ai v5 g17 5 (List.map A9 x2)),none,(Ai v6 g19 3 (List.map Bh x4)),none,(Ai v7 g21 5 (List.map Bc x6)),(Ai v3 g15 7 (List.map Bs r11)),(Ai v4 g16 8 (List.map Bd r12))] hI J (.keep (.keep (.keep (.drop (.keep (.keep (.keep (.keep (.keep (.keep (.keep (.keep (.keep (.keep (.keep (.keep (.keep (.keep (.keep (.keep .nil))))))))))))))))))))<|Db [(2,(.q ids 0 g1)),(3,(.q ids 1 g2)),(6,(.map (ix ids 6) g6)),(7,(.map (ix ids 8) g8)),(8,(.map (ix ids 9) g9)),(131,(.I (r11.length:Int))),(132,(.I 0))] (FI J) ?_
 refine Di (P:=Tryz.prog) r11 (fun j4 _=>fun l=>Gp r3 r5 j4 l) (((fun l=>(B0 (fun j5 _=>fun l1=>Fv r5 r6 j5 l1) 0 r12 r12).bind ((fun l1=>.ok (({ Volumes:=a.Volumes,Sectors:=x2,Configs:=x4,Segments:=x6,Routes:=l,Airports:=a.Airports,Classes:=a.Classes,Rules:=l1 }:Airspace),0))))):(List Route)→R (Airspace×Int)) (fun j4=>fun l=>fun(fr:Nat→AV) (h:Af) => ∃ (v8:AV),∃ (g23:Nat),Az v8 (ix ids 18) g23 l.length∧fr=A2 [(2,(.q ids 0 g1)),(3,(.q ids 1 g2)),(6,(.map (ix ids 6) g6)),(7,(.map (ix ids 8) g8)),(8,(.map (ix ids 9) g9)),(131,(.I (r11.length:Int))),(132,(.I (j4:Int)))]∧h=hp h0 ids [(some (.rows g1 8 [[(.sl 2 (List.map Ar a.Volumes)),v5,v6,v7,v8,(.sl 2 (List.map A5 a.Airports)),(.sl 4 (List.map Bn a.Classes)),v4]])),(some (.rows g2 1 [[(.I 0)]])),none,none,none,none,(some (.mp g6 (mE (fun x:An=>(AV.str x)) (fun x:Int=>(AV.I x)) r3))),none,(some (.mp g8 (mE (fun x:An=>(AV.str x)) (fun x:Int=>(AV.I x)) r5))),(some (.mp g9 (mE (fun x:An=>(AV.str x)) (fun x:Int=>(AV.I x)) r6))),none,none,none,(Ai v5 g17 5 (List.map A9 x2)),none,(Ai v6 g19 3 (List.map Bh x4)),none,(Ai v7 g21 5 (List.map Bc x6)),(Ai v8 g23 7 (List.map Bs l)),(Ai v4 g16 8 (List.map Bd r12))]) r11 ?_ ?_ ?_
 ·exact⟨v3,g15,vH3,J,J⟩
 ·rintro j4 a8 ha8 W hW4 l fr h ⟨v8,g23,vH11,rfl,rfl⟩
  refine Al (m':=Gp r3 r5 j4 l) J (Al (Gp.eq_1 _ _ _ _) ?_)
  refine Y<|O<|Aa (.bool (decide ((j4:Int)<(r11.length:Int)))) J (Ba J J J)<|Z<|Y<|Ch J (Int.ofNat_lt.2 (Av ha8))<|A0 ?_
  refine Y<|A3<|Y<|O<|Ac 2 [] [(17,(.I (j4:Int)))] ?_
  refine Z<|Y<|O<|Ac 3 [0] [(137,(.I (j4:Int))),(136,v8)] ?_
  refine Ed fun a9 hz3 hx7=>Aa (.ptr (ix ids 18) g23 (j4:Int).toNat 0) J (Bt (Sk hI J vH11 J H4 Gk J hz3 hx7))<|Aa (.ptr (ix ids 18) g23 (j4:Int).toNat 0) J Aj<|Z<|C6 Fl [[],[],[],[],[],[4],[4,5],[4,5,6],[3,4,5,6,7],[],[],[10],[10,11],[10,11,12],[3,4,5,6,7,8,9,10,11,12,13],[],[],[16],[16,17],[16,17,18],[3,4,5,6,7,8,9,10,11,12,13,14,15,16,17,18,19],[0,3,4,5,6,7,8,9,10,11,12,13,14,15,16,17,18,19,20],[0,3,4,5,6,7,8,9,10,11,12,13,14,15,16,17,18,19,20,21],[0,3,4,5,6,7,8,9,10,11,12,13,14,15,16,17,18,19,20,21,22],[0,1,3,4,5,6,7,8,9,10,11,12,13,14,15,16,17,18,19,20,21,22,23],[0,1,3,4,5,6,7,8,9,10,11,12,13,14,15,16,17,18,19,20,21,22,23,24],[0,1,3,4,5,6,7,8,9,10,11,12,13,14,15,16,17,18,19,20,21,22,23,24,25],[0,1,2,2,3,4,5,6,7,8,9,10,11,12,13,14,15,16,17,18,19,20,21,22,23,24,25,26],[0,1,2,3,4,5,6,7,8,9,10,11,12,13,14,15,16,17,18,19,20,21,22,23,24,25,26,27],[0,1,2,3,4,5,6,7,8,9,10,11,12,13,14,15,16,17,18,19,20,21,22,23,24,25,26,27,28]] [(false,0),(false,1),(false,2),(false,3),(false,4),(false,5),(false,6),(false,7),(false,9),(false,10),(false,11),(false,12),(false,13),(false,15),(false,16),(false,17),(false,18),(false,19),(true,8),(true,14),(true,20),(false,21),(false,22),(true,23),(false,24),(false,25),(true,26),(false,27),(false,28),(true,29)] (by kernel_rfl)<|Ag (.ptr (ix ids 18) g23 (j4:Int).toNat 0) J J Ae<|Ag (.ptr (ix ids 18) g23 (j4:Int).toNat 0) J J Ae ?_
  refine Ag (.ptr (ix ids 18) g23 (j4:Int).toNat 0) J J Ae<|Ag (.map (ix ids 8) g8) J J Ae<|Ag (.ptr (ix ids 18) g23 (j4:Int).toNat 0) J J Ae<|Ag (.ptr (ix ids 18) g23 (j4:Int).toNat 0) J J (Be J)<|Ag (.ptr (ix ids 18) g23 (j4:Int).toNat 1) J J (Bw (Bq (c:=0) (off:=1) (i:=1) Gk J Cf J))<|Ag (.str a9.A) J J (As (R7 hI J vH11 J hx7 Cf J))<|Ag (.map (ix ids 8) g8) J J Ae ?_
  refine Ag (.ptr (ix ids 18) g23 (j4:Int).toNat 0) J J Ae<|Ag (.ptr (ix ids 18) g23 (j4:Int).toNat 0) J J (Be J)<|Ag (.ptr (ix ids 18) g23 (j4:Int).toNat 2) J J (Bw (Bq (c:=0) (off:=2) (i:=2) Gk J Cf J))<|Ag (.str a9.B) J J (As (R7 hI J vH11 J hx7 Cf J))<|Ag (.map (ix ids 6) g6) J J Ae<|Ag (.ptr (ix ids 18) g23 (j4:Int).toNat 0) J J Ae<|Ag (.ptr (ix ids 18) g23 (j4:Int).toNat 0) J J (Be J) ?_
  refine Ag (.ptr (ix ids 18) g23 (j4:Int).toNat 5) J J (Bw (Bq (c:=0) (off:=5) (i:=5) Gk J Dg J))<|Ag (.sl 1 (List.map rS a9.Names)) J J (As (R7 hI J vH11 J hx7 Dg J))<|Pc [(.map (ix ids 8) g8),(.str a9.A)] J J J J J ((Kt r5 a9.A (ix ids 8) g8) _ (hI.at J J)) (fun v _ fr hf=>hU v fr _ _ _ _ _ J J J J ((hf 2 J).trans J) ((hf 3 J).trans J)) (A6 J (As (R7 hI J vH11 J hx7 Dg J)) (A6 J (Bw (Bq (c:=0) (off:=5) (i:=5) Gk J Dg J)) (A6 J (Be J) (A6 J Ae (A6 J Ae (A6 J (As (R7 hI J vH11 J hx7 Cf J)) (A6 J (Bw (Bq (c:=0) (off:=2) (i:=2) Gk J Cf J)) (A6 J (Be J) (A6 J Ae (A6 J Ae (Ab J (Ab J (Ab J (Ab J (Ab J (A6 J Ae (A6 J Ae (A6 J Ae Bm)))))))))))))))))) fun r16 _=>Pc [(.map (ix ids 8) g8),(.str a9.B)] J J J J J ((Kt r5 a9.B (ix ids 8) g8) _ (hI.at J J)) (fun v _ fr hf=>hU v fr _ _ _ _ _ J J J J ((hf 2 J).trans J) ((hf 3 J).trans J)) (A6 J (As (R7 hI J vH11 J hx7 Dg J)) (A6 J (Bw (Bq (c:=0) (off:=5) (i:=5) Gk J Dg J)) (A6 J (Be J) (A6 J Ae (A6 J Ae (Ab J (Ab J (Ab J (Ab J (Ab J (Ab J (Ab J (Ab J (Ab J (Ab J (A6 J Ae (A6 J Ae (A6 J Ae Bm)))))))))))))))))) fun r17 _=>Pc [(.map (ix ids 6) g6),(.sl 1 (List.map rS a9.Names))] J J J J J ((Rx r3 a9.Names (ix ids 6) g6) _ (hI.at J J)) (fun v _ fr hf=>hU v fr _ _ _ _ _ J J J J ((hf 2 J).trans J) ((hf 3 J).trans J)) (Ab J (Ab J (Ab J (Ab J (Ab J (Ab J (Ab J (Ab J (Ab J (Ab J (Ab J (Ab J (Ab J (Ab J (Ab J (A6 J Ae (A6 J Ae (A6 J Ae Bm)))))))))))))))))) fun r18 _=>Ag (.ptr (ix ids 18) g23 (j4:Int).toNat 0) J J (Be J)<|Ag (.ptr (ix ids 18) g23 (j4:Int).toNat 3) J J (Bw (Bq (c:=0) (off:=3) (i:=3) Gk J Dl J)) ?_
  refine D4 J (fun _ _=>J) (fun K hK=>Cs (S7 (y:={ a9 with From:=r16 }) hI J J vH11 J hx7 Dl J J J J J J) (hK _ _ (Ab J (Ab J (Ab J (Ab J (Ab J (Ab J (Ab J (Ab J (Ab J (Ab J (Ab J (Ab J (Ab J (Ab J (Ab J (Ab J (Ab J (A6 J Ae (A6 J Ae (Ab J Bm)))))))))))))))))))) ?_))
  clear hK K
  have vH12:=Az.set (i:=(j4:Int).toNat) (y:={ a9 with From:=r16 }) vH11
  have hx8:=List.getElem?_set_self (a:={ a9 with From:=r16 }) (Av hx7)
  refine Ag (.ptr (ix ids 18) g23 (j4:Int).toNat 0) J J (Be J)<|Ag (.ptr (ix ids 18) g23 (j4:Int).toNat 4) J J (Bw (Bq (c:=0) (off:=4) (i:=4) Gk J Dl J))<|D4 J (fun _ _=>J) (fun K hK=>Cs (S7 (y:={ { a9 with From:=r16 } with To:=r17 }) hI J J vH12 J hx8 Dl J J J J J J) (hK _ _ (Ab J (Ab J (Ab J (Ab J (Ab J (Ab J (Ab J (Ab J (Ab J (Ab J (Ab J (Ab J (Ab J (Ab J (Ab J (Ab J (Ab J (Ab J (Ab J (A6 J Ae (Ab J (Ab J Bm)))))))))))))))))))))) ?_))
  clear hK K
  have vH13:=Az.set (i:=(j4:Int).toNat) (y:={ { a9 with From:=r16 } with To:=r17 }) vH12
  have hx9:=List.getElem?_set_self (a:={ { a9 with From:=r16 } with To:=r17 }) (Av hx8)
  refine Ag (.ptr (ix ids 18) g23 (j4:Int).toNat 0) J J (Be J)<|Ag (.ptr (ix ids 18) g23 (j4:Int).toNat 6) J J (Bw (Bq (c:=0) (off:=6) (i:=6) Gk J O4 J))<|D4 J (fun _ _=>J) (fun K hK=>Cs (S7 (y:={ { { a9 with From:=r16 } with To:=r17 } with Segments:=r18 }) hI J J vH13 J hx9 O4 J J J J J J) (hK _ _ (Ab J (Ab J (Ab J (Ab J (Ab J (Ab J (Ab J (Ab J (Ab J (Ab J (Ab J (Ab J (Ab J (Ab J (Ab J (Ab J (Ab J (Ab J (Ab J (Ab J (Ab J (Ab J (Ab J (Ab J Bm)))))))))))))))))))))))) ?_))
  clear hK K
  have vH14:=Az.set (i:=(j4:Int).toNat) (y:={ { { a9 with From:=r16 } with To:=r17 } with Segments:=r18 }) vH13
  have hx10:=List.getElem?_set_self (a:={ { { a9 with From:=r16 } with To:=r17 } with Segments:=r18 }) (Av hx9)
  refine Cu<|Ak ?_
  refine Bf<|O<|Ac 2 [] [(132,(.I (IntKind.wrap .i64 ((j4:Int)+1))))] ?_
  refine Z<|Db [(2,(.q ids 0 g1)),(3,(.q ids 1 g2)),(6,(.map (ix ids 6) g6)),(7,(.map (ix ids 8) g8)),(8,(.map (ix ids 9) g9)),(131,(.I (r11.length:Int))),(132,(.I ((j4+1:Nat):Int)))] (.cons J (.cons J (.cons J (.cons J (.cons J (.cons J (.cons (C3 (Av ha8) hlim4) .nil))))))) (I7 (hW4 (((l.set (j4:Int).toNat { a9 with From:=r16 }).set (j4:Int).toNat { { a9 with From:=r16 } with To:=r17 }).set (j4:Int).toNat { { { a9 with From:=r16 } with To:=r17 } with Segments:=r18 }) _ _ ⟨v8,g23,vH14,J,J⟩))
 rintro l fr h ⟨v8,g23,vH11,rfl,rfl⟩
 refine Y<|O<|Aa (.bool (decide ((r11.length:Int)<(r11.length:Int)))) J (Ba J J J)<|Z<|Y<|Cg J (Int.lt_irrefl _)<|Cl J ?_
 refine Y<|Y<|O<|Ac 2 [0] [(168,v4)] ?_
 refine Aa (.I (r12.length:Int)) J (Ay (Az.len vH4 Ec))<|Aa (.I 0) J Ae<|Z<|A3<|Ac6 (t:=168) J vH4 fun hlim5=>Dr [(some (.rows g1 8 [[(.sl 2 (List.map Ar a.Volumes)),v5,v6,v7,v8,(.sl 2 (List.map A5 a.Airports)),(.sl 4 (List.map Bn a.Classes)),v4]])),(some (.rows g2 1 [[(.I 0)]])),none,none,none,none,none,none,(some (.mp g8 (mE (fun x:An=>(AV.str x)) (fun x:Int=>(AV.I x)) r5))),(some (.mp g9 (mE (fun x:An=>(AV.str x)) (fun x:Int=>(AV.I x)) r6))),none,none,none,(Ai v5 g17 5 (List.map A9 x2)),none,(Ai v6 g19 3 (List.map Bh x4)),none,(Ai v7 g21 5 (List.map Bc x6)),(Ai v8 g23 7 (List.map Bs l)),(Ai v4 g16 8 (List.map Bd r12))] hI J (.keep (.keep (.keep (.keep (.keep (.keep (.drop (.keep (.keep (.keep (.keep (.keep (.keep (.keep (.keep (.keep (.keep (.keep (.keep (.keep .nil))))))))))))))))))))<|Db [(2,(.q ids 0 g1)),(3,(.q ids 1 g2)),(7,(.map (ix ids 8) g8)),(8,(.map (ix ids 9) g9)),(169,(.I (r12.length:Int))),(170,(.I 0))] (FI J) ?_
 refine Di (P:=Tryz.prog) r12 (fun j5 _=>fun l1=>Fv r5 r6 j5 l1) (((fun l1=>.ok (({ Volumes:=a.Volumes,Sectors:=x2,Configs:=x4,Segments:=x6,Routes:=l,Airports:=a.Airports,Classes:=a.Classes,Rules:=l1 }:Airspace),0))):(List Rule)→R (Airspace×Int)) (fun j5=>fun l1=>fun(fr:Nat→AV) (h:Af) => ∃ (v9:AV),∃ (g24:Nat),Az v9 (ix ids 19) g24 l1.length∧fr=A2 [(2,(.q ids 0 g1)),(3,(.q ids 1 g2)),(7,(.map (ix ids 8) g8)),(8,(.map (ix ids 9) g9)),(169,(.I (r12.length:Int))),(170,(.I (j5:Int)))]∧h=hp h0 ids [(some (.rows g1 8 [[(.sl 2 (List.map Ar a.Volumes)),v5,v6,v7,v8,(.sl 2 (List.map A5 a.Airports)),(.sl 4 (List.map Bn a.Classes)),v9]])),(some (.rows g2 1 [[(.I 0)]])),none,none,none,none,none,none,(some (.mp g8 (mE (fun x:An=>(AV.str x)) (fun x:Int=>(AV.I x)) r5))),(some (.mp g9 (mE (fun x:An=>(AV.str x)) (fun x:Int=>(AV.I x)) r6))),none,none,none,(Ai v5 g17 5 (List.map A9 x2)),none,(Ai v6 g19 3 (List.map Bh x4)),none,(Ai v7 g21 5 (List.map Bc x6)),(Ai v8 g23 7 (List.map Bs l)),(Ai v9 g24 8 (List.map Bd l1))]) r12 ?_ ?_ ?_
 ·exact⟨v4,g16,vH4,J,J⟩
 ·rintro j5 a10 ha10 W hW5 l1 fr h ⟨v9,g24,vH15,rfl,rfl⟩
  refine Al (m':=Fv r5 r6 j5 l1) J (Al (Fv.eq_1 _ _ _ _) ?_)
  refine Y<|O<|Aa (.bool (decide ((j5:Int)<(r12.length:Int)))) J (Ba J J J)<|Z<|Y<|Ch J (Int.ofNat_lt.2 (Av ha10))<|A0 ?_
  refine Y<|A3<|Y<|O<|Ac 2 [] [(19,(.I (j5:Int)))] ?_
  refine Z<|Y<|O<|Ac 3 [0] [(175,(.I (j5:Int))),(174,v9)] ?_
  refine Ed fun a11 hz4 hx11=>Aa (.ptr (ix ids 19) g24 (j5:Int).toNat 0) J (Bt (Sk hI J vH15 J Ec Dy J hz4 hx11))<|Aa (.ptr (ix ids 19) g24 (j5:Int).toNat 0) J Aj<|Z<|Y<|O<|Ac 6 [] [(182,(.ptr (ix ids 19) g24 (j5:Int).toNat 1)),(179,(.map (ix ids 9) g9)),(178,(.ptr (ix ids 19) g24 (j5:Int).toNat 0)),(177,(.ptr (ix ids 19) g24 (j5:Int).toNat 0))] ?_
  refine Aa (.str a11.C) J (As (R7 hI J vH15 J hx11 Cf J))<|Bv [(.map (ix ids 9) g9),(.str a11.C)] J J J J ((Kt r6 a11.C (ix ids 9) g9) _ (hI.at J J)) (fun v _=>hU v _ _ _ _ _ _ J J J J J J) fun r19 _=>Ac 2 [] [(186,(.ptr (ix ids 19) g24 (j5:Int).toNat 3))] ?_
  refine Au (S7 (y:={ a11 with Class:=r19 }) hI J J vH15 J hx11 Dl J J J J J J) ?_
  have vH16:=Az.set (i:=(j5:Int).toNat) (y:={ a11 with Class:=r19 }) vH15
  have hx12:=List.getElem?_set_self (a:={ a11 with Class:=r19 }) (Av hx11)
  refine Ac 2 [] [(188,(.ptr (ix ids 19) g24 (j5:Int).toNat 4))] ?_
  refine Au (S7 (y:={ { a11 with Class:=r19 } with Airport:=0 }) hI J J vH16 J hx12 Dl J J J J J J) ?_
  have vH17:=Az.set (i:=(j5:Int).toNat) (y:={ { a11 with Class:=r19 } with Airport:=0 }) vH16
  have hx13:=List.getElem?_set_self (a:={ { a11 with Class:=r19 } with Airport:=0 }) (Av hx12)
  refine Z<|Ak ?_
  refine Y<|O<|Ac 3 [] [(191,(.ptr (ix ids 19) g24 (j5:Int).toNat 0))] ?_
  refine Aa (.I { { a11 with Class:=r19 } with Airport:=0 }.Kind) J (As (R7 hI J vH17 J hx13 Dl J))<|Aa (.bool (({ { a11 with Class:=r19 } with Airport:=0 }.Kind)==1)) J (Ba J J J)<|Z<|Co J (fun hc=>?_) (fun hc=>?_)
  ·refine O<|Ac 5 [] [(198,(.ptr (ix ids 19) g24 (j5:Int).toNat 2)),(195,(.map (ix ids 8) g8)),(194,(.ptr (ix ids 19) g24 (j5:Int).toNat 0))] ?_
   refine Aa (.str { { a11 with Class:=r19 } with Airport:=0 }.A) J (As (R7 hI J vH17 J hx13 Cf J))<|Bv [(.map (ix ids 8) g8),(.str ({ { a11 with Class:=r19 } with Airport:=0 }.A))] J J J J ((Kt r5 ({ { a11 with Class:=r19 } with Airport:=0 }.A) (ix ids 8) g8) _ (hI.at J J)) (fun v _=>hU v _ _ _ _ _ _ J J J J J J) fun r20 _=>Ac 2 [] [(202,(.ptr (ix ids 19) g24 (j5:Int).toNat 4))] ?_
   refine Au (S7 (y:={ { { a11 with Class:=r19 } with Airport:=0 } with Airport:=r20 }) hI J J vH17 J hx13 Dl J J J J J J) ?_
   have vH18:=Az.set (i:=(j5:Int).toNat) (y:={ { { a11 with Class:=r19 } with Airport:=0 } with Airport:=r20 }) vH17
   have hx14:=List.getElem?_set_self (a:={ { { a11 with Class:=r19 } with Airport:=0 } with Airport:=r20 }) (Av hx13)
   refine Z<|Ak ?_
   refine Bf<|O<|Ac 2 [] [(170,(.I (IntKind.wrap .i64 ((j5:Int)+1))))] ?_
   refine Z<|Db [(2,(.q ids 0 g1)),(3,(.q ids 1 g2)),(7,(.map (ix ids 8) g8)),(8,(.map (ix ids 9) g9)),(169,(.I (r12.length:Int))),(170,(.I ((j5+1:Nat):Int)))] (.cons J (.cons J (.cons J (.cons J (.cons J (.cons (C3 (Av ha10) hlim5) .nil)))))) (I7 (hW5 (((l1.set (j5:Int).toNat { a11 with Class:=r19 }).set (j5:Int).toNat { { a11 with Class:=r19 } with Airport:=0 }).set (j5:Int).toNat { { { a11 with Class:=r19 } with Airport:=0 } with Airport:=r20 }) _ _ ⟨v9,g24,vH18,J,J⟩))
  refine A0<|Bf<|O<|Ac 2 [] [(170,(.I (IntKind.wrap .i64 ((j5:Int)+1))))] ?_
  refine Z<|Db [(2,(.q ids 0 g1)),(3,(.q ids 1 g2)),(7,(.map (ix ids 8) g8)),(8,(.map (ix ids 9) g9)),(169,(.I (r12.length:Int))),(170,(.I ((j5+1:Nat):Int)))] (.cons J (.cons J (.cons J (.cons J (.cons J (.cons (C3 (Av ha10) hlim5) .nil)))))) (I7 (hW5 ((l1.set (j5:Int).toNat { a11 with Class:=r19 }).set (j5:Int).toNat { { a11 with Class:=r19 } with Airport:=0 }) _ _ ⟨v9,g24,vH17,J,J⟩))
 rintro l1 fr h ⟨v9,g24,vH15,rfl,rfl⟩
 refine Y<|O<|Aa (.bool (decide ((r12.length:Int)<(r12.length:Int)))) J (Ba J J J)<|Z<|Y<|Cg J (Int.lt_irrefl _)<|Cl J ?_
 refine Y<|O<|Ac 1 [0] [(204,(.agg [(.sl 2 (List.map Ar a.Volumes)),v5,v6,v7,v8,(.sl 2 (List.map A5 a.Airports)),(.sl 4 (List.map Bn a.Classes)),v9]))] ?_
 refine Au (A4 (v:=(.agg [(.sl 2 (List.map Ar a.Volumes)),v5,v6,v7,v8,(.sl 2 (List.map A5 a.Airports)),(.sl 4 (List.map Bn a.Classes)),v9])) hI J J J J Df J J J J (C1 J (C1 (Az.flat vH5) (C1 (Az.flat vH7) (C1 (Az.flat vH9) (C1 (Az.flat vH11) (C1 J (C1 J (C1 (Az.flat vH15) Aba)))))))))<|Au (A4 (v:=(.I 0)) hI J J J J Ld J J J J J)<|Z<|Aij (a:=(({ Volumes:=a.Volumes,Sectors:=x2,Configs:=x4,Segments:=x6,Routes:=l,Airports:=a.Airports,Classes:=a.Classes,Rules:=l1 }:Airspace),0)) (vs:=[(.agg [(.sl 2 (List.map Ar a.Volumes)),v5,v6,v7,v8,(.sl 2 (List.map A5 a.Airports)),(.sl 4 (List.map Bn a.Classes)),v9]),(.I 0)]) Tryz.func9 hI (Adm _ _ _) (Dq (A7 hI J J J Df J) (Dq (A7 hI J J J Ld J) Ew)) (.tupL (.cons (.aggL (.cons (.same _) (.cons (E1 vH5 (hI.at J J) (hI.out J) (fun x=>U5 x)) (.cons (E1 vH7 (hI.at J J) (hI.out J) (fun x=>Ye x)) (.cons (E1 vH9 (hI.at J J) (hI.out J) (fun x=>Tt x)) (.cons (E1 vH11 (hI.at J J) (hI.out J) (fun x=>Aa8 x)) (.cons (.same _) (.cons (.same _) (.cons (E1 vH15 (hI.at J J) (hI.out J) (fun x=>Tr x)) .nil))))))))) (.cons (.same _) .nil)))
theorem Abf (a:Volume)(s1:An)(h0:Af)(o0:Nat)(o1:Nat)(g:Nat)(g1:Nat)(hI0:Ids h0 [o0,o1] 2):O0 a s1≠.bad→Bg Tryz.prog 91 [(.agg (Ar a)),(.ptr o0 g 0 0),(.ptr o1 g1 0 0)] (hp h0 [o0,o1] [some (.rows g 1 [[(.func (.func 46) [] [])]]),some (.rows g1 1 [[(.str s1)]])]) (Cq (fun a_ v h'=>v=(.bool a_)∧h'=hp h0 [o0,o1] [some (.rows g 1 [[(.func (.func 46) [] [])]]),some (.rows g1 1 [[(.str s1)]])]) h0 (O0 a s1)):=by
 refine Bb (n:=10) 1 Tryz.func91 J (by decide) J J hI0 J fun ids he hI=>?_
 clear hI0
 obtain rfl:ix ids 0=o0:=he 0 rfl
 obtain rfl:ix ids 1=o1:=he 1 rfl
 clear he
 refine Bk (Al (O0.eq_1 _ _) ?_)
 refine Ak ?_
 refine Y<|O<|Ck (v:=(.agg (Ar a))) (j:=2) hI J J J J J J J fun g2=>Aa (.bool false) J Aj<|Z<|Ak ?_
 refine Y<|C6 Fl [[],[],[0,1],[],[0,1,2,3],[0,1,2,2,3,4,4]] [(false,0),(false,1),(false,3),(true,2),(false,4),(false,5)] (by kernel_rfl)<|Ag (.func (.func 46) [] []) J J (As (A7 hI J J J Ayh J))<|Ag (.agg (Ar a)) J J (As (A7 hI J J J Lb J))<|Ag (.str s1) J J (As (A7 hI J J J Cf J))<|Pc [(.agg (Ar a))] J J J J J ((V0 a) _) (fun v _ _ _=>Ap (K:=2) (N:=1) Tryz.func91 hI) (A6 J (As (A7 hI J J J Cf J)) (Ab J (Ab J Bm))) fun r _=>Ag (.bool (r==s1)) J J (Ba J J J) ?_
 refine Ag (.bool (r==s1)) J J Aj<|Cu<|C9 (K:=2) (N:=1) (a:=(r==s1)) (vs:=[(.bool (r==s1))]) [some (.rows g 1 [[(.func (.func 46) [] [])]]),some (.rows g1 1 [[(.str s1)]])] Tryz.func91 hI J J J (.keep (.keep (.drop .nil))) (.same _) ⟨J,J⟩
theorem Wl (s:List Volume)(s1:An)(h0:Af)(o0:Nat)(o1:Nat)(g:Nat)(g1:Nat)(hI0:Ids h0 [o0,o1] 2):K7 s s1≠.bad→Bg Tryz.prog 90 [(.sl 2 (List.map Ar s)),(.func (.func 91) [] [(.ptr o0 g 0 0),(.ptr o1 g1 0 0)])] (hp h0 [o0,o1] [some (.rows g 1 [[(.func (.func 46) [] [])]]),some (.rows g1 1 [[(.str s1)]])]) (Cq (fun a_ v h'=>v=(.int .i64 a_)∧h'=hp h0 [o0,o1] [some (.rows g 1 [[(.func (.func 46) [] [])]]),some (.rows g1 1 [[(.str s1)]])]) h0 (K7 s s1)):=by
 refine Bb (n:=19) 0 Tryz.func90 J (by decide) J J hI0 J fun ids he hI=>?_
 clear hI0
 obtain rfl:ix ids 0=o0:=he 0 rfl
 obtain rfl:ix ids 1=o1:=he 1 rfl
 clear he
 refine Bk (Al (K7.eq_1 _ _) ?_)
 refine Y<|O<|Aa (.I 0) J Aj<|Z<|Y<|Y<|O ?_
 refine Aa (.sl 2 (List.map Ar s)) J Ae<|Aa (.I (s.length:Int)) J (Ay (A8 H7))<|Aa (.I 0) J Ae<|Z<|A3<|Db [(0,(.sl 2 (List.map Ar s))),(1,(.func (.func 91) [] [(.q ids 0 g),(.q ids 1 g1)])),(7,(.I (s.length:Int))),(8,(.I 0))] (FI J)<|Ga (P:=Tryz.prog) s (fun j a=>fun _=>Jf s1 j a) ((Dv (fun _=>.ok (-1)) (fun r=>.ok r)):(Unit ⊕ Int)→R Int) (fun j=>fun _=>fun(fr:Nat→AV) (h:Af)=>fr=A2 [(0,(.sl 2 (List.map Ar s))),(1,(.func (.func 91) [] [(.q ids 0 g),(.q ids 1 g1)])),(7,(.I (s.length:Int))),(8,(.I (j:Int)))]∧h=hp h0 ids [(some (.rows g 1 [[(.func (.func 46) [] [])]])),(some (.rows g1 1 [[(.str s1)]]))]) () ?_ ?_ ?_
 ·exact⟨J,J⟩
 ·rintro j a ha W hW _ fr h ⟨rfl,rfl⟩
  refine Al (m':=Jf s1 j a) J (Al (Jf.eq_1 _ _ _) ?_)
  refine Y<|O<|Aa (.bool (decide ((j:Int)<(s.length:Int)))) J (Ba J J J)<|Z<|Y<|Dn (t:=0) (L:=s) J fun hlim=>Ch J (Int.ofNat_lt.2 (Av ha)) ?_
  refine A0<|Y<|A3<|Y<|O<|Ac 2 [] [(5,(.I (j:Int)))] ?_
  refine Z<|Y<|O<|Ac 3 [] [(13,(.I (j:Int))),(12,(.sl 2 (List.map Ar s))),(11,(.func (.func 91) [] [(.q ids 0 g),(.q ids 1 g1)]))] ?_
  refine Aa (.cp (Ar a) 0) J (Bt (Ct H7 Lb J ha))<|Aa (.agg (Ar a)) J (As (Dh Lb J))<|Ao [0,1] hI J J (Abf a s1 _ (ix ids 0) (ix ids 1) g g1 (by exact hI.sub' J J)) J J J J J J (fun v _=>Ap (K:=2) (N:=0) Tryz.func90 hI) ?_
  rintro r _ _ _ ⟨rfl,rfl⟩
  refine Aw [0,1] hI J J J ?_
  refine Aq<|Z<|Co J (fun hc=>?_) (fun hc=>?_)
  ·refine Y<|O<|Ac 2 [] [(4,(.I (j:Int)))] ?_
   refine Z<|G2<|Jg<|C9 (K:=2) (N:=0) (a:=(j:Int)) (vs:=[(.I (j:Int))]) [some (.rows g 1 [[(.func (.func 46) [] [])]]),some (.rows g1 1 [[(.str s1)]])] Tryz.func90 hI J J J (.keep (.keep .nil)) (.same _) ⟨J,J⟩
  refine A0<|Bf<|O<|Ac 2 [] [(8,(.I (IntKind.wrap .i64 ((j:Int)+1))))] ?_
  refine Z<|Bp (G4 (hW () _ _ ⟨J,J⟩)) (.cons J (.cons J (.cons J (.cons (C3 (Av ha) hlim) .nil))))
 rintro _ fr h ⟨rfl,rfl⟩
 refine Al (Hz _ _ _)<|Y<|O<|Aa (.bool (decide ((s.length:Int)<(s.length:Int)))) J (Ba J J J)<|Z<|Y<|Cg J (Int.lt_irrefl _) ?_
 refine Cl J<|Y<|O<|Aa (.I (-1)) J Aj<|Z<|C9 (K:=2) (N:=0) (a:=(-1)) (vs:=[(.I (-1))]) [some (.rows g 1 [[(.func (.func 46) [] [])]]),some (.rows g1 1 [[(.str s1)]])] Tryz.func90 hI J J J (.keep (.keep .nil)) (.same _) ⟨J,J⟩
theorem X6 (l:List Volume)(name:An):CP Tryz.prog 70 [(.sl 2 (List.map Ar l)),(.func (.func 46) [] []),(.str name)] (Pk l name) (fun(p:(Int×Bool))=>AV.tup [(.int .i64 p.1),(.bool p.2)]):=by
 refine C8 (n:=14) 2 Tryz.func70 J (by decide) J J fun h0 ids hI=>Bk (Al (Pk.eq_1 _ _) ?_)
 refine Y<|O<|Ck (v:=(.func (.func 46) [] [])) (j:=0) hI J J J J J J J fun g=>Ck (v:=(.str name)) (j:=1) hI J J J J J J J fun g1=>Ac 2 [] [] ?_
 refine Z<|Ak ?_
 refine Y<|Y<|O<|Ac 2 [] [(9,(.func (.func 91) [] [(.q ids 0 g),(.q ids 1 g1)])),(8,(.sl 2 (List.map Ar l)))] ?_
 refine Ao [0,1] hI J J (Wl l name _ (ix ids 0) (ix ids 1) g g1 (by exact hI.sub' J J)) J J J J J J (fun v _=>Cy Tryz.func70 hI) ?_
 rintro n _ _ _ ⟨rfl,rfl⟩
 refine Aw [0,1] hI J J J ?_
 refine Aq<|Aa (.I n) J Aj<|Z<|Y<|O<|Ac 2 [] [(12,(.bool (decide (n<0))))] ?_
 refine Z<|On J (fun hc=>?_) (fun hc=>?_)
 ·refine Y<|O<|Ac 2 [] [(7,(.bool false)),(6,(.I 0))] ?_
  refine Z<|B8 (a:=(0,false)) (vs:=[(.I 0),(.bool false)]) Tryz.func70 hI J (.tupL (.cons (.same _) (.cons (.same _) .nil)))
 refine A0<|Y<|O<|Ac 3 [] [(7,(.bool true)),(6,(.I n))] ?_
 refine Z<|B8 (a:=(n,true)) (vs:=[(.I n),(.bool true)]) Tryz.func70 hI J (.tupL (.cons (.same _) (.cons (.same _) .nil)))
theorem Ab3 (a:Airspace)(name:An):CP Tryz.prog 11 [(.agg (Ax a)),(.str name)] (Vv a name) (fun(p:(Int×Bool))=>AV.tup [(.int .i64 p.1),(.bool p.2)]):=by
 refine C8 (n:=12) 1 Tryz.func11 J (by decide) J J fun h0 ids hI=>Bk (Al (Vv.eq_1 _ _) ?_)
 refine Y<|O<|Ck (v:=(.agg (Ax a))) (j:=0) hI J J J J J J J fun g=>Ac 2 [] [] ?_
 refine Z<|Ak ?_
 refine Y<|O<|Ac 3 [0] [(8,(.str name)),(7,(.sl 2 (List.map Ar a.Volumes)))] ?_
 refine Bv [(.sl 2 (List.map Ar a.Volumes)),(.func (.func 46) [] []),(.str name)] J J J J ((X6 a.Volumes name) _) (fun v _=>Cy Tryz.func11 hI) fun r _=>Ac 4 [] [(5,(.bool r.2)),(4,(.I r.1))] ?_
 refine Z<|B8 (a:=(r.1,r.2)) (vs:=[(.I r.1),(.bool r.2)]) Tryz.func11 hI J (.tupL (.cons (.same _) (.cons (.same _) .nil)))
theorem Ack (a:Class)(s1:An)(h0:Af)(o0:Nat)(o1:Nat)(g:Nat)(g1:Nat)(hI0:Ids h0 [o0,o1] 2):Pv a s1≠.bad→Bg Tryz.prog 93 [(.agg (Bn a)),(.ptr o0 g 0 0),(.ptr o1 g1 0 0)] (hp h0 [o0,o1] [some (.rows g 1 [[(.func (.func 58) [] [])]]),some (.rows g1 1 [[(.str s1)]])]) (Cq (fun a_ v h'=>v=(.bool a_)∧h'=hp h0 [o0,o1] [some (.rows g 1 [[(.func (.func 58) [] [])]]),some (.rows g1 1 [[(.str s1)]])]) h0 (Pv a s1)):=by
 refine Bb (n:=10) 1 Tryz.func93 J (by decide) J J hI0 J fun ids he hI=>?_
 clear hI0
 obtain rfl:ix ids 0=o0:=he 0 rfl
 obtain rfl:ix ids 1=o1:=he 1 rfl
 clear he
 refine Bk (Al (Pv.eq_1 _ _) ?_)
 refine Ak ?_
 refine Y<|O<|Ck (v:=(.agg (Bn a))) (j:=2) hI J J J J J J J fun g2=>Aa (.bool false) J Aj<|Z<|Ak ?_
 refine Y<|C6 Fl [[],[],[0,1],[],[0,1,2,3],[0,1,2,2,3,4,4]] [(false,0),(false,1),(false,3),(true,2),(false,4),(false,5)] (by kernel_rfl)<|Ag (.func (.func 58) [] []) J J (As (A7 hI J J J Ayf J))<|Ag (.agg (Bn a)) J J (As (A7 hI J J J Lc J))<|Ag (.str s1) J J (As (A7 hI J J J Cf J))<|Pc [(.agg (Bn a))] J J J J J ((Xb a) _) (fun v _ _ _=>Ap (K:=2) (N:=1) Tryz.func93 hI) (A6 J (As (A7 hI J J J Cf J)) (Ab J (Ab J Bm))) fun r _=>Ag (.bool (r==s1)) J J (Ba J J J) ?_
 refine Ag (.bool (r==s1)) J J Aj<|Cu<|C9 (K:=2) (N:=1) (a:=(r==s1)) (vs:=[(.bool (r==s1))]) [some (.rows g 1 [[(.func (.func 58) [] [])]]),some (.rows g1 1 [[(.str s1)]])] Tryz.func93 hI J J J (.keep (.keep (.drop .nil))) (.same _) ⟨J,J⟩
theorem Xi (s:List Class)(s1:An)(h0:Af)(o0:Nat)(o1:Nat)(g:Nat)(g1:Nat)(hI0:Ids h0 [o0,o1] 2):Lt s s1≠.bad→Bg Tryz.prog 92 [(.sl 4 (List.map Bn s)),(.func (.func 93) [] [(.ptr o0 g 0 0),(.ptr o1 g1 0 0)])] (hp h0 [o0,o1] [some (.rows g 1 [[(.func (.func 58) [] [])]]),some (.rows g1 1 [[(.str s1)]])]) (Cq (fun a_ v h'=>v=(.int .i64 a_)∧h'=hp h0 [o0,o1] [some (.rows g 1 [[(.func (.func 58) [] [])]]),some (.rows g1 1 [[(.str s1)]])]) h0 (Lt s s1)):=by
 refine Bb (n:=19) 0 Tryz.func92 J (by decide) J J hI0 J fun ids he hI=>?_
 clear hI0
 obtain rfl:ix ids 0=o0:=he 0 rfl
 obtain rfl:ix ids 1=o1:=he 1 rfl
 clear he
 refine Bk (Al (Lt.eq_1 _ _) ?_)
 refine Y<|O<|Aa (.I 0) J Aj<|Z<|Y<|Y<|O ?_
 refine Aa (.sl 4 (List.map Bn s)) J Ae<|Aa (.I (s.length:Int)) J (Ay (A8 Mn))<|Aa (.I 0) J Ae<|Z<|A3<|Db [(0,(.sl 4 (List.map Bn s))),(1,(.func (.func 93) [] [(.q ids 0 g),(.q ids 1 g1)])),(7,(.I (s.length:Int))),(8,(.I 0))] (FI J)<|Ga (P:=Tryz.prog) s (fun j a=>fun _=>Jp s1 j a) ((Dv (fun _=>.ok (-1)) (fun r=>.ok r)):(Unit ⊕ Int)→R Int) (fun j=>fun _=>fun(fr:Nat→AV) (h:Af)=>fr=A2 [(0,(.sl 4 (List.map Bn s))),(1,(.func (.func 93) [] [(.q ids 0 g),(.q ids 1 g1)])),(7,(.I (s.length:Int))),(8,(.I (j:Int)))]∧h=hp h0 ids [(some (.rows g 1 [[(.func (.func 58) [] [])]])),(some (.rows g1 1 [[(.str s1)]]))]) () ?_ ?_ ?_
 ·exact⟨J,J⟩
 ·rintro j a ha W hW _ fr h ⟨rfl,rfl⟩
  refine Al (m':=Jp s1 j a) J (Al (Jp.eq_1 _ _ _) ?_)
  refine Y<|O<|Aa (.bool (decide ((j:Int)<(s.length:Int)))) J (Ba J J J)<|Z<|Y<|Dn (t:=0) (L:=s) J fun hlim=>Ch J (Int.ofNat_lt.2 (Av ha)) ?_
  refine A0<|Y<|A3<|Y<|O<|Ac 2 [] [(5,(.I (j:Int)))] ?_
  refine Z<|Y<|O<|Ac 3 [] [(13,(.I (j:Int))),(12,(.sl 4 (List.map Bn s))),(11,(.func (.func 93) [] [(.q ids 0 g),(.q ids 1 g1)]))] ?_
  refine Aa (.cp (Bn a) 0) J (Bt (Ct Mn Lc J ha))<|Aa (.agg (Bn a)) J (As (Dh Lc J))<|Ao [0,1] hI J J (Ack a s1 _ (ix ids 0) (ix ids 1) g g1 (by exact hI.sub' J J)) J J J J J J (fun v _=>Ap (K:=2) (N:=0) Tryz.func92 hI) ?_
  rintro r _ _ _ ⟨rfl,rfl⟩
  refine Aw [0,1] hI J J J ?_
  refine Aq<|Z<|Co J (fun hc=>?_) (fun hc=>?_)
  ·refine Y<|O<|Ac 2 [] [(4,(.I (j:Int)))] ?_
   refine Z<|G2<|Jg<|C9 (K:=2) (N:=0) (a:=(j:Int)) (vs:=[(.I (j:Int))]) [some (.rows g 1 [[(.func (.func 58) [] [])]]),some (.rows g1 1 [[(.str s1)]])] Tryz.func92 hI J J J (.keep (.keep .nil)) (.same _) ⟨J,J⟩
  refine A0<|Bf<|O<|Ac 2 [] [(8,(.I (IntKind.wrap .i64 ((j:Int)+1))))] ?_
  refine Z<|Bp (G4 (hW () _ _ ⟨J,J⟩)) (.cons J (.cons J (.cons J (.cons (C3 (Av ha) hlim) .nil))))
 rintro _ fr h ⟨rfl,rfl⟩
 refine Al (Hz _ _ _)<|Y<|O<|Aa (.bool (decide ((s.length:Int)<(s.length:Int)))) J (Ba J J J)<|Z<|Y<|Cg J (Int.lt_irrefl _) ?_
 refine Cl J<|Y<|O<|Aa (.I (-1)) J Aj<|Z<|C9 (K:=2) (N:=0) (a:=(-1)) (vs:=[(.I (-1))]) [some (.rows g 1 [[(.func (.func 58) [] [])]]),some (.rows g1 1 [[(.str s1)]])] Tryz.func92 hI J J J (.keep (.keep .nil)) (.same _) ⟨J,J⟩
theorem Zq (l:List Class)(name:An):CP Tryz.prog 71 [(.sl 4 (List.map Bn l)),(.func (.func 58) [] []),(.str name)] (Qm l name) (fun(p:(Int×Bool))=>AV.tup [(.int .i64 p.1),(.bool p.2)]):=by
 refine C8 (n:=14) 2 Tryz.func71 J (by decide) J J fun h0 ids hI=>Bk (Al (Qm.eq_1 _ _) ?_)
 refine Y<|O<|Ck (v:=(.func (.func 58) [] [])) (j:=0) hI J J J J J J J fun g=>Ck (v:=(.str name)) (j:=1) hI J J J J J J J fun g1=>Ac 2 [] [] ?_
 refine Z<|Ak ?_
 refine Y<|Y<|O<|Ac 2 [] [(9,(.func (.func 93) [] [(.q ids 0 g),(.q ids 1 g1)])),(8,(.sl 4 (List.map Bn l)))] ?_
 refine Ao [0,1] hI J J (Xi l name _ (ix ids 0) (ix ids 1) g g1 (by exact hI.sub' J J)) J J J J J J (fun v _=>Cy Tryz.func71 hI) ?_
 rintro n _ _ _ ⟨rfl,rfl⟩
 refine Aw [0,1] hI J J J ?_
 refine Aq<|Aa (.I n) J Aj<|Z<|Y<|O<|Ac 2 [] [(12,(.bool (decide (n<0))))] ?_
 refine Z<|On J (fun hc=>?_) (fun hc=>?_)
 ·refine Y<|O<|Ac 2 [] [(7,(.bool false)),(6,(.I 0))] ?_
  refine Z<|B8 (a:=(0,false)) (vs:=[(.I 0),(.bool false)]) Tryz.func71 hI J (.tupL (.cons (.same _) (.cons (.same _) .nil)))
 refine A0<|Y<|O<|Ac 3 [] [(7,(.bool true)),(6,(.I n))] ?_
 refine Z<|B8 (a:=(n,true)) (vs:=[(.I n),(.bool true)]) Tryz.func71 hI J (.tupL (.cons (.same _) (.cons (.same _) .nil)))
theorem Aiq (a:Airspace)(name:An):CP Tryz.prog 12 [(.agg (Ax a)),(.str name)] (Acp a name) (fun(p:(Int×Bool))=>AV.tup [(.int .i64 p.1),(.bool p.2)]):=by
 refine C8 (n:=12) 1 Tryz.func12 J (by decide) J J fun h0 ids hI=>Bk (Al (Acp.eq_1 _ _) ?_)
 refine Y<|O<|Ck (v:=(.agg (Ax a))) (j:=0) hI J J J J J J J fun g=>Ac 2 [] [] ?_
 refine Z<|Ak ?_
 refine Y<|O<|Ac 3 [0] [(8,(.str name)),(7,(.sl 4 (List.map Bn a.Classes)))] ?_
 refine Bv [(.sl 4 (List.map Bn a.Classes)),(.func (.func 58) [] []),(.str name)] J J J J ((Zq a.Classes name) _) (fun v _=>Cy Tryz.func12 hI) fun r _=>Ac 4 [] [(5,(.bool r.2)),(4,(.I r.1))] ?_
 refine Z<|B8 (a:=(r.1,r.2)) (vs:=[(.I r.1),(.bool r.2)]) Tryz.func12 hI J (.tupL (.cons (.same _) (.cons (.same _) .nil)))
theorem Aae (a:Airport)(s1:An)(h0:Af)(o0:Nat)(o1:Nat)(g:Nat)(g1:Nat)(hI0:Ids h0 [o0,o1] 2):N2 a s1≠.bad→Bg Tryz.prog 95 [(.agg (A5 a)),(.ptr o0 g 0 0),(.ptr o1 g1 0 0)] (hp h0 [o0,o1] [some (.rows g 1 [[(.func (.func 56) [] [])]]),some (.rows g1 1 [[(.str s1)]])]) (Cq (fun a_ v h'=>v=(.bool a_)∧h'=hp h0 [o0,o1] [some (.rows g 1 [[(.func (.func 56) [] [])]]),some (.rows g1 1 [[(.str s1)]])]) h0 (N2 a s1)):=by
 refine Bb (n:=10) 1 Tryz.func95 J (by decide) J J hI0 J fun ids he hI=>?_
 clear hI0
 obtain rfl:ix ids 0=o0:=he 0 rfl
 obtain rfl:ix ids 1=o1:=he 1 rfl
 clear he
 refine Bk (Al (N2.eq_1 _ _) ?_)
 refine Ak ?_
 refine Y<|O<|Ck (v:=(.agg (A5 a))) (j:=2) hI J J J J J J J fun g2=>Aa (.bool false) J Aj<|Z<|Ak ?_
 refine Y<|C6 Fl [[],[],[0,1],[],[0,1,2,3],[0,1,2,2,3,4,4]] [(false,0),(false,1),(false,3),(true,2),(false,4),(false,5)] (by kernel_rfl)<|Ag (.func (.func 56) [] []) J J (As (A7 hI J J J Ax8 J))<|Ag (.agg (A5 a)) J J (As (A7 hI J J J I8 J))<|Ag (.str s1) J J (As (A7 hI J J J Cf J))<|Pc [(.agg (A5 a))] J J J J J ((Us a) _) (fun v _ _ _=>Ap (K:=2) (N:=1) Tryz.func95 hI) (A6 J (As (A7 hI J J J Cf J)) (Ab J (Ab J Bm))) fun r _=>Ag (.bool (r==s1)) J J (Ba J J J) ?_
 refine Ag (.bool (r==s1)) J J Aj<|Cu<|C9 (K:=2) (N:=1) (a:=(r==s1)) (vs:=[(.bool (r==s1))]) [some (.rows g 1 [[(.func (.func 56) [] [])]]),some (.rows g1 1 [[(.str s1)]])] Tryz.func95 hI J J J (.keep (.keep (.drop .nil))) (.same _) ⟨J,J⟩
theorem Vu (s:List Airport)(s1:An)(h0:Af)(o0:Nat)(o1:Nat)(g:Nat)(g1:Nat)(hI0:Ids h0 [o0,o1] 2):Kk s s1≠.bad→Bg Tryz.prog 94 [(.sl 2 (List.map A5 s)),(.func (.func 95) [] [(.ptr o0 g 0 0),(.ptr o1 g1 0 0)])] (hp h0 [o0,o1] [some (.rows g 1 [[(.func (.func 56) [] [])]]),some (.rows g1 1 [[(.str s1)]])]) (Cq (fun a_ v h'=>v=(.int .i64 a_)∧h'=hp h0 [o0,o1] [some (.rows g 1 [[(.func (.func 56) [] [])]]),some (.rows g1 1 [[(.str s1)]])]) h0 (Kk s s1)):=by
 refine Bb (n:=19) 0 Tryz.func94 J (by decide) J J hI0 J fun ids he hI=>?_
 clear hI0
 obtain rfl:ix ids 0=o0:=he 0 rfl
 obtain rfl:ix ids 1=o1:=he 1 rfl
 clear he
 refine Bk (Al (Kk.eq_1 _ _) ?_)
 refine Y<|O<|Aa (.I 0) J Aj<|Z<|Y<|Y<|O ?_
 refine Aa (.sl 2 (List.map A5 s)) J Ae<|Aa (.I (s.length:Int)) J (Ay (A8 Lg))<|Aa (.I 0) J Ae<|Z<|A3<|Db [(0,(.sl 2 (List.map A5 s))),(1,(.func (.func 95) [] [(.q ids 0 g),(.q ids 1 g1)])),(7,(.I (s.length:Int))),(8,(.I 0))] (FI J)<|Ga (P:=Tryz.prog) s (fun j a=>fun _=>I1 s1 j a) ((Dv (fun _=>.ok (-1)) (fun r=>.ok r)):(Unit ⊕ Int)→R Int) (fun j=>fun _=>fun(fr:Nat→AV) (h:Af)=>fr=A2 [(0,(.sl 2 (List.map A5 s))),(1,(.func (.func 95) [] [(.q ids 0 g),(.q ids 1 g1)])),(7,(.I (s.length:Int))),(8,(.I (j:Int)))]∧h=hp h0 ids [(some (.rows g 1 [[(.func (.func 56) [] [])]])),(some (.rows g1 1 [[(.str s1)]]))]) () ?_ ?_ ?_
 ·exact⟨J,J⟩
 ·rintro j a ha W hW _ fr h ⟨rfl,rfl⟩
  refine Al (m':=I1 s1 j a) J (Al (I1.eq_1 _ _ _) ?_)
  refine Y<|O<|Aa (.bool (decide ((j:Int)<(s.length:Int)))) J (Ba J J J)<|Z<|Y<|Dn (t:=0) (L:=s) J fun hlim=>Ch J (Int.ofNat_lt.2 (Av ha)) ?_
  refine A0<|Y<|A3<|Y<|O<|Ac 2 [] [(5,(.I (j:Int)))] ?_
  refine Z<|Y<|O<|Ac 3 [] [(13,(.I (j:Int))),(12,(.sl 2 (List.map A5 s))),(11,(.func (.func 95) [] [(.q ids 0 g),(.q ids 1 g1)]))] ?_
  refine Aa (.cp (A5 a) 0) J (Bt (Ct Lg I8 J ha))<|Aa (.agg (A5 a)) J (As (Dh I8 J))<|Ao [0,1] hI J J (Aae a s1 _ (ix ids 0) (ix ids 1) g g1 (by exact hI.sub' J J)) J J J J J J (fun v _=>Ap (K:=2) (N:=0) Tryz.func94 hI) ?_
  rintro r _ _ _ ⟨rfl,rfl⟩
  refine Aw [0,1] hI J J J ?_
  refine Aq<|Z<|Co J (fun hc=>?_) (fun hc=>?_)
  ·refine Y<|O<|Ac 2 [] [(4,(.I (j:Int)))] ?_
   refine Z<|G2<|Jg<|C9 (K:=2) (N:=0) (a:=(j:Int)) (vs:=[(.I (j:Int))]) [some (.rows g 1 [[(.func (.func 56) [] [])]]),some (.rows g1 1 [[(.str s1)]])] Tryz.func94 hI J J J (.keep (.keep .nil)) (.same _) ⟨J,J⟩
  refine A0<|Bf<|O<|Ac 2 [] [(8,(.I (IntKind.wrap .i64 ((j:Int)+1))))] ?_
  refine Z<|Bp (G4 (hW () _ _ ⟨J,J⟩)) (.cons J (.cons J (.cons J (.cons (C3 (Av ha) hlim) .nil))))
 rintro _ fr h ⟨rfl,rfl⟩
 refine Al (Hz _ _ _)<|Y<|O<|Aa (.bool (decide ((s.length:Int)<(s.length:Int)))) J (Ba J J J)<|Z<|Y<|Cg J (Int.lt_irrefl _) ?_
 refine Cl J<|Y<|O<|Aa (.I (-1)) J Aj<|Z<|C9 (K:=2) (N:=0) (a:=(-1)) (vs:=[(.I (-1))]) [some (.rows g 1 [[(.func (.func 56) [] [])]]),some (.rows g1 1 [[(.str s1)]])] Tryz.func94 hI J J J (.keep (.keep .nil)) (.same _) ⟨J,J⟩
theorem Wh (l:List Airport)(name:An):CP Tryz.prog 72 [(.sl 2 (List.map A5 l)),(.func (.func 56) [] []),(.str name)] (Of l name) (fun(p:(Int×Bool))=>AV.tup [(.int .i64 p.1),(.bool p.2)]):=by
 refine C8 (n:=14) 2 Tryz.func72 J (by decide) J J fun h0 ids hI=>Bk (Al (Of.eq_1 _ _) ?_)
 refine Y<|O<|Ck (v:=(.func (.func 56) [] [])) (j:=0) hI J J J J J J J fun g=>Ck (v:=(.str name)) (j:=1) hI J J J J J J J fun g1=>Ac 2 [] [] ?_
 refine Z<|Ak ?_
 refine Y<|Y<|O<|Ac 2 [] [(9,(.func (.func 95) [] [(.q ids 0 g),(.q ids 1 g1)])),(8,(.sl 2 (List.map A5 l)))] ?_
 refine Ao [0,1] hI J J (Vu l name _ (ix ids 0) (ix ids 1) g g1 (by exact hI.sub' J J)) J J J J J J (fun v _=>Cy Tryz.func72 hI) ?_
 rintro n _ _ _ ⟨rfl,rfl⟩
 refine Aw [0,1] hI J J J ?_
 refine Aq<|Aa (.I n) J Aj<|Z<|Y<|O<|Ac 2 [] [(12,(.bool (decide (n<0))))] ?_
 refine Z<|On J (fun hc=>?_) (fun hc=>?_)
 ·refine Y<|O<|Ac 2 [] [(7,(.bool false)),(6,(.I 0))] ?_
  refine Z<|B8 (a:=(0,false)) (vs:=[(.I 0),(.bool false)]) Tryz.func72 hI J (.tupL (.cons (.same _) (.cons (.same _) .nil)))
 refine A0<|Y<|O<|Ac 3 [] [(7,(.bool true)),(6,(.I n))] ?_
 refine Z<|B8 (a:=(n,true)) (vs:=[(.I n),(.bool true)]) Tryz.func72 hI J (.tupL (.cons (.same _) (.cons (.same _) .nil)))
theorem Agx (a:Airspace)(name:An):CP Tryz.prog 13 [(.agg (Ax a)),(.str name)] (Y2 a name) (fun(p:(Int×Bool))=>AV.tup [(.int .i64 p.1),(.bool p.2)]):=by
 refine C8 (n:=12) 1 Tryz.func13 J (by decide) J J fun h0 ids hI=>Bk (Al (Y2.eq_1 _ _) ?_)
 refine Y<|O<|Ck (v:=(.agg (Ax a))) (j:=0) hI J J J J J J J fun g=>Ac 2 [] [] ?_
 refine Z<|Ak ?_
 refine Y<|O<|Ac 3 [0] [(8,(.str name)),(7,(.sl 2 (List.map A5 a.Airports)))] ?_
 refine Bv [(.sl 2 (List.map A5 a.Airports)),(.func (.func 56) [] []),(.str name)] J J J J ((Wh a.Airports name) _) (fun v _=>Cy Tryz.func13 hI) fun r _=>Ac 4 [] [(5,(.bool r.2)),(4,(.I r.1))] ?_
 refine Z<|B8 (a:=(r.1,r.2)) (vs:=[(.I r.1),(.bool r.2)]) Tryz.func13 hI J (.tupL (.cons (.same _) (.cons (.same _) .nil)))
theorem Qy (a:List Int)(b:List Int):CP Tryz.prog 14 [(.sl 1 (List.map (rI .i64) a)),(.sl 1 (List.map (rI .i64) b))] (Hi a b) (fun(x:Bool)=>(AV.bool x)):=by
 refine C8 (n:=26) 0 Tryz.func14 J (by decide) J J fun h0 ids hI=>Bk (Al (Hi.eq_1 _ _) ?_)
 refine Y<|O<|Aa (.bool false) J Aj<|Z<|Y<|Y<|O ?_
 refine Aa (.sl 1 (List.map (rI .i64) a)) J Ae<|Aa (.I (a.length:Int)) J (Ay (A8 O4))<|Aa (.sl 1 (List.map (rI .i64) b)) J Ae<|Aa (.I (b.length:Int)) J (Ay (A8 O4))<|Aa (.bool ((a.length:Int) != (b.length:Int))) J (Ba J J J)<|Z<|Co J (fun hc=>?_) (fun hc=>?_)
 ·refine Y<|O<|Aa (.bool false) J Aj<|Z<|B8 (a:=false) (vs:=[(.bool false)]) Tryz.func14 hI J (.same _)
 refine A0<|Y<|Y<|O<|Aa (.I 0) J Aj<|Z<|A3 ?_
 refine Db [(0,(.sl 1 (List.map (rI .i64) a))),(1,(.sl 1 (List.map (rI .i64) b))),(5,(.I 0))] (FI J)<|Ga (P:=Tryz.prog) a (fun j a1=>fun _=>Ov b j a1) ((Dv (fun _=>.ok true) (fun r=>.ok r)):(Unit ⊕ Bool)→R Bool) (fun j=>fun _=>fun(fr:Nat→AV) (h:Af)=>fr=A2 [(0,(.sl 1 (List.map (rI .i64) a))),(1,(.sl 1 (List.map (rI .i64) b))),(5,(.I (j:Int)))]∧h=hp h0 ids []) () ?_ ?_ ?_
 ·exact⟨J,J⟩
 ·rintro j a1 ha1 W hW _ fr h ⟨rfl,rfl⟩
  refine Al (m':=Ov b j a1) J (Al (Ov.eq_1 _ _ _) ?_)
  refine Y<|Y<|O<|Ac 2 [] [(12,(.sl 1 (List.map (rI .i64) a))),(11,(.I (j:Int)))] ?_
  refine Aa (.I (a.length:Int)) J (Ay (A8 O4))<|Aa (.bool (decide ((j:Int)<(a.length:Int)))) J (Ba J J J)<|Z<|Dn (t:=0) (L:=a) J fun hlim=>Ch J (Int.ofNat_lt.2 (Av ha1))<|A0<|Y ?_
  refine A3<|Y<|C6 Fl [[],[],[0,1],[0,1,2],[],[],[4,5],[4,5,6],[0,1,2,3,4,5,6,7]] [(false,0),(false,1),(false,2),(false,3),(false,4),(false,5),(false,6),(false,7),(false,8)] (by kernel_rfl)<|Ag (.sl 1 (List.map (rI .i64) a)) J J Ae<|Ag (.I (j:Int)) J J Ae<|Ag (.cp [(.I a1)] 0) J J (Bt (Ct O4 Dl J ha1))<|Ag (.I a1) J J (As (Dh Dl J)) ?_
  refine Ag (.sl 1 (List.map (rI .i64) b)) J J Ae<|Ag (.I (j:Int)) J J Ae<|Aab fun a2 hz hx1=>Ag (.cp [(.I a2)] 0) J J (Bt (Eg O4 Dl J hz hx1))<|Ag (.I a2) J J (As (Dh Dl J))<|Ag (.bool (a1 != a2)) J J (Ba J J J)<|Cu ?_
  refine Co J (fun hc1=>?_) (fun hc1=>?_)
  ·refine Y<|O<|Aa (.bool false) J Aj<|Z<|G2<|Jg<|B8 (a:=false) (vs:=[(.bool false)]) Tryz.func14 hI J (.same _)
  refine A0<|Bf<|O<|Ac 3 [] [(5,(.I (IntKind.wrap .i64 ((j:Int)+1))))] ?_
  refine Z<|Bp (G4 (hW () _ _ ⟨J,J⟩)) (.cons J (.cons J (.cons (C3 (Av ha1) hlim) .nil)))
 rintro _ fr h ⟨rfl,rfl⟩
 refine Al (Hz _ _ _)<|Y<|Y<|O<|Ac 2 [] [(12,(.sl 1 (List.map (rI .i64) a))),(11,(.I (a.length:Int)))] ?_
 refine Aa (.I (a.length:Int)) J (Ay (A8 O4))<|Aa (.bool (decide ((a.length:Int)<(a.length:Int)))) J (Ba J J J)<|Z<|Cg J (Int.lt_irrefl _)<|Cl J<|Y<|O ?_
 refine Aa (.bool true) J Aj<|Z<|B8 (a:=true) (vs:=[(.bool true)]) Tryz.func14 hI J (.same _)
theorem Yd (a:List Span)(b:List Span):CP Tryz.prog 68 [(.sl 2 (List.map C0 a)),(.sl 2 (List.map C0 b))] (N4 a b) (fun(x:Bool)=>(AV.bool x)):=by
 refine C8 (n:=26) 0 Tryz.func68 J (by decide) J J fun h0 ids hI=>Bk (Al (N4.eq_1 _ _) ?_)
 refine Y<|O<|Aa (.bool false) J Aj<|Z<|Y<|Y<|O ?_
 refine Aa (.sl 2 (List.map C0 a)) J Ae<|Aa (.I (a.length:Int)) J (Ay (A8 Pu))<|Aa (.sl 2 (List.map C0 b)) J Ae<|Aa (.I (b.length:Int)) J (Ay (A8 Pu))<|Aa (.bool ((a.length:Int) != (b.length:Int))) J (Ba J J J)<|Z<|Co J (fun hc=>?_) (fun hc=>?_)
 ·refine Y<|O<|Aa (.bool false) J Aj<|Z<|B8 (a:=false) (vs:=[(.bool false)]) Tryz.func68 hI J (.same _)
 refine A0<|Y<|Y<|O<|Aa (.I 0) J Aj<|Z<|A3 ?_
 refine Db [(0,(.sl 2 (List.map C0 a))),(1,(.sl 2 (List.map C0 b))),(5,(.I 0))] (FI J)<|Ga (P:=Tryz.prog) a (fun j a1=>fun _=>Nr b j a1) ((Dv (fun _=>.ok true) (fun r=>.ok r)):(Unit ⊕ Bool)→R Bool) (fun j=>fun _=>fun(fr:Nat→AV) (h:Af)=>fr=A2 [(0,(.sl 2 (List.map C0 a))),(1,(.sl 2 (List.map C0 b))),(5,(.I (j:Int)))]∧h=hp h0 ids []) () ?_ ?_ ?_
 ·exact⟨J,J⟩
 ·rintro j a1 ha1 W hW _ fr h ⟨rfl,rfl⟩
  refine Al (m':=Nr b j a1) J (Al (Nr.eq_1 _ _ _) ?_)
  refine Y<|Y<|O<|Ac 2 [] [(12,(.sl 2 (List.map C0 a))),(11,(.I (j:Int)))] ?_
  refine Aa (.I (a.length:Int)) J (Ay (A8 Pu))<|Aa (.bool (decide ((j:Int)<(a.length:Int)))) J (Ba J J J)<|Z<|Dn (t:=0) (L:=a) J fun hlim=>Ch J (Int.ofNat_lt.2 (Av ha1))<|A0<|Y ?_
  refine A3<|Y<|C6 Fl [[],[],[0,1],[0,1,2],[],[],[4,5],[4,5,6],[0,1,2,3,4,5,6,7]] [(false,0),(false,1),(false,2),(false,3),(false,4),(false,5),(false,6),(false,7),(false,8)] (by kernel_rfl)<|Ag (.sl 2 (List.map C0 a)) J J Ae<|Ag (.I (j:Int)) J J Ae<|Ag (.cp (C0 a1) 0) J J (Bt (Ct Pu O1 J ha1))<|Ag (.agg (C0 a1)) J J (As (Dh O1 J)) ?_
  refine Ag (.sl 2 (List.map C0 b)) J J Ae<|Ag (.I (j:Int)) J J Ae<|Aab fun a2 hz hx1=>Ag (.cp (C0 a2) 0) J J (Bt (Eg Pu O1 J hz hx1))<|Ag (.agg (C0 a2)) J J (As (Dh O1 J))<|Ag (.bool (!((a1.From==a2.From)&&(a1.To==a2.To)))) J J (Ba (Axc J J) J Awo)<|Cu ?_
  refine Fj J (fun hc1=>?_) (fun hc1=>?_)
  ·refine A0<|Bf<|O<|Ac 3 [] [(5,(.I (IntKind.wrap .i64 ((j:Int)+1))))] ?_
   refine Z<|Bp (G4 (hW () _ _ ⟨J,J⟩)) (.cons J (.cons J (.cons (C3 (Av ha1) hlim) .nil)))
  refine Y<|O<|Aa (.bool false) J Aj<|Z<|G2<|Jg<|B8 (a:=false) (vs:=[(.bool false)]) Tryz.func68 hI J (.same _)
 rintro _ fr h ⟨rfl,rfl⟩
 refine Al (Hz _ _ _)<|Y<|Y<|O<|Ac 2 [] [(12,(.sl 2 (List.map C0 a))),(11,(.I (a.length:Int)))] ?_
 refine Aa (.I (a.length:Int)) J (Ay (A8 Pu))<|Aa (.bool (decide ((a.length:Int)<(a.length:Int)))) J (Ba J J J)<|Z<|Cg J (Int.lt_irrefl _)<|Cl J<|Y<|O ?_
 refine Aa (.bool true) J Aj<|Z<|B8 (a:=true) (vs:=[(.bool true)]) Tryz.func68 hI J (.same _)
theorem Tg (a:List An)(b:List An):CP Tryz.prog 69 [(.sl 1 (List.map rS a)),(.sl 1 (List.map rS b))] (Me a b) (fun(x:Bool)=>(AV.bool x)):=by
 refine C8 (n:=26) 0 Tryz.func69 J (by decide) J J fun h0 ids hI=>Bk (Al (Me.eq_1 _ _) ?_)
 refine Y<|O<|Aa (.bool false) J Aj<|Z<|Y<|Y<|O ?_
 refine Aa (.sl 1 (List.map rS a)) J Ae<|Aa (.I (a.length:Int)) J (Ay (A8 Dg))<|Aa (.sl 1 (List.map rS b)) J Ae<|Aa (.I (b.length:Int)) J (Ay (A8 Dg))<|Aa (.bool ((a.length:Int) != (b.length:Int))) J (Ba J J J)<|Z<|Co J (fun hc=>?_) (fun hc=>?_)
 ·refine Y<|O<|Aa (.bool false) J Aj<|Z<|B8 (a:=false) (vs:=[(.bool false)]) Tryz.func69 hI J (.same _)
 refine A0<|Y<|Y<|O<|Aa (.I 0) J Aj<|Z<|A3 ?_
 refine Db [(0,(.sl 1 (List.map rS a))),(1,(.sl 1 (List.map rS b))),(5,(.I 0))] (FI J)<|Ga (P:=Tryz.prog) a (fun j a1=>fun _=>Nx b j a1) ((Dv (fun _=>.ok true) (fun r=>.ok r)):(Unit ⊕ Bool)→R Bool) (fun j=>fun _=>fun(fr:Nat→AV) (h:Af)=>fr=A2 [(0,(.sl 1 (List.map rS a))),(1,(.sl 1 (List.map rS b))),(5,(.I (j:Int)))]∧h=hp h0 ids []) () ?_ ?_ ?_
 ·exact⟨J,J⟩
 ·rintro j a1 ha1 W hW _ fr h ⟨rfl,rfl⟩
  refine Al (m':=Nx b j a1) J (Al (Nx.eq_1 _ _ _) ?_)
  refine Y<|Y<|O<|Ac 2 [] [(12,(.sl 1 (List.map rS a))),(11,(.I (j:Int)))] ?_
  refine Aa (.I (a.length:Int)) J (Ay (A8 Dg))<|Aa (.bool (decide ((j:Int)<(a.length:Int)))) J (Ba J J J)<|Z<|Dn (t:=0) (L:=a) J fun hlim=>Ch J (Int.ofNat_lt.2 (Av ha1))<|A0<|Y ?_
  refine A3<|Y<|C6 Fl [[],[],[0,1],[0,1,2],[],[],[4,5],[4,5,6],[0,1,2,3,4,5,6,7]] [(false,0),(false,1),(false,2),(false,3),(false,4),(false,5),(false,6),(false,7),(false,8)] (by kernel_rfl)<|Ag (.sl 1 (List.map rS a)) J J Ae<|Ag (.I (j:Int)) J J Ae<|Ag (.cp [(.str a1)] 0) J J (Bt (Ct Dg Cf J ha1))<|Ag (.str a1) J J (As (Dh Cf J)) ?_
  refine Ag (.sl 1 (List.map rS b)) J J Ae<|Ag (.I (j:Int)) J J Ae<|Aab fun a2 hz hx1=>Ag (.cp [(.str a2)] 0) J J (Bt (Eg Dg Cf J hz hx1))<|Ag (.str a2) J J (As (Dh Cf J))<|Ag (.bool (!(a1==a2))) J J (Ba J J J)<|Cu ?_
  refine Fj J (fun hc1=>?_) (fun hc1=>?_)
  ·refine A0<|Bf<|O<|Ac 3 [] [(5,(.I (IntKind.wrap .i64 ((j:Int)+1))))] ?_
   refine Z<|Bp (G4 (hW () _ _ ⟨J,J⟩)) (.cons J (.cons J (.cons (C3 (Av ha1) hlim) .nil)))
  refine Y<|O<|Aa (.bool false) J Aj<|Z<|G2<|Jg<|B8 (a:=false) (vs:=[(.bool false)]) Tryz.func69 hI J (.same _)
 rintro _ fr h ⟨rfl,rfl⟩
 refine Al (Hz _ _ _)<|Y<|Y<|O<|Ac 2 [] [(12,(.sl 1 (List.map rS a))),(11,(.I (a.length:Int)))] ?_
 refine Aa (.I (a.length:Int)) J (Ay (A8 Dg))<|Aa (.bool (decide ((a.length:Int)<(a.length:Int)))) J (Ba J J J)<|Z<|Cg J (Int.lt_irrefl _)<|Cl J<|Y<|O ?_
 refine Aa (.bool true) J Aj<|Z<|B8 (a:=true) (vs:=[(.bool true)]) Tryz.func69 hI J (.same _)
end Go.Am

/- Written by shrink.py from texts of ours: comments struck, what is not reached left out, names short. -/
import Derived.Test.YtjidhdlbojmlfaaGreatDoorU4
import Derived.Shelf.Strings.Builder1
import Derived.Shelf.Strings.Builder2
import Derived.Shelf.Strings.OnBuilder
import Derived.Shelf.Small.Strs
import Derived.Shelf.Strings.Builder2Cap
import Derived.Shelf.Strconv.Atoi
import Derived.Shelf.Strconv.Itoa0
import Derived.Shelf.Strconv.Itoa1
import Derived.Shelf.LaysM
import Derived.Shelf.Strconv.Itoa2
import Derived.Shelf.Strconv.Itoa3
import Derived.Shelf.Strconv.AtoiErrFast
import Derived.Shelf.Strconv.ParseIntEmpty
import Derived.Shelf.Strconv.AtoiFail
import Derived.Shelf.Strconv.Clone
import Derived.Shelf.Strconv.SyntaxError
import Derived.Shelf.LaysC
import Derived.Shelf.Strconv.ToError
import Derived.Shelf.Strconv.Lower
import Derived.Shelf.Strconv.ParseUint10
import Derived.Shelf.Strconv.ParseUint10Empty
import Derived.Shelf.Strconv.ParseUint10Any
import Derived.Shelf.Strconv.ParseInt10
import Derived.Shelf.Strconv.AtoiLong
import Derived.Shelf.Strconv.AtoiInnerAll
import Derived.Shelf.Strconv.RangeError
import Derived.Shelf.Strconv.ToErrorRange
import Derived.Shelf.Strconv.AtoiAll
import Derived.Shelf.Strconv.ErrVarAll
import Derived.Shelf.Strings.Search1
import Derived.Test.YtjidhdlbojmlfaaGreatDoorProg
namespace Go.Am
open Go
set_option linter.unusedVariables false
set_option linter.unusedSimpArgs false
section
variable {E:Int} {L:List Token} (hL:L.length≤65536)
include hL
theorem Aqx {n:Nat}(hn:n<L.length){A:Airspace}(hA:Za A):P2 E L Xu Prod.fst (Ez A (L.drop n)) (Ca (Dt L n E) A.Volumes A.Sectors A.Configs A.Segments A.Routes A.Airports A.Classes A.Rules):=by
 obtain⟨b1,b2,b3,b4,b5,b6,b7,b8⟩:=hA
 rcases Qw L (Nat.le_of_lt hn) with⟨_,h2⟩ | ⟨t,h1,_,h3⟩
 ·omega
 have other:Pp t.Kind t.Text = -1→Ez A (t::L.drop (n+1))=.error (t::L.drop (n+1),80)→P2 E L Xu Prod.fst (Ez A (t::L.drop (n+1))) (Ca (Dt L n E) A.Volumes A.Sectors A.Configs A.Segments A.Routes A.Airports A.Classes A.Rules):=fun e1 e2=>by
  rw [e2]
  unfold Ca
  obtain⟨q,f1,f2,f3⟩:=Jk (E:=E) (Nat.le_of_lt hn) 80
  rw [Lt (Nat.le_of_lt hn) h1,R.ok_bind,e1,if_pos (by decide),f1]
  rw [h1] at f3
  exact⟨by decide,_,rfl,f2,f3⟩
 rw [h1]
 by_cases hk:t.Kind=1
 ·by_cases w1:t.Text=[118,111,108,117,109,101]
  ·exact Amj hL hn h1 h3 hk w1 A b1
  by_cases w2:t.Text=[115,101,99,116,111,114]
  ·exact Al0 hL hn h1 h3 hk w2 A b2
  by_cases w3:t.Text=[99,111,110,102,105,103]
  ·exact Amh hL hn h1 h3 hk w3 A b3
  by_cases w4:t.Text=[115,101,103,109,101,110,116]
  ·exact Amb hL hn h1 h3 hk w4 A b4
  by_cases w5:t.Text=[114,111,117,116,101]
  ·exact Alu hL hn h1 h3 hk w5 A b5
  by_cases w6:t.Text=[97,105,114,112,111,114,116]
  ·exact Alq hL hn h1 h3 hk w6 A b6
  by_cases w7:t.Text=[99,108,97,115,115]
  ·exact Al2 hL hn h1 h3 hk w7 A b7
  by_cases w8:t.Text=[99,117,114,102,101,119]
  ·exact Amd hL hn h1 h3 hk w8 A b8
  by_cases w9:t.Text=[101,120,101,109,112,116]
  ·exact Amf hL hn h1 h3 hk w9 A b8
  by_cases w10:t.Text=[119,101,105,103,104,116]
  ·exact Aly hL hn h1 h3 hk w10 A b8
  by_cases w11:t.Text=[108,111,110,103,101,115,116]
  ·exact Alv hL hn h1 h3 hk w11 A b8
  have f : ∀ {w:Ay},t.Text≠w→(t.Text==w)=false:=fun h=>by simpa using h
  refine other ?_ ?_
  ·unfold Pp
   simp only [hk,f w1,f w2,f w3,f w4,f w5,f w6,f w7,f w8,f w9,f w10,f w11,Bool.or_false,Bool.false_eq_true,if_false]
   rfl
  ·simp only [Ez,Z7,hk,f w1,f w2,f w3,f w4,f w5,f w6,f w7,f w8,f w9,f w10,f w11,Bool.false_eq_true,if_false]
   rfl
 ·have e:(t.Kind==1)=false:=by simpa using hk
  refine other ?_ ?_
  ·unfold Pp; rw [if_neg (by rw [e]; decide)]
  ·simp only [Ez,e,Bool.false_eq_true,if_false]
def Alr (q:T69)(A:Airspace):=(q.L,q.N,q.End,q.E,q.At,A.Volumes,A.Sectors,A.Configs,A.Segments,A.Routes,A.Airports,A.Classes,A.Rules)
theorem Ake : ∀ (m n:Nat) (A:Airspace),L.length - n≤m→n≤L.length→Za A →
  match Aa1 m A (L.drop n) with
   | .ok B=>loop (Aat fun vL vN vEnd vE vAt l l1 l2 l3 l4 l5 l6 l7=>Eu vL vN vEnd vE vAt l l1 l2 l3 l4 l5 l6 l7) (Alr (Dt L n E) A)=.ok (Xu B (Dt L L.length E))
   | .error (q,e)=>e≠0 ∧ ∃ b,loop (Aat fun vL vN vEnd vE vAt l l1 l2 l3 l4 l5 l6 l7=>Eu vL vN vEnd vE vAt l l1 l2 l3 l4 l5 l6 l7) (Alr (Dt L n E) A)=.ok b∧b.1.E=e∧b.1.At=Yf E q:=by
 intro m
 induction m with
 | zero=>
  intro n A hm hn hA
  have e:n=L.length:=by omega
  subst e
  rw [List.drop_length]
  show loop _ _=_
  rw [Jz]
  show(Eu L (L.length:Int) E 0 0 A.Volumes A.Sectors A.Configs A.Segments A.Routes A.Airports A.Classes A.Rules).bind _=_
  unfold Eu
  rw [if_neg (by simp)]; rfl
 | succ m ih=>
  intro n A hm hn hA
  rcases Nat.lt_or_eq_of_le hn with hlt | e
  ·have hd:=Aqx hL (E:=E) hlt hA
   have hb:(Aat fun vL vN vEnd vE vAt l l1 l2 l3 l4 l5 l6 l7=>Eu vL vN vEnd vE vAt l l1 l2 l3 l4 l5 l6 l7) (Alr (Dt L n E) A)=(Ca (Dt L n E) A.Volumes A.Sectors A.Configs A.Segments A.Routes A.Airports A.Classes A.Rules).bind fun r1=>.ok (.inl (r1.1.L,r1.1.N,r1.1.End,r1.1.E,r1.1.At,r1.2.1,r1.2.2.1,r1.2.2.2.1,r1.2.2.2.2.1,r1.2.2.2.2.2.1,r1.2.2.2.2.2.2.1,r1.2.2.2.2.2.2.2.1,r1.2.2.2.2.2.2.2.2)):=by
    show Eu L (n:Int) E 0 0 A.Volumes A.Sectors A.Configs A.Segments A.Routes A.Airports A.Classes A.Rules=_
    unfold Eu
    rw [if_pos (by simp [hlt])]; rfl
   rw [Jz,hb]
   rcases Qw L hn with⟨_,h2⟩ | ⟨t,h1,_,h3⟩
   ·omega
   rw [h1] at hd ⊢
   rw [Aa1]
   cases hp:Ez A (t::L.drop (n+1)) with
   | error x=>
    obtain⟨q,e⟩:=x
    rw [hp] at hd
    obtain⟨h4,b,h5,h6,h7⟩:=hd
    simp only
    refine⟨h4,b,?_,h6,h7⟩
    rw [h5]
    simp only [R.ok_bind]
    rw [Jz]
    show(Eu b.1.L b.1.N b.1.End b.1.E b.1.At b.2.1 b.2.2.1 b.2.2.2.1 b.2.2.2.2.1 b.2.2.2.2.2.1 b.2.2.2.2.2.2.1 b.2.2.2.2.2.2.2.1 b.2.2.2.2.2.2.2.2).bind _=_
    unfold Eu
    rw [if_neg (by rw [h6]; simp [h4])]; rfl
   | ok x=>
    obtain⟨B,q⟩:=x
    rw [hp] at hd
    obtain⟨k,hk,hq,h5⟩:=hd
    obtain⟨hB,hs⟩:=Af7 hA hp
    subst hq
    rw [h5]
    simp only [R.ok_bind]
    have hl:=hs.length_le
    rw [List.length_drop,List.length_drop] at hl
    exact ih k B (by omega) hk hB
  ·subst e
   rw [List.drop_length]
   show loop _ _=_
   rw [Jz]
   show(Eu L (L.length:Int) E 0 0 A.Volumes A.Sectors A.Configs A.Segments A.Routes A.Airports A.Classes A.Rules).bind _=_
   unfold Eu
   rw [if_neg (by simp)]; rfl
end
theorem Anl:Za noA:=⟨by decide,by decide,by decide,by decide,by decide,by decide,by decide,by decide⟩
theorem Anc {s:Ay}(hl:(Gm s).1.length≤65536):Q5 s=.ok (Ua s):=by
 unfold Q5 Ua
 rw [Apz,R.ok_bind]
 by_cases h:(Gm s).2.2=0
 ·rw [if_pos h,if_neg (by simp [h])]
  have:=Ake hl (E:=(s.length:Int)) (Gm s).1.length 0 noA (by omega) (Nat.zero_le _) Anl
  rw [List.drop_zero] at this
  unfold Agp
  cases hr:Aa1 (Gm s).1.length noA (Gm s).1 with
  | ok B=>
   rw [hr] at this
   have e:loop (Aat fun vL vN vEnd vE vAt l l1 l2 l3 l4 l5 l6 l7=>Eu vL vN vEnd vE vAt l l1 l2 l3 l4 l5 l6 l7) ((Gm s).1,0,(s.length:Int),0,0,[],[],[],[],[],[],[],[])=_:=this
   rw [e]; rfl
  | error x=>
   obtain⟨q,e⟩:=x
   rw [hr] at this
   obtain⟨h4,b,h5,h6,h7⟩:=this
   have e:loop (Aat fun vL vN vEnd vE vAt l l1 l2 l3 l4 l5 l6 l7=>Eu vL vN vEnd vE vAt l l1 l2 l3 l4 l5 l6 l7) ((Gm s).1,0,(s.length:Int),0,0,[],[],[],[],[],[],[],[])=_:=h5
   rw [e]
   show Oh b.1 b.2.1 b.2.2.1 b.2.2.2.1 b.2.2.2.2.1 b.2.2.2.2.2.1 b.2.2.2.2.2.2.1 b.2.2.2.2.2.2.2.1 b.2.2.2.2.2.2.2.2=_
   unfold Oh
   rw [if_pos (by rw [h6]; simpa using h4),h6,h7]; rfl
 ·rw [if_neg h,if_pos (by simpa using h)]; rfl
end Go.Am
namespace Go.Am
open Go
set_option linter.unusedVariables false
set_option linter.unusedSimpArgs false
theorem Aqh {c:UInt8}{s:Ay}{t:Token}{k:Nat}(h:tk c s=some (some t,k)):0≤t.N:=by
 unfold tk at h
 repeat' split at h
 all_goals first
  | (simp only [Option.some.injEq,Prod.mk.injEq,reduceCtorEq,false_and] at h; done)
  | (simp only [Option.some.injEq,Prod.mk.injEq] at h; obtain⟨rfl,_⟩:=h; simp; done)
  | (exfalso; exact nomatch h)
theorem Ae4 : ∀ (n:Nat) (s:Ay) (p:Nat) (l:List Token),s.length≤n→Ri s p=.ok l→l.length≤s.length ∧ ∀ t ∈ l,0≤t.N
 | n,[],p,l,_,h=>by rw [Z3] at h; cases h; exact⟨Nat.le_refl _,fun _ h=>nomatch h⟩
 | 0,_::_,_,_,hn,_=>by simp at hn
 | n+1,c::s,p,l,hn,h=>by
  rw [Xy] at h
  cases ht:tk c s with
  | none=>rw [ht] at h; cases h
  | some x=>
   obtain⟨o,k⟩:=x
   rw [ht] at h
   simp only at h
   cases hr:Ri (s.drop k) (p+1+k) with
   | wrong e=>rw [hr] at h; cases h
   | ok l'=>
    rw [hr] at h
    simp only [List.length_cons] at hn
    obtain⟨h1,h2⟩:=Ae4 n (s.drop k) (p+1+k) l' (by rw [List.length_drop]; omega) hr
    cases h
    rw [List.length_drop] at h1
    cases o with
    | none=>exact⟨by simp; omega,h2⟩
    | some t=>
     refine⟨by simp; omega,fun u hu=>?_⟩
     rcases List.mem_cons.1 hu with rfl | hu
     ·show 0≤t.N
      exact Aqh ht
     ·exact h2 u hu
theorem Abz (s:Ay):(Gm s).1.length≤65536∧(Gm s).1.length≤s.length ∧ ∀ t ∈ (Gm s).1,0≤t.N:=by
 unfold Gm
 split
 ·cases h:Ri s 0 with
  | wrong e=>exact⟨Nat.zero_le _,Nat.zero_le _,fun _ h=>nomatch h⟩
  | ok l=>
   obtain⟨h1,h2⟩:=Ae4 _ s 0 l (Nat.le_refl _) h
   exact⟨Nat.le_trans h1 ‹_›,h1,h2⟩
 ·exact⟨Nat.zero_le _,Nat.zero_le _,fun _ h=>nomatch h⟩
theorem Agz (s:Ay):J5 s=.ok (Ua s):=Al5 (Abz s).2.2
theorem Am8 (s:Ay):Q5 s=.ok (Ua s):=Anc (Abz s).1
theorem Kr {α β:Type}(body:Nat→α→Unit→R (Unit ⊕ β))(L:List α)(h : ∀ j a,L[j]? = some a→body j a ()=.ok (.inl ())) : ∀ (l:List α) (k:Nat),L.drop k=l→each body k l ()=.ok (.inl ())
 | [],k,_=>rfl
 | a::l,k,e=>by
  rw [each,h k a (by have:=congrArg (·[0]?) e; simpa using this),R.ok_bind]
  exact Kr body L h l (k+1) (by have:=congrArg List.tail e; simpa using this)
theorem Qy {α:Type}{L:List α}{j:Nat}{a:α}(h:L[j]? = some a):C0 L (j:Int)=.ok a:=by
 unfold C0
 rw [if_pos (by omega)]
 simp only [Int.toNat_natCast,h]
theorem Adp (l:List Span):Nm l l=.ok true:=by
 unfold Nm
 rw [if_neg (by simp),Kr _ l (fun j a h=>by simp only [Nd,Qy h,R.ok_bind,beq_self_eq_true,Bool.and_self,if_true]) l 0 rfl]; rfl
theorem Z5 (l:List Ay):Lp l l=.ok true:=by
 unfold Lp
 rw [if_neg (by simp),Kr _ l (fun j a h=>by simp only [M6,Qy h,R.ok_bind,beq_self_eq_true,if_true]) l 0 rfl]; rfl
theorem Aak (l:List Int):Ht l l=.ok true:=by
 unfold Ht
 rw [if_neg (by simp),Kr _ l (fun j a h=>by simp only [N2,Qy h,R.ok_bind,bne_self_eq_false,Bool.false_eq_true,if_false]) l 0 rfl]; rfl
theorem Ahx (a:Airspace):Qp a a=.ok true:=by
 unfold Qp
 rw [if_neg (by simp)]
 rw [Kr _ a.Volumes (fun j x h=>by simp only [Q0,Qy h,R.ok_bind,beq_self_eq_true,Bool.not_true,Bool.false_eq_true,if_false,Adp,Q2]) a.Volumes 0 rfl]
 simp only [R.ok_bind,Dz]
 rw [Kr _ a.Sectors (fun j x h=>by simp only [Ot,Qy h,R.ok_bind,beq_self_eq_true,bne_self_eq_false,Bool.or_self,Bool.not_true,Bool.false_eq_true,if_false,Z5,Aak]) a.Sectors 0 rfl]
 simp only [R.ok_bind,Dz]
 rw [Kr _ a.Configs (fun j x h=>by simp only [Nu,Qy h,R.ok_bind,beq_self_eq_true,bne_self_eq_false,Bool.or_self,Bool.not_true,Bool.false_eq_true,if_false,Z5,Aak]) a.Configs 0 rfl]
 simp only [R.ok_bind,Dz]
 rw [Kr _ a.Segments (fun j x h=>by simp only [Ls,Qy h,R.ok_bind,beq_self_eq_true,bne_self_eq_false,Bool.or_self,Bool.not_true,Bool.false_eq_true,if_false,Adp]) a.Segments 0 rfl]
 simp only [R.ok_bind,Dz]
 rw [Kr _ a.Routes (fun j x h=>by simp only [J9,Qy h,R.ok_bind,beq_self_eq_true,bne_self_eq_false,Bool.or_self,Bool.not_true,Bool.false_eq_true,if_false,Z5,Aak]) a.Routes 0 rfl]
 simp only [R.ok_bind,Dz]
 rw [Kr _ a.Airports (fun j x h=>by
  simp only [Iq,Qy h,R.ok_bind,beq_self_eq_true,bne_self_eq_false,Bool.or_self,Bool.not_true,Bool.false_eq_true,if_false]
  rw [Kr _ x.Modes (fun j y h=>by simp only [Qz,Qy h,R.ok_bind,beq_self_eq_true,Bool.and_self,if_true]) x.Modes 0 rfl]; rfl) a.Airports 0 rfl]
 simp only [R.ok_bind,Dz]
 rw [Kr _ a.Classes (fun j x h=>by simp only [Hs,Qy h,R.ok_bind,beq_self_eq_true,Bool.and_self,if_true]) a.Classes 0 rfl]
 simp only [R.ok_bind,Dz]
 rw [Kr _ a.Rules (fun j x h=>by simp only [G1,Qy h,R.ok_bind,beq_self_eq_true,Bool.and_self,if_true]) a.Rules 0 rfl]
 simp only [R.ok_bind,Dz]
set_option maxRecDepth 100000 in
theorem Ale : Tv = .ok true := by
 unfold Tv
 simp only [Agz, R.ok_bind]
 decide +kernel
theorem law_SyntaxParseSpec:Md:=by
 intro a0 _ _
 unfold Nq
 rw [Ale,R.ok_bind,if_pos rfl]
 split
 ·rfl
 ·rw [Agz,Am8]
  simp only [R.ok_bind,Ahx,beq_self_eq_true,Bool.and_self]
end Go.Am
namespace Go.Proofs
open Go.Shelf
def Tryz.lays156_ren:Go.Shelf.Ren:=⟨fun | 156=>61 | 165=>110 | 166=>111 | 169=>112 | 240=>121 | 241=>122 | 276=>134 | 277=>135 | n=>n,fun | 31=>55 | 9=>9 | 3=>3 | 4=>4 | 0=>0 | 20=>20 | 72=>176 | 76=>170 | 70=>173 | 37=>174 | 75=>169 | 127=>184 | 164=>198 | 5=>5 | 80=>178 | n=>n,fun | n=>n⟩
theorem Tryz.lays156:Go.Proofs.Lays.n156 Tryz.prog Tryz.lays156_ren:={
 mixed:=by kernel_rfl
 f156:=Tryz.func61.trans (congrArg some (by kernel_rfl))
 f165:=Tryz.func110.trans (congrArg some (by kernel_rfl))
 f166:=Tryz.func111.trans (congrArg some (by kernel_rfl))
 f169:=Tryz.func112.trans (congrArg some (by kernel_rfl))
 f240:=Tryz.func121.trans (congrArg some (by kernel_rfl))
 f241:=Tryz.func122.trans (congrArg some (by kernel_rfl))
 f276:=Tryz.func134.trans (congrArg some (by kernel_rfl))
 f277:=Tryz.func135.trans (congrArg some (by kernel_rfl))
 t0:=Tryz.underlying0
 a0:=Tryz.isAgg0
 z0:=Tryz.sizeOf0
 v0:=Tryz.zeroValue0
 t3:=Tryz.underlying3
 a3:=Tryz.isAgg3
 z3:=Tryz.sizeOf3
 v3:=Tryz.zeroValue3
 t4:=Tryz.underlying4
 a4:=Tryz.isAgg4
 z4:=Tryz.sizeOf4
 v4:=Tryz.zeroValue4
 t9:=Tryz.underlying9
 a9:=Tryz.isAgg9
 z9:=Tryz.sizeOf9
 v9:=Tryz.zeroValue9
 t20:=Tryz.underlying20
 a20:=Tryz.isAgg20
 z20:=Tryz.sizeOf20
 v20:=Tryz.zeroValue20
 t31:=Tryz.underlying55
 a31:=Tryz.isAgg55
 z31:=Tryz.sizeOf55
 v31:=Tryz.zeroValue55
 t37:=Tryz.underlying174
 a37:=Tryz.isAgg174
 z37:=Tryz.sizeOf174
 v37:=Tryz.zeroValue174
 t70:=Tryz.underlying173
 a70:=Tryz.isAgg173
 z70:=Tryz.sizeOf173
 v70:=Tryz.zeroValue173
 t72:=Tryz.underlying176
 a72:=Tryz.isAgg176
 z72:=Tryz.sizeOf176
 v72:=Tryz.zeroValue176
 t75:=Tryz.underlying169
 a75:=Tryz.isAgg169
 z75:=Tryz.sizeOf169
 v75:=Tryz.zeroValue169
 t76:=Tryz.underlying170
 a76:=Tryz.isAgg170
 z76:=Tryz.sizeOf170
 v76:=Tryz.zeroValue170
 t127:=Tryz.underlying184
 a127:=Tryz.isAgg184
 z127:=Tryz.sizeOf184
 v127:=Tryz.zeroValue184
 t164:=Tryz.underlying198
 a164:=Tryz.isAgg198
 z164:=Tryz.sizeOf198
 v164:=Tryz.zeroValue198 }
theorem Tryz.Builder_Extra_156:Builder.Extra Tryz.prog Tryz.lays156_ren:={
 sizeBuilder:=by kernel_rfl
 liesBuilder:=by kernel_rfl
 t5:=Tryz.underlying5
 a5:=Tryz.isAgg5
 z5:=Tryz.sizeOf5
 v5:=Tryz.zeroValue5
 infoByte:=by kernel_rfl
 cellsByte:=by kernel_rfl
 sizeByte:=by kernel_rfl
 neB5:=by decide }
open Go.RowKit in
theorem Tryz.strings_Join_none (a : Option Addr) (c : Nat) (sep : ByteArray) (w : World) :
  Calls Tryz.prog 61 #[.slice a 0 c, .string sep] w fun e w' => e = .returned (.string ⟨#[]⟩) ∧ w' = w := Any.strings_Join_none Tryz.lays156 Tryz.Builder_Extra_156 a c sep w
open Go.RowKit in
theorem Tryz.strings_Join (bk o c : Nat) (xs : List ByteArray) (sep : ByteArray) (w : World) (hcells : ∀ (j : Nat) x, xs[j]? = some x → w.cell? ⟨bk, o + j, none⟩ = some (.string x)) (hbk : bk < w.heap.size) (hN : xs.length ≤ 140737488355328) (hcap : xs.length ≤ c) (hlen : (Lib.join (xs.map (·.data.toList)) sep.data.toList).length ≤ 140737488355328) :
  Calls Tryz.prog 61 #[.slice (some ⟨bk, o, none⟩) xs.length c, .string sep] w fun e w' => e = .returned (.string ⟨(Lib.join (xs.map (·.data.toList)) sep.data.toList).toArray⟩) ∧ Below w.heap.size w w' := Any.strings_Join Tryz.lays156 Tryz.Builder_Extra_156 bk o c xs sep w hcells hbk hN hcap hlen
def Tryz.lays137_ren:Go.Shelf.Ren:=⟨fun | 137=>108 | 217=>119 | 266=>129 | n=>n,fun | 9=>9 | 5=>5 | 3=>3 | n=>n,fun | n=>n⟩
theorem Tryz.lays137:Go.Proofs.Lays.n137 Tryz.prog Tryz.lays137_ren:={
 mixed:=by kernel_rfl
 f137:=Tryz.func108.trans (congrArg some (by kernel_rfl))
 f217:=Tryz.func119.trans (congrArg some (by kernel_rfl))
 f266:=Tryz.func129.trans (congrArg some (by kernel_rfl))
 t3:=Tryz.underlying3
 a3:=Tryz.isAgg3
 z3:=Tryz.sizeOf3
 v3:=Tryz.zeroValue3
 t5:=Tryz.underlying5
 a5:=Tryz.isAgg5
 z5:=Tryz.sizeOf5
 v5:=Tryz.zeroValue5
 t9:=Tryz.underlying9
 a9:=Tryz.isAgg9
 z9:=Tryz.sizeOf9
 v9:=Tryz.zeroValue9 }
open Go.RowKit in
theorem Tryz.strings_IndexByte (s : ByteArray) (c : Int) (w : World) :
  Calls Tryz.prog 108 #[.string s, .int .u8 c] w fun e w' => e = .returned (.int .i64 (Lib.indexByte s.data.toList c.toNat.toUInt8)) ∧ w' = w := Any.strings_IndexByte Tryz.lays137 s c w
def Tryz.laysM171_ren:Go.Shelf.Ren:=⟨fun | 171=>60 | 243=>109 | 246=>120 | 283=>130 | 284=>131 | 285=>132 | 286=>133 | 129=>140 | 317=>139 | 318=>141 | 319=>142 | 320=>143 | 337=>146 | 338=>147 | n=>n,fun | 3=>3 | 9=>9 | 2=>2 | 4=>4 | 171=>192 | 0=>0 | 53=>193 | 37=>174 | 5=>5 | 173=>196 | 212=>210 | 51=>211 | 20=>20 | 213=>212 | 46=>203 | 232=>220 | 233=>221 | n=>n,fun | 17=>4 | 18=>5 | 19=>6 | n=>n⟩
theorem Tryz.laysM171:Go.Proofs.LaysM.n171 Tryz.prog Tryz.laysM171_ren:={
 mixed:=by kernel_rfl
 f129:=Tryz.func140.trans (congrArg some (by kernel_rfl))
 f171:=Tryz.func60.trans (congrArg some (by kernel_rfl))
 f243:=Tryz.func109.trans (congrArg some (by kernel_rfl))
 f246:=Tryz.func120.trans (congrArg some (by kernel_rfl))
 f283:=Tryz.func130.trans (congrArg some (by kernel_rfl))
 f284:=Tryz.func131.trans (congrArg some (by kernel_rfl))
 f285:=Tryz.func132.trans (congrArg some (by kernel_rfl))
 f286:=Tryz.func133.trans (congrArg some (by kernel_rfl))
 f317:=Tryz.func139.trans (congrArg some (by kernel_rfl))
 f318:=Tryz.func141.trans (congrArg some (by kernel_rfl))
 f319:=Tryz.func142.trans (congrArg some (by kernel_rfl))
 f320:=Tryz.func143.trans (congrArg some (by kernel_rfl))
 f337:=Tryz.func146.trans (congrArg some (by kernel_rfl))
 f338:=Tryz.func147.trans (congrArg some (by kernel_rfl))
 t0:=Tryz.underlying0
 a0:=Tryz.isAgg0
 z0:=Tryz.sizeOf0
 v0:=Tryz.zeroValue0
 t2:=Tryz.underlying2
 a2:=Tryz.isAgg2
 z2:=Tryz.sizeOf2
 v2:=Tryz.zeroValue2
 t3:=Tryz.underlying3
 a3:=Tryz.isAgg3
 z3:=Tryz.sizeOf3
 v3:=Tryz.zeroValue3
 t4:=Tryz.underlying4
 a4:=Tryz.isAgg4
 z4:=Tryz.sizeOf4
 v4:=Tryz.zeroValue4
 t5:=Tryz.underlying5
 a5:=Tryz.isAgg5
 z5:=Tryz.sizeOf5
 v5:=Tryz.zeroValue5
 t9:=Tryz.underlying9
 a9:=Tryz.isAgg9
 z9:=Tryz.sizeOf9
 v9:=Tryz.zeroValue9
 t20:=Tryz.underlying20
 a20:=Tryz.isAgg20
 z20:=Tryz.sizeOf20
 v20:=Tryz.zeroValue20
 t37:=Tryz.underlying174
 a37:=Tryz.isAgg174
 z37:=Tryz.sizeOf174
 v37:=Tryz.zeroValue174
 t46:=Tryz.underlying203
 a46:=Tryz.isAgg203
 z46:=Tryz.sizeOf203
 v46:=Tryz.zeroValue203
 t51:=Tryz.underlying211
 a51:=Tryz.isAgg211
 z51:=Tryz.sizeOf211
 v51:=Tryz.zeroValue211
 t53:=Tryz.underlying193
 a53:=Tryz.isAgg193
 z53:=Tryz.sizeOf193
 v53:=Tryz.zeroValue193
 t171:=Tryz.underlying192
 a171:=Tryz.isAgg192
 z171:=Tryz.sizeOf192
 v171:=Tryz.zeroValue192
 t173:=Tryz.underlying196
 a173:=Tryz.isAgg196
 z173:=Tryz.sizeOf196
 v173:=Tryz.zeroValue196
 t212:=Tryz.underlying210
 a212:=Tryz.isAgg210
 z212:=Tryz.sizeOf210
 v212:=Tryz.zeroValue210
 t213:=Tryz.underlying212
 a213:=Tryz.isAgg212
 z213:=Tryz.sizeOf212
 t232:=Tryz.underlying220
 a232:=Tryz.isAgg220
 z232:=Tryz.sizeOf220
 v232:=Tryz.zeroValue220
 t233:=Tryz.underlying221
 a233:=Tryz.isAgg221
 z233:=Tryz.sizeOf221
 v233:=Tryz.zeroValue221
 g17:=by kernel_rfl
 g18:=by kernel_rfl
 g19:=by kernel_rfl
 i0:=by kernel_rfl
 i2:=by kernel_rfl
 i3:=by kernel_rfl
 i4:=by kernel_rfl
 i5:=by kernel_rfl
 i9:=by kernel_rfl
 i20:=by kernel_rfl
 i37:=by kernel_rfl
 i46:=by kernel_rfl
 i51:=by kernel_rfl
 i53:=by kernel_rfl
 i171:=by kernel_rfl
 i173:=by kernel_rfl
 i212:=by kernel_rfl
 i232:=by kernel_rfl
 i233:=by kernel_rfl
 m17:=by kernel_rfl
 m18:=by kernel_rfl
 m19:=by kernel_rfl }
open Go.RowKit Go.Sort Go.Lib in
theorem Tryz.strconv_Itoa (n : Int) (h0 : -9223372036854775808 ≤ n) (h1 : n ≤ 9223372036854775807) (w : World) (htab : Lib.TabIs Tryz.prog w "internal/strconv.uint64pow10" .u64 Lib.pow10Tab) :
  Calls Tryz.prog 60 #[.int .i64 n] w fun e w' => e = .returned (.string ⟨(Lib.itoa n).toArray⟩) ∧ ∃ k os, w' = grow (w.drewN k) os := Any.strconv_Itoa Tryz.laysM171 n h0 h1 w htab
def Tryz.laysC172_ren:Go.Shelf.Ren:=⟨fun | 172=>106 | 244=>116 | 245=>117 | 247=>124 | 279=>125 | 280=>126 | 281=>127 | 282=>128 | 287=>136 | 316=>137 | 171=>60 | 205=>138 | 321=>144 | 322=>145 | 243=>109 | 246=>120 | 283=>130 | 284=>131 | 285=>132 | 286=>133 | 129=>140 | 317=>139 | 318=>141 | 319=>142 | 320=>143 | 337=>146 | 338=>147 | n=>n,fun | 9=>9 | 3=>3 | 75=>169 | 76=>170 | 4=>4 | 5=>5 | 167=>186 | 37=>174 | 0=>0 | 85=>187 | 2=>2 | 168=>189 | 53=>193 | 175=>201 | 46=>203 | 210=>206 | 127=>184 | 145=>218 | 143=>216 | 21=>21 | 171=>192 | 173=>196 | 212=>210 | 51=>211 | 20=>20 | 213=>212 | 232=>220 | 233=>221 | 80=>178 | n=>n,fun | 15=>1 | 16=>2 | 17=>4 | 18=>5 | 19=>6 | n=>n⟩
theorem Tryz.laysC172:Go.Proofs.LaysC.n172 Tryz.prog Tryz.laysC172_ren:={
 mixed:=by kernel_rfl
 f129:=Tryz.func140.trans (congrArg some (by kernel_rfl))
 f171:=Tryz.func60.trans (congrArg some (by kernel_rfl))
 f172:=Tryz.func106.trans (congrArg some (by kernel_rfl))
 f205:=Tryz.func138.trans (congrArg some (by kernel_rfl))
 f243:=Tryz.func109.trans (congrArg some (by kernel_rfl))
 f244:=Tryz.func116.trans (congrArg some (by kernel_rfl))
 f245:=Tryz.func117.trans (congrArg some (by kernel_rfl))
 f246:=Tryz.func120.trans (congrArg some (by kernel_rfl))
 f247:=Tryz.func124.trans (congrArg some (by kernel_rfl))
 f279:=Tryz.func125.trans (congrArg some (by kernel_rfl))
 f280:=Tryz.func126.trans (congrArg some (by kernel_rfl))
 f281:=Tryz.func127.trans (congrArg some (by kernel_rfl))
 f282:=Tryz.func128.trans (congrArg some (by kernel_rfl))
 f283:=Tryz.func130.trans (congrArg some (by kernel_rfl))
 f284:=Tryz.func131.trans (congrArg some (by kernel_rfl))
 f285:=Tryz.func132.trans (congrArg some (by kernel_rfl))
 f286:=Tryz.func133.trans (congrArg some (by kernel_rfl))
 f287:=Tryz.func136.trans (congrArg some (by kernel_rfl))
 f316:=Tryz.func137.trans (congrArg some (by kernel_rfl))
 f317:=Tryz.func139.trans (congrArg some (by kernel_rfl))
 f318:=Tryz.func141.trans (congrArg some (by kernel_rfl))
 f319:=Tryz.func142.trans (congrArg some (by kernel_rfl))
 f320:=Tryz.func143.trans (congrArg some (by kernel_rfl))
 f321:=Tryz.func144.trans (congrArg some (by kernel_rfl))
 f322:=Tryz.func145.trans (congrArg some (by kernel_rfl))
 f337:=Tryz.func146.trans (congrArg some (by kernel_rfl))
 f338:=Tryz.func147.trans (congrArg some (by kernel_rfl))
 t0:=Tryz.underlying0
 a0:=Tryz.isAgg0
 z0:=Tryz.sizeOf0
 v0:=Tryz.zeroValue0
 t2:=Tryz.underlying2
 a2:=Tryz.isAgg2
 z2:=Tryz.sizeOf2
 v2:=Tryz.zeroValue2
 t3:=Tryz.underlying3
 a3:=Tryz.isAgg3
 z3:=Tryz.sizeOf3
 v3:=Tryz.zeroValue3
 t4:=Tryz.underlying4
 a4:=Tryz.isAgg4
 z4:=Tryz.sizeOf4
 v4:=Tryz.zeroValue4
 t5:=Tryz.underlying5
 a5:=Tryz.isAgg5
 z5:=Tryz.sizeOf5
 v5:=Tryz.zeroValue5
 t9:=Tryz.underlying9
 a9:=Tryz.isAgg9
 z9:=Tryz.sizeOf9
 v9:=Tryz.zeroValue9
 t20:=Tryz.underlying20
 a20:=Tryz.isAgg20
 z20:=Tryz.sizeOf20
 v20:=Tryz.zeroValue20
 t21:=Tryz.underlying21
 a21:=Tryz.isAgg21
 z21:=Tryz.sizeOf21
 v21:=Tryz.zeroValue21
 t37:=Tryz.underlying174
 a37:=Tryz.isAgg174
 z37:=Tryz.sizeOf174
 v37:=Tryz.zeroValue174
 t46:=Tryz.underlying203
 a46:=Tryz.isAgg203
 z46:=Tryz.sizeOf203
 v46:=Tryz.zeroValue203
 t51:=Tryz.underlying211
 a51:=Tryz.isAgg211
 z51:=Tryz.sizeOf211
 v51:=Tryz.zeroValue211
 t53:=Tryz.underlying193
 a53:=Tryz.isAgg193
 z53:=Tryz.sizeOf193
 v53:=Tryz.zeroValue193
 t75:=Tryz.underlying169
 a75:=Tryz.isAgg169
 z75:=Tryz.sizeOf169
 v75:=Tryz.zeroValue169
 t76:=Tryz.underlying170
 a76:=Tryz.isAgg170
 z76:=Tryz.sizeOf170
 v76:=Tryz.zeroValue170
 t85:=Tryz.underlying187
 a85:=Tryz.isAgg187
 z85:=Tryz.sizeOf187
 v85:=Tryz.zeroValue187
 t127:=Tryz.underlying184
 a127:=Tryz.isAgg184
 z127:=Tryz.sizeOf184
 v127:=Tryz.zeroValue184
 t143:=Tryz.underlying216
 a143:=Tryz.isAgg216
 z143:=Tryz.sizeOf216
 v143:=Tryz.zeroValue216
 t145:=Tryz.underlying218
 a145:=Tryz.isAgg218
 z145:=Tryz.sizeOf218
 v145:=Tryz.zeroValue218
 t167:=Tryz.underlying186
 a167:=Tryz.isAgg186
 z167:=Tryz.sizeOf186
 v167:=Tryz.zeroValue186
 t168:=Tryz.underlying189
 a168:=Tryz.isAgg189
 z168:=Tryz.sizeOf189
 v168:=Tryz.zeroValue189
 t171:=Tryz.underlying192
 a171:=Tryz.isAgg192
 z171:=Tryz.sizeOf192
 v171:=Tryz.zeroValue192
 t173:=Tryz.underlying196
 a173:=Tryz.isAgg196
 z173:=Tryz.sizeOf196
 v173:=Tryz.zeroValue196
 t175:=Tryz.underlying201
 a175:=Tryz.isAgg201
 z175:=Tryz.sizeOf201
 v175:=Tryz.zeroValue201
 t210:=Tryz.underlying206
 a210:=Tryz.isAgg206
 z210:=Tryz.sizeOf206
 v210:=Tryz.zeroValue206
 t212:=Tryz.underlying210
 a212:=Tryz.isAgg210
 z212:=Tryz.sizeOf210
 v212:=Tryz.zeroValue210
 t213:=Tryz.underlying212
 a213:=Tryz.isAgg212
 z213:=Tryz.sizeOf212
 t232:=Tryz.underlying220
 a232:=Tryz.isAgg220
 z232:=Tryz.sizeOf220
 v232:=Tryz.zeroValue220
 t233:=Tryz.underlying221
 a233:=Tryz.isAgg221
 z233:=Tryz.sizeOf221
 v233:=Tryz.zeroValue221
 g15:=by kernel_rfl
 g16:=by kernel_rfl
 g17:=by kernel_rfl
 g18:=by kernel_rfl
 g19:=by kernel_rfl
 t80:=Tryz.underlying178
 a80:=Tryz.isAgg178
 z80:=Tryz.sizeOf178
 v80:=Tryz.zeroValue178
 i0:=by kernel_rfl
 i2:=by kernel_rfl
 i3:=by kernel_rfl
 i4:=by kernel_rfl
 i5:=by kernel_rfl
 i9:=by kernel_rfl
 i20:=by kernel_rfl
 i21:=by kernel_rfl
 i37:=by kernel_rfl
 i46:=by kernel_rfl
 i51:=by kernel_rfl
 i53:=by kernel_rfl
 i75:=by kernel_rfl
 i76:=by kernel_rfl
 i80:=by kernel_rfl
 i85:=by kernel_rfl
 i127:=by kernel_rfl
 i143:=by kernel_rfl
 i145:=by kernel_rfl
 i167:=by kernel_rfl
 i168:=by kernel_rfl
 i171:=by kernel_rfl
 i173:=by kernel_rfl
 i175:=by kernel_rfl
 i210:=by kernel_rfl
 i212:=by kernel_rfl
 i232:=by kernel_rfl
 i233:=by kernel_rfl
 m15:=by kernel_rfl
 m16:=by kernel_rfl
 m17:=by kernel_rfl
 m18:=by kernel_rfl
 m19:=by kernel_rfl
 c0:=by kernel_rfl
 c2:=by kernel_rfl
 c3:=by kernel_rfl
 c4:=by kernel_rfl
 c5:=by kernel_rfl
 c9:=by kernel_rfl
 c20:=by kernel_rfl
 c21:=by kernel_rfl
 c37:=by kernel_rfl
 c46:=by kernel_rfl
 c51:=by kernel_rfl
 c53:=by kernel_rfl
 c75:=by kernel_rfl
 c76:=by kernel_rfl
 c80:=by kernel_rfl
 c85:=by kernel_rfl
 c127:=by kernel_rfl
 c143:=by kernel_rfl
 c145:=by kernel_rfl
 c167:=by kernel_rfl
 c168:=by kernel_rfl
 c171:=by kernel_rfl
 c173:=by kernel_rfl
 c175:=by kernel_rfl
 c210:=by kernel_rfl
 c212:=by kernel_rfl
 c213:=by kernel_rfl
 c232:=by kernel_rfl
 c233:=by kernel_rfl }
open Go.RowKit in
theorem Tryz.strconv_Atoi_ok (s : ByteArray) (hmax : s.size ≤ 9223372036854775806) (v : Int) (h : Lib.atoiAll s.data.toList = .ok v) (w : World) :
  Calls Tryz.prog 106 #[.string s] w fun e w' => e = .returned (.tuple #[.int .i64 v, .nilIface]) ∧ (w' = w ∨ ∃ t, w' = Lib.bytesWorld w 5 t) := Any.strconv_Atoi_ok Tryz.laysC172 s hmax v h w
open Go.RowKit in
theorem Tryz.strconv_Atoi_syntax_var (s : ByteArray) (hlim : s.size ≤ 281474976710656) (h : Lib.atoiAll s.data.toList = Lib.NumEnd.syntax) (tp : TypeId) (p : Value) (w : World) (hvar : w.var? Tryz.prog "strconv.ErrSyntax" = some #[.iface tp p]) :
  Calls Tryz.prog 106 #[.string s] w fun e w' => ∃ N, e = .returned (.tuple #[.int .i64 0, .iface 189 (.pointer (some ⟨N, 0, none⟩))]) ∧ w.heap.size ≤ N ∧ w'.heap[N]? = some (.cells #[.string ⟨#[65, 116, 111, 105]⟩, .string s, .iface tp p] 206 (0, 0)) ∧ Below w.heap.size w w' := Any.strconv_Atoi_syntax_var Tryz.laysC172 s hlim h tp p w hvar
open Go.RowKit in
theorem Tryz.strconv_Atoi_range_var (s : ByteArray) (hlim : s.size ≤ 281474976710656) (h : Lib.atoiAll s.data.toList = .range) (tp : TypeId) (p : Value) (w : World) (hvar : w.var? Tryz.prog "strconv.ErrRange" = some #[.iface tp p]) :
  Calls Tryz.prog 106 #[.string s] w fun e w' => ∃ N, e = .returned (.tuple #[.int .i64 (Lib.atoiSat s.data.toList), .iface 189 (.pointer (some ⟨N, 0, none⟩))]) ∧ w.heap.size ≤ N ∧ w'.heap[N]? = some (.cells #[.string ⟨#[65, 116, 111, 105]⟩, .string s, .iface tp p] 206 (0, 0)) ∧ Below w.heap.size w w' := Any.strconv_Atoi_range_var Tryz.laysC172 s hlim h tp p w hvar
end Go.Proofs
namespace Go.Am
open Go Go.Proofs
set_option linter.unusedVariables false
set_option linter.unusedSimpArgs false
theorem Agc {w w':World}{s:String}(hs:(Tryz.prog.globalNamed s).all (fun g=>Nat.blt g 7)=true)(e : ∀ b,b<7→w'.heap[b]? = w.heap[b]?):w'.var? Tryz.prog s=w.var? Tryz.prog s:=by
 unfold World.var?
 cases hq:Tryz.prog.globalNamed s with
 | none=>rfl
 | some g=>
  rw [hq] at hs
  simp only [Option.bind_some]
  rw [e g (by simpa using hs)]
def GWp (w : World) : Prop := ((∃ tp p, w.var? Tryz.prog "strconv.ErrRange" = some #[.iface tp p])) ∧ ((∃ tp p, w.var? Tryz.prog "strconv.ErrSyntax" = some #[.iface tp p])) ∧ (Lib.TabIs Tryz.prog w "internal/strconv.uint64pow10" .u64 Lib.pow10Tab)
theorem Aop {w w':World}(e : ∀ b,b<7→w'.heap[b]? = w.heap[b]?)(k:GWp w):GWp w':=⟨(by obtain⟨tp,p,h⟩:=k.1; exact⟨tp,p,by rw [Agc (by kernel_rfl) e]; exact h⟩),(by obtain⟨tp,p,h⟩:=k.2.1; exact⟨tp,p,by rw [Agc (by kernel_rfl) e]; exact h⟩),(by rw [Lib.TabIs,Agc (by kernel_rfl) e]; exact k.2.2)⟩
def Ph:List (Ay×Ay×FuncId):=[([97,105,114,112,111,114,116],[111,118,101,114,102,108,105,103,104,116,47,115,121,110,116,97,120,46,100,101,102,105,110,105,116,105,111,110,115,36,54],189),([99,108,97,115,115],[111,118,101,114,102,108,105,103,104,116,47,115,121,110,116,97,120,46,100,101,102,105,110,105,116,105,111,110,115,36,55],194),([99,111,110,102,105,103],[111,118,101,114,102,108,105,103,104,116,47,115,121,110,116,97,120,46,100,101,102,105,110,105,116,105,111,110,115,36,51],180),([99,117,114,102,101,119],[111,118,101,114,102,108,105,103,104,116,47,115,121,110,116,97,120,46,100,101,102,105,110,105,116,105,111,110,115,36,56],197),([101,120,101,109,112,116],[111,118,101,114,102,108,105,103,104,116,47,115,121,110,116,97,120,46,100,101,102,105,110,105,116,105,111,110,115,36,57],201),([108,111,110,103,101,115,116],[111,118,101,114,102,108,105,103,104,116,47,115,121,110,116,97,120,46,100,101,102,105,110,105,116,105,111,110,115,36,49,49],205),([114,111,117,116,101],[111,118,101,114,102,108,105,103,104,116,47,115,121,110,116,97,120,46,100,101,102,105,110,105,116,105,111,110,115,36,53],186),([115,101,99,116,111,114],[111,118,101,114,102,108,105,103,104,116,47,115,121,110,116,97,120,46,100,101,102,105,110,105,116,105,111,110,115,36,50],172),([115,101,103,109,101,110,116],[111,118,101,114,102,108,105,103,104,116,47,115,121,110,116,97,120,46,100,101,102,105,110,105,116,105,111,110,115,36,52],183),([118,111,108,117,109,101],[111,118,101,114,102,108,105,103,104,116,47,115,121,110,116,97,120,46,100,101,102,105,110,105,116,105,111,110,115,36,49],168),([119,101,105,103,104,116],[111,118,101,114,102,108,105,103,104,116,47,115,121,110,116,97,120,46,100,101,102,105,110,105,116,105,111,110,115,36,49,48],203)]
instance gwI:GW Tryz.prog where
 n:=7
 G:=fun m w=>GWp w∧FMapAt w m 0 (Ks Ph)
 keep:=fun hn e k=>⟨Aop (fun b hb=>e b (Nat.lt_of_lt_of_le hb hn)) k.1,k.2.keep (Nat.lt_of_lt_of_le (by decide) hn) e⟩
 row:=fun b=>if b=0 then some [.mapc (Ks Ph)] else none
 rowOk:=by
  intro m w b r hn hm k hr
  by_cases h0:b=0
  ·subst h0
   simp at hr
   subst hr
   refine⟨by decide,fun mu M hM j hj=>?_⟩
   obtain rfl:j=0:=by simpa using hj
   exact k.2.rv hm hM
  simp [h0] at hr
theorem Ahn {m : Nat} {w : World} (k : GW.G Tryz.prog m w) : (∃ tp p, w.var? Tryz.prog "strconv.ErrRange" = some #[.iface tp p]) := k.1.1
theorem Ag3 {m : Nat} {w : World} (k : GW.G Tryz.prog m w) : (∃ tp p, w.var? Tryz.prog "strconv.ErrSyntax" = some #[.iface tp p]) := k.1.2.1
theorem Ala {m : Nat} {w : World} (k : GW.G Tryz.prog m w) : Lib.TabIs Tryz.prog w "internal/strconv.uint64pow10" .u64 Lib.pow10Tab := k.1.2.2
theorem Es:Tryz.prog.follows .mixedOrders=true:=by kernel_rfl
theorem C2:ti Tryz.prog 3=some ⟨.int .i64,1,8,[.int .i64 0]⟩:=by kernel_rfl
theorem Q3:ti Tryz.prog 4=some ⟨.bool,1,1,[.bool false]⟩:=by kernel_rfl
theorem ti5:ti Tryz.prog 5=some ⟨.int .u8,1,1,[.int .u8 0]⟩:=by kernel_rfl
theorem Cf:ti Tryz.prog 9=some ⟨.str,1,16,[.str []]⟩:=by kernel_rfl
theorem Ajd:ti Tryz.prog 20=some ⟨.ifc,1,16,[.nili]⟩:=by kernel_rfl
theorem Hj:ti Tryz.prog 23=some ⟨.sl 54,1,24,[.emp]⟩:=by kernel_rfl
theorem J1:ti Tryz.prog 24=some ⟨.sl 58,1,24,[.emp]⟩:=by kernel_rfl
theorem L1:ti Tryz.prog 25=some ⟨.sl 77,1,24,[.emp]⟩:=by kernel_rfl
theorem L0:ti Tryz.prog 26=some ⟨.sl 79,1,24,[.emp]⟩:=by kernel_rfl
theorem Ly:ti Tryz.prog 27=some ⟨.sl 81,1,24,[.emp]⟩:=by kernel_rfl
theorem Lc:ti Tryz.prog 28=some ⟨.sl 51,1,24,[.emp]⟩:=by kernel_rfl
theorem J2:ti Tryz.prog 29=some ⟨.sl 85,1,24,[.emp]⟩:=by kernel_rfl
theorem Fg:ti Tryz.prog 30=some ⟨.sl 62,1,24,[.emp]⟩:=by kernel_rfl
theorem Dl:ti Tryz.prog 32=some ⟨.st [(0,23),(1,24),(2,25),(3,26),(4,27),(5,28),(6,29),(7,30)],8,192,[.emp,.emp,.emp,.emp,.emp,.emp,.emp,.emp]⟩:=by kernel_rfl
theorem K5:ti Tryz.prog 33=some ⟨.int .i64,1,8,[.int .i64 0]⟩:=by kernel_rfl
theorem Ch:ti Tryz.prog 42=some ⟨.sl 47,1,24,[.emp]⟩:=by kernel_rfl
theorem C1:ti Tryz.prog 47=some ⟨.st [(0,3),(1,9),(2,3),(3,3)],4,40,[.int .i64 0,.str [],.int .i64 0,.int .i64 0]⟩:=by kernel_rfl
theorem K8:ti Tryz.prog 49=some ⟨.sl 83,1,24,[.emp]⟩:=by kernel_rfl
theorem Ho:ti Tryz.prog 51=some ⟨.st [(0,9),(1,49)],2,40,[.str [],.emp]⟩:=by kernel_rfl
theorem Ki:ti Tryz.prog 52=some ⟨.sl 60,1,24,[.emp]⟩:=by kernel_rfl
theorem Ji:ti Tryz.prog 54=some ⟨.st [(0,9),(1,52)],2,40,[.str [],.emp]⟩:=by kernel_rfl
theorem D0:ti Tryz.prog 55=some ⟨.sl 9,1,24,[.emp]⟩:=by kernel_rfl
theorem O9:ti Tryz.prog 56=some ⟨.sl 3,1,24,[.emp]⟩:=by kernel_rfl
theorem Gn:ti Tryz.prog 58=some ⟨.st [(0,9),(1,55),(2,56),(3,3),(4,3)],5,80,[.str [],.emp,.emp,.int .i64 0,.int .i64 0]⟩:=by kernel_rfl
theorem Hz:ti Tryz.prog 60=some ⟨.st [(0,3),(1,3)],2,16,[.int .i64 0,.int .i64 0]⟩:=by kernel_rfl
theorem D3:ti Tryz.prog 62=some ⟨.st [(0,3),(1,9),(2,9),(3,3),(4,3),(5,3),(6,60)],8,80,[.int .i64 0,.str [],.str [],.int .i64 0,.int .i64 0,.int .i64 0,.int .i64 0,.int .i64 0]⟩:=by kernel_rfl
theorem Aau:ti Tryz.prog 64=some ⟨.st [(0,3),(1,33)],2,16,[.int .i64 0,.int .i64 0]⟩:=by kernel_rfl
theorem Tt:ti Tryz.prog 66=some ⟨.ptr 68,1,8,[.nilp]⟩:=by kernel_rfl
theorem Z1:ti Tryz.prog 68=some ⟨.st [(0,42),(1,3),(2,32)],10,224,[.emp,.int .i64 0,.emp,.emp,.emp,.emp,.emp,.emp,.emp,.emp]⟩:=by kernel_rfl
theorem Cr:ti Tryz.prog 70=some ⟨.st [(0,42),(1,3),(2,3),(3,33),(4,3)],5,56,[.emp,.int .i64 0,.int .i64 0,.int .i64 0,.int .i64 0]⟩:=by kernel_rfl
theorem Kg:ti Tryz.prog 77=some ⟨.st [(0,9),(1,55),(2,56)],3,64,[.str [],.emp,.emp]⟩:=by kernel_rfl
theorem H0:ti Tryz.prog 79=some ⟨.st [(0,9),(1,9),(2,3),(3,3),(4,52)],5,72,[.str [],.str [],.int .i64 0,.int .i64 0,.emp]⟩:=by kernel_rfl
theorem Hx:ti Tryz.prog 81=some ⟨.st [(0,9),(1,9),(2,9),(3,3),(4,3),(5,55),(6,56)],7,112,[.str [],.str [],.str [],.int .i64 0,.int .i64 0,.emp,.emp]⟩:=by kernel_rfl
theorem Nv:ti Tryz.prog 83=some ⟨.st [(0,9),(1,3)],2,24,[.str [],.int .i64 0]⟩:=by kernel_rfl
theorem Jj:ti Tryz.prog 85=some ⟨.st [(0,9),(1,3),(2,3),(3,3)],4,40,[.str [],.int .i64 0,.int .i64 0,.int .i64 0]⟩:=by kernel_rfl
theorem Adv:ti Tryz.prog 87=some ⟨.ptr 89,1,8,[.nilp]⟩:=by kernel_rfl
theorem Ye:ti Tryz.prog 89=some ⟨.st [(0,42),(1,4)],2,32,[.emp,.bool false]⟩:=by kernel_rfl
theorem Am3:ti Tryz.prog 113=some ⟨.int .i64,1,8,[.int .i64 0]⟩:=by kernel_rfl
theorem Abi:ti Tryz.prog 114=some ⟨.fn,1,8,[.nilf]⟩:=by kernel_rfl
theorem Xz:ti Tryz.prog 115=some ⟨.arr 6 114,6,48,[.nilf,.nilf,.nilf,.nilf,.nilf,.nilf]⟩:=by kernel_rfl
theorem Amz:ti Tryz.prog 117=some ⟨.st [(0,115)],6,48,[.nilf,.nilf,.nilf,.nilf,.nilf,.nilf]⟩:=by kernel_rfl
theorem Pl:ti Tryz.prog 120=some ⟨.st [(0,9),(1,3),(2,42)],3,48,[.str [],.int .i64 0,.emp]⟩:=by kernel_rfl
theorem Sp:ti Tryz.prog 140=some ⟨.fn,1,8,[.nilf]⟩:=by kernel_rfl
theorem R6:ti Tryz.prog 142=some ⟨.map 9 140,1,8,[.mnil]⟩:=by kernel_rfl
theorem Aqb:ti Tryz.prog 169=some ⟨.ifc,1,16,[.nili]⟩:=by kernel_rfl
theorem Ad2:Hf Tryz.prog [(0,23),(1,24),(2,25),(3,26),(4,27),(5,28),(6,29),(7,30)]=some [(0,1),(1,1),(2,1),(3,1),(4,1),(5,1),(6,1),(7,1)]:=by kernel_rfl
theorem Apu:Hf Tryz.prog [(0,9),(1,49)]=some [(0,1),(1,1)]:=by kernel_rfl
theorem Apg:Hf Tryz.prog [(0,9),(1,52)]=some [(0,1),(1,1)]:=by kernel_rfl
theorem Ao6:Hf Tryz.prog [(0,9),(1,55),(2,56),(3,3),(4,3)]=some [(0,1),(1,1),(2,1),(3,1),(4,1)]:=by kernel_rfl
theorem Aqw:Hf Tryz.prog [(0,3),(1,3)]=some [(0,1),(1,1)]:=by kernel_rfl
theorem Aqq:Hf Tryz.prog [(0,42),(1,3),(2,32)]=some [(0,1),(1,1),(2,8)]:=by kernel_rfl
theorem Aqr:Hf Tryz.prog [(0,42),(1,3),(2,3),(3,33),(4,3)]=some [(0,1),(1,1),(2,1),(3,1),(4,1)]:=by kernel_rfl
theorem Aqy:Hf Tryz.prog [(0,9),(1,55),(2,56)]=some [(0,1),(1,1),(2,1)]:=by kernel_rfl
theorem Aqm:Hf Tryz.prog [(0,9),(1,3)]=some [(0,1),(1,1)]:=by kernel_rfl
theorem Aqp:Hf Tryz.prog [(0,42),(1,4)]=some [(0,1),(1,1)]:=by kernel_rfl
theorem Ak0 {o:BinOp}{x y:Operand}{a b:AV}(ha:a.isAgg=true)(hb:b.isAgg=true):Mi Tryz.prog o 60 x y a b=true:=X3 ha hb (by kernel_rfl)
theorem Akm {aFrom:Int}{aTo:Int}{bFrom:Int}{bTo:Int}:Pa Tryz.prog .neq 60 (AV.agg [(.int .i64 aFrom),(.int .i64 aTo)]) (AV.agg [(.int .i64 bFrom),(.int .i64 bTo)])=some (.bool (!((aFrom==bFrom)&&(aTo==bTo)))):=by
 have he60:Vj Tryz.prog 60=true:=by kernel_rfl
 simp only [Pa,Wb,he60,if_true,List.drop_succ_cons,List.drop_zero,List.take_succ_cons,List.take_zero,List.take_nil,Abk,Y9,Sx,La,C2,Hz,TK.agg,Nat.reduceAdd,Nat.reduceLT,Nat.reduceLeDiff,List.length_cons,List.length_nil,List.getD_cons_zero,List.getD_cons_succ,Xt,Bool.and_true,Option.map_some,if_false,Bool.false_eq_true,reduceCtorEq,Nat.zero_add]
 try rfl
theorem Ahc {o:BinOp}{x y:Operand}{a b:AV}(ha:a.isAgg=true)(hb:b.isAgg=true):Mi Tryz.prog o 62 x y a b=true:=X3 ha hb (by kernel_rfl)
theorem Agj {aKind:Int}{aC:Ay}{aA:Ay}{aClass:Int}{aAirport:Int}{aN:Int}{aHours_From:Int}{aHours_To:Int}{bKind:Int}{bC:Ay}{bA:Ay}{bClass:Int}{bAirport:Int}{bN:Int}{bHours_From:Int}{bHours_To:Int}:Pa Tryz.prog .neq 62 (AV.agg [(.int .i64 aKind),(.str aC),(.str aA),(.int .i64 aClass),(.int .i64 aAirport),(.int .i64 aN),(.int .i64 aHours_From),(.int .i64 aHours_To)]) (AV.agg [(.int .i64 bKind),(.str bC),(.str bA),(.int .i64 bClass),(.int .i64 bAirport),(.int .i64 bN),(.int .i64 bHours_From),(.int .i64 bHours_To)])=some (.bool (!((aKind==bKind)&&((aC==bC)&&((aA==bA)&&((aClass==bClass)&&((aAirport==bAirport)&&((aN==bN)&&((aHours_From==bHours_From)&&(aHours_To==bHours_To)))))))))):=by
 have he60:Vj Tryz.prog 60=true:=by kernel_rfl
 have he62:Vj Tryz.prog 62=true:=by kernel_rfl
 simp only [Pa,Wb,he60,he62,if_true,List.drop_succ_cons,List.drop_zero,List.take_succ_cons,List.take_zero,List.take_nil,Abk,Y9,Sx,La,C2,Cf,Hz,D3,TK.agg,Nat.reduceAdd,Nat.reduceLT,Nat.reduceLeDiff,List.length_cons,List.length_nil,List.getD_cons_zero,List.getD_cons_succ,Xt,Bool.and_true,Option.map_some,if_false,Bool.false_eq_true,reduceCtorEq,Nat.zero_add]
 try rfl
theorem Akl {o:BinOp}{x y:Operand}{a b:AV}(ha:a.isAgg=true)(hb:b.isAgg=true):Mi Tryz.prog o 83 x y a b=true:=X3 ha hb (by kernel_rfl)
theorem Ajo {aName:Ay}{Hf:Int}{bName:Ay}{bPlaces:Int}:Pa Tryz.prog .neq 83 (AV.agg [(.str aName),(.int .i64 Hf)]) (AV.agg [(.str bName),(.int .i64 bPlaces)])=some (.bool (!((aName==bName)&&(Hf==bPlaces)))):=by
 have he83:Vj Tryz.prog 83=true:=by kernel_rfl
 simp only [Pa,Wb,he83,if_true,List.drop_succ_cons,List.drop_zero,List.take_succ_cons,List.take_zero,List.take_nil,Abk,Y9,Sx,La,C2,Cf,Nv,TK.agg,Nat.reduceAdd,Nat.reduceLT,Nat.reduceLeDiff,List.length_cons,List.length_nil,List.getD_cons_zero,List.getD_cons_succ,Xt,Bool.and_true,Option.map_some,if_false,Bool.false_eq_true,reduceCtorEq,Nat.zero_add]
 try rfl
theorem Ak2 {o:BinOp}{x y:Operand}{a b:AV}(ha:a.isAgg=true)(hb:b.isAgg=true):Mi Tryz.prog o 85 x y a b=true:=X3 ha hb (by kernel_rfl)
theorem Akb {aName:Ay}{aSlow:Int}{aFast:Int}{Hf:Int}{bName:Ay}{bSlow:Int}{bFast:Int}{bPlaces:Int}:Pa Tryz.prog .neq 85 (AV.agg [(.str aName),(.int .i64 aSlow),(.int .i64 aFast),(.int .i64 Hf)]) (AV.agg [(.str bName),(.int .i64 bSlow),(.int .i64 bFast),(.int .i64 bPlaces)])=some (.bool (!((aName==bName)&&((aSlow==bSlow)&&((aFast==bFast)&&(Hf==bPlaces)))))):=by
 have he85:Vj Tryz.prog 85=true:=by kernel_rfl
 simp only [Pa,Wb,he85,if_true,List.drop_succ_cons,List.drop_zero,List.take_succ_cons,List.take_zero,List.take_nil,Abk,Y9,Sx,La,C2,Cf,Jj,TK.agg,Nat.reduceAdd,Nat.reduceLT,Nat.reduceLeDiff,List.length_cons,List.length_nil,List.getD_cons_zero,List.getD_cons_succ,Xt,Bool.and_true,Option.map_some,if_false,Bool.false_eq_true,reduceCtorEq,Nat.zero_add]
 try rfl
end Go.Am
namespace Go.Am
open Go Go.Proofs
set_option maxRecDepth 100000
set_option maxHeartbeats 4000000
set_option linter.unusedSimpArgs false
set_option linter.unusedVariables false
theorem Tk (s:Ay)(c:Int):CP Tryz.prog 108 [.str s,.int .u8 c] (strings_IndexByte s c) (fun x=>AV.int .i64 x):=
 Agf (.mk Tryz.func108 rfl (by decide)) (fun p h=>by cases h) fun a ha B mu h w cargs hs hl=>by
  obtain⟨c1,c2,rfl,h1,h2⟩:=Ah2 hl
  obtain rfl:=Adk h1; obtain rfl:=Ak4 h2
  cases ha
  refine(Go.Proofs.Tryz.strings_IndexByte ⟨s.toArray⟩ c w).mono ?_
  rintro e w' ⟨rfl,rfl⟩
  exact⟨Go.RowKit.Below.refl _ _,_,J,.int _ _⟩
theorem Rp (c:Int):CP Tryz.prog 58 [(.int .u8 c)] (Lu c) (fun(x:Int)=>(AV.int .i64 x)):=by
 refine Cd (n:=47) 0 Tryz.func58 J (by decide) J J fun h0 ids hI=>Bn (Al (Lu.eq_1 _) ?_)
 refine Y<|O<|Aa (.I 0) J Ai<|Z<|Y<|Ba<|Y ?_
 refine O<|Ab 3 [] [(6,(.bool (decide (c≥97))))] ?_
 refine B2 3 [(0,(.int .u8 c)),(9,(.bool ((decide (c≥97))&&(decide (c≤122)))))] ?_ fun hJ=>Bw (decide (c≥97)) (fun hb1=>?_) (fun hb1=>?_)
 ·refine Aa (.bool ((decide (c≥97))&&(decide (c≤122)))) J Ad<|B2 7 [(0,(.int .u8 c)),(17,(.bool (((decide (c≥97))&&(decide (c≤122)))||((decide (c≥65))&&(decide (c≤90))))))] ?_ fun hJ1=>Bw ((decide (c≥97))&&(decide (c≤122))) (fun hb3=>?_) (fun hb3=>?_)
  ·refine Aa (.bool (((decide (c≥97))&&(decide (c≤122)))||((decide (c≥65))&&(decide (c≤90))))) J Ai<|Z<|Bx J (fun hc=>?_) (fun hc=>?_)
   ·refine Y<|O<|Aa (.I 2) J Ai<|Z<|Bl (a:=2) (vs:=[(.I 2)]) Tryz.func58 hI J (.same _)
   refine Y<|O<|Ab 3 [] [(21,(.bool (decide (c≥48))))] ?_
   refine B2 3 [(0,(.int .u8 c)),(24,(.bool ((decide (c≥48))&&(decide (c≤57)))))] ?_ fun hJ3=>Bw (decide (c≥48)) (fun hb7=>?_) (fun hb7=>?_)
   ·refine Aa (.bool ((decide (c≥48))&&(decide (c≤57)))) J Ai<|Z<|Bx J (fun hc1=>?_) (fun hc1=>?_)
    ·refine Y<|O<|Aa (.I 3) J Ai<|Z<|Bl (a:=3) (vs:=[(.I 3)]) Tryz.func58 hI J (.same _)
    refine Y<|O<|Ab 3 [] [(25,(.bool (c==95)))] ?_
    refine Z<|Bx J (fun hc2=>?_) (fun hc2=>?_)
    ·refine Y<|O<|Aa (.I 5) J Ai<|Z<|Bl (a:=5) (vs:=[(.I 5)]) Tryz.func58 hI J (.same _)
    refine Y<|O<|Ab 3 [] [(31,(.bool (c==32)))] ?_
    refine B2 3 [(0,(.int .u8 c)),(34,(.bool ((c==32)||(c==9))))] ?_ fun hJ4=>Bw (c==32) (fun hb9=>?_) (fun hb9=>?_)
    ·refine Aa (.bool ((c==32)||(c==9))) J Ad<|B2 3 [(0,(.int .u8 c)),(38,(.bool (((c==32)||(c==9))||(c==10))))] ?_ fun hJ5=>Bw ((c==32)||(c==9)) (fun hb11=>?_) (fun hb11=>?_)
     ·refine Aa (.bool (((c==32)||(c==9))||(c==10))) J Ad<|B2 3 [(0,(.int .u8 c)),(42,(.bool ((((c==32)||(c==9))||(c==10))||(c==13))))] ?_ fun hJ6=>Bw (((c==32)||(c==9))||(c==10)) (fun hb13=>?_) (fun hb13=>?_)
      ·refine Aa (.bool ((((c==32)||(c==9))||(c==10))||(c==13))) J Ai<|Z<|Bx J (fun hc3=>?_) (fun hc3=>?_)
       ·refine Y<|O<|Aa (.I 1) J Ai<|Z<|Bl (a:=1) (vs:=[(.I 1)]) Tryz.func58 hI J (.same _)
       refine Y<|O<|Aa (.int .u8 c) J Ad<|A7 [(.str [123,125,40,41,59,44,61,35,47,60,33,45,46]),(.int .u8 c)] J J J J ((Tk [123,125,40,41,59,44,61,35,47,60,33,45,46] c) _) (fun v _=>B0 Tryz.func58 hI) fun r _=>Ab 2 [] [(43,(.bool (decide (r≥0))))] ?_
       refine Z<|Na J (fun hc4=>?_) (fun hc4=>?_)
       ·refine Y<|O<|Aa (.I 4) J Ai<|Z<|Bl (a:=4) (vs:=[(.I 4)]) Tryz.func58 hI J (.same _)
       refine Ax<|Bi<|Y<|O<|Aa (.I 0) J Ai<|Z<|Bl (a:=0) (vs:=[(.I 0)]) Tryz.func58 hI J (.same _)
      ·refine Az (t:=39) hb13 J<|Ab 3 [] [(42,(.bool true))] ?_
       exact Bf hJ6 (.cons J (.cons (E6 hb13) .nil))
      refine Az (t:=39) hb13 J<|Ab 3 [] [(42,(.bool (c==13)))] ?_
      exact Bf hJ6 (.cons J (.cons (E5 hb13) .nil))
     ·refine Az (t:=35) hb11 J<|Ab 3 [] [(38,(.bool true))] ?_
      exact Bf hJ5 (.cons J (.cons (E6 hb11) .nil))
     refine Az (t:=35) hb11 J<|Ab 3 [] [(38,(.bool (c==10)))] ?_
     exact Bf hJ5 (.cons J (.cons (E5 hb11) .nil))
    ·refine Az (t:=31) hb9 J<|Ab 3 [] [(34,(.bool true))] ?_
     exact Bf hJ4 (.cons J (.cons (E6 hb9) .nil))
    refine Az (t:=31) hb9 J<|Ab 3 [] [(34,(.bool (c==9)))] ?_
    exact Bf hJ4 (.cons J (.cons (E5 hb9) .nil))
   ·refine Az (t:=21) hb7 J<|Ab 3 [] [(24,(.bool (decide (c≤57))))] ?_
    exact Bf hJ3 (.cons J (.cons (Hk hb7) .nil))
   refine Az (t:=21) hb7 J<|Ab 3 [] [(24,(.bool false))] ?_
   exact Bf hJ3 (.cons J (.cons (Hl hb7) .nil))
  ·refine Az (t:=10) hb3 J<|Ab 7 [] [(17,(.bool true))] ?_
   exact Bf hJ1 (.cons J (.cons (E6 hb3) .nil))
  refine Az (t:=10) hb3 J<|Ab 3 [] [(13,(.bool (decide (c≥65))))] ?_
  refine B2 3 [(0,(.int .u8 c)),(10,(.bool false)),(16,(.bool ((decide (c≥65))&&(decide (c≤90)))))] ?_ fun hJ2=>Bw (decide (c≥65)) (fun hb5=>?_) (fun hb5=>?_)
  ·refine Aa (.bool ((decide (c≥65))&&(decide (c≤90)))) J (Et (t:=false) J J)<|Bf hJ1 (.cons J (.cons (E5 hb3) .nil))
  ·refine Az (t:=13) hb5 J<|Ab 3 [] [(16,(.bool (decide (c≤90))))] ?_
   exact Bf hJ2 (.cons J (.cons J (.cons (Hk hb5) .nil)))
  refine Az (t:=13) hb5 J<|Ab 3 [] [(16,(.bool false))] ?_
  exact Bf hJ2 (.cons J (.cons J (.cons (Hl hb5) .nil)))
 ·refine Az (t:=6) hb1 J<|Ab 3 [] [(9,(.bool (decide (c≤122))))] ?_
  exact Bf hJ (.cons J (.cons (Hk hb1) .nil))
 refine Az (t:=6) hb1 J<|Ab 3 [] [(9,(.bool false))] ?_
 exact Bf hJ (.cons J (.cons (Hl hb1) .nil))
theorem Tn (s:T119):CP Tryz.prog 53 [(.cp (O4 s) 0)] (Pk s) (fun(_:Unit)=>AV.tup []):=by
 refine Cd (n:=7) 0 Tryz.func53 J (by decide) J J fun h0 ids hI=>Bn (Al (Pk.eq_1 _) ?_)
 refine O<|Ab 5 [] [(6,(.iface 113 (.I s.fAt)))] ?_
 exact Sy (v:=⟨113,.I s.fAt⟩) J J (B0 Tryz.func53 hI)
theorem Aac (s:List Int)(v:Int):CP Tryz.prog 123 [(.sl 1 (List.map (rI .i64) s)),(.int .i64 v)] (Qo s v) (fun(x:Int)=>(AV.int .i64 x)):=by
 refine Cd (n:=19) 0 Tryz.func123 J (by decide) J J fun h0 ids hI=>Bn (Al (Qo.eq_1 _ _) ?_)
 refine Y<|O<|Aa (.I 0) J Ai<|Z<|Y<|Y<|O ?_
 refine Aa (.sl 1 (List.map (rI .i64) s)) J Ad<|Aa (.I (s.length:Int)) J (A2 (Bk O9))<|Aa (.I 0) J Ad<|Z<|Ba<|D6 [(0,(.sl 1 (List.map (rI .i64) s))),(1,(.I v)),(7,(.I (s.length:Int))),(8,(.I 0))] (FI J)<|Eo (P:=Tryz.prog) s (fun j a=>fun _=>Gy v j a) ((Dz (fun _=>.ok (-1)) (fun r=>.ok r)):(Unit ⊕ Int)→R Int) (fun j=>fun _=>fun(fr:Nat→AV) (h:Ag)=>fr=A5 [(0,(.sl 1 (List.map (rI .i64) s))),(1,(.I v)),(7,(.I (s.length:Int))),(8,(.I (j:Int)))]∧h=hp h0 ids []) () ?_ ?_ ?_
 ·exact⟨J,J⟩
 ·rintro j a ha W hW _ fr h ⟨rfl,rfl⟩
  refine Al (m':=Gy v j a) J (Al (Gy.eq_1 _ _ _) ?_)
  refine Y<|O<|Aa (.bool (decide ((j:Int)<(s.length:Int)))) J (Bh J J J)<|Z<|Y<|Ev (t:=0) (L:=s) J fun hlim=>Dg J (Int.ofNat_lt.2 (Bg ha)) ?_
  refine Ax<|Y<|Ba<|Y<|O<|Ab 2 [] [(5,(.I (j:Int)))] ?_
  refine Z<|Y<|O<|Ab 3 [] [(13,(.I (j:Int))),(12,(.sl 1 (List.map (rI .i64) s))),(11,(.I v))] ?_
  refine Aa (.cp [(.I a)] 0) J (Bz (Ea O9 C2 J ha))<|Ab 2 [] [(16,(.bool (v==a)))] ?_
  refine Z<|Bx J (fun hc=>?_) (fun hc=>?_)
  ·refine Y<|O<|Ab 2 [] [(4,(.I (j:Int)))] ?_
   refine Z<|E7<|Fh<|Bl (a:=(j:Int)) (vs:=[(.I (j:Int))]) Tryz.func123 hI J (.same _)
  refine Ax<|Bi<|O<|Ab 2 [] [(8,(.I (IntKind.wrap .i64 ((j:Int)+1))))] ?_
  refine Z<|Bo (E8 (hW () _ _ ⟨J,J⟩)) (.cons J (.cons J (.cons J (.cons (Eg (Bg ha) hlim) .nil))))
 rintro _ fr h ⟨rfl,rfl⟩
 refine Al (Fb _ _ _)<|Y<|O<|Aa (.bool (decide ((s.length:Int)<(s.length:Int)))) J (Bh J J J)<|Z<|Y<|Df J (Int.lt_irrefl _) ?_
 refine Cy J<|Y<|O<|Aa (.I (-1)) J Ai<|Z<|Bl (a:=(-1)) (vs:=[(.I (-1))]) Tryz.func123 hI J (.same _)
theorem Yb (s:List Int)(v:Int):CP Tryz.prog 115 [(.sl 1 (List.map (rI .i64) s)),(.int .i64 v)] (Mg s v) (fun(x:Bool)=>(AV.bool x)):=by
 refine Cd (n:=9) 0 Tryz.func115 J (by decide) J J fun h0 ids hI=>Bn (Al (Mg.eq_1 _ _) ?_)
 refine Y<|O<|Aa (.bool false) J Ai<|Z<|Y<|O<|Ab 2 [] [(6,(.I v)),(5,(.sl 1 (List.map (rI .i64) s)))] ?_
 refine A7 [(.sl 1 (List.map (rI .i64) s)),(.I v)] J J J J ((Aac s v) _) (fun v _=>B0 Tryz.func115 hI) fun r _=>Ab 2 [] [(4,(.bool (decide (r≥0))))] ?_
 refine Z<|Bl (a:=(decide (r≥0))) (vs:=[(.bool (decide (r≥0)))]) Tryz.func115 hI J (.same _)
theorem Rc (s:T119)(some:List Int):CP Tryz.prog 104 [(.cp (O4 s) 0),(.sl 1 (List.map (rI .i64) some))] (Jm s some) (fun(x:Ay)=>(AV.str x)):=by
 refine Cd (n:=40) 0 Tryz.func104 J (by decide) J J fun h0 ids hI=>Bn (Al (Jm.eq_1 _ _) ?_)
 refine Y<|O<|Aa (.str []) J Ai<|Z<|Y<|O<|Ab 5 [] [(5,(.I s.fAt))] ?_
 refine Z<|Y<|Dx (fun n1=>M9 s n1) (fun n1=>fun(fr:Nat→AV) (h:Ag)=>fr=A5 [(0,(.cp (O4 s) 0)),(5,(.I n1))]∧h=hp h0 ids []) ?_ fun hJ1=>?_
 ·rintro n1 fr h ⟨rfl,rfl⟩
  refine Al (M9.eq_1 _ _)<|Y<|Ct Es [[],[0],[0,1],[0,1,2],[],[4],[4,5],[4,5,6],[],[0,1,2,3,4,5,6,7,8],[0,1,2,3,4,5,6,7,8,9,9]] [(false,0),(false,1),(false,2),(false,3),(false,4),(false,5),(false,6),(false,7),(false,8),(false,9),(false,10)] (by kernel_rfl)<|Af (.cp (O4 s) 0) J J Ad<|Af (.cp (O4 s) 0) J J (Br J)<|Af (.cp (O4 s) 0) J J (Cb (Zo (c:=0) (off:=0) (i:=0) Pl J Cf J))<|Af (.str s.fSrc) J J (Au (C7 Cf J)) ?_
  refine Af (.cp (O4 s) 0) J J Ad<|Af (.cp (O4 s) 0) J J (Br J)<|Af (.cp (O4 s) 1) J J (Cb (Zo (c:=0) (off:=1) (i:=1) Pl J C2 J))<|Af (.I s.fAt) J J (Au (C7 C2 J))<|Af (.I n1) J J Ad<|Kt fun hs=>Af (.str (Ih s.fSrc s.fAt n1)) J J (Fr (Yq Cf hs)) ?_
  refine Af (.str (Ih s.fSrc s.fAt n1)) J J Ai<|Ck<|Bl (a:=(Ih s.fSrc s.fAt n1)) (vs:=[(.str (Ih s.fSrc s.fAt n1))]) Tryz.func104 hI J (.same _)
 refine Ba<|D6 [(0,(.cp (O4 s) 0)),(1,(.sl 1 (List.map (rI .i64) some))),(5,(.I s.fAt))] (FI J)<|Lo (P:=Tryz.prog) (fun n=>Ni s some n) ((fun n1=>M9 s n1):Int→R Ay) (fun n=>fun(fr:Nat→AV) (h:Ag)=>fr=A5 [(0,(.cp (O4 s) 0)),(1,(.sl 1 (List.map (rI .i64) some))),(5,(.I n))]∧h=hp h0 ids []) s.fAt ?_ ?_
 ·exact⟨J,J⟩
 rintro vW hW n fr h ⟨rfl,rfl⟩
 refine Al (m':=Ni s some n) J (Al (Ni.eq_1 _ _ _) ?_)
 refine Y<|Y<|O<|Ab 5 [] [(14,(.str s.fSrc)),(10,(.I n))] ?_
 refine Aa (.I (s.fSrc.length:Int)) J (A2 (Fe Cf))<|Ab 2 [] [(17,(.bool (decide (n<(s.fSrc.length:Int)))))] ?_
 refine Cz 10 ((fun(b:Bool)=>if b then(.ok (.inl (IntKind.wrap .i64 (n+1)))) else(.ok (.inr (n)))):Bool→R (Int ⊕ Int)) (fun(b:Bool) (fr:Nat→AV) (h:Ag)=>fr=A5 [(0,(.cp (O4 s) 0)),(1,(.sl 1 (List.map (rI .i64) some))),(5,(.I n)),(27,(.bool b))]∧h=hp h0 ids []) ?_ fun hJ=>Dd (fun hb1=>?_) (fun hb1=>?_)
 ·rintro b fr h ⟨rfl,rfl⟩
  refine Z<|Bx J (fun hc=>?_) (fun hc=>?_)
  ·refine Ax<|Ba<|O<|Ab 3 [] [(5,(.I (IntKind.wrap .i64 (n+1))))] ?_
   refine Z<|Bi<|Bo (G7 (hW (IntKind.wrap .i64 (n+1)) _ _ ⟨J,J⟩))
  refine Cy J<|Kq<|Bo (hJ1 n _ _ ⟨J,J⟩)
 ·refine Az (t:=17) hb1 J<|Ab 6 [] [(23,(.I n)),(22,(.str s.fSrc)),(21,(.cp (O4 s) 0)),(20,(.cp (O4 s) 0)),(19,(.cp (O4 s) 0)),(18,(.sl 1 (List.map (rI .i64) some)))] ?_
  refine Dv fun a hz hx1=>By (tj:=17) (.int .u8 (a.toNat:Int)) J J J (N9 (Nz Cf hz hx1))<|A7 [(.int .u8 (a.toNat:Int))] J (Cq (tj:=17) J J) J J ((Rp (a.toNat:Int)) _) (fun v _=>B0 Tryz.func104 hI) fun r _=>A7 [(.sl 1 (List.map (rI .i64) some)),(.I r)] J (Cq (tj:=17) J J) J J ((Yb some r) _) (fun v _=>B0 Tryz.func104 hI) fun r1 _=>Aa (.bool r1) J (Et (t:=true) J J)<|Bd<|B5 [(0,(.cp (O4 s) 0)),(1,(.sl 1 (List.map (rI .i64) some))),(5,(.I n)),(27,(.bool r1))] (FI J) ?_
  exact hJ r1 _ _ ⟨J,J⟩
 refine Az (t:=17) hb1 J<|Ab 10 [] [(27,(.bool false)),(26,.und),(25,.und),(24,.und),(23,.und),(22,.und),(21,.und),(20,.und),(19,.und),(18,.und)] ?_
 refine Bd<|B5 [(0,(.cp (O4 s) 0)),(1,(.sl 1 (List.map (rI .i64) some))),(5,(.I n)),(27,(.bool false))] (FI J)<|hJ false _ _ ⟨J,J⟩
theorem Ab0 (s:Ay):CP Tryz.prog 100 [(.str s)] (Un s) (fun(x:Bool)=>(AV.bool x)):=by
 refine Cd (n:=38) 0 Tryz.func100 J (by decide) J J fun h0 ids hI=>Bn (Al (Un.eq_1 _) ?_)
 refine Y<|O<|Aa (.bool false) J Ai<|Z<|Y<|Y<|O ?_
 refine Ab 3 [] [(7,(.bool (s==[])))] ?_
 refine B2 4 [(0,(.str s)),(11,(.bool ((s==[])||(decide ((s.length:Int) > 32)))))] ?_ fun hJ=>Bw (s==[]) (fun hb1=>?_) (fun hb1=>?_)
 ·refine Aa (.bool ((s==[])||(decide ((s.length:Int) > 32)))) J Ad<|Cz 5 ((fun(b:Bool)=>if b then(.ok false) else(if s.length≤Db then((each (fun _ a1=>fun _=>Q6 a1) 0 s ()).bind (Dz (fun _=>.ok true) (fun r=>.ok r))) else .bad)):Bool→R Bool) (fun(b:Bool) (fr:Nat→AV) (h:Ag)=>fr=A5 [(0,(.str s)),(17,(.bool b))]∧h=hp h0 ids []) ?_ fun hJ1=>Dd (fun hb3=>?_) (fun hb3=>?_)
  ·rintro b fr h ⟨rfl,rfl⟩
   refine Z<|Bx J (fun hc=>?_) (fun hc=>?_)
   ·refine Y<|O<|Aa (.bool false) J Ai<|Z<|Bl (a:=false) (vs:=[(.bool false)]) Tryz.func100 hI J (.same _)
   refine Ax<|Y<|Y<|O<|Aa (.str s) J Ad<|Aa (.I (s.length:Int)) J (A2 (Fe Cf))<|Aa (.I 0) J Ad ?_
   refine Z<|Ba<|Abf fun hlim=>D6 [(0,(.str s)),(19,(.I (s.length:Int))),(20,(.I 0))] (FI J)<|Eo (P:=Tryz.prog) s (fun _ a1=>fun _=>Q6 a1) ((Dz (fun _=>.ok true) (fun r=>.ok r)):(Unit ⊕ Bool)→R Bool) (fun j=>fun _=>fun(fr:Nat→AV) (h:Ag)=>fr=A5 [(0,(.str s)),(19,(.I (s.length:Int))),(20,(.I (j:Int)))]∧h=hp h0 ids []) () ?_ ?_ ?_
   ·exact⟨J,J⟩
   ·rintro j a1 ha1 W hW _ fr h ⟨rfl,rfl⟩
    refine Al (m':=Q6 a1) J (Al (Q6.eq_1 _) ?_)
    refine Y<|O<|Aa (.bool (decide ((j:Int)<(s.length:Int)))) J (Bh J J J)<|Z<|Y<|Dg J (Int.ofNat_lt.2 (Bg ha1))<|Ax ?_
    refine Y<|Ba<|Y<|O<|Ab 2 [] [(3,(.I (j:Int)))] ?_
    refine Z<|Y<|O<|Ab 2 [] [(24,(.I (j:Int))),(23,(.str s))] ?_
    refine Aa (.int .u8 (a1.toNat:Int)) J (N9 (Abc Cf ha1))<|A7 [(.int .u8 (a1.toNat:Int))] J J J J ((Rp (a1.toNat:Int)) _) (fun v _=>B0 Tryz.func100 hI) fun c _=>Aa (.I c) J Ai<|Z<|Y<|O<|Ab 3 [] [(29,(.bool (c != 2)))] ?_
    refine B2 3 [(0,(.str s)),(4,(.I c)),(19,(.I (s.length:Int))),(20,(.I (j:Int))),(32,(.bool ((c != 2)&&(c != 3))))] ?_ fun hJ2=>Bw (c != 2) (fun hb5=>?_) (fun hb5=>?_)
    ·refine Aa (.bool ((c != 2)&&(c != 3))) J Ad<|B2 3 [(0,(.str s)),(19,(.I (s.length:Int))),(20,(.I (j:Int))),(36,(.bool (((c != 2)&&(c != 3))&&(c != 5))))] ?_ fun hJ3=>Bw ((c != 2)&&(c != 3)) (fun hb7=>?_) (fun hb7=>?_)
     ·refine Z<|Bx J (fun hc1=>?_) (fun hc1=>?_)
      ·refine Y<|O<|Aa (.bool false) J Ai<|Z<|E7<|Fh<|Bl (a:=false) (vs:=[(.bool false)]) Tryz.func100 hI J (.same _)
      refine Ax<|Bi<|O<|Ab 2 [] [(20,(.I (IntKind.wrap .i64 ((j:Int)+1))))] ?_
      refine Z<|Bo (E8 (hW () _ _ ⟨J,J⟩)) (.cons J (.cons J (.cons (Eg (Bg ha1) hlim) .nil)))
     ·refine Az (t:=33) hb7 J<|Ab 3 [] [(36,(.bool (c != 5))),(35,(.bool (c != 5))),(34,(.I c))] ?_
      exact Bf hJ3 (.cons J (.cons J (.cons J (.cons (Hk hb7) .nil))))
     refine Az (t:=33) hb7 J<|Ab 3 [] [(36,(.bool false)),(35,.und),(34,.und)] ?_
     exact Bf hJ3 (.cons J (.cons J (.cons J (.cons (Hl hb7) .nil))))
    ·refine Az (t:=29) hb5 J<|Ab 3 [] [(32,(.bool (c != 3))),(31,(.bool (c != 3))),(30,(.I c))] ?_
     exact Bf hJ2 (.cons J (.cons J (.cons J (.cons J (.cons (Hk hb5) .nil)))))
    refine Az (t:=29) hb5 J<|Ab 3 [] [(32,(.bool false)),(31,.und),(30,.und)] ?_
    exact Bf hJ2 (.cons J (.cons J (.cons J (.cons J (.cons (Hl hb5) .nil)))))
   rintro _ fr h ⟨rfl,rfl⟩
   refine Al (Fb _ _ _)<|Y<|O<|Aa (.bool (decide ((s.length:Int)<(s.length:Int)))) J (Bh J J J)<|Z<|Y<|Df J (Int.lt_irrefl _) ?_
   refine Cy J<|Y<|O<|Aa (.bool true) J Ai<|Z<|Bl (a:=true) (vs:=[(.bool true)]) Tryz.func100 hI J (.same _)
  ·refine Az (t:=12) hb3 J<|Ab 5 [] [(17,(.bool true))] ?_
   refine Bd<|B5 [(0,(.str s)),(17,(.bool true))] (FI J)<|hJ1 true _ _ ⟨J,J⟩
  refine Az (t:=12) hb3 J<|By (tj:=12) (.str s) J J J Ad<|Dv fun a hz hx1=>By (tj:=12) (.int .u8 (a.toNat:Int)) J J J (N9 (Nz Cf hz hx1))<|A7 [(.int .u8 (a.toNat:Int))] J (Cq (tj:=12) J J) J J ((Rp (a.toNat:Int)) _) (fun v _=>B0 Tryz.func100 hI) fun r _=>Ab 2 [] [(17,(.bool (r != 2)))] ?_
  refine Bd<|B5 [(0,(.str s)),(17,(.bool (r != 2)))] (FI J)<|hJ1 (r != 2) _ _ ⟨J,J⟩
 ·refine Az (t:=7) hb1 J<|Ab 4 [] [(11,(.bool true))] ?_
  exact Bf hJ (.cons J (.cons (E6 hb1) .nil))
 refine Az (t:=7) hb1 J<|By (tj:=7) (.str s) J J J Ad<|By (tj:=7) (.I (s.length:Int)) J J J (A2 (Fe Cf))<|Ab 2 [] [(11,(.bool (decide ((s.length:Int) > 32))))] ?_
 exact Bf hJ (.cons J (.cons (E5 hb1) .nil))
theorem Aa5 (t:Token):CP Tryz.prog 59 [(.agg (Ac t))] (S6 t) (fun(x:Bool)=>(AV.bool x)):=by
 refine Cd (n:=48) 1 Tryz.func59 J (by decide) J J fun h0 ids hI=>Bn (Al (S6.eq_1 _) ?_)
 refine Y<|O<|Cl (v:=(.agg (Ac t))) (j:=0) hI J J J J J J J fun g=>Aa (.bool false) J Ai<|Z<|Aj ?_
 refine Y<|Y<|O<|Ab 2 [0] [(4,(.I t.Kind))] ?_
 refine Z<|Ba<|Y<|O<|Ab 2 [] [(5,(.bool (t.Kind==1)))] ?_
 refine Z<|Bx J (fun hc=>?_) (fun hc=>?_)
 ·refine Y<|O<|Ab 2 [0] [(8,(.str t.Text))] ?_
  refine A7 [(.str t.Text)] J J J J ((Ab0 t.Text) _) (fun v _=>B0 Tryz.func59 hI) fun r _=>Aa (.bool r) J Ad<|B2 4 [(14,(.bool (r&&(t.N==0))))] ?_ fun hJ=>Bw r (fun hb1=>?_) (fun hb1=>?_)
  ·refine Aa (.bool (r&&(t.N==0))) J Ai<|Z<|Bl (a:=(r&&(t.N==0))) (vs:=[(.bool (r&&(t.N==0)))]) Tryz.func59 hI J (.same _)
  ·refine Az (t:=10) hb1 J<|Ab 4 [0] [(14,(.bool (t.N==0)))] ?_
   exact Bf hJ (.cons (Hk hb1) .nil)
  refine Az (t:=10) hb1 J<|Ab 4 [] [(14,(.bool false))] ?_
  exact Bf hJ (.cons (Hl hb1) .nil)
 refine Y<|O<|Ab 2 [] [(15,(.bool (t.Kind==2)))] ?_
 refine Z<|Bx J (fun hc1=>?_) (fun hc1=>?_)
 ·refine Y<|O<|Ab 4 [0] [(20,(.bool (t.Text==[])))] ?_
  refine B2 4 [(1,(.q ids 0 g)),(24,(.bool ((t.Text==[])&&(decide (t.N≥0)))))] ?_ fun hJ1=>Bw (t.Text==[]) (fun hb3=>?_) (fun hb3=>?_)
  ·refine Aa (.bool ((t.Text==[])&&(decide (t.N≥0)))) J Ad<|B2 4 [(29,(.bool (((t.Text==[])&&(decide (t.N≥0)))&&(decide (t.N≤1099511627776)))))] ?_ fun hJ2=>Bw ((t.Text==[])&&(decide (t.N≥0))) (fun hb5=>?_) (fun hb5=>?_)
   ·refine Aa (.bool (((t.Text==[])&&(decide (t.N≥0)))&&(decide (t.N≤1099511627776)))) J Ai<|Z<|Bl (a:=(((t.Text==[])&&(decide (t.N≥0)))&&(decide (t.N≤1099511627776)))) (vs:=[(.bool (((t.Text==[])&&(decide (t.N≥0)))&&(decide (t.N≤1099511627776))))]) Tryz.func59 hI J (.same _)
   ·refine Az (t:=25) hb5 J<|Ab 4 [0] [(29,(.bool (decide (t.N≤1099511627776))))] ?_
    exact Bf hJ2 (.cons (Hk hb5) .nil)
   refine Az (t:=25) hb5 J<|Ab 4 [] [(29,(.bool false))] ?_
   exact Bf hJ2 (.cons (Hl hb5) .nil)
  ·refine Az (t:=20) hb3 J<|Ab 4 [0] [(24,(.bool (decide (t.N≥0))))] ?_
   exact Bf hJ1 (.cons J (.cons (Hk hb3) .nil))
  refine Az (t:=20) hb3 J<|Ab 4 [] [(24,(.bool false))] ?_
  exact Bf hJ1 (.cons J (.cons (Hl hb3) .nil))
 refine Y<|O<|Ab 2 [] [(30,(.bool (t.Kind==3)))] ?_
 refine Z<|Bx J (fun hc2=>?_) (fun hc2=>?_)
 ·refine Y<|O<|Ab 2 [0] [(33,(.str t.Text))] ?_
  refine Aa (.I (t.Text.length:Int)) J (A2 (Fe Cf))<|Ab 2 [] [(36,(.bool ((t.Text.length:Int)==1)))] ?_
  refine Cz 6 ((fun(b:Bool)=>.ok (b&&(t.N==0))):Bool→R Bool) (fun(b:Bool) (fr:Nat→AV) (h:Ag)=>fr=A5 [(1,(.q ids 0 g)),(42,(.bool b))]∧h=hp h0 ids [(some (.rows g 4 [(Ac t)]))]) ?_ fun hJ3=>Dd (fun hb7=>?_) (fun hb7=>?_)
  ·rintro b fr h ⟨rfl,rfl⟩
   refine Aa (.bool b) J Ad<|B2 4 [(47,(.bool (b&&(t.N==0))))] ?_ fun hJ4=>Bw b (fun hb9=>?_) (fun hb9=>?_)
   ·refine Aa (.bool (b&&(t.N==0))) J Ai<|Z<|Bl (a:=(b&&(t.N==0))) (vs:=[(.bool (b&&(t.N==0)))]) Tryz.func59 hI J (.same _)
   ·refine Az (t:=43) hb9 J<|Ab 4 [0] [(47,(.bool (t.N==0)))] ?_
    exact Bf hJ4 (.cons (Hk hb9) .nil)
   refine Az (t:=43) hb9 J<|Ab 4 [] [(47,(.bool false))] ?_
   exact Bf hJ4 (.cons (Hl hb9) .nil)
  ·refine Az (t:=36) hb7 J<|Ab 2 [0] [(38,(.str t.Text))] ?_
   refine Dv fun a hz hx1=>By (tj:=36) (.int .u8 (a.toNat:Int)) J J J (N9 (Nz Cf hz hx1))<|A7 [(.int .u8 (a.toNat:Int))] J (Cq (tj:=36) J J) J J ((Rp (a.toNat:Int)) _) (fun v _=>B0 Tryz.func59 hI) fun r1 _=>Ab 2 [] [(42,(.bool (r1==4)))] ?_
   refine Bd<|B5 [(1,(.q ids 0 g)),(42,(.bool (r1==4)))] (FI J)<|hJ3 (r1==4) _ _ ⟨J,J⟩
  refine Az (t:=36) hb7 J<|Ab 6 [] [(42,(.bool false))] ?_
  refine Bd<|B5 [(1,(.q ids 0 g)),(42,(.bool false))] (FI J)<|hJ3 false _ _ ⟨J,J⟩
 refine Ax<|Bi<|Y<|O<|Aa (.bool false) J Ai<|Z<|Bl (a:=false) (vs:=[(.bool false)]) Tryz.func59 hI J (.same _)
theorem Acz (s:Ay)(h0:Ag)(hI0:Ids h0 [] 0):P1 s≠.bad→Bq Tryz.prog 106 [.str s] (hp h0 [] []) (C5 (fun a_ v h' => ∃ (v1:AV),Ai1 v1 a_.2∧v=(.tup [.int .i64 a_.1,v1])∧h'=hp h0 [] []) h0 (P1 s)):=by
 refine Ao4 (.mk Tryz.func106 J (by decide)) (fun p h=>by unfold P1 at h; split at h <;> (try split at h) <;> cases h) fun a ha B mu w cargs hs hl=>?_
 obtain⟨c1,rfl,h1⟩:=Aip hl
 obtain rfl:=Adk h1
 have rv_tup : ∀ {w:World} {n:Int} {v:AV} {c:Value},RV h0 mu w v c→RV h0 mu w (.tup [.int .i64 n,v]) (.tuple #[.int .i64 n,c]):=fun hv=>by
  refine .tup _ [_,_] J fun i hi=>?_
  match i,hi with
  | 0,_=>exact .int _ _
  | 1,_=>exact hv
 have err : ∀ {w w':World} {N:Nat} {x y z:Value} {t:TypeId},w.heap.size≤N→w'.heap[N]? = some (.cells #[x,y,z] t (0,0))→Sim B mu h0 w→RV h0 mu w' (.iface 189 (.cp [.any,.any,.any] 0)) (.iface 189 (.pointer (some ⟨N,0,none⟩))):=by
  intro w w' N x y z t hN hc hs
  refine .iface _ _ _ (.cp _ 0 N 0 (fun j=>[x,y,z].getD j undef) (fun j hj=>?_) (fun j hj=>?_) (fun hm=>?_) ?_)
  ·unfold World.cell?; rw [hc]
   match j,hj with
   | 0,_=>rfl
   | 1,_=>rfl
   | 2,_=>rfl
  ·match j,hj with
   | 0,_=>exact .any _
   | 1,_=>exact .any _
   | 2,_=>exact .any _
  ·have:=Ey.lt hs hm; omega
  ·rcases Nat.lt_or_ge N _ with hh | hh
   ·exact hh
   ·rw [Array.getElem?_eq_none hh] at hc; cases hc
 unfold P1 at ha
 split at ha
 ·rename_i hn
  split at ha
  ·rename_i v hv
   cases ha
   refine(Go.Proofs.Tryz.strconv_Atoi_ok ⟨s.toArray⟩ (by show s.toArray.size≤_; simp; omega) v hv w).mono ?_
   rintro e w' ⟨rfl,hw⟩
   refine⟨?_,_,_,J,⟨.nili,J,J,J⟩,rv_tup .nili⟩
   rcases hw with rfl | ⟨t,rfl⟩
   ·exact Go.RowKit.Below.refl _ _
   ·exact Lib.bytesWorld_below _ _ _
  ·rename_i hv
   cases ha
   obtain⟨tp,p,hp⟩:=Ag3 hs.glob.2
   refine(Go.Proofs.Tryz.strconv_Atoi_syntax_var ⟨s.toArray⟩ (by show s.toArray.size≤_; simpa using hn) hv tp p w hp).mono ?_
   rintro e w' ⟨N,rfl,h1,h2,h3⟩
   exact⟨h3,_,_,J,⟨.iface 189 (.cp [.any,.any,.any] 0),⟨_,_,J⟩,J,J⟩,rv_tup (err h1 h2 hs)⟩
  ·rename_i hv
   cases ha
   obtain⟨tp,p,hp⟩:=Ahn hs.glob.2
   refine(Go.Proofs.Tryz.strconv_Atoi_range_var ⟨s.toArray⟩ (by show s.toArray.size≤_; simpa using hn) hv tp p w hp).mono ?_
   rintro e w' ⟨N,rfl,h1,h2,h3⟩
   exact⟨h3,_,_,J,⟨.iface 189 (.cp [.any,.any,.any] 0),⟨_,_,J⟩,J,J⟩,rv_tup (err h1 h2 hs)⟩
 ·cases ha
theorem X5 (n:Int):CP Tryz.prog 60 [.int .i64 n] (strconv_Itoa n) (fun x=>AV.str x):=
 Agf (.mk Tryz.func60 rfl (by decide)) (fun p h=>by unfold strconv_Itoa at h; split at h <;> cases h) fun a ha B mu h w cargs hs hl=>by
  obtain⟨c1,rfl,h1⟩:=Aip hl
  obtain rfl:=Ak4 h1
  unfold strconv_Itoa at ha
  split at ha
  ·rename_i hn
   cases ha
   refine(Go.Proofs.Tryz.strconv_Itoa n hn.1 hn.2 w (Ala hs.glob.2)).mono ?_
   rintro e w' ⟨rfl,k,os,rfl⟩
   refine⟨⟨J,J,J,?_,fun i hi=>?_⟩,_,J,.str _⟩
   ·show w.heap.size≤(w.heap++os).size
    simp
   ·show(w.heap++os)[i]? = _
    exact Array.getElem?_append_left hi
  ·cases ha
theorem Sg (s:Ay)(vprefix:Ay):CP Tryz.prog 118 [(.str s),(.str vprefix)] (H5 s vprefix) (fun(x:Bool)=>(AV.bool x)):=by
 refine Cd (n:=18) 0 Tryz.func118 J (by decide) J J fun h0 ids hI=>Bn (Al (H5.eq_1 _ _) ?_)
 refine Y<|O<|Aa (.bool false) J Ai<|Z<|Y<|O<|Aa (.str s) J Ad ?_
 refine Aa (.I (s.length:Int)) J (A2 (Fe Cf))<|Aa (.str vprefix) J Ad<|Aa (.I (vprefix.length:Int)) J (A2 (Fe Cf))<|Ab 2 [] [(10,(.bool (decide ((s.length:Int)≥(vprefix.length:Int)))))] ?_
 refine Cz 7 ((fun(b:Bool)=>.ok b):Bool→R Bool) (fun(b:Bool) (fr:Nat→AV) (h:Ag)=>fr=A5 [(17,(.bool b))]∧h=hp h0 ids []) ?_ fun hJ=>Dd (fun hb1=>?_) (fun hb1=>?_)
 ·rintro b fr h ⟨rfl,rfl⟩
  refine Aa (.bool b) J Ai<|Z<|Bl (a:=b) (vs:=[(.bool b)]) Tryz.func118 hI J (.same _)
 ·refine Az (t:=10) hb1 J<|Ab 2 [] [(12,(.str vprefix)),(11,(.str s))] ?_
  refine By (tj:=10) (.I (vprefix.length:Int)) J J J (A2 (Fe Cf))<|Ee fun hs=>By (tj:=10) (.str (s.take (Int.toNat (vprefix.length:Int)))) J J J (Fr (An5 Cf hs))<|Ab 3 [] [(17,(.bool ((s.take (Int.toNat (vprefix.length:Int)))==vprefix)))] ?_
  refine Bd<|B5 [(17,(.bool ((s.take (Int.toNat (vprefix.length:Int)))==vprefix)))] (FI J)<|hJ ((s.take (Int.toNat (vprefix.length:Int)))==vprefix) _ _ ⟨J,J⟩
 refine Az (t:=10) hb1 J<|Ab 7 [] [(17,(.bool false))] ?_
 refine Bd<|B5 [(17,(.bool false))] (FI J)<|hJ false _ _ ⟨J,J⟩
theorem Zj (s:Ay)(vprefix:Ay):CP Tryz.prog 107 [(.str s),(.str vprefix)] (N1 s vprefix) (fun(x:Bool)=>(AV.bool x)):=by
 refine Cd (n:=8) 0 Tryz.func107 J (by decide) J J fun h0 ids hI=>Bn (Al (N1.eq_1 _ _) ?_)
 refine Y<|O<|Aa (.bool false) J Ai<|Z<|Y<|O<|Ab 2 [] [(6,(.str vprefix)),(5,(.str s))] ?_
 refine A7 [(.str s),(.str vprefix)] J J J J ((Sg s vprefix) _) (fun v _=>B0 Tryz.func107 hI) fun r _=>Aa (.bool r) J Ai<|Z<|Bl (a:=r) (vs:=[(.bool r)]) Tryz.func107 hI J (.same _)
theorem Ya (s0_src:Ay)(s0_at:Int)(l:List Token)(h0:Ag)(o0:Nat)(o1:Nat)(g:Nat)(v1:AV)(g1:Nat)(vH:Av v1 o1 g1 l.length)(hI0:Ids h0 [o0,o1] 2):Me s0_src s0_at l≠.bad→Bq Tryz.prog 54 [(.ptr o0 g 0 0)] (hp h0 [o0,o1] [some (.rows g 3 [[(.str s0_src),(.int .i64 s0_at),v1]]),Ah v1 g1 4 (List.map Ac l)]) (C5 (fun a_ v h'=>v=(.tup [])∧h'=hp h0 [o0,o1] [some (.rows g 3 [[(.str s0_src),(.int .i64 a_),v1]]),Ah v1 g1 4 (List.map Ac l)]) h0 (Me s0_src s0_at l)):=by
 refine Bm (n:=13) 0 Tryz.func54 J (by decide) J J hI0 J fun ids he hI=>?_
 clear hI0
 obtain rfl:ix ids 0=o0:=he 0 rfl
 obtain rfl:ix ids 1=o1:=he 1 rfl
 clear he
 refine Bn (Al (Me.eq_1 _ _ _) ?_)
 refine Ct Es [[],[0],[0,1],[0,1,2],[],[],[4,5],[4,5,6],[0,1,2,3,4,5,6,7],[0,0,1,2,3,4,5,6,7,8],[0,1,2,3,4,5,6,7,8,9],[0,1,2,3,4,5,6,7,8,9,10]] [(false,0),(false,1),(false,2),(false,3),(false,4),(true,5),(true,6),(false,7),(false,8),(false,9),(false,10),(true,11)] (by kernel_rfl)<|Af (.q ids 0 g) J J Ad<|Af (.q ids 0 g) J J (Br J)<|Af (.ptr (ix ids 0) g 0 1) J J (Cb (B3 (c:=0) (off:=1) (i:=1) Pl J C2 J))<|Af (.I s0_at) J J (Au (A3 hI J J J C2 J))<|Af (.q ids 0 g) J J Ad<|Iv J J (fun _ _=>J) (fun K hK=>Mr (e:=(rI .i64)) (L:=[1]) (st:=1) (rows:=[[(.I 1)]]) O9 C2 J J J J J (.cons (RowSim.refl _) .nil) (fun x=>Adz x) J J (hK _ _ (Bt J Ad (Bt J (Au (A3 hI J J J C2 J)) (Bt J (Cb (B3 (c:=0) (off:=1) (i:=1) Pl J C2 J)) (Bt J (Br J) (Bt J Ad Bp))))) ?_))
 clear hK K
 refine Oy [(.q ids 0 g),(.sl 1 (List.map (rI .i64) [1]))] J J J J J (CP.lend (Rc ({ fSrc:=s0_src,fAt:=s0_at,fL:=l }:T119) [1]) (LF.lfz (.cons (.ptrL (hI.at J J) J J (.cons (.same _) (.cons (.same _) (.cons (D9 vH (hI.at J J) J (fun x=>Mq x)) .nil)))) (.cons (.same _) .nil))) (fun _ _=>(.str _))) (fun v _ _ _=>Ao (K:=2) (N:=0) Tryz.func54 hI) (Ae J (Bt J (Au (A3 hI J J J C2 J)) (Bt J (Cb (B3 (c:=0) (off:=1) (i:=1) Pl J C2 J)) (Bt J (Br J) (Bt J Ad Bp))))) fun r _=>Af (.I (r.length:Int)) J J (A2 (Fe Cf))<|Af (.I (IntKind.wrap .i64 (s0_at+(r.length:Int)))) J J (Bh J J J)<|Af (.q ids 0 g) J J (Br J)<|Af (.ptr (ix ids 0) g 0 1) J J (Cb (B3 (c:=0) (off:=1) (i:=1) Pl J C2 J))<|D7 J (fun _ _=>J) (fun K hK=>Co (Aq (v:=(.I (IntKind.wrap .i64 (s0_at+(r.length:Int))))) hI J J J J C2 J J J J J) (hK _ _ (Ae J (Ae J (Ae J (Ae J (Ae J (Ae J (Ae J (Ae J (Ae J Bp))))))))) ?_))
 clear hK K
 refine Ck<|Aj ?_
 exact Ci (K:=2) (N:=0) (a:=(IntKind.wrap .i64 (s0_at+(r.length:Int)))) (vs:=[]) [some (.rows g 3 [[(.str s0_src),(.I (IntKind.wrap .i64 (s0_at+(r.length:Int)))),v1]]),Ah v1 g1 4 (List.map Ac l)] Tryz.func54 hI J J J (.keep (.keep .nil)) (.same _) ⟨J,J⟩
theorem Qr (text:Ay)(t:Token)(s0_src:Ay)(s0_at:Int)(l:List Token)(h0:Ag)(o0:Nat)(o1:Nat)(g:Nat)(v1:AV)(g1:Nat)(vH:Av v1 o1 g1 l.length)(hI0:Ids h0 [o0,o1] 2):G0 text t s0_src s0_at l≠.bad→Bq Tryz.prog 105 [(.ptr o0 g 0 0),(.str text),(.agg (Ac t))] (hp h0 [o0,o1] [some (.rows g 3 [[(.str s0_src),(.int .i64 s0_at),v1]]),Ah v1 g1 4 (List.map Ac l)]) (C5 (fun a_ v h' => ∃ (v3:AV),∃ (g4:Nat),Av v3 o1 g4 a_.length∧v=(.tup [])∧h'=hp h0 [o0,o1] [some (.rows g 3 [[(.str s0_src),(.int .i64 (IntKind.wrap .i64 (s0_at+(text.length:Int)))),v3]]),Ah v3 g4 4 (List.map Ac a_)]) h0 (G0 text t s0_src s0_at l)):=by
 refine Bm (n:=38) 1 Tryz.func105 J (by decide) J J hI0 J fun ids he hI=>?_
 clear hI0
 obtain rfl:ix ids 0=o0:=he 0 rfl
 obtain rfl:ix ids 1=o1:=he 1 rfl
 clear he
 refine Bn (Al (G0.eq_1 _ _ _ _ _) ?_)
 refine Aj ?_
 refine Y<|O<|Cl (v:=(.agg (Ac t))) (j:=2) hI J J J J J J J fun g2=>Z<|Aj ?_
 refine Y<|Y<|O<|Ab 1 [2] [(6,(.agg (Ac t)))] ?_
 refine A7 [(.agg (Ac t))] J J J J ((Aa5 t) _) (fun v _=>Ao (K:=2) (N:=1) Tryz.func105 hI) fun r _=>Aa (.bool (!r)) J (Oa J)<|Z<|D2 J (fun hc=>?_) (fun hc=>?_)
 ·refine Ax<|Y<|O<|Ab 5 [0] [(18,(.ptr (ix ids 2) g2 0 3)),(17,(.I s0_at))] ?_
  refine An (Aq (v:=(.I s0_at)) hI J J J J C2 J J J J J)<|Z<|Aj ?_
  refine Y<|Ct Es [[],[],[1],[1,2],[1,2,3],[],[5],[1,2,3,4,5,6],[0,0,1,2,3,4,5,6,7],[0,1,2,3,4,5,6,7,8],[0,1,2,3,4,5,6,7,8,9]] [(false,0),(false,1),(false,2),(false,3),(false,4),(false,5),(true,6),(true,7),(false,8),(false,9),(true,10)] (by kernel_rfl)<|Af (.q ids 0 g) J J Ad<|Af (.q ids 0 g) J J Ad<|Af (.q ids 0 g) J J (Br J)<|Af (.ptr (ix ids 0) g 0 2) J J (Cb (B3 (c:=0) (off:=2) (i:=2) Pl J Ch J))<|Af v1 J J (Au (A3 hI J J J Ch J)) ?_
  refine Af (.agg [(.I t.Kind),(.str t.Text),(.I t.N),(.I s0_at)]) J J (Au (A3 hI J J J C1 J))<|Iv J J (fun _ _=>J) (fun K hK=>Mr (e:=Ac) (L:=[({ Kind:=t.Kind,Text:=t.Text,N:=t.N,At:=s0_at }:Token)]) (st:=4) (rows:=[[(.I t.Kind),(.str t.Text),(.I t.N),(.I s0_at)]]) Ch C1 J J J J J (.cons (.cons (.same _) (.cons (.same _) (.cons (.same _) (.cons (.same _) .nil)))) .nil) (fun x=>Mq x) J J (hK _ _ (Ae J (Bt J (Au (A3 hI J J J Ch J)) (Bt J (Cb (B3 (c:=0) (off:=2) (i:=2) Pl J Ch J)) (Bt J (Br J) (Bt J Ad (Bt J Ad Bp)))))) ?_))
  clear hK K
  refine Kt fun hl=>Iv J J (fun _ _=>J) (fun K hK=>H4 (e:=Ac) (L:=l) (L2:=[({ Kind:=t.Kind,Text:=t.Text,N:=t.N,At:=s0_at }:Token)]) (v:=v1) (g:=g1) (st:=4) (j:=1) hI J J J vH J (Gb J) Ch Ch J C1 J J J hl fun v2 g3 vH1=>hK _ _ (Ae J (Ae J (Ae J (Ae J (Ae J (Bt J Ad Bp)))))) ?_)
  clear hK K
  refine Af (.q ids 0 g) J J (Br J)<|Af (.ptr (ix ids 0) g 0 2) J J (Cb (B3 (c:=0) (off:=2) (i:=2) Pl J Ch J))<|D7 J (fun _ _=>J) (fun K hK=>Co (G5 vH1 hI J J J J Ch J J J) (hK _ _ (Ae J (Ae J (Ae J (Ae J (Ae J (Ae J (Ae J (Ae J Bp)))))))) ?_))
  clear hK K
  refine Ck<|Aj ?_
  refine O<|Ab 5 [0] [(33,(.str text)),(32,(.I s0_at)),(29,(.q ids 0 g))] ?_
  refine Aa (.I (text.length:Int)) J (A2 (Fe Cf))<|Ab 3 [] [(37,(.ptr (ix ids 0) g 0 1)),(35,(.I (IntKind.wrap .i64 (s0_at+(text.length:Int)))))] ?_
  refine An (Aq (v:=(.I (IntKind.wrap .i64 (s0_at+(text.length:Int))))) hI J J J J C2 J J J J J)<|Z<|Aj ?_
  exact Ci (K:=2) (N:=1) (a:=(l++[({ Kind:=t.Kind,Text:=t.Text,N:=t.N,At:=s0_at }:Token)])) (vs:=[]) [some (.rows g 3 [[(.str s0_src),(.I (IntKind.wrap .i64 (s0_at+(text.length:Int)))),v2]]),Ah v2 g3 4 (List.map Ac (l++[({ Kind:=t.Kind,Text:=t.Text,N:=t.N,At:=s0_at }:Token)]))] Tryz.func105 hI J J J (.keep (.keep (.drop .nil))) (.same _) ⟨v2,g3,vH1,J,J⟩
 refine O<|Ab 5 [0] [(13,(.iface 113 (.I s0_at)))] ?_
 exact Sy (v:=⟨113,.I s0_at⟩) J J (Ao (K:=2) (N:=1) Tryz.func105 hI)
theorem Yi (s0_src:Ay)(s0_at:Int)(l:List Token)(h0:Ag)(o0:Nat)(o1:Nat)(g:Nat)(v1:AV)(g1:Nat)(vH:Av v1 o1 g1 l.length)(hI0:Ids h0 [o0,o1] 2):M8 s0_src s0_at l≠.bad→Bq Tryz.prog 55 [(.ptr o0 g 0 0)] (hp h0 [o0,o1] [some (.rows g 3 [[(.str s0_src),(.int .i64 s0_at),v1]]),Ah v1 g1 4 (List.map Ac l)]) (C5 (fun a_ v h' => ∃ (v3:AV),∃ (g3:Nat),Av v3 o1 g3 a_.2.length∧v=(.tup [])∧h'=hp h0 [o0,o1] [some (.rows g 3 [[(.str s0_src),(.int .i64 a_.1),v3]]),Ah v3 g3 4 (List.map Ac a_.2)]) h0 (M8 s0_src s0_at l)):=by
 refine Bm (n:=11) 0 Tryz.func55 J (by decide) J J hI0 J fun ids he hI=>?_
 clear hI0
 obtain rfl:ix ids 0=o0:=he 0 rfl
 obtain rfl:ix ids 1=o1:=he 1 rfl
 clear he
 refine Bn (Al (M8.eq_1 _ _ _) ?_)
 refine Y<|O<|Aa (.q ids 0 g) J Ad<|C3 (e:=(rI .i64)) (L:=[2,3,5]) (st:=1) (rows:=[[(.I 2)],[(.I 3)],[(.I 5)]]) J O9 C2 J J J J J (.cons (RowSim.refl _) (.cons (RowSim.refl _) (.cons (RowSim.refl _) .nil))) (fun x=>Adz x) J J<|A7 [(.q ids 0 g),(.sl 1 (List.map (rI .i64) [2,3,5]))] J J J J (CP.lend (Rc ({ fSrc:=s0_src,fAt:=s0_at,fL:=l }:T119) [2,3,5]) (LF.lfz (.cons (.ptrL (hI.at J J) J J (.cons (.same _) (.cons (.same _) (.cons (D9 vH (hI.at J J) J (fun x=>Mq x)) .nil)))) (.cons (.same _) .nil))) (fun _ _=>(.str _))) (fun v _=>Ao (K:=2) (N:=0) Tryz.func55 hI) fun t _=>Aa (.str t) J Ai<|Z ?_
 refine O<|Ab 4 [] [(9,(.agg [(.I 1),(.str t),(.I 0),(.I 0)])),(7,(.str t)),(6,(.q ids 0 g))] ?_
 refine Ap [0,1] hI J J (Qr t ({ Kind:=1,Text:=t,N:=0,At:=0 }:Token) s0_src s0_at l _ (ix ids 0) (ix ids 1) g v1 g1 vH (by exact hI.sub' J J)) J J J J J J (fun v _=>Ao (K:=2) (N:=0) Tryz.func55 hI) ?_
 rintro r _ _ _ ⟨v2,g2,vH1,rfl,rfl⟩
 refine A0 [0,1] hI J J J ?_
 refine Ar<|Z<|Aj ?_
 exact Ci (K:=2) (N:=0) (a:=((IntKind.wrap .i64 (s0_at+(t.length:Int))),r)) (vs:=[]) [some (.rows g 3 [[(.str s0_src),(.I (IntKind.wrap .i64 (s0_at+(t.length:Int)))),v2]]),Ah v2 g2 4 (List.map Ac r)] Tryz.func55 hI J J J (.keep (.keep .nil)) (.same _) ⟨v2,g2,vH1,J,J⟩
theorem Xn (s0_src:Ay)(s0_at:Int)(l:List Token)(h0:Ag)(o0:Nat)(o1:Nat)(g:Nat)(v1:AV)(g1:Nat)(vH:Av v1 o1 g1 l.length)(hI0:Ids h0 [o0,o1] 2):K1 s0_src s0_at l≠.bad→Bq Tryz.prog 56 [(.ptr o0 g 0 0)] (hp h0 [o0,o1] [some (.rows g 3 [[(.str s0_src),(.int .i64 s0_at),v1]]),Ah v1 g1 4 (List.map Ac l)]) (C5 (fun a_ v h' => ∃ (v4:AV),∃ (g3:Nat),Av v4 o1 g3 a_.2.length∧v=(.tup [])∧h'=hp h0 [o0,o1] [some (.rows g 3 [[(.str s0_src),(.int .i64 a_.1),v4]]),Ah v4 g3 4 (List.map Ac a_.2)]) h0 (K1 s0_src s0_at l)):=by
 refine Bm (n:=31) 0 Tryz.func56 J (by decide) J J hI0 J fun ids he hI=>?_
 clear hI0
 obtain rfl:ix ids 0=o0:=he 0 rfl
 obtain rfl:ix ids 1=o1:=he 1 rfl
 clear he
 refine Bn (Al (K1.eq_1 _ _ _) ?_)
 refine Y<|O<|Aa (.q ids 0 g) J Ad<|C3 (e:=(rI .i64)) (L:=[3]) (st:=1) (rows:=[[(.I 3)]]) J O9 C2 J J J J J (.cons (RowSim.refl _) .nil) (fun x=>Adz x) J J<|A7 [(.q ids 0 g),(.sl 1 (List.map (rI .i64) [3]))] J J J J (CP.lend (Rc ({ fSrc:=s0_src,fAt:=s0_at,fL:=l }:T119) [3]) (LF.lfz (.cons (.ptrL (hI.at J J) J J (.cons (.same _) (.cons (.same _) (.cons (D9 vH (hI.at J J) J (fun x=>Mq x)) .nil)))) (.cons (.same _) .nil))) (fun _ _=>(.str _))) (fun v _=>Ao (K:=2) (N:=0) Tryz.func56 hI) fun t _=>Aa (.str t) J Ai<|Z ?_
 refine Y<|O<|Aa (.str t) J Ad<|Ap [] hI J J (Acz t _ (by exact hI.sub' J J)) J J J J J J (fun v _=>Ao (K:=2) (N:=0) Tryz.func56 hI) ?_
 rintro r _ _ _ ⟨v2,vH1,rfl,rfl⟩
 refine A0 [] hI J J J ?_
 refine Ar<|Ab 5 [] [(4,v2),(3,(.I r.1))] ?_
 refine Z<|Y<|Y<|O<|Aa v2 J Ad<|Aa (.bool r.2) J (Bh (Ajr (.inr J) vH1) J (Amu Aqb vH1))<|Aa (.bool r.2) J Ad ?_
 refine Cz 5 ((fun(b:Bool)=>if b then(.pan ⟨113,.I s0_at⟩) else((G0 t ({ Kind:=2,Text:=[],N:=r.1,At:=0 }:Token) s0_src s0_at l).bind fun r2=>.ok ((IntKind.wrap .i64 (s0_at+(t.length:Int))),r2))):Bool→R (Int×(List Token))) (fun(b:Bool) (fr:Nat→AV) (h:Ag)=>fr=A5 [(0,(.q ids 0 g)),(2,(.str t)),(3,(.I r.1)),(20,(.bool b))]∧h=hp h0 ids [(some (.rows g 3 [[(.str s0_src),(.I s0_at),v1]])),(Ah v1 g1 4 (List.map Ac l))]) ?_ fun hJ=>Dd (fun hb1=>?_) (fun hb1=>?_)
 ·rintro b fr h ⟨rfl,rfl⟩
  refine Z<|Bx J (fun hc=>?_) (fun hc=>?_)
  ·refine O<|Ab 5 [0] [(25,(.iface 113 (.I s0_at)))] ?_
   exact Sy (v:=⟨113,.I s0_at⟩) J J (Ao (K:=2) (N:=0) Tryz.func56 hI)
  refine Ax<|O<|Ab 4 [] [(29,(.agg [(.I 2),(.str []),(.I r.1),(.I 0)])),(27,(.str t)),(26,(.q ids 0 g))] ?_
  refine Ap [0,1] hI J J (Qr t ({ Kind:=2,Text:=[],N:=r.1,At:=0 }:Token) s0_src s0_at l _ (ix ids 0) (ix ids 1) g v1 g1 vH (by exact hI.sub' J J)) J J J J J J (fun v _=>Ao (K:=2) (N:=0) Tryz.func56 hI) ?_
  rintro r2 _ _ _ ⟨v3,g2,vH2,rfl,rfl⟩
  refine A0 [0,1] hI J J J ?_
  refine Ar<|Z<|Aj ?_
  exact Ci (K:=2) (N:=0) (a:=((IntKind.wrap .i64 (s0_at+(t.length:Int))),r2)) (vs:=[]) [some (.rows g 3 [[(.str s0_src),(.I (IntKind.wrap .i64 (s0_at+(t.length:Int)))),v3]]),Ah v3 g2 4 (List.map Ac r2)] Tryz.func56 hI J J J (.keep (.keep .nil)) (.same _) ⟨v3,g2,vH2,J,J⟩
 ·refine Az (t:=15) hb1 J<|Ab 5 [] [(20,(.bool true))] ?_
  refine Bd<|B5 [(0,(.q ids 0 g)),(2,(.str t)),(3,(.I r.1)),(20,(.bool true))] (FI J)<|hJ true _ _ ⟨J,J⟩
 refine Az (t:=15) hb1 J<|By (tj:=15) (.I r.1) J J J Ad<|A7 [(.I r.1)] J (Cq (tj:=15) J J) J J ((X5 r.1) _) (fun v _=>Ao (K:=2) (N:=0) Tryz.func56 hI) fun r1 _=>Ab 3 [] [(20,(.bool (!(r1==t))))] ?_
 refine Bd<|B5 [(0,(.q ids 0 g)),(2,(.str t)),(3,(.I r.1)),(20,(.bool (!(r1==t))))] (FI J)<|hJ (!(r1==t)) _ _ ⟨J,J⟩
theorem Y7 (s0_src:Ay)(s0_at:Int)(l:List Token)(h0:Ag)(o0:Nat)(o1:Nat)(g:Nat)(v1:AV)(g1:Nat)(vH:Av v1 o1 g1 l.length)(hI0:Ids h0 [o0,o1] 2):Ng s0_src s0_at l≠.bad→Bq Tryz.prog 57 [(.ptr o0 g 0 0)] (hp h0 [o0,o1] [some (.rows g 3 [[(.str s0_src),(.int .i64 s0_at),v1]]),Ah v1 g1 4 (List.map Ac l)]) (C5 (fun a_ v h' => ∃ (v3:AV),∃ (g3:Nat),Av v3 o1 g3 a_.2.length∧v=(.tup [])∧h'=hp h0 [o0,o1] [some (.rows g 3 [[(.str s0_src),(.int .i64 a_.1),v3]]),Ah v3 g3 4 (List.map Ac a_.2)]) h0 (Ng s0_src s0_at l)):=by
 refine Bm (n:=61) 0 Tryz.func57 J (by decide) J J hI0 J fun ids he hI=>?_
 clear hI0
 obtain rfl:ix ids 0=o0:=he 0 rfl
 obtain rfl:ix ids 1=o1:=he 1 rfl
 clear he
 refine Bn (Al (Ng.eq_1 _ _ _) ?_)
 refine Y<|Y<|Ct Es [[],[0],[0,1],[0,1,2],[],[4],[4,5],[4,5,6],[0,1,2,3,4,5,6,7],[0,1,2,3,4,5,6,7,8]] [(false,0),(false,1),(false,2),(false,3),(false,4),(false,5),(false,6),(false,7),(false,8),(true,9)] (by kernel_rfl)<|Af (.q ids 0 g) J J Ad<|Af (.q ids 0 g) J J (Br J)<|Af (.q ids 0 g) J J (Cb (B3 (c:=0) (off:=0) (i:=0) Pl J Cf J))<|Af (.str s0_src) J J (Au (A3 hI J J J Cf J)) ?_
 refine Af (.q ids 0 g) J J Ad<|Af (.q ids 0 g) J J (Br J)<|Af (.ptr (ix ids 0) g 0 1) J J (Cb (B3 (c:=0) (off:=1) (i:=1) Pl J C2 J))<|Af (.I s0_at) J J (Au (A3 hI J J J C2 J))<|Kt fun hs=>Af (.str (s0_src.drop (Int.toNat s0_at))) J J (Fr (Aio Cf hs))<|Oy [(.str (s0_src.drop (Int.toNat s0_at))),(.str [47,47])] J J J J J ((Zj (s0_src.drop (Int.toNat s0_at)) [47,47]) _) (fun v _ _ _=>Ao (K:=2) (N:=0) Tryz.func57 hI) (Ae J (Ae J (Ae J (Ae J (Ae J (Ae J (Ae J (Ae J (Ae J Bp))))))))) fun r _=>?_
 refine Ck<|Bx J (fun hc=>?_) (fun hc=>?_)
 ·refine Y<|Y<|Ct Es [[],[0],[0,1],[0,1,2],[],[4],[4,5],[4,5,6],[0,1,2,3,4,5,6,7],[0,1,2,3,4,5,6,7,8],[0,1,2,3,4,5,6,7,8,9,9,9]] [(false,0),(false,1),(false,2),(false,3),(false,4),(false,5),(false,6),(false,7),(false,8),(true,9),(false,10)] (by kernel_rfl)<|Af (.q ids 0 g) J J Ad<|Af (.q ids 0 g) J J (Br J)<|Af (.q ids 0 g) J J (Cb (B3 (c:=0) (off:=0) (i:=0) Pl J Cf J))<|Af (.str s0_src) J J (Au (A3 hI J J J Cf J)) ?_
  refine Af (.q ids 0 g) J J Ad<|Af (.q ids 0 g) J J (Br J)<|Af (.ptr (ix ids 0) g 0 1) J J (Cb (B3 (c:=0) (off:=1) (i:=1) Pl J C2 J))<|Af (.I s0_at) J J (Au (A3 hI J J J C2 J))<|Kt fun hs1=>Af (.str (s0_src.drop (Int.toNat s0_at))) J J (Fr (Aio Cf hs1))<|Oy [(.str (s0_src.drop (Int.toNat s0_at))),(.int .u8 10)] J J J J J ((Tk (s0_src.drop (Int.toNat s0_at)) 10) _) (fun v _ _ _=>Ao (K:=2) (N:=0) Tryz.func57 hI) (Ae J (Ae J (Ae J (Ae J (Ae J (Ae J (Ae J (Ae J (Ae J Bp))))))))) fun n _=>?_
  refine Af (.I n) J J Ai<|Ck<|Y<|O<|Ab 2 [] [(25,(.bool (decide (n≥0))))] ?_
  refine Z<|Na J (fun hc1=>?_) (fun hc1=>?_)
  ·refine O<|Ab 8 [0] [(33,(.ptr (ix ids 0) g 0 1)),(31,(.I (IntKind.wrap .i64 (s0_at+n))))] ?_
   refine An (Aq (v:=(.I (IntKind.wrap .i64 (s0_at+n)))) hI J J J J C2 J J J J J)<|Z<|Aj ?_
   exact D4 (K:=2) (N:=0) (a:=((IntKind.wrap .i64 (s0_at+n)),l)) (vs:=[]) [some (.rows g 3 [[(.str s0_src),(.I (IntKind.wrap .i64 (s0_at+n))),v1]]),Ah v1 g1 4 (List.map Ac l)] Tryz.func57 hI J J J (.keep (.keep .nil)) (.same _) ⟨v1,g1,vH,J,J⟩
  refine O<|Ab 5 [0] [(38,(.str s0_src)),(34,(.q ids 0 g))] ?_
  refine Aa (.I (s0_src.length:Int)) J (A2 (Fe Cf))<|Ab 2 [] [(41,(.ptr (ix ids 0) g 0 1))] ?_
  refine An (Aq (v:=(.I (s0_src.length:Int))) hI J J J J C2 J J J J J)<|Z<|Aj ?_
  exact D4 (K:=2) (N:=0) (a:=((s0_src.length:Int),l)) (vs:=[]) [some (.rows g 3 [[(.str s0_src),(.I (s0_src.length:Int)),v1]]),Ah v1 g1 4 (List.map Ac l)] Tryz.func57 hI J J J (.keep (.keep .nil)) (.same _) ⟨v1,g1,vH,J,J⟩
 refine Ax<|Y<|Ct Es [[],[0],[0,1],[0,1,2],[],[4],[4,5],[4,5,6],[],[8],[8,9],[8,9,10],[8,9,10,11],[0,1,2,3,4,5,6,7,8,9,10,11,12],[0,1,2,3,4,5,6,7,8,9,10,11,12,13,13]] [(false,0),(false,1),(false,2),(false,3),(false,4),(false,5),(false,6),(false,7),(false,8),(false,9),(false,10),(false,11),(false,12),(false,13),(false,14)] (by kernel_rfl)<|Af (.q ids 0 g) J J Ad<|Af (.q ids 0 g) J J (Br J)<|Af (.q ids 0 g) J J (Cb (B3 (c:=0) (off:=0) (i:=0) Pl J Cf J))<|Af (.str s0_src) J J (Au (A3 hI J J J Cf J)) ?_
 refine Af (.q ids 0 g) J J Ad<|Af (.q ids 0 g) J J (Br J)<|Af (.ptr (ix ids 0) g 0 1) J J (Cb (B3 (c:=0) (off:=1) (i:=1) Pl J C2 J))<|Af (.I s0_at) J J (Au (A3 hI J J J C2 J))<|Af (.q ids 0 g) J J Ad<|Af (.q ids 0 g) J J (Br J)<|Af (.ptr (ix ids 0) g 0 1) J J (Cb (B3 (c:=0) (off:=1) (i:=1) Pl J C2 J)) ?_
 refine Af (.I s0_at) J J (Au (A3 hI J J J C2 J))<|Af (.I (IntKind.wrap .i64 (s0_at+1))) J J (Bh J J J)<|Kt fun hs2=>Af (.str (Ih s0_src s0_at (IntKind.wrap .i64 (s0_at+1)))) J J (Fr (Yq Cf hs2))<|Af (.str (Ih s0_src s0_at (IntKind.wrap .i64 (s0_at+1)))) J J Ai<|Ck<|O ?_
 refine Ab 4 [] [(59,(.agg [(.I 3),(.str (Ih s0_src s0_at (IntKind.wrap .i64 (s0_at+1)))),(.I 0),(.I 0)])),(57,(.str (Ih s0_src s0_at (IntKind.wrap .i64 (s0_at+1))))),(56,(.q ids 0 g))] ?_
 refine Ap [0,1] hI J J (Qr (Ih s0_src s0_at (IntKind.wrap .i64 (s0_at+1))) ({ Kind:=3,Text:=(Ih s0_src s0_at (IntKind.wrap .i64 (s0_at+1))),N:=0,At:=0 }:Token) s0_src s0_at l _ (ix ids 0) (ix ids 1) g v1 g1 vH (by exact hI.sub' J J)) J J J J J J (fun v _=>Ao (K:=2) (N:=0) Tryz.func57 hI) ?_
 rintro r1 _ _ _ ⟨v2,g2,vH1,rfl,rfl⟩
 refine A0 [0,1] hI J J J ?_
 refine Ar<|Z<|Aj ?_
 exact Ci (K:=2) (N:=0) (a:=((IntKind.wrap .i64 (s0_at+((Ih s0_src s0_at (IntKind.wrap .i64 (s0_at+1))).length:Int))),r1)) (vs:=[]) [some (.rows g 3 [[(.str s0_src),(.I (IntKind.wrap .i64 (s0_at+((Ih s0_src s0_at (IntKind.wrap .i64 (s0_at+1))).length:Int)))),v2]]),Ah v2 g2 4 (List.map Ac r1)] Tryz.func57 hI J J J (.keep (.keep .nil)) (.same _) ⟨v2,g2,vH1,J,J⟩
theorem Ad4 (a0:AV)(a1:AV)(a2:AV)(h:Ag):Qc Tryz.prog 52 [a0,a1,a2] .ret h (Aa0 (fun _:Unit=>h) .ret (.ok ())):=by
 refine Acd (n:=9) Tryz.func52 J (by decide) J J ?_ ⟨(),J⟩
 refine Y<|O<|Ah3 J<|Aa .nili J Ai<|Z<|Y<|O ?_
 refine Aa .nili J Ad<|Aa (.bool false) J (Bh J J (Ad8 Ajd))<|Z<|Kp false J<|Ax<|Abp Tryz.func52 J J J
theorem Aaf (n:Int)(h0:Ag)(ids:List Nat)(hI:Ids h0 ids 3)(g0_:Nat)(g1_:Nat)(g2_:Nat)(r0_:List AV)(r1_:List AV)(r2_:List AV)(hr0_:r0_.length=1)(hr1_:r1_.length=1)(hr2_:r2_.length=1):(∃ a,Jw n=.ok a)→Qc Tryz.prog 52 [(.ptr (ix ids 0) g0_ 0 0),(.ptr (ix ids 1) g1_ 0 0),(.ptr (ix ids 2) g2_ 0 0)] (.pan (.iface 113 (.int .i64 n)) false) (hp h0 ids [some (.rows g0_ 1 [r0_]),some (.rows g1_ 1 [r1_]),some (.rows g2_ 1 [r2_])]) (Aa0 (fun p=>hp h0 ids [some (.rows g0_ 1 [[.emp]]),some (.rows g1_ 1 [[(.int .i64 p)]]),some (.rows g2_ 1 [[(.int .i64 70)]])]) (.pan (.iface 113 (.int .i64 n)) true) (Jw n)):=by
 refine Acd (n:=9) Tryz.func52 J (by decide) J J<|Bn (Al (Jw.eq_1 _) ?_)
 refine Y<|O<|Air J<|Aa (.iface 113 (.I n)) J Ai<|Z<|Y<|O ?_
 refine Aa (.iface 113 (.I n)) J Ad<|Aa (.bool true) J (Bh J J (Acq Ajd))<|Z<|Kp true J<|Ct Es [[],[0],[],[0,1,1,2,2],[0,1,2,3,3]] [(false,0),(false,1),(true,2),(true,3),(true,4)] (by kernel_rfl)<|Af (.iface 113 (.I n)) J J Ad<|Af (.I n) J J (Ajc (Am5 Am3 (by decide))) ?_
 refine D7 J (fun _ _=>J) (fun K hK=>Co (Wq (v:=.emp) hI J J J Ch J J J hr0_ J) (hK _ _ (Bt J (Ajc (Am5 Am3 (by decide))) (Bt J Ad Bp)) ?_))
 clear hK K
 refine D7 J (fun _ _=>J) (fun K hK=>Co (Wq (v:=(.I n)) hI J J J C2 J J J hr1_ J) (hK _ _ (Ae J (Ae J Bp)) ?_))
 clear hK K
 refine D7 J (fun _ _=>J) (fun K hK=>Co (Wq (v:=(.I 70)) hI J J J K5 J J J hr2_ J) (hK _ _ (Ae J (Ae J Bp)) ?_))
 clear hK K
 refine Ck<|Aj ?_
 exact Abp (a:=n) Tryz.func52 J J J
theorem Aix (src:Ay):CP Tryz.prog 16 [(.str src)] (Abj src) (fun(p:((List Token)×Int×Int))=>AV.tup [(.sl 4 (List.map Ac p.1)),(.int .i64 p.2.1),(.int .i64 p.2.2)]):=by
 show CP _ _ _ ((X6 src).catch' (O6 113 .i64 (fun n=>(Jw n).bind fun p=>.ok ([],p,70)) (fun _=>.bad))) _
 refine Ae8 (n:=39) 6 Tryz.func16 J (by decide) J J fun h0 ids hI=>?_
 have hU : ∀ (v:PV) (fr:Nat→AV) (xs:List (Option AO)) (g0_:Nat) (r0_:List AV) (g1_:Nat) (r1_:List AV) (g2_:Nat) (r2_:List AV) (hl_:xs.length=6) (hr0_:r0_.length=1) (hr1_:r1_.length=1) (hr2_:r2_.length=1) (hy_:xs.take 3=[some (.rows g0_ 1 [r0_]),some (.rows g1_ 1 [r1_]),some (.rows g2_ 1 [r2_])]) (hq2_:fr 2=.q ids 0 g0_) (hq3_:fr 3=.q ids 1 g1_) (hq4_:fr 4=.q ids 2 g2_),WU Tryz.prog 16 39 false (Q9 (fun(p:((List Token)×Int×Int))=>AV.tup [(.sl 4 (List.map Ac p.1)),(.I p.2.1),(.I p.2.2)]) h0 (O6 113 .i64 (fun n=>(Jw n).bind fun p=>.ok ([],p,70)) (fun _=>.bad))) (.pan v) (.pan v.av false) fr [⟨52,[.q ids 0 g0_,.q ids 1 g1_,.q ids 2 g2_]⟩] (hp h0 ids xs) .ret:=by
  intro v fr xs g0_ r0_ g1_ r1_ g2_ r2_ hl_ hr0_ hr1_ hr2_ hy_ hq2_ hq3_ hq4_
  refine Aqd (t:=113) (k:=.i64) J (fun n hv=>?_) (fun hne113=>?_)
  ·subst hv
   exact Agg (Hc:=Jw n) (fin:=fun p=>([],p,70)) (c:=3) (cells:=fun p=>[some (.rows g0_ 1 [[.emp]]),some (.rows g1_ 1 [[(.I p)]]),some (.rows g2_ 1 [[(.I 70)]])]) (vs:=fun p=>[.emp,(.I p),(.I 70)]) Tryz.func16 hI hl_ J hy_ (by first | (rw [Aex]; done) | (rw [Aex]; rfl)) (fun hx=>by have:=Aaf n h0 (ids.take 3) (hI.take J) g0_ g1_ g2_ r0_ r1_ r2_ hr0_ hr1_ hr2_ hx; simp only [Ox (c:=3) (j:=0) J,Ox (c:=3) (j:=1) J,Ox (c:=3) (j:=2) J] at this; exact this) (by intro w; simp [Jw]) (fun p=>(R4 hq2_ (Wr (hI.take J) (Ox J) J J J Ch J) (R4 hq3_ (Wr (hI.take J) (Ox J) J J J C2 J) (R4 hq4_ (Wr (hI.take J) (Ox J) J J J K5 J) C8)))) (fun p=>(.tupL (.cons (.emp _) (.cons (.same _) (.cons (.same _) .nil)))))
  exact Amy (by rw [Ako hne113])
 refine Bn (Al (X6.eq_1 _) ?_)
 refine Y<|O<|A8 (j:=0) hI J J J J Ch J fun g=>A8 (j:=1) hI J J J J C2 J fun g1=>A8 (j:=2) hI J J J J K5 J fun g2=>Z<|Aj ?_
 refine Y<|Y<|O<|Aa (.str src) J Ad<|Aa (.I (src.length:Int)) J (A2 (Fe Cf))<|Aa (.bool (decide ((src.length:Int) > 65536))) J (Bh J J J)<|Z ?_
 refine Na J (fun hc=>?_) (fun hc=>?_)
 ·refine Y<|O<|An (Aq (v:=.emp) hI J J J J Ch J J J J J)<|An (Aq (v:=(.I 0)) hI J J J J C2 J J J J J)<|An (Aq (v:=(.I 2)) hI J J J J K5 J J J J J)<|Z<|Aj ?_
  exact Ago (a:=([],0,2)) (vs:=[.emp,(.I 0),(.I 2)]) Tryz.func16 hI (Cc (A3 hI J J J Ch J) (Cc (A3 hI J J J C2 J) (Cc (A3 hI J J J K5 J) C8))) (.tupL (.cons (.emp _) (.cons (.same _) (.cons (.same _) .nil))))
 refine Ax<|Y<|O<|Aa (.func (.func 52) [] [(.q ids 0 g),(.q ids 1 g1),(.q ids 2 g2)]) J R9<|Af8 J J J ?_
 refine Z<|Y<|O<|A8 (j:=3) hI J J J J Amz J fun g3=>Z<|Aj ?_
 refine Y<|O<|Ab 2 [] [(12,(.q ids 3 g3)),(11,(.agg [(.func (.func 53) [] []),(.func (.func 54) [] []),(.func (.func 55) [] []),(.func (.func 56) [] []),(.func (.func 57) [] []),(.func (.func 53) [] [])]))] ?_
 refine An (Aq (v:=(.agg [(.func (.func 53) [] []),(.func (.func 54) [] []),(.func (.func 55) [] []),(.func (.func 56) [] []),(.func (.func 57) [] []),(.func (.func 53) [] [])])) hI J J J J Xz J J J J J)<|Z<|Aj ?_
 refine Y<|O<|Ab 2 [] [(14,(.agg [(.str src),(.I 0),.emp]))] ?_
 refine Cl (v:=(.agg [(.str src),(.I 0),.emp])) (j:=4) hI J J J J J J J fun g4=>Aa (.q ids 4 g4) J Ai<|Z<|Aj ?_
 refine Y<|Dx (C4 fun fAt3 l1=>Wm fAt3 l1) (C4 fun fAt3 l1=>fun(fr:Nat→AV) (h:Ag) => ∃ (v4:AV),∃ (g9:Nat),Av v4 (ix ids 5) g9 l1.length∧fr=A5 [(2,(.q ids 0 g)),(3,(.q ids 1 g1)),(4,(.q ids 2 g2)),(6,(.q ids 4 g4))]∧h=hp h0 ids [(some (.rows g 1 [[.emp]])),(some (.rows g1 1 [[(.I 0)]])),(some (.rows g2 1 [[(.I 0)]])),none,(some (.rows g4 3 [[(.str src),(.I fAt3),v4]])),(Ah v4 g9 4 (List.map Ac l1))]) ?_ fun hJ=>?_
 ·rintro⟨fAt3,l1⟩ fr h ⟨v4,g9,vH4,rfl,rfl⟩
  refine Al (Wm.eq_1 _ _)<|Y<|O<|Ab 4 [4] [(38,v4)] ?_
  refine An (G5 vH4 hI J J J J Ch J J J)<|An (Aq (v:=(.I 0)) hI J J J J C2 J J J J J)<|An (Aq (v:=(.I 0)) hI J J J J K5 J J J J J)<|Z<|Aj ?_
  exact Aij (a:=(l1,0,0)) (vs:=[v4,(.I 0),(.I 0)]) Tryz.func16 hI (Ad4 _ _ _ _) (Cc (A3 hI J J J Ch J) (Cc (A3 hI J J J C2 J) (Cc (A3 hI J J J K5 J) C8))) (.tupL (.cons (D9 vH4 (hI.at J J) (hI.out J) (fun x=>Mq x)) (.cons (.same _) (.cons (.same _) .nil))))
 refine Ba<|D6 [(0,(.str src)),(2,(.q ids 0 g)),(3,(.q ids 1 g1)),(4,(.q ids 2 g2)),(5,(.q ids 3 g3)),(6,(.q ids 4 g4))] (FI J)<|Lo (P:=Tryz.prog) (C4 fun fAt l=>Od src fAt l) ((C4 fun fAt3 l1=>Wm fAt3 l1):(Int×(List Token))→R ((List Token)×Int×Int)) (C4 fun fAt l=>fun(fr:Nat→AV) (h:Ag) => ∃ (v:AV),∃ (g5:Nat),Av v (ix ids 5) g5 l.length∧fr=A5 [(0,(.str src)),(2,(.q ids 0 g)),(3,(.q ids 1 g1)),(4,(.q ids 2 g2)),(5,(.q ids 3 g3)),(6,(.q ids 4 g4))]∧h=hp h0 ids [(some (.rows g 1 [[.emp]])),(some (.rows g1 1 [[(.I 0)]])),(some (.rows g2 1 [[(.I 0)]])),(some (.rows g3 6 [[(.func (.func 53) [] []),(.func (.func 54) [] []),(.func (.func 55) [] []),(.func (.func 56) [] []),(.func (.func 57) [] []),(.func (.func 53) [] [])]])),(some (.rows g4 3 [[(.str src),(.I fAt),v]])),(Ah v g5 4 (List.map Ac l))]) (0,[]) ?_ ?_
 ·exact⟨.emp,0,.nil,J,J⟩
 rintro vW hW ⟨fAt,l⟩ fr h ⟨v,g5,vH,rfl,rfl⟩
 refine Al (m':=Od src fAt l) J (Al (Od.eq_1 _ _ _) ?_)
 refine Y<|Y<|O<|Ab 5 [4] [(20,(.str src)),(19,(.I fAt))] ?_
 refine Aa (.I (src.length:Int)) J (A2 (Fe Cf))<|Aa (.bool (decide (fAt<(src.length:Int)))) J (Bh J J J)<|Z<|Na J (fun hc1=>?_) (fun hc1=>?_)
 ·refine Ax<|Ba<|O<|Ab 5 [4] [(27,(.I fAt)),(23,(.str src))] ?_
  refine Dv fun a hz hx1=>Aa (.int .u8 (a.toNat:Int)) J (N9 (Nz Cf hz hx1))<|A7 [(.int .u8 (a.toNat:Int))] J J J J ((Rp (a.toNat:Int)) _) (fun v _=>hU v _ _ _ _ _ _ _ _ J J J J J J J J) fun r _=>Aa (.q ids 3 g3) J (Cb (B3 (c:=0) (off:=0) (i:=0) Amz J Xz J))<|Wu (fun hi=>?_) (fun _=>?_)
  ·refine Aa (.q ids 3 g3) J (Bz (T9 0 Xz Abi hi J))<|Ab 2 [3] [(33,(.q ids 4 g4)),(32,(.func (.func 53) [] []))] ?_
   refine A7 [(.q ids 4 g4)] J J J J (CP.lend (Tn ({ fSrc:=src,fAt:=fAt,fL:=l }:T119)) (LF.lfz (.cons (.ptrL (hI.at J J) J J (.cons (.same _) (.cons (.same _) (.cons (D9 vH (hI.at J J) J (fun x=>Mq x)) .nil)))) .nil)) (fun _ _=>.tup0)) (fun v _=>hU v _ _ _ _ _ _ _ _ J J J J J J J J) fun _ _=>Z<|Bi<|Bo (G7 (hW (fAt,l) _ _ ⟨v,g5,vH,J,J⟩))
  refine Wu (fun hi=>?_) (fun _=>?_)
  ·refine Aa (.ptr (ix ids 3) g3 0 1) J (Bz (T9 1 Xz Abi hi J))<|Ab 2 [3] [(33,(.q ids 4 g4)),(32,(.func (.func 54) [] []))] ?_
   refine Ap [4,5] hI J J (Ya src fAt l _ (ix ids 4) (ix ids 5) g4 v g5 vH (by exact hI.sub' J J)) J J J J J J (fun v _=>hU v _ _ _ _ _ _ _ _ J J J J J J J J) ?_
   rintro r2 _ _ _ ⟨rfl,rfl⟩
   refine A0 [4,5] hI J J J ?_
   refine Ar<|Z<|Aj ?_
   refine Bi<|Bo (G7 (hW (r2,l) _ _ ⟨v,g5,vH,J,J⟩))
  refine Wu (fun hi=>?_) (fun _=>?_)
  ·refine Aa (.ptr (ix ids 3) g3 0 2) J (Bz (T9 2 Xz Abi hi J))<|Ab 2 [3] [(33,(.q ids 4 g4)),(32,(.func (.func 55) [] []))] ?_
   refine Ap [4,5] hI J J (Yi src fAt l _ (ix ids 4) (ix ids 5) g4 v g5 vH (by exact hI.sub' J J)) J J J J J J (fun v _=>hU v _ _ _ _ _ _ _ _ J J J J J J J J) ?_
   rintro r3 _ _ _ ⟨v1,g6,vH1,rfl,rfl⟩
   refine A0 [4,5] hI J J J ?_
   refine Ar<|Z<|Aj ?_
   refine Bi<|Bo (G7 (hW (r3.1,r3.2) _ _ ⟨v1,g6,vH1,J,J⟩))
  refine Wu (fun hi=>?_) (fun _=>?_)
  ·refine Aa (.ptr (ix ids 3) g3 0 3) J (Bz (T9 3 Xz Abi hi J))<|Ab 2 [3] [(33,(.q ids 4 g4)),(32,(.func (.func 56) [] []))] ?_
   refine Ap [4,5] hI J J (Xn src fAt l _ (ix ids 4) (ix ids 5) g4 v g5 vH (by exact hI.sub' J J)) J J J J J J (fun v _=>hU v _ _ _ _ _ _ _ _ J J J J J J J J) ?_
   rintro r4 _ _ _ ⟨v2,g7,vH2,rfl,rfl⟩
   refine A0 [4,5] hI J J J ?_
   refine Ar<|Z<|Aj ?_
   refine Bi<|Bo (G7 (hW (r4.1,r4.2) _ _ ⟨v2,g7,vH2,J,J⟩))
  refine Wu (fun hi=>?_) (fun _=>?_)
  ·refine Aa (.ptr (ix ids 3) g3 0 4) J (Bz (T9 4 Xz Abi hi J))<|Ab 2 [3] [(33,(.q ids 4 g4)),(32,(.func (.func 57) [] []))] ?_
   refine Ap [4,5] hI J J (Y7 src fAt l _ (ix ids 4) (ix ids 5) g4 v g5 vH (by exact hI.sub' J J)) J J J J J J (fun v _=>hU v _ _ _ _ _ _ _ _ J J J J J J J J) ?_
   rintro r5 _ _ _ ⟨v3,g8,vH3,rfl,rfl⟩
   refine A0 [4,5] hI J J J ?_
   refine Ar<|Z<|Aj ?_
   refine Bi<|Bo (G7 (hW (r5.1,r5.2) _ _ ⟨v3,g8,vH3,J,J⟩))
  refine Wu (fun hi=>?_) (fun _=>?_)
  ·refine Aa (.ptr (ix ids 3) g3 0 5) J (Bz (T9 5 Xz Abi hi J))<|Ab 2 [3] [(33,(.q ids 4 g4)),(32,(.func (.func 53) [] []))] ?_
   refine A7 [(.q ids 4 g4)] J J J J (CP.lend (Tn ({ fSrc:=src,fAt:=fAt,fL:=l }:T119)) (LF.lfz (.cons (.ptrL (hI.at J J) J J (.cons (.same _) (.cons (.same _) (.cons (D9 vH (hI.at J J) J (fun x=>Mq x)) .nil)))) .nil)) (fun _ _=>.tup0)) (fun v _=>hU v _ _ _ _ _ _ _ _ J J J J J J J J) fun _ _=>Z<|Bi<|Bo (G7 (hW (fAt,l) _ _ ⟨v,g5,vH,J,J⟩))
  exact Ao5
 refine Cy J<|Kq<|Eb [(some (.rows g 1 [[.emp]])),(some (.rows g1 1 [[(.I 0)]])),(some (.rows g2 1 [[(.I 0)]])),none,(some (.rows g4 3 [[(.str src),(.I fAt),v]])),(Ah v g5 4 (List.map Ac l))] hI J (.keep (.keep (.keep (.drop (.keep (.keep .nil))))))<|Bo (hJ (fAt,l) _ _ ⟨v,g5,vH,J,J⟩)
theorem Yl (r:T67)(e:Int):CP Tryz.prog 80 [(.cp (Aqi r) 0),(.int .i64 e)] (Nh r e) (fun(_:Unit)=>AV.tup []):=by
 refine Cd (n:=26) 0 Tryz.func80 J (by decide) J J fun h0 ids hI=>Bn (Al (Nh.eq_1 _ _) ?_)
 refine Y<|O<|Ab 5 [] [(4,(.I r.fEnd))] ?_
 refine Z<|Y<|Y<|O<|Ab 4 [] [(12,(.sl 4 (List.map Ac r.fL)))] ?_
 refine Aa (.I (r.fL.length:Int)) J (A2 (Bk Ch))<|Aa (.bool (decide ((r.fL.length:Int) > 0))) J (Bh J J J)<|Z<|Na J (fun hc=>?_) (fun hc=>?_)
 ·refine O<|Ab 4 [] [(18,(.sl 4 (List.map Ac r.fL)))] ?_
  refine Dv fun a hz hx1=>Aa (.cp (Ac a) 0) J (Bz (Dc Ch C1 J hz hx1))<|Ab 3 [] [(4,(.I a.At))] ?_
  refine Z<|O<|Ab 4 [] [(25,(.iface 64 (.agg [(.I a.At),(.I e)])))] ?_
  exact Sy (v:=⟨64,.two .i64 .i64 a.At e⟩) J J (B0 Tryz.func80 hI)
 refine Ax<|O<|Ab 4 [] [(25,(.iface 64 (.agg [(.I r.fEnd),(.I e)])))] ?_
 exact Sy (v:=⟨64,.two .i64 .i64 r.fEnd e⟩) J J (B0 Tryz.func80 hI)
theorem Cn (e:Int)(s_l:List Token)(s_end:Int)(h0:Ag)(o0:Nat)(w:AV)(w1:AV)(w2:AV)(w3:AV)(w4:AV)(w5:AV)(w6:AV)(w7:AV)(g:Nat)(hI0:Ids h0 [o0] 1):Bv e s_l s_end≠.bad→Bq Tryz.prog 80 [(.ptr o0 g 0 0),(.int .i64 e)] (hp h0 [o0] [some (.rows g 10 [[(.sl 4 (List.map Ac s_l)),(.int .i64 s_end),w,w1,w2,w3,w4,w5,w6,w7]])]) (C5 (fun a_ v h'=>v=(.tup [])∧h'=hp h0 [o0] [some (.rows g 10 [[(.sl 4 (List.map Ac s_l)),(.int .i64 s_end),w,w1,w2,w3,w4,w5,w6,w7]])]) h0 (Bv e s_l s_end)):=by
 refine Bm (n:=26) 0 Tryz.func80 J (by decide) J J hI0 J fun ids he hI=>?_
 clear hI0
 obtain rfl:ix ids 0=o0:=he 0 rfl
 clear he
 refine Bn (Al (Bv.eq_1 _ _ _) ?_)
 refine Y<|O<|Ab 5 [0] [(4,(.I s_end))] ?_
 refine Z<|Y<|Y<|O<|Ab 4 [0] [(12,(.sl 4 (List.map Ac s_l)))] ?_
 refine Aa (.I (s_l.length:Int)) J (A2 (Bk Ch))<|Aa (.bool (decide ((s_l.length:Int) > 0))) J (Bh J J J)<|Z<|Na J (fun hc=>?_) (fun hc=>?_)
 ·refine O<|Ab 4 [0] [(18,(.sl 4 (List.map Ac s_l)))] ?_
  refine Dv fun a hz hx1=>Aa (.cp (Ac a) 0) J (Bz (Dc Ch C1 J hz hx1))<|Ab 3 [] [(4,(.I a.At))] ?_
  refine Z<|O<|Ab 4 [] [(25,(.iface 64 (.agg [(.I a.At),(.I e)])))] ?_
  exact Sy (v:=⟨64,.two .i64 .i64 a.At e⟩) J J (Ao (K:=1) (N:=0) Tryz.func80 hI)
 refine Ax<|O<|Ab 4 [] [(25,(.iface 64 (.agg [(.I s_end),(.I e)])))] ?_
 exact Sy (v:=⟨64,.two .i64 .i64 s_end e⟩) J J (Ao (K:=1) (N:=0) Tryz.func80 hI)
theorem W4 (a:Token):CP Tryz.prog 212 [(.agg (Ac a))] (Kl a) (fun(x:Bool)=>(AV.bool x)):=by
 refine Cd (n:=3) 1 Tryz.func212 J (by decide) J J fun h0 ids hI=>Bn (Al (Kl.eq_1 _) ?_)
 refine Y<|O<|Cl (v:=(.agg (Ac a))) (j:=0) hI J J J J J J J fun g=>Aa (.bool false) J Ai<|Z<|Aj ?_
 refine Y<|O<|Aa (.bool true) J Ai<|Z<|Bl (a:=true) (vs:=[(.bool true)]) Tryz.func212 hI J (.same _)
theorem Wx (kind:Int)(s_l:List Token)(s_end:Int)(h0:Ag)(o0:Nat)(w:AV)(w1:AV)(w2:AV)(w3:AV)(w4:AV)(w5:AV)(w6:AV)(w7:AV)(g:Nat)(hI0:Ids h0 [o0] 1):Nj kind s_l s_end≠.bad→Bq Tryz.prog 207 [(.ptr o0 g 0 0),(.int .i64 kind),(.func (.func 212) [] [])] (hp h0 [o0] [some (.rows g 10 [[(.sl 4 (List.map Ac s_l)),(.int .i64 s_end),w,w1,w2,w3,w4,w5,w6,w7]])]) (C5 (fun a_ v h'=>v=(.agg (Ac a_))∧h'=hp h0 [o0] [some (.rows g 10 [[(.sl 4 (List.map Ac (s_l.drop 1))),(.int .i64 s_end),w,w1,w2,w3,w4,w5,w6,w7]])]) h0 (Nj kind s_l s_end)):=by
 refine Bm (n:=53) 2 Tryz.func207 J (by decide) J J hI0 J fun ids he hI=>?_
 clear hI0
 obtain rfl:ix ids 0=o0:=he 0 rfl
 clear he
 refine Bn (Al (Nj.eq_1 _ _ _) ?_)
 refine Aj ?_
 refine Y<|O<|A8 (j:=1) hI J J J J C1 J fun g1=>Z<|Aj ?_
 refine Y<|Y<|O<|Ab 4 [0] [(11,(.sl 4 (List.map Ac s_l)))] ?_
 refine Aa (.I (s_l.length:Int)) J (A2 (Bk Ch))<|Ab 2 [] [(14,(.bool ((s_l.length:Int)==0)))] ?_
 refine Cz 10 ((fun(b:Bool)=>(if b then R.ok true else(C0 s_l 0).bind fun a1=>(Kl a1).bind fun r=>R.ok (!r)).bind (fun(b1:Bool)=>if b1 then((Bv 80 s_l s_end).bind fun _=>Ff s_l) else(Ff s_l))):Bool→R Token) (fun(b:Bool) (fr:Nat→AV) (h:Ag)=>fr=A5 [(0,(.q ids 0 g)),(2,(.func (.func 212) [] [])),(6,(.q ids 1 g1)),(24,(.bool b))]∧h=hp h0 ids [(some (.rows g 10 [[(.sl 4 (List.map Ac s_l)),(.I s_end),w,w1,w2,w3,w4,w5,w6,w7]])),(some (.rows g1 4 [[(.I 0),(.str []),(.I 0),(.I 0)]])),none]) ?_ fun hJ=>Dd (fun hb1=>?_) (fun hb1=>?_)
 ·rintro b fr h ⟨rfl,rfl⟩
  refine Aa (.bool b) J Ad<|Cz 10 ((fun(b1:Bool)=>if b1 then((Bv 80 s_l s_end).bind fun _=>Ff s_l) else(Ff s_l)):Bool→R Token) (fun(b1:Bool) (fr:Nat→AV) (h:Ag)=>fr=A5 [(0,(.q ids 0 g)),(6,(.q ids 1 g1)),(35,(.bool b1))]∧h=hp h0 ids [(some (.rows g 10 [[(.sl 4 (List.map Ac s_l)),(.I s_end),w,w1,w2,w3,w4,w5,w6,w7]])),(some (.rows g1 4 [[(.I 0),(.str []),(.I 0),(.I 0)]])),none]) ?_ fun hJ1=>Dd (fun hb3=>?_) (fun hb3=>?_)
  ·rintro b1 fr h ⟨rfl,rfl⟩
   refine Z<|Dx (π:=Unit) (fun _=>Ff s_l) (fun _=>fun(fr:Nat→AV) (h:Ag)=>fr=A5 [(0,(.q ids 0 g)),(6,(.q ids 1 g1))]∧h=hp h0 ids [(some (.rows g 10 [[(.sl 4 (List.map Ac s_l)),(.I s_end),w,w1,w2,w3,w4,w5,w6,w7]])),(some (.rows g1 4 [[(.I 0),(.str []),(.I 0),(.I 0)]])),none]) ?_ fun hJ2=>?_
   ·rintro _ fr h ⟨rfl,rfl⟩
    refine Al (Ff.eq_1 _)<|Y<|O<|Ab 4 [0] [(41,(.sl 4 (List.map Ac s_l)))] ?_
    refine Dv fun a2 hz2 hx3=>Aa (.cp (Ac a2) 0) J (Bz (Dc Ch C1 J hz2 hx3))<|Aa (.agg (Ac a2)) J (Au (C7 C1 J))<|A8 (j:=2) hI J J J J C1 J fun g2=>An (Aq (v:=(.agg (Ac a2))) hI J J J J C1 J J J J J)<|Z<|Aj ?_
    refine Y<|O<|Ab 5 [0] [(48,(.sl 4 (List.map Ac s_l))),(44,(.q ids 0 g))] ?_
    refine Ee fun hs=>Aa (.sl 4 (List.map Ac (s_l.drop 1))) J (Fr (N0 Ch C1 J hs))<|Ab 2 [] [(51,(.q ids 0 g))] ?_
    refine An (Aq (v:=(.sl 4 (List.map Ac (s_l.drop 1)))) hI J J J J Ch J J J J J)<|Z<|Aj ?_
    refine Y<|O<|Ab 1 [2] [(52,(.agg (Ac a2)))] ?_
    refine An (Aq (v:=(.agg (Ac a2))) hI J J J J C1 J J J J J)<|Z<|Aj ?_
    exact D4 (K:=1) (N:=2) (a:=a2) (vs:=[(.agg (Ac a2))]) [some (.rows g 10 [[(.sl 4 (List.map Ac (s_l.drop 1))),(.I s_end),w,w1,w2,w3,w4,w5,w6,w7]])] Tryz.func207 hI J (Cc (A3 hI J J J C1 J) C8) J (.keep (.drop (.drop .nil))) (.same _) ⟨J,J⟩
   refine Bx J (fun hc=>?_) (fun hc=>?_)
   ·refine O<|Aa (.q ids 0 g) J Ad<|Ap [0] hI J J (Cn 80 s_l s_end _ (ix ids 0) w w1 w2 w3 w4 w5 w6 w7 g (by exact hI.sub' J J)) J J J J J J (fun v _=>Ao (K:=1) (N:=2) Tryz.func207 hI) ?_
    rintro _ _ _ _ ⟨rfl,rfl⟩
    refine A0 [0] hI J J J ?_
    refine Ar<|Z<|Bo (hJ2 () _ _ ⟨J,J⟩)
   refine Ax<|Bo (hJ2 () _ _ ⟨J,J⟩)
  ·refine Az (t:=25) hb3 J<|Ab 10 [] [(35,(.bool true))] ?_
   refine Bd<|B5 [(0,(.q ids 0 g)),(6,(.q ids 1 g1)),(35,(.bool true))] (FI J)<|hJ1 true _ _ ⟨J,J⟩
  refine Az (t:=25) hb3 J<|Ab 5 [0] [(30,(.sl 4 (List.map Ac s_l))),(26,(.func (.func 212) [] []))] ?_
  refine Dv fun a1 hz1 hx2=>By (tj:=25) (.cp (Ac a1) 0) J J J (Bz (Dc Ch C1 J hz1 hx2))<|By (tj:=25) (.agg (Ac a1)) J J J (Au (C7 C1 J))<|A7 [(.agg (Ac a1))] J (Cq (tj:=25) J J) J J ((W4 a1) _) (fun v _=>Ao (K:=1) (N:=2) Tryz.func207 hI) fun r _=>Ab 2 [] [(35,(.bool (!r)))] ?_
  refine Bd<|B5 [(0,(.q ids 0 g)),(6,(.q ids 1 g1)),(35,(.bool (!r)))] (FI J)<|hJ1 (!r) _ _ ⟨J,J⟩
 ·refine Az (t:=14) hb1 J<|Ab 10 [] [(24,(.bool true))] ?_
  refine Bd<|B5 [(0,(.q ids 0 g)),(2,(.func (.func 212) [] [])),(6,(.q ids 1 g1)),(24,(.bool true))] (FI J)<|hJ true _ _ ⟨J,J⟩
 refine Az (t:=14) hb1 J<|Ab 4 [0] [(18,(.sl 4 (List.map Ac s_l)))] ?_
 refine Dv fun a hz hx1=>By (tj:=14) (.cp (Ac a) 0) J J J (Bz (Dc Ch C1 J hz hx1))<|Ab 5 [] [(24,(.bool (a.Kind != kind)))] ?_
 refine Bd<|B5 [(0,(.q ids 0 g)),(2,(.func (.func 212) [] [])),(6,(.q ids 1 g1)),(24,(.bool (a.Kind != kind)))] (FI J)<|hJ (a.Kind != kind) _ _ ⟨J,J⟩
theorem Da (s_l:List Token)(s_end:Int)(h0:Ag)(o0:Nat)(w:AV)(w1:AV)(w2:AV)(w3:AV)(w4:AV)(w5:AV)(w6:AV)(w7:AV)(g:Nat)(hI0:Ids h0 [o0] 1):Cg s_l s_end≠.bad→Bq Tryz.prog 177 [(.ptr o0 g 0 0)] (hp h0 [o0] [some (.rows g 10 [[(.sl 4 (List.map Ac s_l)),(.int .i64 s_end),w,w1,w2,w3,w4,w5,w6,w7]])]) (C5 (fun a_ v h'=>v=(.str a_)∧h'=hp h0 [o0] [some (.rows g 10 [[(.sl 4 (List.map Ac (s_l.drop 1))),(.int .i64 s_end),w,w1,w2,w3,w4,w5,w6,w7]])]) h0 (Cg s_l s_end)):=by
 refine Bm (n:=6) 0 Tryz.func177 J (by decide) J J hI0 J fun ids he hI=>?_
 clear hI0
 obtain rfl:ix ids 0=o0:=he 0 rfl
 clear he
 refine Bn (Al (Cg.eq_1 _ _) ?_)
 refine Y<|O<|Aa (.str []) J Ai<|Z<|Y<|O<|Aa (.q ids 0 g) J Ad ?_
 refine Ap [0] hI J J (Wx 1 s_l s_end _ (ix ids 0) w w1 w2 w3 w4 w5 w6 w7 g (by exact hI.sub' J J)) J J J J J J (fun v _=>Ao (K:=1) (N:=0) Tryz.func177 hI) ?_
 rintro r _ _ _ ⟨rfl,rfl⟩
 refine A0 [0] hI J J J ?_
 refine Ar<|Ab 2 [] [(2,(.str r.Text))] ?_
 refine Z<|Aj ?_
 exact D4 (K:=1) (N:=0) (a:=r.Text) (vs:=[(.str r.Text)]) [some (.rows g 10 [[(.sl 4 (List.map Ac (s_l.drop 1))),(.I s_end),w,w1,w2,w3,w4,w5,w6,w7]])] Tryz.func177 hI J J J (.keep .nil) (.same _) ⟨J,J⟩
theorem Wv (t:Token)(b:Ay):CP Tryz.prog 213 [(.agg (Ac t)),(.cp [(.str b)] 0)] (Km t b) (fun(x:Bool)=>(AV.bool x)):=by
 refine Cd (n:=8) 1 Tryz.func213 J (by decide) J J fun h0 ids hI=>Bn (Al (Km.eq_1 _ _) ?_)
 refine Y<|O<|Cl (v:=(.agg (Ac t))) (j:=0) hI J J J J J J J fun g=>Aa (.bool false) J Ai<|Z<|Aj ?_
 refine Y<|O<|Ab 5 [0] [(3,(.bool (t.Text==b)))] ?_
 refine Z<|Bl (a:=(t.Text==b)) (vs:=[(.bool (t.Text==b))]) Tryz.func213 hI J (.same _)
theorem Vi (kind:Int)(s0_l:List Token)(s0_end:Int)(s1:Ay)(h0:Ag)(o0:Nat)(o1:Nat)(w:AV)(w1:AV)(w2:AV)(w3:AV)(w4:AV)(w5:AV)(w6:AV)(w7:AV)(g:Nat)(g1:Nat)(hI0:Ids h0 [o0,o1] 2):L9 kind s0_l s0_end s1≠.bad→Bq Tryz.prog 207 [(.ptr o0 g 0 0),(.int .i64 kind),(.func (.func 213) [] [(.ptr o1 g1 0 0)])] (hp h0 [o0,o1] [some (.rows g 10 [[(.sl 4 (List.map Ac s0_l)),(.int .i64 s0_end),w,w1,w2,w3,w4,w5,w6,w7]]),some (.rows g1 1 [[(.str s1)]])]) (C5 (fun a_ v h'=>v=(.agg (Ac a_))∧h'=hp h0 [o0,o1] [some (.rows g 10 [[(.sl 4 (List.map Ac (s0_l.drop 1))),(.int .i64 s0_end),w,w1,w2,w3,w4,w5,w6,w7]]),some (.rows g1 1 [[(.str s1)]])]) h0 (L9 kind s0_l s0_end s1)):=by
 refine Bm (n:=53) 2 Tryz.func207 J (by decide) J J hI0 J fun ids he hI=>?_
 clear hI0
 obtain rfl:ix ids 0=o0:=he 0 rfl
 obtain rfl:ix ids 1=o1:=he 1 rfl
 clear he
 refine Bn (Al (L9.eq_1 _ _ _ _) ?_)
 refine Aj ?_
 refine Y<|O<|A8 (j:=2) hI J J J J C1 J fun g2=>Z<|Aj ?_
 refine Y<|Y<|O<|Ab 4 [0] [(11,(.sl 4 (List.map Ac s0_l)))] ?_
 refine Aa (.I (s0_l.length:Int)) J (A2 (Bk Ch))<|Ab 2 [] [(14,(.bool ((s0_l.length:Int)==0)))] ?_
 refine Cz 10 ((fun(b:Bool)=>(if b then R.ok true else(C0 s0_l 0).bind fun a1=>(Km a1 s1).bind fun r=>R.ok (!r)).bind (fun(b1:Bool)=>if b1 then((Bv 80 s0_l s0_end).bind fun _=>E1 s0_l) else(E1 s0_l))):Bool→R Token) (fun(b:Bool) (fr:Nat→AV) (h:Ag)=>fr=A5 [(0,(.q ids 0 g)),(2,(.func (.func 213) [] [(.q ids 1 g1)])),(6,(.q ids 2 g2)),(24,(.bool b))]∧h=hp h0 ids [(some (.rows g 10 [[(.sl 4 (List.map Ac s0_l)),(.I s0_end),w,w1,w2,w3,w4,w5,w6,w7]])),(some (.rows g1 1 [[(.str s1)]])),(some (.rows g2 4 [[(.I 0),(.str []),(.I 0),(.I 0)]])),none]) ?_ fun hJ=>Dd (fun hb1=>?_) (fun hb1=>?_)
 ·rintro b fr h ⟨rfl,rfl⟩
  refine Aa (.bool b) J Ad<|Cz 10 ((fun(b1:Bool)=>if b1 then((Bv 80 s0_l s0_end).bind fun _=>E1 s0_l) else(E1 s0_l)):Bool→R Token) (fun(b1:Bool) (fr:Nat→AV) (h:Ag)=>fr=A5 [(0,(.q ids 0 g)),(6,(.q ids 2 g2)),(35,(.bool b1))]∧h=hp h0 ids [(some (.rows g 10 [[(.sl 4 (List.map Ac s0_l)),(.I s0_end),w,w1,w2,w3,w4,w5,w6,w7]])),(some (.rows g1 1 [[(.str s1)]])),(some (.rows g2 4 [[(.I 0),(.str []),(.I 0),(.I 0)]])),none]) ?_ fun hJ1=>Dd (fun hb3=>?_) (fun hb3=>?_)
  ·rintro b1 fr h ⟨rfl,rfl⟩
   refine Z<|Dx (π:=Unit) (fun _=>E1 s0_l) (fun _=>fun(fr:Nat→AV) (h:Ag)=>fr=A5 [(0,(.q ids 0 g)),(6,(.q ids 2 g2))]∧h=hp h0 ids [(some (.rows g 10 [[(.sl 4 (List.map Ac s0_l)),(.I s0_end),w,w1,w2,w3,w4,w5,w6,w7]])),(some (.rows g1 1 [[(.str s1)]])),(some (.rows g2 4 [[(.I 0),(.str []),(.I 0),(.I 0)]])),none]) ?_ fun hJ2=>?_
   ·rintro _ fr h ⟨rfl,rfl⟩
    refine Al (E1.eq_1 _)<|Y<|O<|Ab 4 [0] [(41,(.sl 4 (List.map Ac s0_l)))] ?_
    refine Dv fun a2 hz2 hx3=>Aa (.cp (Ac a2) 0) J (Bz (Dc Ch C1 J hz2 hx3))<|Aa (.agg (Ac a2)) J (Au (C7 C1 J))<|A8 (j:=3) hI J J J J C1 J fun g3=>An (Aq (v:=(.agg (Ac a2))) hI J J J J C1 J J J J J)<|Z<|Aj ?_
    refine Y<|O<|Ab 5 [0] [(48,(.sl 4 (List.map Ac s0_l))),(44,(.q ids 0 g))] ?_
    refine Ee fun hs=>Aa (.sl 4 (List.map Ac (s0_l.drop 1))) J (Fr (N0 Ch C1 J hs))<|Ab 2 [] [(51,(.q ids 0 g))] ?_
    refine An (Aq (v:=(.sl 4 (List.map Ac (s0_l.drop 1)))) hI J J J J Ch J J J J J)<|Z<|Aj ?_
    refine Y<|O<|Ab 1 [3] [(52,(.agg (Ac a2)))] ?_
    refine An (Aq (v:=(.agg (Ac a2))) hI J J J J C1 J J J J J)<|Z<|Aj ?_
    exact D4 (K:=2) (N:=2) (a:=a2) (vs:=[(.agg (Ac a2))]) [some (.rows g 10 [[(.sl 4 (List.map Ac (s0_l.drop 1))),(.I s0_end),w,w1,w2,w3,w4,w5,w6,w7]]),some (.rows g1 1 [[(.str s1)]])] Tryz.func207 hI J (Cc (A3 hI J J J C1 J) C8) J (.keep (.keep (.drop (.drop .nil)))) (.same _) ⟨J,J⟩
   refine Bx J (fun hc=>?_) (fun hc=>?_)
   ·refine O<|Aa (.q ids 0 g) J Ad<|Ap [0] hI J J (Cn 80 s0_l s0_end _ (ix ids 0) w w1 w2 w3 w4 w5 w6 w7 g (by exact hI.sub' J J)) J J J J J J (fun v _=>Ao (K:=2) (N:=2) Tryz.func207 hI) ?_
    rintro _ _ _ _ ⟨rfl,rfl⟩
    refine A0 [0] hI J J J ?_
    refine Ar<|Z<|Bo (hJ2 () _ _ ⟨J,J⟩)
   refine Ax<|Bo (hJ2 () _ _ ⟨J,J⟩)
  ·refine Az (t:=25) hb3 J<|Ab 10 [] [(35,(.bool true))] ?_
   refine Bd<|B5 [(0,(.q ids 0 g)),(6,(.q ids 2 g2)),(35,(.bool true))] (FI J)<|hJ1 true _ _ ⟨J,J⟩
  refine Az (t:=25) hb3 J<|Ab 5 [0] [(30,(.sl 4 (List.map Ac s0_l))),(26,(.func (.func 213) [] [(.q ids 1 g1)]))] ?_
  refine Dv fun a1 hz1 hx2=>By (tj:=25) (.cp (Ac a1) 0) J J J (Bz (Dc Ch C1 J hz1 hx2))<|By (tj:=25) (.agg (Ac a1)) J J J (Au (C7 C1 J))<|A7 [(.agg (Ac a1)),(.q ids 1 g1)] J (Cq (tj:=25) J J) J J (CP.lend (Wv a1 s1) (LF.lfz (.cons (.same _) (.cons (.ptrL (hI.at J J) J J (Yv _)) .nil))) (fun _ _=>(.bool _))) (fun v _=>Ao (K:=2) (N:=2) Tryz.func207 hI) fun r _=>Ab 2 [] [(35,(.bool (!r)))] ?_
  refine Bd<|B5 [(0,(.q ids 0 g)),(6,(.q ids 2 g2)),(35,(.bool (!r)))] (FI J)<|hJ1 (!r) _ _ ⟨J,J⟩
 ·refine Az (t:=14) hb1 J<|Ab 10 [] [(24,(.bool true))] ?_
  refine Bd<|B5 [(0,(.q ids 0 g)),(2,(.func (.func 213) [] [(.q ids 1 g1)])),(6,(.q ids 2 g2)),(24,(.bool true))] (FI J)<|hJ true _ _ ⟨J,J⟩
 refine Az (t:=14) hb1 J<|Ab 4 [0] [(18,(.sl 4 (List.map Ac s0_l)))] ?_
 refine Dv fun a hz hx1=>By (tj:=14) (.cp (Ac a) 0) J J J (Bz (Dc Ch C1 J hz hx1))<|Ab 5 [] [(24,(.bool (a.Kind != kind)))] ?_
 refine Bd<|B5 [(0,(.q ids 0 g)),(2,(.func (.func 213) [] [(.q ids 1 g1)])),(6,(.q ids 2 g2)),(24,(.bool (a.Kind != kind)))] (FI J)<|hJ (a.Kind != kind) _ _ ⟨J,J⟩
theorem D1 (text:Ay)(s_l:List Token)(s_end:Int)(h0:Ag)(o0:Nat)(w:AV)(w1:AV)(w2:AV)(w3:AV)(w4:AV)(w5:AV)(w6:AV)(w7:AV)(g:Nat)(hI0:Ids h0 [o0] 1):Do text s_l s_end≠.bad→Bq Tryz.prog 178 [(.ptr o0 g 0 0),(.str text)] (hp h0 [o0] [some (.rows g 10 [[(.sl 4 (List.map Ac s_l)),(.int .i64 s_end),w,w1,w2,w3,w4,w5,w6,w7]])]) (C5 (fun a_ v h'=>v=(.tup [])∧h'=hp h0 [o0] [some (.rows g 10 [[(.sl 4 (List.map Ac (s_l.drop 1))),(.int .i64 s_end),w,w1,w2,w3,w4,w5,w6,w7]])]) h0 (Do text s_l s_end)):=by
 refine Bm (n:=7) 1 Tryz.func178 J (by decide) J J hI0 J fun ids he hI=>?_
 clear hI0
 obtain rfl:ix ids 0=o0:=he 0 rfl
 clear he
 refine Bn (Al (Do.eq_1 _ _ _) ?_)
 refine Aj ?_
 refine Y<|O<|Cl (v:=(.str text)) (j:=1) hI J J J J J J J fun g1=>Z<|Aj ?_
 refine O<|Ab 2 [] [(5,(.func (.func 213) [] [(.q ids 1 g1)])),(4,(.q ids 0 g))] ?_
 refine Ap [0,1] hI J J (Vi 1 s_l s_end text _ (ix ids 0) (ix ids 1) w w1 w2 w3 w4 w5 w6 w7 g g1 (by exact hI.sub' J J)) J J J J J J (fun v _=>Ao (K:=1) (N:=1) Tryz.func178 hI) ?_
 rintro r _ _ _ ⟨rfl,rfl⟩
 refine A0 [0,1] hI J J J ?_
 refine Ar<|Z<|Aj ?_
 exact Ci (K:=1) (N:=1) (a:=()) (vs:=[]) [some (.rows g 10 [[(.sl 4 (List.map Ac (s_l.drop 1))),(.I s_end),w,w1,w2,w3,w4,w5,w6,w7]])] Tryz.func178 hI J J J (.keep (.drop .nil)) (.same _) ⟨J,J⟩
theorem V3 (t:Token)(b:Int)(c:Int):CP Tryz.prog 214 [(.agg (Ac t)),(.cp [(.int .i64 b)] 0),(.cp [(.int .i64 c)] 0)] (Hb t b c) (fun(x:Bool)=>(AV.bool x)):=by
 refine Cd (n:=15) 1 Tryz.func214 J (by decide) J J fun h0 ids hI=>Bn (Al (Hb.eq_1 _ _ _) ?_)
 refine Y<|O<|Cl (v:=(.agg (Ac t))) (j:=0) hI J J J J J J J fun g=>Aa (.bool false) J Ai<|Z<|Aj ?_
 refine Y<|O<|Ab 5 [0] [(9,(.bool (decide (t.N≥b))))] ?_
 refine B2 5 [(14,(.bool ((decide (t.N≥b))&&(decide (t.N≤c)))))] ?_ fun hJ=>Bw (decide (t.N≥b)) (fun hb1=>?_) (fun hb1=>?_)
 ·refine Aa (.bool ((decide (t.N≥b))&&(decide (t.N≤c)))) J Ai<|Z<|Bl (a:=((decide (t.N≥b))&&(decide (t.N≤c)))) (vs:=[(.bool ((decide (t.N≥b))&&(decide (t.N≤c))))]) Tryz.func214 hI J (.same _)
 ·refine Az (t:=9) hb1 J<|Ab 5 [0] [(14,(.bool (decide (t.N≤c))))] ?_
  exact Bf hJ (.cons (Hk hb1) .nil)
 refine Az (t:=9) hb1 J<|Ab 5 [] [(14,(.bool false))] ?_
 exact Bf hJ (.cons (Hl hb1) .nil)
theorem Wc (kind:Int)(s0_l:List Token)(s0_end:Int)(s1:Int)(s2:Int)(h0:Ag)(o0:Nat)(o1:Nat)(o2:Nat)(w:AV)(w1:AV)(w2:AV)(w3:AV)(w4:AV)(w5:AV)(w6:AV)(w7:AV)(g:Nat)(g1:Nat)(g2:Nat)(hI0:Ids h0 [o0,o1,o2] 3):L5 kind s0_l s0_end s1 s2≠.bad→Bq Tryz.prog 207 [(.ptr o0 g 0 0),(.int .i64 kind),(.func (.func 214) [] [(.ptr o1 g1 0 0),(.ptr o2 g2 0 0)])] (hp h0 [o0,o1,o2] [some (.rows g 10 [[(.sl 4 (List.map Ac s0_l)),(.int .i64 s0_end),w,w1,w2,w3,w4,w5,w6,w7]]),some (.rows g1 1 [[(.int .i64 s1)]]),some (.rows g2 1 [[(.int .i64 s2)]])]) (C5 (fun a_ v h'=>v=(.agg (Ac a_))∧h'=hp h0 [o0,o1,o2] [some (.rows g 10 [[(.sl 4 (List.map Ac (s0_l.drop 1))),(.int .i64 s0_end),w,w1,w2,w3,w4,w5,w6,w7]]),some (.rows g1 1 [[(.int .i64 s1)]]),some (.rows g2 1 [[(.int .i64 s2)]])]) h0 (L5 kind s0_l s0_end s1 s2)):=by
 refine Bm (n:=53) 2 Tryz.func207 J (by decide) J J hI0 J fun ids he hI=>?_
 clear hI0
 obtain rfl:ix ids 0=o0:=he 0 rfl
 obtain rfl:ix ids 1=o1:=he 1 rfl
 obtain rfl:ix ids 2=o2:=he 2 rfl
 clear he
 refine Bn (Al (L5.eq_1 _ _ _ _ _) ?_)
 refine Aj ?_
 refine Y<|O<|A8 (j:=3) hI J J J J C1 J fun g3=>Z<|Aj ?_
 refine Y<|Y<|O<|Ab 4 [0] [(11,(.sl 4 (List.map Ac s0_l)))] ?_
 refine Aa (.I (s0_l.length:Int)) J (A2 (Bk Ch))<|Ab 2 [] [(14,(.bool ((s0_l.length:Int)==0)))] ?_
 refine Cz 10 ((fun(b:Bool)=>(if b then R.ok true else(C0 s0_l 0).bind fun a1=>(Hb a1 s1 s2).bind fun r=>R.ok (!r)).bind (fun(b1:Bool)=>if b1 then((Bv 80 s0_l s0_end).bind fun _=>E0 s0_l) else(E0 s0_l))):Bool→R Token) (fun(b:Bool) (fr:Nat→AV) (h:Ag)=>fr=A5 [(0,(.q ids 0 g)),(2,(.func (.func 214) [] [(.q ids 1 g1),(.q ids 2 g2)])),(6,(.q ids 3 g3)),(24,(.bool b))]∧h=hp h0 ids [(some (.rows g 10 [[(.sl 4 (List.map Ac s0_l)),(.I s0_end),w,w1,w2,w3,w4,w5,w6,w7]])),(some (.rows g1 1 [[(.I s1)]])),(some (.rows g2 1 [[(.I s2)]])),(some (.rows g3 4 [[(.I 0),(.str []),(.I 0),(.I 0)]])),none]) ?_ fun hJ=>Dd (fun hb1=>?_) (fun hb1=>?_)
 ·rintro b fr h ⟨rfl,rfl⟩
  refine Aa (.bool b) J Ad<|Cz 10 ((fun(b1:Bool)=>if b1 then((Bv 80 s0_l s0_end).bind fun _=>E0 s0_l) else(E0 s0_l)):Bool→R Token) (fun(b1:Bool) (fr:Nat→AV) (h:Ag)=>fr=A5 [(0,(.q ids 0 g)),(6,(.q ids 3 g3)),(35,(.bool b1))]∧h=hp h0 ids [(some (.rows g 10 [[(.sl 4 (List.map Ac s0_l)),(.I s0_end),w,w1,w2,w3,w4,w5,w6,w7]])),(some (.rows g1 1 [[(.I s1)]])),(some (.rows g2 1 [[(.I s2)]])),(some (.rows g3 4 [[(.I 0),(.str []),(.I 0),(.I 0)]])),none]) ?_ fun hJ1=>Dd (fun hb3=>?_) (fun hb3=>?_)
  ·rintro b1 fr h ⟨rfl,rfl⟩
   refine Z<|Dx (π:=Unit) (fun _=>E0 s0_l) (fun _=>fun(fr:Nat→AV) (h:Ag)=>fr=A5 [(0,(.q ids 0 g)),(6,(.q ids 3 g3))]∧h=hp h0 ids [(some (.rows g 10 [[(.sl 4 (List.map Ac s0_l)),(.I s0_end),w,w1,w2,w3,w4,w5,w6,w7]])),(some (.rows g1 1 [[(.I s1)]])),(some (.rows g2 1 [[(.I s2)]])),(some (.rows g3 4 [[(.I 0),(.str []),(.I 0),(.I 0)]])),none]) ?_ fun hJ2=>?_
   ·rintro _ fr h ⟨rfl,rfl⟩
    refine Al (E0.eq_1 _)<|Y<|O<|Ab 4 [0] [(41,(.sl 4 (List.map Ac s0_l)))] ?_
    refine Dv fun a2 hz2 hx3=>Aa (.cp (Ac a2) 0) J (Bz (Dc Ch C1 J hz2 hx3))<|Aa (.agg (Ac a2)) J (Au (C7 C1 J))<|A8 (j:=4) hI J J J J C1 J fun g4=>An (Aq (v:=(.agg (Ac a2))) hI J J J J C1 J J J J J)<|Z<|Aj ?_
    refine Y<|O<|Ab 5 [0] [(48,(.sl 4 (List.map Ac s0_l))),(44,(.q ids 0 g))] ?_
    refine Ee fun hs=>Aa (.sl 4 (List.map Ac (s0_l.drop 1))) J (Fr (N0 Ch C1 J hs))<|Ab 2 [] [(51,(.q ids 0 g))] ?_
    refine An (Aq (v:=(.sl 4 (List.map Ac (s0_l.drop 1)))) hI J J J J Ch J J J J J)<|Z<|Aj ?_
    refine Y<|O<|Ab 1 [4] [(52,(.agg (Ac a2)))] ?_
    refine An (Aq (v:=(.agg (Ac a2))) hI J J J J C1 J J J J J)<|Z<|Aj ?_
    exact D4 (K:=3) (N:=2) (a:=a2) (vs:=[(.agg (Ac a2))]) [some (.rows g 10 [[(.sl 4 (List.map Ac (s0_l.drop 1))),(.I s0_end),w,w1,w2,w3,w4,w5,w6,w7]]),some (.rows g1 1 [[(.I s1)]]),some (.rows g2 1 [[(.I s2)]])] Tryz.func207 hI J (Cc (A3 hI J J J C1 J) C8) J (.keep (.keep (.keep (.drop (.drop .nil))))) (.same _) ⟨J,J⟩
   refine Bx J (fun hc=>?_) (fun hc=>?_)
   ·refine O<|Aa (.q ids 0 g) J Ad<|Ap [0] hI J J (Cn 80 s0_l s0_end _ (ix ids 0) w w1 w2 w3 w4 w5 w6 w7 g (by exact hI.sub' J J)) J J J J J J (fun v _=>Ao (K:=3) (N:=2) Tryz.func207 hI) ?_
    rintro _ _ _ _ ⟨rfl,rfl⟩
    refine A0 [0] hI J J J ?_
    refine Ar<|Z<|Bo (hJ2 () _ _ ⟨J,J⟩)
   refine Ax<|Bo (hJ2 () _ _ ⟨J,J⟩)
  ·refine Az (t:=25) hb3 J<|Ab 10 [] [(35,(.bool true))] ?_
   refine Bd<|B5 [(0,(.q ids 0 g)),(6,(.q ids 3 g3)),(35,(.bool true))] (FI J)<|hJ1 true _ _ ⟨J,J⟩
  refine Az (t:=25) hb3 J<|Ab 5 [0] [(30,(.sl 4 (List.map Ac s0_l))),(26,(.func (.func 214) [] [(.q ids 1 g1),(.q ids 2 g2)]))] ?_
  refine Dv fun a1 hz1 hx2=>By (tj:=25) (.cp (Ac a1) 0) J J J (Bz (Dc Ch C1 J hz1 hx2))<|By (tj:=25) (.agg (Ac a1)) J J J (Au (C7 C1 J))<|A7 [(.agg (Ac a1)),(.q ids 1 g1),(.q ids 2 g2)] J (Cq (tj:=25) J J) J J (CP.lend (V3 a1 s1 s2) (LF.lfz (.cons (.same _) (.cons (.ptrL (hI.at J J) J J (Yv _)) (.cons (.ptrL (hI.at J J) J J (Yv _)) .nil)))) (fun _ _=>(.bool _))) (fun v _=>Ao (K:=3) (N:=2) Tryz.func207 hI) fun r _=>Ab 2 [] [(35,(.bool (!r)))] ?_
  refine Bd<|B5 [(0,(.q ids 0 g)),(6,(.q ids 3 g3)),(35,(.bool (!r)))] (FI J)<|hJ1 (!r) _ _ ⟨J,J⟩
 ·refine Az (t:=14) hb1 J<|Ab 10 [] [(24,(.bool true))] ?_
  refine Bd<|B5 [(0,(.q ids 0 g)),(2,(.func (.func 214) [] [(.q ids 1 g1),(.q ids 2 g2)])),(6,(.q ids 3 g3)),(24,(.bool true))] (FI J)<|hJ true _ _ ⟨J,J⟩
 refine Az (t:=14) hb1 J<|Ab 4 [0] [(18,(.sl 4 (List.map Ac s0_l)))] ?_
 refine Dv fun a hz hx1=>By (tj:=14) (.cp (Ac a) 0) J J J (Bz (Dc Ch C1 J hz hx1))<|Ab 5 [] [(24,(.bool (a.Kind != kind)))] ?_
 refine Bd<|B5 [(0,(.q ids 0 g)),(2,(.func (.func 214) [] [(.q ids 1 g1),(.q ids 2 g2)])),(6,(.q ids 3 g3)),(24,(.bool (a.Kind != kind)))] (FI J)<|hJ (a.Kind != kind) _ _ ⟨J,J⟩
theorem Ep (least:Int)(most:Int)(s_l:List Token)(s_end:Int)(h0:Ag)(o0:Nat)(w:AV)(w1:AV)(w2:AV)(w3:AV)(w4:AV)(w5:AV)(w6:AV)(w7:AV)(g:Nat)(hI0:Ids h0 [o0] 1):D8 least most s_l s_end≠.bad→Bq Tryz.prog 179 [(.ptr o0 g 0 0),(.int .i64 least),(.int .i64 most)] (hp h0 [o0] [some (.rows g 10 [[(.sl 4 (List.map Ac s_l)),(.int .i64 s_end),w,w1,w2,w3,w4,w5,w6,w7]])]) (C5 (fun a_ v h'=>v=(.int .i64 a_)∧h'=hp h0 [o0] [some (.rows g 10 [[(.sl 4 (List.map Ac (s_l.drop 1))),(.int .i64 s_end),w,w1,w2,w3,w4,w5,w6,w7]])]) h0 (D8 least most s_l s_end)):=by
 refine Bm (n:=11) 2 Tryz.func179 J (by decide) J J hI0 J fun ids he hI=>?_
 clear hI0
 obtain rfl:ix ids 0=o0:=he 0 rfl
 clear he
 refine Bn (Al (D8.eq_1 _ _ _ _) ?_)
 refine Aj ?_
 refine Y<|O<|Cl (v:=(.I least)) (j:=1) hI J J J J J J J fun g1=>Cl (v:=(.I most)) (j:=2) hI J J J J J J J fun g2=>Aa (.I 0) J Ai<|Z<|Aj ?_
 refine Y<|O<|Ab 2 [] [(8,(.func (.func 214) [] [(.q ids 1 g1),(.q ids 2 g2)])),(7,(.q ids 0 g))] ?_
 refine Ap [0,1,2] hI J J (Wc 2 s_l s_end least most _ (ix ids 0) (ix ids 1) (ix ids 2) w w1 w2 w3 w4 w5 w6 w7 g g1 g2 (by exact hI.sub' J J)) J J J J J J (fun v _=>Ao (K:=1) (N:=2) Tryz.func179 hI) ?_
 rintro r _ _ _ ⟨rfl,rfl⟩
 refine A0 [0,1,2] hI J J J ?_
 refine Ar<|Ab 2 [] [(6,(.I r.N))] ?_
 refine Z<|Aj ?_
 exact D4 (K:=1) (N:=2) (a:=r.N) (vs:=[(.I r.N)]) [some (.rows g 10 [[(.sl 4 (List.map Ac (s_l.drop 1))),(.I s_end),w,w1,w2,w3,w4,w5,w6,w7]])] Tryz.func179 hI J J J (.keep (.drop (.drop .nil))) (.same _) ⟨J,J⟩
theorem Te (s1_l:List Token)(s1_end:Int)(h0:Ag)(o0:Nat)(o1:Nat)(g:Nat)(w:AV)(w1:AV)(w2:AV)(w3:AV)(w4:AV)(w5:AV)(w6:AV)(w7:AV)(g1:Nat)(hI0:Ids h0 [o0,o1] 2):F6 s1_l s1_end≠.bad→Bq Tryz.prog 193 [(.ptr o0 g 0 0)] (hp h0 [o0,o1] [some (.rows g 1 [[(.ptr o1 g1 0 0)]]),some (.rows g1 10 [[(.sl 4 (List.map Ac s1_l)),(.int .i64 s1_end),w,w1,w2,w3,w4,w5,w6,w7]])]) (C5 (fun a_ v h'=>v=(.agg (Dy a_))∧h'=hp h0 [o0,o1] [some (.rows g 1 [[(.ptr o1 g1 0 0)]]),some (.rows g1 10 [[(.sl 4 (List.map Ac (((s1_l.drop 1).drop 1).drop 1))),(.int .i64 s1_end),w,w1,w2,w3,w4,w5,w6,w7]])]) h0 (F6 s1_l s1_end)):=by
 refine Bm (n:=11) 1 Tryz.func193 J (by decide) J J hI0 J fun ids he hI=>?_
 clear hI0
 obtain rfl:ix ids 0=o0:=he 0 rfl
 obtain rfl:ix ids 1=o1:=he 1 rfl
 clear he
 refine Bn (Al (F6.eq_1 _ _) ?_)
 refine Aj ?_
 refine Y<|O<|A8 (j:=2) hI J J J J Nv J fun g2=>Z<|Aj ?_
 refine Y<|O<|Ab 1 [0] [(2,(.q ids 1 g1))] ?_
 refine Ap [1] hI J J (D1 [109,111,100,101] s1_l s1_end _ (ix ids 1) w w1 w2 w3 w4 w5 w6 w7 g1 (by exact hI.sub' J J)) J J J J J J (fun v _=>Ao (K:=2) (N:=1) Tryz.func193 hI) ?_
 rintro _ _ _ _ ⟨rfl,rfl⟩
 refine A0 [1] hI J J J ?_
 refine Ar<|Z<|Aj ?_
 refine Y<|O<|Ab 1 [0] [(4,(.q ids 1 g1))] ?_
 refine Ap [1] hI J J (Da (s1_l.drop 1) s1_end _ (ix ids 1) w w1 w2 w3 w4 w5 w6 w7 g1 (by exact hI.sub' J J)) J J J J J J (fun v _=>Ao (K:=2) (N:=1) Tryz.func193 hI) ?_
 rintro r1 _ _ _ ⟨rfl,rfl⟩
 refine A0 [1] hI J J J ?_
 refine Ar<|Aa (.q ids 2 g2) J (Cb (B3 (c:=0) (off:=0) (i:=0) Nv J Cf J))<|An (Aq (v:=(.str r1)) hI J J J J Cf J J J J J)<|Z<|Aj ?_
 refine Y<|O<|Ab 1 [0] [(7,(.q ids 1 g1))] ?_
 refine Ap [1] hI J J (Ep 0 64 ((s1_l.drop 1).drop 1) s1_end _ (ix ids 1) w w1 w2 w3 w4 w5 w6 w7 g1 (by exact hI.sub' J J)) J J J J J J (fun v _=>Ao (K:=2) (N:=1) Tryz.func193 hI) ?_
 rintro r2 _ _ _ ⟨rfl,rfl⟩
 refine A0 [1] hI J J J ?_
 refine Ar<|Aa (.ptr (ix ids 2) g2 0 1) J (Cb (B3 (c:=0) (off:=1) (i:=1) Nv J C2 J))<|An (Aq (v:=(.I r2)) hI J J J J C2 J J J J J)<|Z<|Aj ?_
 refine Y<|O<|Ab 1 [2] [(10,(.agg [(.str r1),(.I r2)]))] ?_
 refine An (Aq (v:=(.agg [(.str r1),(.I r2)])) hI J J J J Nv J J J J J)<|Z<|D4 (K:=2) (N:=1) (a:=({ Name:=r1,Places:=r2 }:Mode)) (vs:=[(.agg [(.str r1),(.I r2)])]) [some (.rows g 1 [[(.q ids 1 g1)]]),some (.rows g1 10 [[(.sl 4 (List.map Ac (((s1_l.drop 1).drop 1).drop 1))),(.I s1_end),w,w1,w2,w3,w4,w5,w6,w7]])] Tryz.func193 hI J (Cc (A3 hI J J J Nv J) C8) J (.keep (.keep (.drop .nil))) (.aggL (.cons (.same _) (.cons (.same _) .nil))) ⟨J,J⟩
theorem Nk (kind:Int)(text:Ay)(s_l:List Token)(s_end:Int)(h0:Ag)(o0:Nat)(w:AV)(w1:AV)(w2:AV)(w3:AV)(w4:AV)(w5:AV)(w6:AV)(w7:AV)(g:Nat)(hI0:Ids h0 [o0] 1):F0 kind text s_l s_end≠.bad→Bq Tryz.prog 209 [(.ptr o0 g 0 0),(.int .i64 kind),(.str text)] (hp h0 [o0] [some (.rows g 10 [[(.sl 4 (List.map Ac s_l)),(.int .i64 s_end),w,w1,w2,w3,w4,w5,w6,w7]])]) (C5 (fun a_ v h'=>v=(.bool a_)∧h'=hp h0 [o0] [some (.rows g 10 [[(.sl 4 (List.map Ac s_l)),(.int .i64 s_end),w,w1,w2,w3,w4,w5,w6,w7]])]) h0 (F0 kind text s_l s_end)):=by
 refine Bm (n:=35) 0 Tryz.func209 J (by decide) J J hI0 J fun ids he hI=>?_
 clear hI0
 obtain rfl:ix ids 0=o0:=he 0 rfl
 clear he
 refine Bn (Al (F0.eq_1 _ _ _ _) ?_)
 refine Y<|O<|Aa (.bool false) J Ai<|Z<|Y<|O<|Ab 4 [0] [(10,(.sl 4 (List.map Ac s_l)))] ?_
 refine Aa (.I (s_l.length:Int)) J (A2 (Bk Ch))<|Ab 2 [] [(13,(.bool (decide ((s_l.length:Int) > 0))))] ?_
 refine Cz 10 ((fun(b:Bool)=>(if b then(C0 s_l 0).bind fun a1=>R.ok (a1.Text==text) else R.ok false).bind (fun(b1:Bool)=>.ok b1)):Bool→R Bool) (fun(b:Bool) (fr:Nat→AV) (h:Ag)=>fr=A5 [(0,(.q ids 0 g)),(2,(.str text)),(23,(.bool b))]∧h=hp h0 ids [(some (.rows g 10 [[(.sl 4 (List.map Ac s_l)),(.I s_end),w,w1,w2,w3,w4,w5,w6,w7]]))]) ?_ fun hJ=>Dd (fun hb1=>?_) (fun hb1=>?_)
 ·rintro b fr h ⟨rfl,rfl⟩
  refine Aa (.bool b) J Ad<|Cz 10 ((fun(b1:Bool)=>.ok b1):Bool→R Bool) (fun(b1:Bool) (fr:Nat→AV) (h:Ag)=>fr=A5 [(34,(.bool b1))]∧h=hp h0 ids [(some (.rows g 10 [[(.sl 4 (List.map Ac s_l)),(.I s_end),w,w1,w2,w3,w4,w5,w6,w7]]))]) ?_ fun hJ1=>Dd (fun hb3=>?_) (fun hb3=>?_)
  ·rintro b1 fr h ⟨rfl,rfl⟩
   refine Aa (.bool b1) J Ai<|Z<|D4 (K:=1) (N:=0) (a:=b1) (vs:=[(.bool b1)]) [some (.rows g 10 [[(.sl 4 (List.map Ac s_l)),(.I s_end),w,w1,w2,w3,w4,w5,w6,w7]])] Tryz.func209 hI J J J (.keep .nil) (.same _) ⟨J,J⟩
  ·refine Az (t:=24) hb3 J<|Ab 4 [0] [(28,(.sl 4 (List.map Ac s_l)))] ?_
   refine Dv fun a1 hz1 hx2=>By (tj:=24) (.cp (Ac a1) 0) J J J (Bz (Dc Ch C1 J hz1 hx2))<|Ab 5 [] [(34,(.bool (a1.Text==text)))] ?_
   refine Bd<|B5 [(34,(.bool (a1.Text==text)))] (FI J)<|hJ1 (a1.Text==text) _ _ ⟨J,J⟩
  refine Az (t:=24) hb3 J<|Ab 10 [] [(34,(.bool false))] ?_
  refine Bd<|B5 [(34,(.bool false))] (FI J)<|hJ1 false _ _ ⟨J,J⟩
 ·refine Az (t:=13) hb1 J<|Ab 4 [0] [(17,(.sl 4 (List.map Ac s_l)))] ?_
  refine Dv fun a hz hx1=>By (tj:=13) (.cp (Ac a) 0) J J J (Bz (Dc Ch C1 J hz hx1))<|Ab 5 [] [(23,(.bool (a.Kind==kind)))] ?_
  refine Bd<|B5 [(0,(.q ids 0 g)),(2,(.str text)),(23,(.bool (a.Kind==kind)))] (FI J)<|hJ (a.Kind==kind) _ _ ⟨J,J⟩
 refine Az (t:=13) hb1 J<|Ab 10 [] [(23,(.bool false))] ?_
 refine Bd<|B5 [(0,(.q ids 0 g)),(2,(.str text)),(23,(.bool false))] (FI J)<|hJ false _ _ ⟨J,J⟩
theorem W8 (t:Token)(b:Ay):CP Tryz.prog 211 [(.agg (Ac t)),(.cp [(.str b)] 0)] (Kk t b) (fun(x:Bool)=>(AV.bool x)):=by
 refine Cd (n:=8) 1 Tryz.func211 J (by decide) J J fun h0 ids hI=>Bn (Al (Kk.eq_1 _ _) ?_)
 refine Y<|O<|Cl (v:=(.agg (Ac t))) (j:=0) hI J J J J J J J fun g=>Aa (.bool false) J Ai<|Z<|Aj ?_
 refine Y<|O<|Ab 5 [0] [(3,(.bool (t.Text==b)))] ?_
 refine Z<|Bl (a:=(t.Text==b)) (vs:=[(.bool (t.Text==b))]) Tryz.func211 hI J (.same _)
theorem Vv (kind:Int)(s0_l:List Token)(s0_end:Int)(s1:Ay)(h0:Ag)(o0:Nat)(o1:Nat)(w:AV)(w1:AV)(w2:AV)(w3:AV)(w4:AV)(w5:AV)(w6:AV)(w7:AV)(g:Nat)(g1:Nat)(hI0:Ids h0 [o0,o1] 2):Mb kind s0_l s0_end s1≠.bad→Bq Tryz.prog 207 [(.ptr o0 g 0 0),(.int .i64 kind),(.func (.func 211) [] [(.ptr o1 g1 0 0)])] (hp h0 [o0,o1] [some (.rows g 10 [[(.sl 4 (List.map Ac s0_l)),(.int .i64 s0_end),w,w1,w2,w3,w4,w5,w6,w7]]),some (.rows g1 1 [[(.str s1)]])]) (C5 (fun a_ v h'=>v=(.agg (Ac a_))∧h'=hp h0 [o0,o1] [some (.rows g 10 [[(.sl 4 (List.map Ac (s0_l.drop 1))),(.int .i64 s0_end),w,w1,w2,w3,w4,w5,w6,w7]]),some (.rows g1 1 [[(.str s1)]])]) h0 (Mb kind s0_l s0_end s1)):=by
 refine Bm (n:=53) 2 Tryz.func207 J (by decide) J J hI0 J fun ids he hI=>?_
 clear hI0
 obtain rfl:ix ids 0=o0:=he 0 rfl
 obtain rfl:ix ids 1=o1:=he 1 rfl
 clear he
 refine Bn (Al (Mb.eq_1 _ _ _ _) ?_)
 refine Aj ?_
 refine Y<|O<|A8 (j:=2) hI J J J J C1 J fun g2=>Z<|Aj ?_
 refine Y<|Y<|O<|Ab 4 [0] [(11,(.sl 4 (List.map Ac s0_l)))] ?_
 refine Aa (.I (s0_l.length:Int)) J (A2 (Bk Ch))<|Ab 2 [] [(14,(.bool ((s0_l.length:Int)==0)))] ?_
 refine Cz 10 ((fun(b:Bool)=>(if b then R.ok true else(C0 s0_l 0).bind fun a1=>(Kk a1 s1).bind fun r=>R.ok (!r)).bind (fun(b1:Bool)=>if b1 then((Bv 80 s0_l s0_end).bind fun _=>E2 s0_l) else(E2 s0_l))):Bool→R Token) (fun(b:Bool) (fr:Nat→AV) (h:Ag)=>fr=A5 [(0,(.q ids 0 g)),(2,(.func (.func 211) [] [(.q ids 1 g1)])),(6,(.q ids 2 g2)),(24,(.bool b))]∧h=hp h0 ids [(some (.rows g 10 [[(.sl 4 (List.map Ac s0_l)),(.I s0_end),w,w1,w2,w3,w4,w5,w6,w7]])),(some (.rows g1 1 [[(.str s1)]])),(some (.rows g2 4 [[(.I 0),(.str []),(.I 0),(.I 0)]])),none]) ?_ fun hJ=>Dd (fun hb1=>?_) (fun hb1=>?_)
 ·rintro b fr h ⟨rfl,rfl⟩
  refine Aa (.bool b) J Ad<|Cz 10 ((fun(b1:Bool)=>if b1 then((Bv 80 s0_l s0_end).bind fun _=>E2 s0_l) else(E2 s0_l)):Bool→R Token) (fun(b1:Bool) (fr:Nat→AV) (h:Ag)=>fr=A5 [(0,(.q ids 0 g)),(6,(.q ids 2 g2)),(35,(.bool b1))]∧h=hp h0 ids [(some (.rows g 10 [[(.sl 4 (List.map Ac s0_l)),(.I s0_end),w,w1,w2,w3,w4,w5,w6,w7]])),(some (.rows g1 1 [[(.str s1)]])),(some (.rows g2 4 [[(.I 0),(.str []),(.I 0),(.I 0)]])),none]) ?_ fun hJ1=>Dd (fun hb3=>?_) (fun hb3=>?_)
  ·rintro b1 fr h ⟨rfl,rfl⟩
   refine Z<|Dx (π:=Unit) (fun _=>E2 s0_l) (fun _=>fun(fr:Nat→AV) (h:Ag)=>fr=A5 [(0,(.q ids 0 g)),(6,(.q ids 2 g2))]∧h=hp h0 ids [(some (.rows g 10 [[(.sl 4 (List.map Ac s0_l)),(.I s0_end),w,w1,w2,w3,w4,w5,w6,w7]])),(some (.rows g1 1 [[(.str s1)]])),(some (.rows g2 4 [[(.I 0),(.str []),(.I 0),(.I 0)]])),none]) ?_ fun hJ2=>?_
   ·rintro _ fr h ⟨rfl,rfl⟩
    refine Al (E2.eq_1 _)<|Y<|O<|Ab 4 [0] [(41,(.sl 4 (List.map Ac s0_l)))] ?_
    refine Dv fun a2 hz2 hx3=>Aa (.cp (Ac a2) 0) J (Bz (Dc Ch C1 J hz2 hx3))<|Aa (.agg (Ac a2)) J (Au (C7 C1 J))<|A8 (j:=3) hI J J J J C1 J fun g3=>An (Aq (v:=(.agg (Ac a2))) hI J J J J C1 J J J J J)<|Z<|Aj ?_
    refine Y<|O<|Ab 5 [0] [(48,(.sl 4 (List.map Ac s0_l))),(44,(.q ids 0 g))] ?_
    refine Ee fun hs=>Aa (.sl 4 (List.map Ac (s0_l.drop 1))) J (Fr (N0 Ch C1 J hs))<|Ab 2 [] [(51,(.q ids 0 g))] ?_
    refine An (Aq (v:=(.sl 4 (List.map Ac (s0_l.drop 1)))) hI J J J J Ch J J J J J)<|Z<|Aj ?_
    refine Y<|O<|Ab 1 [3] [(52,(.agg (Ac a2)))] ?_
    refine An (Aq (v:=(.agg (Ac a2))) hI J J J J C1 J J J J J)<|Z<|Aj ?_
    exact D4 (K:=2) (N:=2) (a:=a2) (vs:=[(.agg (Ac a2))]) [some (.rows g 10 [[(.sl 4 (List.map Ac (s0_l.drop 1))),(.I s0_end),w,w1,w2,w3,w4,w5,w6,w7]]),some (.rows g1 1 [[(.str s1)]])] Tryz.func207 hI J (Cc (A3 hI J J J C1 J) C8) J (.keep (.keep (.drop (.drop .nil)))) (.same _) ⟨J,J⟩
   refine Bx J (fun hc=>?_) (fun hc=>?_)
   ·refine O<|Aa (.q ids 0 g) J Ad<|Ap [0] hI J J (Cn 80 s0_l s0_end _ (ix ids 0) w w1 w2 w3 w4 w5 w6 w7 g (by exact hI.sub' J J)) J J J J J J (fun v _=>Ao (K:=2) (N:=2) Tryz.func207 hI) ?_
    rintro _ _ _ _ ⟨rfl,rfl⟩
    refine A0 [0] hI J J J ?_
    refine Ar<|Z<|Bo (hJ2 () _ _ ⟨J,J⟩)
   refine Ax<|Bo (hJ2 () _ _ ⟨J,J⟩)
  ·refine Az (t:=25) hb3 J<|Ab 10 [] [(35,(.bool true))] ?_
   refine Bd<|B5 [(0,(.q ids 0 g)),(6,(.q ids 2 g2)),(35,(.bool true))] (FI J)<|hJ1 true _ _ ⟨J,J⟩
  refine Az (t:=25) hb3 J<|Ab 5 [0] [(30,(.sl 4 (List.map Ac s0_l))),(26,(.func (.func 211) [] [(.q ids 1 g1)]))] ?_
  refine Dv fun a1 hz1 hx2=>By (tj:=25) (.cp (Ac a1) 0) J J J (Bz (Dc Ch C1 J hz1 hx2))<|By (tj:=25) (.agg (Ac a1)) J J J (Au (C7 C1 J))<|A7 [(.agg (Ac a1)),(.q ids 1 g1)] J (Cq (tj:=25) J J) J J (CP.lend (W8 a1 s1) (LF.lfz (.cons (.same _) (.cons (.ptrL (hI.at J J) J J (Yv _)) .nil))) (fun _ _=>(.bool _))) (fun v _=>Ao (K:=2) (N:=2) Tryz.func207 hI) fun r _=>Ab 2 [] [(35,(.bool (!r)))] ?_
  refine Bd<|B5 [(0,(.q ids 0 g)),(6,(.q ids 2 g2)),(35,(.bool (!r)))] (FI J)<|hJ1 (!r) _ _ ⟨J,J⟩
 ·refine Az (t:=14) hb1 J<|Ab 10 [] [(24,(.bool true))] ?_
  refine Bd<|B5 [(0,(.q ids 0 g)),(2,(.func (.func 211) [] [(.q ids 1 g1)])),(6,(.q ids 2 g2)),(24,(.bool true))] (FI J)<|hJ true _ _ ⟨J,J⟩
 refine Az (t:=14) hb1 J<|Ab 4 [0] [(18,(.sl 4 (List.map Ac s0_l)))] ?_
 refine Dv fun a hz hx1=>By (tj:=14) (.cp (Ac a) 0) J J J (Bz (Dc Ch C1 J hz hx1))<|Ab 5 [] [(24,(.bool (a.Kind != kind)))] ?_
 refine Bd<|B5 [(0,(.q ids 0 g)),(2,(.func (.func 211) [] [(.q ids 1 g1)])),(6,(.q ids 2 g2)),(24,(.bool (a.Kind != kind)))] (FI J)<|hJ (a.Kind != kind) _ _ ⟨J,J⟩
theorem Di (text:Ay)(s_l:List Token)(s_end:Int)(h0:Ag)(o0:Nat)(w:AV)(w1:AV)(w2:AV)(w3:AV)(w4:AV)(w5:AV)(w6:AV)(w7:AV)(g:Nat)(hI0:Ids h0 [o0] 1):Cj text s_l s_end≠.bad→Bq Tryz.prog 175 [(.ptr o0 g 0 0),(.str text)] (hp h0 [o0] [some (.rows g 10 [[(.sl 4 (List.map Ac s_l)),(.int .i64 s_end),w,w1,w2,w3,w4,w5,w6,w7]])]) (C5 (fun a_ v h'=>v=(.tup [])∧h'=hp h0 [o0] [some (.rows g 10 [[(.sl 4 (List.map Ac (s_l.drop 1))),(.int .i64 s_end),w,w1,w2,w3,w4,w5,w6,w7]])]) h0 (Cj text s_l s_end)):=by
 refine Bm (n:=7) 1 Tryz.func175 J (by decide) J J hI0 J fun ids he hI=>?_
 clear hI0
 obtain rfl:ix ids 0=o0:=he 0 rfl
 clear he
 refine Bn (Al (Cj.eq_1 _ _ _) ?_)
 refine Aj ?_
 refine Y<|O<|Cl (v:=(.str text)) (j:=1) hI J J J J J J J fun g1=>Z<|Aj ?_
 refine O<|Ab 2 [] [(5,(.func (.func 211) [] [(.q ids 1 g1)])),(4,(.q ids 0 g))] ?_
 refine Ap [0,1] hI J J (Vv 3 s_l s_end text _ (ix ids 0) (ix ids 1) w w1 w2 w3 w4 w5 w6 w7 g g1 (by exact hI.sub' J J)) J J J J J J (fun v _=>Ao (K:=1) (N:=1) Tryz.func175 hI) ?_
 rintro r _ _ _ ⟨rfl,rfl⟩
 refine A0 [0,1] hI J J J ?_
 refine Ar<|Z<|Aj ?_
 exact Ci (K:=1) (N:=1) (a:=()) (vs:=[]) [some (.rows g 10 [[(.sl 4 (List.map Ac (s_l.drop 1))),(.I s_end),w,w1,w2,w3,w4,w5,w6,w7]])] Tryz.func175 hI J J J (.keep (.drop .nil)) (.same _) ⟨J,J⟩
theorem U5 (s:Ay)(s1_l:List Token)(s1_end:Int)(h0:Ag)(o0:Nat)(o1:Nat)(g:Nat)(w:AV)(w1:AV)(w2:AV)(w3:AV)(w4:AV)(w5:AV)(w6:AV)(w7:AV)(g1:Nat)(hI0:Ids h0 [o0,o1] 2):F2 s s1_l s1_end≠.bad→Bq Tryz.prog 196 [(.str s),(.ptr o0 g 0 0)] (hp h0 [o0,o1] [some (.rows g 1 [[(.ptr o1 g1 0 0)]]),some (.rows g1 10 [[(.sl 4 (List.map Ac s1_l)),(.int .i64 s1_end),w,w1,w2,w3,w4,w5,w6,w7]])]) (C5 (fun a_ v h'=>v=(.agg (B4 a_))∧h'=hp h0 [o0,o1] [some (.rows g 1 [[(.ptr o1 g1 0 0)]]),some (.rows g1 10 [[(.sl 4 (List.map Ac ((((((s1_l.drop 1).drop 1).drop 1).drop 1).drop 1).drop 1))),(.int .i64 s1_end),w,w1,w2,w3,w4,w5,w6,w7]])]) h0 (F2 s s1_l s1_end)):=by
 refine Bm (n:=25) 2 Tryz.func196 J (by decide) J J hI0 J fun ids he hI=>?_
 clear hI0
 obtain rfl:ix ids 0=o0:=he 0 rfl
 obtain rfl:ix ids 1=o1:=he 1 rfl
 clear he
 refine Bn (Al (F2.eq_1 _ _ _) ?_)
 refine Aj ?_
 refine Y<|O<|A8 (j:=2) hI J J J J Jj J fun g2=>Z<|Aj ?_
 refine Y<|O<|Ab 2 [] [(6,(.agg [(.str s),(.I 0),(.I 0),(.I 0)]))] ?_
 refine A8 (j:=3) hI J J J J Jj J fun g3=>An (Aq (v:=(.agg [(.str s),(.I 0),(.I 0),(.I 0)])) hI J J J J Jj J J J J J)<|Z<|Aj ?_
 refine Y<|O<|Ab 1 [0] [(7,(.q ids 1 g1))] ?_
 refine Ap [1] hI J J (D1 [115,108,111,119] s1_l s1_end _ (ix ids 1) w w1 w2 w3 w4 w5 w6 w7 g1 (by exact hI.sub' J J)) J J J J J J (fun v _=>Ao (K:=2) (N:=2) Tryz.func196 hI) ?_
 rintro _ _ _ _ ⟨rfl,rfl⟩
 refine A0 [1] hI J J J ?_
 refine Ar<|Z<|Aj ?_
 refine Y<|O<|Ab 1 [0] [(9,(.q ids 1 g1))] ?_
 refine Ap [1] hI J J (Ep 1 64 (s1_l.drop 1) s1_end _ (ix ids 1) w w1 w2 w3 w4 w5 w6 w7 g1 (by exact hI.sub' J J)) J J J J J J (fun v _=>Ao (K:=2) (N:=2) Tryz.func196 hI) ?_
 rintro r1 _ _ _ ⟨rfl,rfl⟩
 refine A0 [1] hI J J J ?_
 refine Ar<|Aa (.ptr (ix ids 3) g3 0 1) J (Cb (B3 (c:=0) (off:=1) (i:=1) Jj J C2 J))<|An (Aq (v:=(.I r1)) hI J J J J C2 J J J J J)<|Z<|Aj ?_
 refine Y<|O<|Ab 1 [0] [(12,(.q ids 1 g1))] ?_
 refine Ap [1] hI J J (D1 [102,97,115,116] ((s1_l.drop 1).drop 1) s1_end _ (ix ids 1) w w1 w2 w3 w4 w5 w6 w7 g1 (by exact hI.sub' J J)) J J J J J J (fun v _=>Ao (K:=2) (N:=2) Tryz.func196 hI) ?_
 rintro _ _ _ _ ⟨rfl,rfl⟩
 refine A0 [1] hI J J J ?_
 refine Ar<|Z<|Aj ?_
 refine Y<|O<|Ab 3 [0,3] [(16,(.I r1)),(14,(.q ids 1 g1))] ?_
 refine Ap [1] hI J J (Ep r1 64 (((s1_l.drop 1).drop 1).drop 1) s1_end _ (ix ids 1) w w1 w2 w3 w4 w5 w6 w7 g1 (by exact hI.sub' J J)) J J J J J J (fun v _=>Ao (K:=2) (N:=2) Tryz.func196 hI) ?_
 rintro r3 _ _ _ ⟨rfl,rfl⟩
 refine A0 [1] hI J J J ?_
 refine Ar<|Aa (.ptr (ix ids 3) g3 0 2) J (Cb (B3 (c:=0) (off:=2) (i:=2) Jj J C2 J))<|An (Aq (v:=(.I r3)) hI J J J J C2 J J J J J)<|Z<|Aj ?_
 refine Y<|O<|Ab 1 [0] [(19,(.q ids 1 g1))] ?_
 refine Ap [1] hI J J (D1 [112,108,97,99,101,115] ((((s1_l.drop 1).drop 1).drop 1).drop 1) s1_end _ (ix ids 1) w w1 w2 w3 w4 w5 w6 w7 g1 (by exact hI.sub' J J)) J J J J J J (fun v _=>Ao (K:=2) (N:=2) Tryz.func196 hI) ?_
 rintro _ _ _ _ ⟨rfl,rfl⟩
 refine A0 [1] hI J J J ?_
 refine Ar<|Z<|Aj ?_
 refine Y<|O<|Ab 1 [0] [(21,(.q ids 1 g1))] ?_
 refine Ap [1] hI J J (Ep 1 8 (((((s1_l.drop 1).drop 1).drop 1).drop 1).drop 1) s1_end _ (ix ids 1) w w1 w2 w3 w4 w5 w6 w7 g1 (by exact hI.sub' J J)) J J J J J J (fun v _=>Ao (K:=2) (N:=2) Tryz.func196 hI) ?_
 rintro r5 _ _ _ ⟨rfl,rfl⟩
 refine A0 [1] hI J J J ?_
 refine Ar<|Aa (.ptr (ix ids 3) g3 0 3) J (Cb (B3 (c:=0) (off:=3) (i:=3) Jj J C2 J))<|An (Aq (v:=(.I r5)) hI J J J J C2 J J J J J)<|Z<|Aj ?_
 refine Y<|O<|Ab 1 [3] [(24,(.agg [(.str s),(.I r1),(.I r3),(.I r5)]))] ?_
 refine An (Aq (v:=(.agg [(.str s),(.I r1),(.I r3),(.I r5)])) hI J J J J Jj J J J J J)<|Z<|Aj ?_
 exact D4 (K:=2) (N:=2) (a:=({ Name:=s,Slow:=r1,Fast:=r3,Places:=r5 }:Class)) (vs:=[(.agg [(.str s),(.I r1),(.I r3),(.I r5)])]) [some (.rows g 1 [[(.q ids 1 g1)]]),some (.rows g1 10 [[(.sl 4 (List.map Ac ((((((s1_l.drop 1).drop 1).drop 1).drop 1).drop 1).drop 1))),(.I s1_end),w,w1,w2,w3,w4,w5,w6,w7]])] Tryz.func196 hI J (Cc (A3 hI J J J Jj J) C8) J (.keep (.keep (.drop (.drop .nil)))) (.aggL (.cons (.same _) (.cons (.same _) (.cons (.same _) (.cons (.same _) .nil))))) ⟨J,J⟩
theorem Sk (s_l:List Token)(s_end:Int)(h0:Ag)(o0:Nat)(w:AV)(w1:AV)(w2:AV)(w3:AV)(w4:AV)(w5:AV)(w6:AV)(w7:AV)(g:Nat)(hI0:Ids h0 [o0] 1):H3 s_l s_end≠.bad→Bq Tryz.prog 200 [(.ptr o0 g 0 0)] (hp h0 [o0] [some (.rows g 10 [[(.sl 4 (List.map Ac s_l)),(.int .i64 s_end),w,w1,w2,w3,w4,w5,w6,w7]])]) (C5 (fun a_ v h'=>v=(.agg (B7 a_))∧h'=hp h0 [o0] [some (.rows g 10 [[(.sl 4 (List.map Ac (((s_l.drop 1).drop 1).drop 1))),(.int .i64 s_end),w,w1,w2,w3,w4,w5,w6,w7]])]) h0 (H3 s_l s_end)):=by
 refine Bm (n:=15) 1 Tryz.func200 J (by decide) J J hI0 J fun ids he hI=>?_
 clear hI0
 obtain rfl:ix ids 0=o0:=he 0 rfl
 clear he
 refine Bn (Al (H3.eq_1 _ _) ?_)
 refine Aj ?_
 refine Y<|O<|A8 (j:=1) hI J J J J Hz J fun g1=>Z<|Aj ?_
 refine Y<|O<|Aa (.q ids 0 g) J Ad<|Ap [0] hI J J (Ep 0 1439 s_l s_end _ (ix ids 0) w w1 w2 w3 w4 w5 w6 w7 g (by exact hI.sub' J J)) J J J J J J (fun v _=>Ao (K:=1) (N:=1) Tryz.func200 hI) ?_
 rintro r _ _ _ ⟨rfl,rfl⟩
 refine A0 [0] hI J J J ?_
 refine Ar<|Aa (.q ids 1 g1) J (Cb (B3 (c:=0) (off:=0) (i:=0) Hz J C2 J))<|An (Aq (v:=(.I r)) hI J J J J C2 J J J J J)<|Z<|Aj ?_
 refine Y<|O<|Aa (.q ids 0 g) J Ad<|Ap [0] hI J J (D1 [116,111] (s_l.drop 1) s_end _ (ix ids 0) w w1 w2 w3 w4 w5 w6 w7 g (by exact hI.sub' J J)) J J J J J J (fun v _=>Ao (K:=1) (N:=1) Tryz.func200 hI) ?_
 rintro _ _ _ _ ⟨rfl,rfl⟩
 refine A0 [0] hI J J J ?_
 refine Ar<|Z<|Aj ?_
 refine Y<|O<|Ab 4 [1] [(11,(.I (IntKind.wrap .i64 (r+1)))),(8,(.q ids 0 g))] ?_
 refine Ap [0] hI J J (Ep (IntKind.wrap .i64 (r+1)) 1440 ((s_l.drop 1).drop 1) s_end _ (ix ids 0) w w1 w2 w3 w4 w5 w6 w7 g (by exact hI.sub' J J)) J J J J J J (fun v _=>Ao (K:=1) (N:=1) Tryz.func200 hI) ?_
 rintro r2 _ _ _ ⟨rfl,rfl⟩
 refine A0 [0] hI J J J ?_
 refine Ar<|Aa (.ptr (ix ids 1) g1 0 1) J (Cb (B3 (c:=0) (off:=1) (i:=1) Hz J C2 J))<|An (Aq (v:=(.I r2)) hI J J J J C2 J J J J J)<|Z<|Aj ?_
 refine Y<|O<|Ab 1 [1] [(14,(.agg [(.I r),(.I r2)]))] ?_
 refine An (Aq (v:=(.agg [(.I r),(.I r2)])) hI J J J J Hz J J J J J)<|Z<|D4 (K:=1) (N:=1) (a:=({ From:=r,To:=r2 }:Span)) (vs:=[(.agg [(.I r),(.I r2)])]) [some (.rows g 10 [[(.sl 4 (List.map Ac (((s_l.drop 1).drop 1).drop 1))),(.I s_end),w,w1,w2,w3,w4,w5,w6,w7]])] Tryz.func200 hI J (Cc (A3 hI J J J Hz J) C8) J (.keep (.drop .nil)) (.aggL (.cons (.same _) (.cons (.same _) .nil))) ⟨J,J⟩
theorem U2 (s0:Rule)(s2_l:List Token)(s2_end:Int)(h0:Ag)(o0:Nat)(o1:Nat)(o2:Nat)(g:Nat)(g1:Nat)(w:AV)(w1:AV)(w2:AV)(w3:AV)(w4:AV)(w5:AV)(w6:AV)(w7:AV)(g2:Nat)(hI0:Ids h0 [o0,o1,o2] 3):Li s0 s2_l s2_end≠.bad→Bq Tryz.prog 199 [(.ptr o0 g 0 0),(.ptr o1 g1 0 0)] (hp h0 [o0,o1,o2] [some (.rows g 8 [(Bc s0)]),some (.rows g1 1 [[(.ptr o2 g2 0 0)]]),some (.rows g2 10 [[(.sl 4 (List.map Ac s2_l)),(.int .i64 s2_end),w,w1,w2,w3,w4,w5,w6,w7]])]) (C5 (fun a_ v h'=>v=(.tup [])∧h'=hp h0 [o0,o1,o2] [some (.rows g 8 [(Bc a_)]),some (.rows g1 1 [[(.ptr o2 g2 0 0)]]),some (.rows g2 10 [[(.sl 4 (List.map Ac (((((s2_l.drop 1).drop 1).drop 1).drop 1).drop 1))),(.int .i64 s2_end),w,w1,w2,w3,w4,w5,w6,w7]])]) h0 (Li s0 s2_l s2_end)):=by
 refine Bm (n:=15) 0 Tryz.func199 J (by decide) J J hI0 J fun ids he hI=>?_
 clear hI0
 obtain rfl:ix ids 0=o0:=he 0 rfl
 obtain rfl:ix ids 1=o1:=he 1 rfl
 obtain rfl:ix ids 2=o2:=he 2 rfl
 clear he
 refine Bn (Al (Li.eq_1 _ _ _) ?_)
 refine Y<|O<|Ab 1 [1] [(3,(.q ids 2 g2))] ?_
 refine Ap [2] hI J J (D1 [97,116] s2_l s2_end _ (ix ids 2) w w1 w2 w3 w4 w5 w6 w7 g2 (by exact hI.sub' J J)) J J J J J J (fun v _=>Ao (K:=3) (N:=0) Tryz.func199 hI) ?_
 rintro _ _ _ _ ⟨rfl,rfl⟩
 refine A0 [2] hI J J J ?_
 refine Ar<|Z<|Aj ?_
 refine Y<|O<|Ab 2 [1] [(6,(.q ids 2 g2)),(5,(.q ids 0 g))] ?_
 refine Ap [2] hI J J (Da (s2_l.drop 1) s2_end _ (ix ids 2) w w1 w2 w3 w4 w5 w6 w7 g2 (by exact hI.sub' J J)) J J J J J J (fun v _=>Ao (K:=3) (N:=0) Tryz.func199 hI) ?_
 rintro r1 _ _ _ ⟨rfl,rfl⟩
 refine A0 [2] hI J J J ?_
 refine Ar<|Ab 2 [] [(9,(.ptr (ix ids 0) g 0 2))] ?_
 refine An (Aq (v:=(.str r1)) hI J J J J Cf J J J J J)<|Z<|Aj ?_
 refine O<|Ab 2 [1] [(11,(.q ids 2 g2)),(10,(.q ids 0 g))] ?_
 refine Ap [2] hI J J (Sk ((s2_l.drop 1).drop 1) s2_end _ (ix ids 2) w w1 w2 w3 w4 w5 w6 w7 g2 (by exact hI.sub' J J)) J J J J J J (fun v _=>Ao (K:=3) (N:=0) Tryz.func199 hI) ?_
 rintro r2 _ _ _ ⟨rfl,rfl⟩
 refine A0 [2] hI J J J ?_
 refine Ar<|Ab 2 [] [(14,(.ptr (ix ids 0) g 0 6))] ?_
 refine An (Aq (v:=(.agg (B7 r2))) hI J J J J Hz J J J J J)<|Z<|Aj ?_
 exact Ci (K:=3) (N:=0) (a:=({ Kind:=s0.Kind,C:=s0.C,A:=r1,Class:=s0.Class,Airport:=s0.Airport,N:=s0.N,Hours:=r2 }:Rule)) (vs:=[]) [some (.rows g 8 [(Bc ({ Kind:=s0.Kind,C:=s0.C,A:=r1,Class:=s0.Class,Airport:=s0.Airport,N:=s0.N,Hours:=r2 }:Rule))]),some (.rows g1 1 [[(.q ids 2 g2)]]),some (.rows g2 10 [[(.sl 4 (List.map Ac (((((s2_l.drop 1).drop 1).drop 1).drop 1).drop 1))),(.I s2_end),w,w1,w2,w3,w4,w5,w6,w7]])] Tryz.func199 hI J J J (.fz (.cons (.same _) (.cons (.same _) (.cons (.same _) (.cons (.same _) (.cons (.same _) (.cons (.same _) (.cons (.same _) (.cons (.same _) .nil)))))))) J (Bs J (Bs J (Bs J (Bs J (Bs J (Bs J (Bs J (Bs J Pe)))))))) (.keep (.keep .nil))) (.same _) ⟨J,J⟩
theorem Vs (class1:Ay)(s0:Int)(s3_l:List Token)(s3_end:Int)(h0:Ag)(o0:Nat)(o1:Nat)(o2:Nat)(o3:Nat)(g:Nat)(g1:Nat)(g2:Nat)(w:AV)(w1:AV)(w2:AV)(w3:AV)(w4:AV)(w5:AV)(w6:AV)(w7:AV)(g3:Nat)(hI0:Ids h0 [o0,o1,o2,o3] 4):Ge class1 s0 s3_l s3_end≠.bad→Bq Tryz.prog 216 [(.str class1),(.ptr o0 g 0 0),(.ptr o1 g1 0 0)] (hp h0 [o0,o1,o2,o3] [some (.rows g 1 [[(.int .i64 s0)]]),some (.rows g1 1 [[(.func (.func 199) [] [(.ptr o2 g2 0 0)])]]),some (.rows g2 1 [[(.ptr o3 g3 0 0)]]),some (.rows g3 10 [[(.sl 4 (List.map Ac s3_l)),(.int .i64 s3_end),w,w1,w2,w3,w4,w5,w6,w7]])]) (C5 (fun a_ v h'=>v=(.agg (Bc a_))∧h'=hp h0 [o0,o1,o2,o3] [some (.rows g 1 [[(.int .i64 s0)]]),some (.rows g1 1 [[(.func (.func 199) [] [(.ptr o2 g2 0 0)])]]),some (.rows g2 1 [[(.ptr o3 g3 0 0)]]),some (.rows g3 10 [[(.sl 4 (List.map Ac (((((s3_l.drop 1).drop 1).drop 1).drop 1).drop 1))),(.int .i64 s3_end),w,w1,w2,w3,w4,w5,w6,w7]])]) h0 (Ge class1 s0 s3_l s3_end)):=by
 refine Bm (n:=12) 2 Tryz.func216 J (by decide) J J hI0 J fun ids he hI=>?_
 clear hI0
 obtain rfl:ix ids 0=o0:=he 0 rfl
 obtain rfl:ix ids 1=o1:=he 1 rfl
 obtain rfl:ix ids 2=o2:=he 2 rfl
 obtain rfl:ix ids 3=o3:=he 3 rfl
 clear he
 refine Bn (Al (Ge.eq_1 _ _ _ _) ?_)
 refine Aj ?_
 refine Y<|O<|A8 (j:=4) hI J J J J D3 J fun g4=>Z<|Aj ?_
 refine Y<|O<|Ab 3 [0] [(8,(.agg [(.I s0),(.str class1),(.str []),(.I 0),(.I 0),(.I 0),(.I 0),(.I 0)]))] ?_
 refine A8 (j:=5) hI J J J J D3 J fun g5=>An (Aq (v:=(.agg [(.I s0),(.str class1),(.str []),(.I 0),(.I 0),(.I 0),(.I 0),(.I 0)])) hI J J J J D3 J J J J J)<|Z<|Aj ?_
 refine Y<|O<|Ab 1 [1] [(9,(.func (.func 199) [] [(.q ids 2 g2)]))] ?_
 refine Ap [5,2,3] hI J J (U2 ({ Kind:=s0,C:=class1,A:=[],Class:=0,Airport:=0,N:=0,Hours:=({ From:=0,To:=0 }:Span) }:Rule) s3_l s3_end _ (ix ids 5) (ix ids 2) (ix ids 3) g5 g2 w w1 w2 w3 w4 w5 w6 w7 g3 (by exact hI.sub' J J)) J J J J J J (fun v _=>Ao (K:=4) (N:=2) Tryz.func216 hI) ?_
 rintro r _ _ _ ⟨rfl,rfl⟩
 refine A0 [5,2,3] hI J J J ?_
 refine Ar<|Z<|Aj ?_
 refine Y<|O<|Ab 1 [5] [(11,(.agg (Bc r)))] ?_
 refine An (Aq (v:=(.agg (Bc r))) hI J J J J D3 J J J J J)<|Z<|Aj ?_
 exact D4 (K:=4) (N:=2) (a:=r) (vs:=[(.agg (Bc r))]) [some (.rows g 1 [[(.I s0)]]),some (.rows g1 1 [[(.func (.func 199) [] [(.q ids 2 g2)])]]),some (.rows g2 1 [[(.q ids 3 g3)]]),some (.rows g3 10 [[(.sl 4 (List.map Ac (((((s3_l.drop 1).drop 1).drop 1).drop 1).drop 1))),(.I s3_end),w,w1,w2,w3,w4,w5,w6,w7]])] Tryz.func216 hI J (Cc (A3 hI J J J D3 J) C8) J (.keep (.keep (.keep (.keep (.drop (.drop .nil)))))) (.same _) ⟨J,J⟩
theorem Uw (a:Rule):CP Tryz.prog 202 [(.cp (Bc a) 0)] (Oi a) (fun(_:Unit)=>AV.tup []):=by
 refine Cd (n:=2) 0 Tryz.func202 J (by decide) J J fun h0 ids hI=>Bn (Al (Oi.eq_1 _) ?_)
 refine Ax<|Apc (a:=()) (vs:=[]) Tryz.func202 hI J (.tupL .nil)
theorem Vq (class1:Ay)(s0:Int)(h0:Ag)(o0:Nat)(o1:Nat)(g:Nat)(g1:Nat)(hI0:Ids h0 [o0,o1] 2):Hh class1 s0≠.bad→Bq Tryz.prog 216 [(.str class1),(.ptr o0 g 0 0),(.ptr o1 g1 0 0)] (hp h0 [o0,o1] [some (.rows g 1 [[(.int .i64 s0)]]),some (.rows g1 1 [[(.func (.func 202) [] [])]])]) (C5 (fun a_ v h'=>v=(.agg [(.int .i64 s0),(.str class1),(.str []),(.int .i64 0),(.int .i64 0),(.int .i64 0),(.int .i64 0),(.int .i64 0)])∧h'=hp h0 [o0,o1] [some (.rows g 1 [[(.int .i64 s0)]]),some (.rows g1 1 [[(.func (.func 202) [] [])]])]) h0 (Hh class1 s0)):=by
 refine Bm (n:=12) 2 Tryz.func216 J (by decide) J J hI0 J fun ids he hI=>?_
 clear hI0
 obtain rfl:ix ids 0=o0:=he 0 rfl
 obtain rfl:ix ids 1=o1:=he 1 rfl
 clear he
 refine Bn (Al (Hh.eq_1 _ _) ?_)
 refine Aj ?_
 refine Y<|O<|A8 (j:=2) hI J J J J D3 J fun g2=>Z<|Aj ?_
 refine Y<|O<|Ab 3 [0] [(8,(.agg [(.I s0),(.str class1),(.str []),(.I 0),(.I 0),(.I 0),(.I 0),(.I 0)]))] ?_
 refine A8 (j:=3) hI J J J J D3 J fun g3=>An (Aq (v:=(.agg [(.I s0),(.str class1),(.str []),(.I 0),(.I 0),(.I 0),(.I 0),(.I 0)])) hI J J J J D3 J J J J J)<|Z<|Aj ?_
 refine Y<|O<|Ab 1 [1] [(9,(.func (.func 202) [] []))] ?_
 refine A7 [(.q ids 3 g3)] J J J J (CP.lend (Uw ({ Kind:=s0,C:=class1,A:=[],Class:=0,Airport:=0,N:=0,Hours:=({ From:=0,To:=0 }:Span) }:Rule)) (LF.lfz (.cons (.ptrL (hI.at J J) J J (.cons (.same _) (.cons (.same _) (.cons (.same _) (.cons (.same _) (.cons (.same _) (.cons (.same _) (.cons (.same _) (.cons (.same _) .nil))))))))) .nil)) (fun _ _=>.tup0)) (fun v _=>Ao (K:=2) (N:=2) Tryz.func216 hI) fun _ _=>Z<|Y<|O<|Ab 1 [3] [(11,(.agg [(.I s0),(.str class1),(.str []),(.I 0),(.I 0),(.I 0),(.I 0),(.I 0)]))] ?_
 refine An (Aq (v:=(.agg [(.I s0),(.str class1),(.str []),(.I 0),(.I 0),(.I 0),(.I 0),(.I 0)])) hI J J J J D3 J J J J J)<|Z<|Aj ?_
 exact D4 (K:=2) (N:=2) (a:=()) (vs:=[(.agg [(.I s0),(.str class1),(.str []),(.I 0),(.I 0),(.I 0),(.I 0),(.I 0)])]) [some (.rows g 1 [[(.I s0)]]),some (.rows g1 1 [[(.func (.func 202) [] [])]])] Tryz.func216 hI J (Cc (A3 hI J J J D3 J) C8) J (.keep (.keep (.drop (.drop .nil)))) (.same _) ⟨J,J⟩
theorem Tb (t:Token):CP Tryz.prog 208 [(.agg (Ac t))] (G6 t) (fun(x:Bool)=>(AV.bool x)):=by
 refine Cd (n:=12) 1 Tryz.func208 J (by decide) J J fun h0 ids hI=>Bn (Al (G6.eq_1 _) ?_)
 refine Y<|O<|Cl (v:=(.agg (Ac t))) (j:=0) hI J J J J J J J fun g=>Aa (.bool false) J Ai<|Z<|Aj ?_
 refine Y<|O<|Ab 4 [0] [(6,(.bool (decide (t.N≤60))))] ?_
 refine B2 5 [(11,(.bool ((decide (t.N≤60))&&((Int.tmod t.N 10)==0))))] ?_ fun hJ=>Bw (decide (t.N≤60)) (fun hb1=>?_) (fun hb1=>?_)
 ·refine Aa (.bool ((decide (t.N≤60))&&((Int.tmod t.N 10)==0))) J Ai<|Z<|Bl (a:=((decide (t.N≤60))&&((Int.tmod t.N 10)==0))) (vs:=[(.bool ((decide (t.N≤60))&&((Int.tmod t.N 10)==0)))]) Tryz.func208 hI J (.same _)
 ·refine Az (t:=6) hb1 J<|Ab 2 [0] [(8,(.I t.N))] ?_
  refine By (tj:=6) (.I (Int.tmod t.N 10)) J J J (Bh J J (Ad0 J (by decide)))<|Ab 2 [] [(11,(.bool ((Int.tmod t.N 10)==0)))] ?_
  exact Bf hJ (.cons (Hk hb1) .nil)
 refine Az (t:=6) hb1 J<|Ab 5 [] [(11,(.bool false))] ?_
 exact Bf hJ (.cons (Hl hb1) .nil)
theorem Vn (kind:Int)(s_l:List Token)(s_end:Int)(h0:Ag)(o0:Nat)(w:AV)(w1:AV)(w2:AV)(w3:AV)(w4:AV)(w5:AV)(w6:AV)(w7:AV)(g:Nat)(hI0:Ids h0 [o0] 1):Hi kind s_l s_end≠.bad→Bq Tryz.prog 207 [(.ptr o0 g 0 0),(.int .i64 kind),(.func (.func 208) [] [])] (hp h0 [o0] [some (.rows g 10 [[(.sl 4 (List.map Ac s_l)),(.int .i64 s_end),w,w1,w2,w3,w4,w5,w6,w7]])]) (C5 (fun a_ v h'=>v=(.agg (Ac a_))∧h'=hp h0 [o0] [some (.rows g 10 [[(.sl 4 (List.map Ac (s_l.drop 1))),(.int .i64 s_end),w,w1,w2,w3,w4,w5,w6,w7]])]) h0 (Hi kind s_l s_end)):=by
 refine Bm (n:=53) 2 Tryz.func207 J (by decide) J J hI0 J fun ids he hI=>?_
 clear hI0
 obtain rfl:ix ids 0=o0:=he 0 rfl
 clear he
 refine Bn (Al (Hi.eq_1 _ _ _) ?_)
 refine Aj ?_
 refine Y<|O<|A8 (j:=1) hI J J J J C1 J fun g1=>Z<|Aj ?_
 refine Y<|Y<|O<|Ab 4 [0] [(11,(.sl 4 (List.map Ac s_l)))] ?_
 refine Aa (.I (s_l.length:Int)) J (A2 (Bk Ch))<|Ab 2 [] [(14,(.bool ((s_l.length:Int)==0)))] ?_
 refine Cz 10 ((fun(b:Bool)=>(if b then R.ok true else(C0 s_l 0).bind fun a1=>(G6 a1).bind fun r=>R.ok (!r)).bind (fun(b1:Bool)=>if b1 then((Bv 80 s_l s_end).bind fun _=>E4 s_l) else(E4 s_l))):Bool→R Token) (fun(b:Bool) (fr:Nat→AV) (h:Ag)=>fr=A5 [(0,(.q ids 0 g)),(2,(.func (.func 208) [] [])),(6,(.q ids 1 g1)),(24,(.bool b))]∧h=hp h0 ids [(some (.rows g 10 [[(.sl 4 (List.map Ac s_l)),(.I s_end),w,w1,w2,w3,w4,w5,w6,w7]])),(some (.rows g1 4 [[(.I 0),(.str []),(.I 0),(.I 0)]])),none]) ?_ fun hJ=>Dd (fun hb1=>?_) (fun hb1=>?_)
 ·rintro b fr h ⟨rfl,rfl⟩
  refine Aa (.bool b) J Ad<|Cz 10 ((fun(b1:Bool)=>if b1 then((Bv 80 s_l s_end).bind fun _=>E4 s_l) else(E4 s_l)):Bool→R Token) (fun(b1:Bool) (fr:Nat→AV) (h:Ag)=>fr=A5 [(0,(.q ids 0 g)),(6,(.q ids 1 g1)),(35,(.bool b1))]∧h=hp h0 ids [(some (.rows g 10 [[(.sl 4 (List.map Ac s_l)),(.I s_end),w,w1,w2,w3,w4,w5,w6,w7]])),(some (.rows g1 4 [[(.I 0),(.str []),(.I 0),(.I 0)]])),none]) ?_ fun hJ1=>Dd (fun hb3=>?_) (fun hb3=>?_)
  ·rintro b1 fr h ⟨rfl,rfl⟩
   refine Z<|Dx (π:=Unit) (fun _=>E4 s_l) (fun _=>fun(fr:Nat→AV) (h:Ag)=>fr=A5 [(0,(.q ids 0 g)),(6,(.q ids 1 g1))]∧h=hp h0 ids [(some (.rows g 10 [[(.sl 4 (List.map Ac s_l)),(.I s_end),w,w1,w2,w3,w4,w5,w6,w7]])),(some (.rows g1 4 [[(.I 0),(.str []),(.I 0),(.I 0)]])),none]) ?_ fun hJ2=>?_
   ·rintro _ fr h ⟨rfl,rfl⟩
    refine Al (E4.eq_1 _)<|Y<|O<|Ab 4 [0] [(41,(.sl 4 (List.map Ac s_l)))] ?_
    refine Dv fun a2 hz2 hx3=>Aa (.cp (Ac a2) 0) J (Bz (Dc Ch C1 J hz2 hx3))<|Aa (.agg (Ac a2)) J (Au (C7 C1 J))<|A8 (j:=2) hI J J J J C1 J fun g2=>An (Aq (v:=(.agg (Ac a2))) hI J J J J C1 J J J J J)<|Z<|Aj ?_
    refine Y<|O<|Ab 5 [0] [(48,(.sl 4 (List.map Ac s_l))),(44,(.q ids 0 g))] ?_
    refine Ee fun hs=>Aa (.sl 4 (List.map Ac (s_l.drop 1))) J (Fr (N0 Ch C1 J hs))<|Ab 2 [] [(51,(.q ids 0 g))] ?_
    refine An (Aq (v:=(.sl 4 (List.map Ac (s_l.drop 1)))) hI J J J J Ch J J J J J)<|Z<|Aj ?_
    refine Y<|O<|Ab 1 [2] [(52,(.agg (Ac a2)))] ?_
    refine An (Aq (v:=(.agg (Ac a2))) hI J J J J C1 J J J J J)<|Z<|Aj ?_
    exact D4 (K:=1) (N:=2) (a:=a2) (vs:=[(.agg (Ac a2))]) [some (.rows g 10 [[(.sl 4 (List.map Ac (s_l.drop 1))),(.I s_end),w,w1,w2,w3,w4,w5,w6,w7]])] Tryz.func207 hI J (Cc (A3 hI J J J C1 J) C8) J (.keep (.drop (.drop .nil))) (.same _) ⟨J,J⟩
   refine Bx J (fun hc=>?_) (fun hc=>?_)
   ·refine O<|Aa (.q ids 0 g) J Ad<|Ap [0] hI J J (Cn 80 s_l s_end _ (ix ids 0) w w1 w2 w3 w4 w5 w6 w7 g (by exact hI.sub' J J)) J J J J J J (fun v _=>Ao (K:=1) (N:=2) Tryz.func207 hI) ?_
    rintro _ _ _ _ ⟨rfl,rfl⟩
    refine A0 [0] hI J J J ?_
    refine Ar<|Z<|Bo (hJ2 () _ _ ⟨J,J⟩)
   refine Ax<|Bo (hJ2 () _ _ ⟨J,J⟩)
  ·refine Az (t:=25) hb3 J<|Ab 10 [] [(35,(.bool true))] ?_
   refine Bd<|B5 [(0,(.q ids 0 g)),(6,(.q ids 1 g1)),(35,(.bool true))] (FI J)<|hJ1 true _ _ ⟨J,J⟩
  refine Az (t:=25) hb3 J<|Ab 5 [0] [(30,(.sl 4 (List.map Ac s_l))),(26,(.func (.func 208) [] []))] ?_
  refine Dv fun a1 hz1 hx2=>By (tj:=25) (.cp (Ac a1) 0) J J J (Bz (Dc Ch C1 J hz1 hx2))<|By (tj:=25) (.agg (Ac a1)) J J J (Au (C7 C1 J))<|A7 [(.agg (Ac a1))] J (Cq (tj:=25) J J) J J ((Tb a1) _) (fun v _=>Ao (K:=1) (N:=2) Tryz.func207 hI) fun r _=>Ab 2 [] [(35,(.bool (!r)))] ?_
  refine Bd<|B5 [(0,(.q ids 0 g)),(6,(.q ids 1 g1)),(35,(.bool (!r)))] (FI J)<|hJ1 (!r) _ _ ⟨J,J⟩
 ·refine Az (t:=14) hb1 J<|Ab 10 [] [(24,(.bool true))] ?_
  refine Bd<|B5 [(0,(.q ids 0 g)),(2,(.func (.func 208) [] [])),(6,(.q ids 1 g1)),(24,(.bool true))] (FI J)<|hJ true _ _ ⟨J,J⟩
 refine Az (t:=14) hb1 J<|Ab 4 [0] [(18,(.sl 4 (List.map Ac s_l)))] ?_
 refine Dv fun a hz hx1=>By (tj:=14) (.cp (Ac a) 0) J J J (Bz (Dc Ch C1 J hz hx1))<|Ab 5 [] [(24,(.bool (a.Kind != kind)))] ?_
 refine Bd<|B5 [(0,(.q ids 0 g)),(2,(.func (.func 208) [] [])),(6,(.q ids 1 g1)),(24,(.bool (a.Kind != kind)))] (FI J)<|hJ (a.Kind != kind) _ _ ⟨J,J⟩
theorem Up (s0:Rule)(s2_l:List Token)(s2_end:Int)(h0:Ag)(o0:Nat)(o1:Nat)(o2:Nat)(g:Nat)(g1:Nat)(w:AV)(w1:AV)(w2:AV)(w3:AV)(w4:AV)(w5:AV)(w6:AV)(w7:AV)(g2:Nat)(hI0:Ids h0 [o0,o1,o2] 3):Ku s0 s2_l s2_end≠.bad→Bq Tryz.prog 206 [(.ptr o0 g 0 0),(.ptr o1 g1 0 0)] (hp h0 [o0,o1,o2] [some (.rows g 8 [(Bc s0)]),some (.rows g1 1 [[(.ptr o2 g2 0 0)]]),some (.rows g2 10 [[(.sl 4 (List.map Ac s2_l)),(.int .i64 s2_end),w,w1,w2,w3,w4,w5,w6,w7]])]) (C5 (fun a_ v h'=>v=(.tup [])∧h'=hp h0 [o0,o1,o2] [some (.rows g 8 [(Bc a_)]),some (.rows g1 1 [[(.ptr o2 g2 0 0)]]),some (.rows g2 10 [[(.sl 4 (List.map Ac (s2_l.drop 1))),(.int .i64 s2_end),w,w1,w2,w3,w4,w5,w6,w7]])]) h0 (Ku s0 s2_l s2_end)):=by
 refine Bm (n:=9) 0 Tryz.func206 J (by decide) J J hI0 J fun ids he hI=>?_
 clear hI0
 obtain rfl:ix ids 0=o0:=he 0 rfl
 obtain rfl:ix ids 1=o1:=he 1 rfl
 obtain rfl:ix ids 2=o2:=he 2 rfl
 clear he
 refine Bn (Al (Ku.eq_1 _ _ _) ?_)
 refine O<|Ab 2 [1] [(4,(.q ids 2 g2)),(3,(.q ids 0 g))] ?_
 refine Ap [2] hI J J (Vn 2 s2_l s2_end _ (ix ids 2) w w1 w2 w3 w4 w5 w6 w7 g2 (by exact hI.sub' J J)) J J J J J J (fun v _=>Ao (K:=3) (N:=0) Tryz.func206 hI) ?_
 rintro r _ _ _ ⟨rfl,rfl⟩
 refine A0 [2] hI J J J ?_
 refine Ar<|Ab 3 [] [(8,(.ptr (ix ids 0) g 0 5)),(6,(.I r.N))] ?_
 refine An (Aq (v:=(.I r.N)) hI J J J J C2 J J J J J)<|Z<|Aj ?_
 exact Ci (K:=3) (N:=0) (a:=({ Kind:=s0.Kind,C:=s0.C,A:=s0.A,Class:=s0.Class,Airport:=s0.Airport,N:=r.N,Hours:=s0.Hours }:Rule)) (vs:=[]) [some (.rows g 8 [(Bc ({ Kind:=s0.Kind,C:=s0.C,A:=s0.A,Class:=s0.Class,Airport:=s0.Airport,N:=r.N,Hours:=s0.Hours }:Rule))]),some (.rows g1 1 [[(.q ids 2 g2)]]),some (.rows g2 10 [[(.sl 4 (List.map Ac (s2_l.drop 1))),(.I s2_end),w,w1,w2,w3,w4,w5,w6,w7]])] Tryz.func206 hI J J J (.fz (.cons (.same _) (.cons (.same _) (.cons (.same _) (.cons (.same _) (.cons (.same _) (.cons (.same _) (.cons (.same _) (.cons (.same _) .nil)))))))) J (Bs J (Bs J (Bs J (Bs J (Bs J (Bs J (Bs J (Bs J Pe)))))))) (.keep (.keep .nil))) (.same _) ⟨J,J⟩
theorem Vk (class1:Ay)(s0:Int)(s3_l:List Token)(s3_end:Int)(h0:Ag)(o0:Nat)(o1:Nat)(o2:Nat)(o3:Nat)(g:Nat)(g1:Nat)(g2:Nat)(w:AV)(w1:AV)(w2:AV)(w3:AV)(w4:AV)(w5:AV)(w6:AV)(w7:AV)(g3:Nat)(hI0:Ids h0 [o0,o1,o2,o3] 4):Gd class1 s0 s3_l s3_end≠.bad→Bq Tryz.prog 216 [(.str class1),(.ptr o0 g 0 0),(.ptr o1 g1 0 0)] (hp h0 [o0,o1,o2,o3] [some (.rows g 1 [[(.int .i64 s0)]]),some (.rows g1 1 [[(.func (.func 206) [] [(.ptr o2 g2 0 0)])]]),some (.rows g2 1 [[(.ptr o3 g3 0 0)]]),some (.rows g3 10 [[(.sl 4 (List.map Ac s3_l)),(.int .i64 s3_end),w,w1,w2,w3,w4,w5,w6,w7]])]) (C5 (fun a_ v h'=>v=(.agg (Bc a_))∧h'=hp h0 [o0,o1,o2,o3] [some (.rows g 1 [[(.int .i64 s0)]]),some (.rows g1 1 [[(.func (.func 206) [] [(.ptr o2 g2 0 0)])]]),some (.rows g2 1 [[(.ptr o3 g3 0 0)]]),some (.rows g3 10 [[(.sl 4 (List.map Ac (s3_l.drop 1))),(.int .i64 s3_end),w,w1,w2,w3,w4,w5,w6,w7]])]) h0 (Gd class1 s0 s3_l s3_end)):=by
 refine Bm (n:=12) 2 Tryz.func216 J (by decide) J J hI0 J fun ids he hI=>?_
 clear hI0
 obtain rfl:ix ids 0=o0:=he 0 rfl
 obtain rfl:ix ids 1=o1:=he 1 rfl
 obtain rfl:ix ids 2=o2:=he 2 rfl
 obtain rfl:ix ids 3=o3:=he 3 rfl
 clear he
 refine Bn (Al (Gd.eq_1 _ _ _ _) ?_)
 refine Aj ?_
 refine Y<|O<|A8 (j:=4) hI J J J J D3 J fun g4=>Z<|Aj ?_
 refine Y<|O<|Ab 3 [0] [(8,(.agg [(.I s0),(.str class1),(.str []),(.I 0),(.I 0),(.I 0),(.I 0),(.I 0)]))] ?_
 refine A8 (j:=5) hI J J J J D3 J fun g5=>An (Aq (v:=(.agg [(.I s0),(.str class1),(.str []),(.I 0),(.I 0),(.I 0),(.I 0),(.I 0)])) hI J J J J D3 J J J J J)<|Z<|Aj ?_
 refine Y<|O<|Ab 1 [1] [(9,(.func (.func 206) [] [(.q ids 2 g2)]))] ?_
 refine Ap [5,2,3] hI J J (Up ({ Kind:=s0,C:=class1,A:=[],Class:=0,Airport:=0,N:=0,Hours:=({ From:=0,To:=0 }:Span) }:Rule) s3_l s3_end _ (ix ids 5) (ix ids 2) (ix ids 3) g5 g2 w w1 w2 w3 w4 w5 w6 w7 g3 (by exact hI.sub' J J)) J J J J J J (fun v _=>Ao (K:=4) (N:=2) Tryz.func216 hI) ?_
 rintro r _ _ _ ⟨rfl,rfl⟩
 refine A0 [5,2,3] hI J J J ?_
 refine Ar<|Z<|Aj ?_
 refine Y<|O<|Ab 1 [5] [(11,(.agg (Bc r)))] ?_
 refine An (Aq (v:=(.agg (Bc r))) hI J J J J D3 J J J J J)<|Z<|Aj ?_
 exact D4 (K:=4) (N:=2) (a:=r) (vs:=[(.agg (Bc r))]) [some (.rows g 1 [[(.I s0)]]),some (.rows g1 1 [[(.func (.func 206) [] [(.q ids 2 g2)])]]),some (.rows g2 1 [[(.q ids 3 g3)]]),some (.rows g3 10 [[(.sl 4 (List.map Ac (s3_l.drop 1))),(.I s3_end),w,w1,w2,w3,w4,w5,w6,w7]])] Tryz.func216 hI J (Cc (A3 hI J J J D3 J) C8) J (.keep (.keep (.keep (.keep (.drop (.drop .nil)))))) (.same _) ⟨J,J⟩
theorem Uf (s0:Rule)(s2_l:List Token)(s2_end:Int)(h0:Ag)(o0:Nat)(o1:Nat)(o2:Nat)(g:Nat)(g1:Nat)(w:AV)(w1:AV)(w2:AV)(w3:AV)(w4:AV)(w5:AV)(w6:AV)(w7:AV)(g2:Nat)(hI0:Ids h0 [o0,o1,o2] 3):Kw s0 s2_l s2_end≠.bad→Bq Tryz.prog 204 [(.ptr o0 g 0 0),(.ptr o1 g1 0 0)] (hp h0 [o0,o1,o2] [some (.rows g 8 [(Bc s0)]),some (.rows g1 1 [[(.ptr o2 g2 0 0)]]),some (.rows g2 10 [[(.sl 4 (List.map Ac s2_l)),(.int .i64 s2_end),w,w1,w2,w3,w4,w5,w6,w7]])]) (C5 (fun a_ v h'=>v=(.tup [])∧h'=hp h0 [o0,o1,o2] [some (.rows g 8 [(Bc a_)]),some (.rows g1 1 [[(.ptr o2 g2 0 0)]]),some (.rows g2 10 [[(.sl 4 (List.map Ac (s2_l.drop 1))),(.int .i64 s2_end),w,w1,w2,w3,w4,w5,w6,w7]])]) h0 (Kw s0 s2_l s2_end)):=by
 refine Bm (n:=8) 0 Tryz.func204 J (by decide) J J hI0 J fun ids he hI=>?_
 clear hI0
 obtain rfl:ix ids 0=o0:=he 0 rfl
 obtain rfl:ix ids 1=o1:=he 1 rfl
 obtain rfl:ix ids 2=o2:=he 2 rfl
 clear he
 refine Bn (Al (Kw.eq_1 _ _ _) ?_)
 refine O<|Ab 2 [1] [(4,(.q ids 2 g2)),(3,(.q ids 0 g))] ?_
 refine Ap [2] hI J J (Ep 1 8 s2_l s2_end _ (ix ids 2) w w1 w2 w3 w4 w5 w6 w7 g2 (by exact hI.sub' J J)) J J J J J J (fun v _=>Ao (K:=3) (N:=0) Tryz.func204 hI) ?_
 rintro r _ _ _ ⟨rfl,rfl⟩
 refine A0 [2] hI J J J ?_
 refine Ar<|Ab 2 [] [(7,(.ptr (ix ids 0) g 0 5))] ?_
 refine An (Aq (v:=(.I r)) hI J J J J C2 J J J J J)<|Z<|Aj ?_
 exact Ci (K:=3) (N:=0) (a:=({ Kind:=s0.Kind,C:=s0.C,A:=s0.A,Class:=s0.Class,Airport:=s0.Airport,N:=r,Hours:=s0.Hours }:Rule)) (vs:=[]) [some (.rows g 8 [(Bc ({ Kind:=s0.Kind,C:=s0.C,A:=s0.A,Class:=s0.Class,Airport:=s0.Airport,N:=r,Hours:=s0.Hours }:Rule))]),some (.rows g1 1 [[(.q ids 2 g2)]]),some (.rows g2 10 [[(.sl 4 (List.map Ac (s2_l.drop 1))),(.I s2_end),w,w1,w2,w3,w4,w5,w6,w7]])] Tryz.func204 hI J J J (.fz (.cons (.same _) (.cons (.same _) (.cons (.same _) (.cons (.same _) (.cons (.same _) (.cons (.same _) (.cons (.same _) (.cons (.same _) .nil)))))))) J (Bs J (Bs J (Bs J (Bs J (Bs J (Bs J (Bs J (Bs J Pe)))))))) (.keep (.keep .nil))) (.same _) ⟨J,J⟩
theorem V2 (class1:Ay)(s0:Int)(s3_l:List Token)(s3_end:Int)(h0:Ag)(o0:Nat)(o1:Nat)(o2:Nat)(o3:Nat)(g:Nat)(g1:Nat)(g2:Nat)(w:AV)(w1:AV)(w2:AV)(w3:AV)(w4:AV)(w5:AV)(w6:AV)(w7:AV)(g3:Nat)(hI0:Ids h0 [o0,o1,o2,o3] 4):Gc class1 s0 s3_l s3_end≠.bad→Bq Tryz.prog 216 [(.str class1),(.ptr o0 g 0 0),(.ptr o1 g1 0 0)] (hp h0 [o0,o1,o2,o3] [some (.rows g 1 [[(.int .i64 s0)]]),some (.rows g1 1 [[(.func (.func 204) [] [(.ptr o2 g2 0 0)])]]),some (.rows g2 1 [[(.ptr o3 g3 0 0)]]),some (.rows g3 10 [[(.sl 4 (List.map Ac s3_l)),(.int .i64 s3_end),w,w1,w2,w3,w4,w5,w6,w7]])]) (C5 (fun a_ v h'=>v=(.agg (Bc a_))∧h'=hp h0 [o0,o1,o2,o3] [some (.rows g 1 [[(.int .i64 s0)]]),some (.rows g1 1 [[(.func (.func 204) [] [(.ptr o2 g2 0 0)])]]),some (.rows g2 1 [[(.ptr o3 g3 0 0)]]),some (.rows g3 10 [[(.sl 4 (List.map Ac (s3_l.drop 1))),(.int .i64 s3_end),w,w1,w2,w3,w4,w5,w6,w7]])]) h0 (Gc class1 s0 s3_l s3_end)):=by
 refine Bm (n:=12) 2 Tryz.func216 J (by decide) J J hI0 J fun ids he hI=>?_
 clear hI0
 obtain rfl:ix ids 0=o0:=he 0 rfl
 obtain rfl:ix ids 1=o1:=he 1 rfl
 obtain rfl:ix ids 2=o2:=he 2 rfl
 obtain rfl:ix ids 3=o3:=he 3 rfl
 clear he
 refine Bn (Al (Gc.eq_1 _ _ _ _) ?_)
 refine Aj ?_
 refine Y<|O<|A8 (j:=4) hI J J J J D3 J fun g4=>Z<|Aj ?_
 refine Y<|O<|Ab 3 [0] [(8,(.agg [(.I s0),(.str class1),(.str []),(.I 0),(.I 0),(.I 0),(.I 0),(.I 0)]))] ?_
 refine A8 (j:=5) hI J J J J D3 J fun g5=>An (Aq (v:=(.agg [(.I s0),(.str class1),(.str []),(.I 0),(.I 0),(.I 0),(.I 0),(.I 0)])) hI J J J J D3 J J J J J)<|Z<|Aj ?_
 refine Y<|O<|Ab 1 [1] [(9,(.func (.func 204) [] [(.q ids 2 g2)]))] ?_
 refine Ap [5,2,3] hI J J (Uf ({ Kind:=s0,C:=class1,A:=[],Class:=0,Airport:=0,N:=0,Hours:=({ From:=0,To:=0 }:Span) }:Rule) s3_l s3_end _ (ix ids 5) (ix ids 2) (ix ids 3) g5 g2 w w1 w2 w3 w4 w5 w6 w7 g3 (by exact hI.sub' J J)) J J J J J J (fun v _=>Ao (K:=4) (N:=2) Tryz.func216 hI) ?_
 rintro r _ _ _ ⟨rfl,rfl⟩
 refine A0 [5,2,3] hI J J J ?_
 refine Ar<|Z<|Aj ?_
 refine Y<|O<|Ab 1 [5] [(11,(.agg (Bc r)))] ?_
 refine An (Aq (v:=(.agg (Bc r))) hI J J J J D3 J J J J J)<|Z<|Aj ?_
 exact D4 (K:=4) (N:=2) (a:=r) (vs:=[(.agg (Bc r))]) [some (.rows g 1 [[(.I s0)]]),some (.rows g1 1 [[(.func (.func 204) [] [(.q ids 2 g2)])]]),some (.rows g2 1 [[(.q ids 3 g3)]]),some (.rows g3 10 [[(.sl 4 (List.map Ac (s3_l.drop 1))),(.I s3_end),w,w1,w2,w3,w4,w5,w6,w7]])] Tryz.func216 hI J (Cc (A3 hI J J J D3 J) C8) J (.keep (.keep (.keep (.keep (.drop (.drop .nil)))))) (.same _) ⟨J,J⟩
theorem V0 (most:Int)(s0_l:List Token)(s0_end:Int)(l:List Volume)(h0:Ag)(o0:Nat)(o1:Nat)(o2:Nat)(w:AV)(w1:AV)(w2:AV)(w3:AV)(w4:AV)(w5:AV)(w6:AV)(g:Nat)(v1:AV)(g1:Nat)(g2:Nat)(vH:Av v1 o1 g1 l.length)(hI0:Ids h0 [o0,o1,o2] 3):Hg most s0_l s0_end l≠.bad→Bq Tryz.prog 192 [(.ptr o0 g 0 0),(.int .i64 most),(.func (.func 193) [] [(.ptr o2 g2 0 0)])] (hp h0 [o0,o1,o2] [some (.rows g 10 [[(.sl 4 (List.map Ac s0_l)),(.int .i64 s0_end),v1,w,w1,w2,w3,w4,w5,w6]]),Ah v1 g1 2 (List.map Aw l),some (.rows g2 1 [[(.ptr o0 g 0 0)]])]) (C5 (fun a_ v h'=>v=(.sl 2 (List.map Dy a_.1))∧h'=hp h0 [o0,o1,o2] [some (.rows g 10 [[(.sl 4 (List.map Ac a_.2)),(.int .i64 s0_end),v1,w,w1,w2,w3,w4,w5,w6]]),Ah v1 g1 2 (List.map Aw l),some (.rows g2 1 [[(.ptr o0 g 0 0)]])]) h0 (Hg most s0_l s0_end l)):=by
 refine Bm (n:=24) 1 Tryz.func192 J (by decide) J J hI0 J fun ids he hI=>?_
 clear hI0
 obtain rfl:ix ids 0=o0:=he 0 rfl
 obtain rfl:ix ids 1=o1:=he 1 rfl
 obtain rfl:ix ids 2=o2:=he 2 rfl
 clear he
 refine Bn (Al (Hg.eq_1 _ _ _ _) ?_)
 refine Aj ?_
 refine Y<|O<|Aa .emp J Ai<|Z<|Ba<|D6 [(0,(.q ids 0 g)),(1,(.I most)),(2,(.func (.func 193) [] [(.q ids 2 g2)])),(6,.emp)] (FI J)<|Lo (P:=Tryz.prog) (C4 fun fL l1=>Hm most s0_end fL l1) ((fun r=>.ok r):((List Mode)×(List Token))→R ((List Mode)×(List Token))) (C4 fun fL l1=>fun(fr:Nat→AV) (h:Ag) => ∃ (v2:AV),∃ (g3:Nat),Av v2 (ix ids 3) g3 l1.length∧fr=A5 [(0,(.q ids 0 g)),(1,(.I most)),(2,(.func (.func 193) [] [(.q ids 2 g2)])),(6,v2)]∧h=hp h0 ids [(some (.rows g 10 [[(.sl 4 (List.map Ac fL)),(.I s0_end),v1,w,w1,w2,w3,w4,w5,w6]])),(Ah v1 g1 2 (List.map Aw l)),(some (.rows g2 1 [[(.q ids 0 g)]])),(Ah v2 g3 2 (List.map Dy l1))]) (s0_l,[]) ?_ ?_
 ·exact⟨.emp,0,.nil,J,J⟩
 rintro vW hW ⟨fL,l1⟩ fr h ⟨v2,g3,vH1,rfl,rfl⟩
 refine Al (m':=Hm most s0_end fL l1) J (Al (Hm.eq_1 _ _ _ _) ?_)
 refine Ba<|Y<|O<|Ab 2 [] [(8,(.func (.func 193) [] [(.q ids 2 g2)])),(7,v2)] ?_
 refine Ap [2,0] hI J J (Te fL s0_end _ (ix ids 2) (ix ids 0) g2 v1 w w1 w2 w3 w4 w5 w6 g (by exact hI.sub' J J)) J J J J J J (fun v _=>Ao (K:=3) (N:=1) Tryz.func192 hI) ?_
 rintro r _ _ _ ⟨rfl,rfl⟩
 refine A0 [2,0] hI J J J ?_
 refine Ar<|C3 (e:=Dy) (L:=[r]) (st:=2) (rows:=[[(.str r.Name),(.I r.Places)]]) J K8 Nv J J J J J (.cons (RowSim.refl _) .nil) (fun x=>Abe x) J J<|Ee fun hl=>Ha (e:=Dy) (L:=l1) (L2:=[r]) (v:=v2) (g:=g3) (st:=2) (j:=3) hI J J J J vH1 J (Gb J) K8 K8 J Nv J J J hl fun v3 g4 vH2=>Aa v3 J Ai<|Z<|Aj ?_
 refine Y<|Y<|O<|Aa (.q ids 0 g) J Ad<|Ap [0] hI J J (Nk 3 [44] (((fL.drop 1).drop 1).drop 1) s0_end _ (ix ids 0) v1 w w1 w2 w3 w4 w5 w6 g (by exact hI.sub' J J)) J J J J J J (fun v _=>Ao (K:=3) (N:=1) Tryz.func192 hI) ?_
 rintro r1 _ _ _ ⟨rfl,rfl⟩
 refine A0 [0] hI J J J ?_
 refine Ar<|Aa (.bool (!r1)) J (Oa J)<|Z<|D2 J (fun hc=>?_) (fun hc=>?_)
 ·refine Ax<|Y<|Y<|O<|Aa v3 J Ad<|Aa (.I ((l1++[r]).length:Int)) J (A2 (Av.len vH2 K8))<|Ab 2 [] [(19,(.bool (((l1++[r]).length:Int)==most)))] ?_
  refine Z<|Dx (π:=Unit) (fun _=>Hq s0_end fL l1 r) (fun _=>fun(fr:Nat→AV) (h:Ag)=>fr=A5 [(0,(.q ids 0 g)),(1,(.I most)),(2,(.func (.func 193) [] [(.q ids 2 g2)])),(6,v3)]∧h=hp h0 ids [(some (.rows g 10 [[(.sl 4 (List.map Ac (((fL.drop 1).drop 1).drop 1))),(.I s0_end),v1,w,w1,w2,w3,w4,w5,w6]])),(Ah v1 g1 2 (List.map Aw l)),(some (.rows g2 1 [[(.q ids 0 g)]])),(Ah v3 g4 2 (List.map Dy (l1++[r])))]) ?_ fun hJ=>?_
  ·rintro _ fr h ⟨rfl,rfl⟩
   refine Al (Hq.eq_1 _ _ _ _)<|O<|Aa (.q ids 0 g) J Ad<|Ap [0] hI J J (Di [44] (((fL.drop 1).drop 1).drop 1) s0_end _ (ix ids 0) v1 w w1 w2 w3 w4 w5 w6 g (by exact hI.sub' J J)) J J J J J J (fun v _=>Ao (K:=3) (N:=1) Tryz.func192 hI) ?_
   rintro _ _ _ _ ⟨rfl,rfl⟩
   refine A0 [0] hI J J J ?_
   refine Ar<|Z<|Aj ?_
   refine Bi<|Bo (G7 (hW (((((fL.drop 1).drop 1).drop 1).drop 1),(l1++[r])) _ _ ⟨v3,g4,vH2,J,J⟩))
  refine Bx J (fun hc1=>?_) (fun hc1=>?_)
  ·refine O<|Aa (.q ids 0 g) J Ad<|Ap [0] hI J J (Cn 2 (((fL.drop 1).drop 1).drop 1) s0_end _ (ix ids 0) v1 w w1 w2 w3 w4 w5 w6 g (by exact hI.sub' J J)) J J J J J J (fun v _=>Ao (K:=3) (N:=1) Tryz.func192 hI) ?_
   rintro _ _ _ _ ⟨rfl,rfl⟩
   refine A0 [0] hI J J J ?_
   refine Ar<|Z<|Bo (hJ () _ _ ⟨J,J⟩)
  refine Ax<|Bo (hJ () _ _ ⟨J,J⟩)
 refine Y<|O<|Ab 2 [] [(6,v3)] ?_
 refine Z<|Kq<|D4 (K:=3) (N:=1) (a:=((l1++[r]),(((fL.drop 1).drop 1).drop 1))) (vs:=[v3]) [some (.rows g 10 [[(.sl 4 (List.map Ac (((fL.drop 1).drop 1).drop 1))),(.I s0_end),v1,w,w1,w2,w3,w4,w5,w6]]),Ah v1 g1 2 (List.map Aw l),some (.rows g2 1 [[(.q ids 0 g)]])] Tryz.func192 hI J J J (.keep (.keep (.keep (.drop .nil)))) (D9 vH2 (hI.at J J) (hI.at J J) (fun x=>Abe x)) ⟨J,J⟩
theorem T4 (s:Ay)(s1_l:List Token)(s1_end:Int)(l:List Volume)(h0:Ag)(o0:Nat)(o1:Nat)(o2:Nat)(g:Nat)(w:AV)(w1:AV)(w2:AV)(w3:AV)(w4:AV)(w5:AV)(w6:AV)(g1:Nat)(v1:AV)(g2:Nat)(vH:Av v1 o2 g2 l.length)(hI0:Ids h0 [o0,o1,o2] 3):Fv s s1_l s1_end l≠.bad→Bq Tryz.prog 191 [(.str s),(.ptr o0 g 0 0)] (hp h0 [o0,o1,o2] [some (.rows g 1 [[(.ptr o1 g1 0 0)]]),some (.rows g1 10 [[(.sl 4 (List.map Ac s1_l)),(.int .i64 s1_end),v1,w,w1,w2,w3,w4,w5,w6]]),Ah v1 g2 2 (List.map Aw l)]) (C5 (fun a_ v h'=>v=(.agg (Bb a_.1))∧h'=hp h0 [o0,o1,o2] [some (.rows g 1 [[(.ptr o1 g1 0 0)]]),some (.rows g1 10 [[(.sl 4 (List.map Ac a_.2)),(.int .i64 s1_end),v1,w,w1,w2,w3,w4,w5,w6]]),Ah v1 g2 2 (List.map Aw l)]) h0 (Fv s s1_l s1_end l)):=by
 refine Bm (n:=9) 1 Tryz.func191 J (by decide) J J hI0 J fun ids he hI=>?_
 clear hI0
 obtain rfl:ix ids 0=o0:=he 0 rfl
 obtain rfl:ix ids 1=o1:=he 1 rfl
 obtain rfl:ix ids 2=o2:=he 2 rfl
 clear he
 refine Bn (Al (Fv.eq_1 _ _ _ _) ?_)
 refine Aj ?_
 refine Y<|O<|A8 (j:=3) hI J J J J Ho J fun g3=>Z<|Aj ?_
 refine Y<|O<|Ab 3 [0] [(6,(.func (.func 193) [] [(.q ids 0 g)])),(5,(.q ids 1 g1)),(4,(.str s))] ?_
 refine Ap [1,2,0] hI J J (V0 16 s1_l s1_end l _ (ix ids 1) (ix ids 2) (ix ids 0) w w1 w2 w3 w4 w5 w6 g1 v1 g2 g vH (by exact hI.sub' J J)) J J J J J J (fun v _=>Ao (K:=3) (N:=1) Tryz.func191 hI) ?_
 rintro r _ _ _ ⟨rfl,rfl⟩
 refine A0 [1,2,0] hI J J J ?_
 refine Ar<|Aa (.agg [(.str s),(.sl 2 (List.map Dy r.1))]) J (Hy (Oq Ho Apu J))<|An (Aq (v:=(.agg [(.str s),(.sl 2 (List.map Dy r.1))])) hI J J J J Ho J J J J J)<|Z<|Aj ?_
 exact D4 (K:=3) (N:=1) (a:=(({ Name:=s,Modes:=r.1 }:Airport),r.2)) (vs:=[(.agg [(.str s),(.sl 2 (List.map Dy r.1))])]) [some (.rows g 1 [[(.q ids 1 g1)]]),some (.rows g1 10 [[(.sl 4 (List.map Ac r.2)),(.I s1_end),v1,w,w1,w2,w3,w4,w5,w6]]),Ah v1 g2 2 (List.map Aw l)] Tryz.func191 hI J (Cc (A3 hI J J J Ho J) C8) J (.keep (.keep (.keep (.drop .nil)))) (.aggL (.cons (.same _) (.cons (.same _) .nil))) ⟨J,J⟩
theorem Lm (most:Int)(s0_l:List Token)(s0_end:Int)(l:List Volume)(h0:Ag)(o0:Nat)(o1:Nat)(w:AV)(w1:AV)(w2:AV)(w3:AV)(w4:AV)(w5:AV)(w6:AV)(g:Nat)(v1:AV)(g1:Nat)(vH:Av v1 o1 g1 l.length)(hI0:Ids h0 [o0,o1] 2):Ew most s0_l s0_end l≠.bad→Bq Tryz.prog 176 [(.ptr o0 g 0 0),(.int .i64 most),(.func (.func 177) [(.ptr o0 g 0 0)] [])] (hp h0 [o0,o1] [some (.rows g 10 [[(.sl 4 (List.map Ac s0_l)),(.int .i64 s0_end),v1,w,w1,w2,w3,w4,w5,w6]]),Ah v1 g1 2 (List.map Aw l)]) (C5 (fun a_ v h'=>v=(.sl 1 (List.map rS a_.1))∧h'=hp h0 [o0,o1] [some (.rows g 10 [[(.sl 4 (List.map Ac a_.2)),(.int .i64 s0_end),v1,w,w1,w2,w3,w4,w5,w6]]),Ah v1 g1 2 (List.map Aw l)]) h0 (Ew most s0_l s0_end l)):=by
 refine Bm (n:=24) 1 Tryz.func176 J (by decide) J J hI0 J fun ids he hI=>?_
 clear hI0
 obtain rfl:ix ids 0=o0:=he 0 rfl
 obtain rfl:ix ids 1=o1:=he 1 rfl
 clear he
 refine Bn (Al (Ew.eq_1 _ _ _ _) ?_)
 refine Aj ?_
 refine Y<|O<|Aa .emp J Ai<|Z<|Ba<|D6 [(0,(.q ids 0 g)),(1,(.I most)),(2,(.func (.func 177) [(.q ids 0 g)] [])),(6,.emp)] (FI J)<|Lo (P:=Tryz.prog) (C4 fun fL l1=>Gi most s0_end fL l1) ((fun r=>.ok r):((List Ay)×(List Token))→R ((List Ay)×(List Token))) (C4 fun fL l1=>fun(fr:Nat→AV) (h:Ag) => ∃ (v2:AV),∃ (g2:Nat),Av v2 (ix ids 2) g2 l1.length∧fr=A5 [(0,(.q ids 0 g)),(1,(.I most)),(2,(.func (.func 177) [(.q ids 0 g)] [])),(6,v2)]∧h=hp h0 ids [(some (.rows g 10 [[(.sl 4 (List.map Ac fL)),(.I s0_end),v1,w,w1,w2,w3,w4,w5,w6]])),(Ah v1 g1 2 (List.map Aw l)),(Ah v2 g2 1 (List.map rS l1))]) (s0_l,[]) ?_ ?_
 ·exact⟨.emp,0,.nil,J,J⟩
 rintro vW hW ⟨fL,l1⟩ fr h ⟨v2,g2,vH1,rfl,rfl⟩
 refine Al (m':=Gi most s0_end fL l1) J (Al (Gi.eq_1 _ _ _ _) ?_)
 refine Ba<|Y<|O<|Ab 2 [] [(8,(.func (.func 177) [(.q ids 0 g)] [])),(7,v2)] ?_
 refine Ap [0] hI J J (Da fL s0_end _ (ix ids 0) v1 w w1 w2 w3 w4 w5 w6 g (by exact hI.sub' J J)) J J J J J J (fun v _=>Ao (K:=2) (N:=1) Tryz.func176 hI) ?_
 rintro r _ _ _ ⟨rfl,rfl⟩
 refine A0 [0] hI J J J ?_
 refine Ar<|C3 (e:=rS) (L:=[r]) (st:=1) (rows:=[[(.str r)]]) J D0 Cf J J J J J (.cons (RowSim.refl _) .nil) (fun x=>Gp x) J J<|Ee fun hl=>Ha (e:=rS) (L:=l1) (L2:=[r]) (v:=v2) (g:=g2) (st:=1) (j:=2) hI J J J J vH1 J (Gb J) D0 D0 J Cf J J J hl fun v3 g3 vH2=>Aa v3 J Ai<|Z<|Aj ?_
 refine Y<|Y<|O<|Aa (.q ids 0 g) J Ad<|Ap [0] hI J J (Nk 3 [44] (fL.drop 1) s0_end _ (ix ids 0) v1 w w1 w2 w3 w4 w5 w6 g (by exact hI.sub' J J)) J J J J J J (fun v _=>Ao (K:=2) (N:=1) Tryz.func176 hI) ?_
 rintro r1 _ _ _ ⟨rfl,rfl⟩
 refine A0 [0] hI J J J ?_
 refine Ar<|Aa (.bool (!r1)) J (Oa J)<|Z<|D2 J (fun hc=>?_) (fun hc=>?_)
 ·refine Ax<|Y<|Y<|O<|Aa v3 J Ad<|Aa (.I ((l1++[r]).length:Int)) J (A2 (Av.len vH2 D0))<|Ab 2 [] [(19,(.bool (((l1++[r]).length:Int)==most)))] ?_
  refine Z<|Dx (π:=Unit) (fun _=>Gl s0_end fL l1 r) (fun _=>fun(fr:Nat→AV) (h:Ag)=>fr=A5 [(0,(.q ids 0 g)),(1,(.I most)),(2,(.func (.func 177) [(.q ids 0 g)] [])),(6,v3)]∧h=hp h0 ids [(some (.rows g 10 [[(.sl 4 (List.map Ac (fL.drop 1))),(.I s0_end),v1,w,w1,w2,w3,w4,w5,w6]])),(Ah v1 g1 2 (List.map Aw l)),(Ah v3 g3 1 (List.map rS (l1++[r])))]) ?_ fun hJ=>?_
  ·rintro _ fr h ⟨rfl,rfl⟩
   refine Al (Gl.eq_1 _ _ _ _)<|O<|Aa (.q ids 0 g) J Ad<|Ap [0] hI J J (Di [44] (fL.drop 1) s0_end _ (ix ids 0) v1 w w1 w2 w3 w4 w5 w6 g (by exact hI.sub' J J)) J J J J J J (fun v _=>Ao (K:=2) (N:=1) Tryz.func176 hI) ?_
   rintro _ _ _ _ ⟨rfl,rfl⟩
   refine A0 [0] hI J J J ?_
   refine Ar<|Z<|Aj ?_
   refine Bi<|Bo (G7 (hW (((fL.drop 1).drop 1),(l1++[r])) _ _ ⟨v3,g3,vH2,J,J⟩))
  refine Bx J (fun hc1=>?_) (fun hc1=>?_)
  ·refine O<|Aa (.q ids 0 g) J Ad<|Ap [0] hI J J (Cn 2 (fL.drop 1) s0_end _ (ix ids 0) v1 w w1 w2 w3 w4 w5 w6 g (by exact hI.sub' J J)) J J J J J J (fun v _=>Ao (K:=2) (N:=1) Tryz.func176 hI) ?_
   rintro _ _ _ _ ⟨rfl,rfl⟩
   refine A0 [0] hI J J J ?_
   refine Ar<|Z<|Bo (hJ () _ _ ⟨J,J⟩)
  refine Ax<|Bo (hJ () _ _ ⟨J,J⟩)
 refine Y<|O<|Ab 2 [] [(6,v3)] ?_
 refine Z<|Kq<|D4 (K:=2) (N:=1) (a:=((l1++[r]),(fL.drop 1))) (vs:=[v3]) [some (.rows g 10 [[(.sl 4 (List.map Ac (fL.drop 1))),(.I s0_end),v1,w,w1,w2,w3,w4,w5,w6]]),Ah v1 g1 2 (List.map Aw l)] Tryz.func176 hI J J J (.keep (.keep (.drop .nil))) (D9 vH2 (hI.at J J) (hI.at J J) (fun x=>Gp x)) ⟨J,J⟩
theorem T2 (s:Ay)(s1_l:List Token)(s1_end:Int)(l:List Volume)(h0:Ag)(o0:Nat)(o1:Nat)(o2:Nat)(g:Nat)(w:AV)(w1:AV)(w2:AV)(w3:AV)(w4:AV)(w5:AV)(w6:AV)(g1:Nat)(v1:AV)(g2:Nat)(vH:Av v1 o2 g2 l.length)(hI0:Ids h0 [o0,o1,o2] 3):Fq s s1_l s1_end l≠.bad→Bq Tryz.prog 182 [(.str s),(.ptr o0 g 0 0)] (hp h0 [o0,o1,o2] [some (.rows g 1 [[(.ptr o1 g1 0 0)]]),some (.rows g1 10 [[(.sl 4 (List.map Ac s1_l)),(.int .i64 s1_end),v1,w,w1,w2,w3,w4,w5,w6]]),Ah v1 g2 2 (List.map Aw l)]) (C5 (fun a_ v h'=>v=(.agg (Bj a_.1))∧h'=hp h0 [o0,o1,o2] [some (.rows g 1 [[(.ptr o1 g1 0 0)]]),some (.rows g1 10 [[(.sl 4 (List.map Ac a_.2)),(.int .i64 s1_end),v1,w,w1,w2,w3,w4,w5,w6]]),Ah v1 g2 2 (List.map Aw l)]) h0 (Fq s s1_l s1_end l)):=by
 refine Bm (n:=12) 1 Tryz.func182 J (by decide) J J hI0 J fun ids he hI=>?_
 clear hI0
 obtain rfl:ix ids 0=o0:=he 0 rfl
 obtain rfl:ix ids 1=o1:=he 1 rfl
 obtain rfl:ix ids 2=o2:=he 2 rfl
 clear he
 refine Bn (Al (Fq.eq_1 _ _ _ _) ?_)
 refine Aj ?_
 refine Y<|O<|A8 (j:=3) hI J J J J Kg J fun g3=>Z<|Aj ?_
 refine Y<|O<|Ab 1 [0] [(4,(.q ids 1 g1))] ?_
 refine Ap [1] hI J J (Di [61] s1_l s1_end _ (ix ids 1) v1 w w1 w2 w3 w4 w5 w6 g1 (by exact hI.sub' J J)) J J J J J J (fun v _=>Ao (K:=3) (N:=1) Tryz.func182 hI) ?_
 rintro _ _ _ _ ⟨rfl,rfl⟩
 refine A0 [1] hI J J J ?_
 refine Ar<|Z<|Aj ?_
 refine Y<|O<|Ab 4 [0,0] [(9,(.func (.func 177) [(.q ids 1 g1)] [])),(7,(.q ids 1 g1)),(6,(.str s))] ?_
 refine Ap [1,2] hI J J (Lm 64 (s1_l.drop 1) s1_end l _ (ix ids 1) (ix ids 2) w w1 w2 w3 w4 w5 w6 g1 v1 g2 vH (by exact hI.sub' J J)) J J J J J J (fun v _=>Ao (K:=3) (N:=1) Tryz.func182 hI) ?_
 rintro r1 _ _ _ ⟨rfl,rfl⟩
 refine A0 [1,2] hI J J J ?_
 refine Ar<|Aa (.agg [(.str s),(.sl 1 (List.map rS r1.1)),.emp]) J (Hy (Oq Kg Aqy J))<|An (Aq (v:=(.agg [(.str s),(.sl 1 (List.map rS r1.1)),.emp])) hI J J J J Kg J J J J J)<|Z<|Aj ?_
 exact D4 (K:=3) (N:=1) (a:=(({ Name:=s,Names:=r1.1,Sectors:=[] }:Config),r1.2)) (vs:=[(.agg [(.str s),(.sl 1 (List.map rS r1.1)),.emp])]) [some (.rows g 1 [[(.q ids 1 g1)]]),some (.rows g1 10 [[(.sl 4 (List.map Ac r1.2)),(.I s1_end),v1,w,w1,w2,w3,w4,w5,w6]]),Ah v1 g2 2 (List.map Aw l)] Tryz.func182 hI J (Cc (A3 hI J J J Kg J) C8) J (.keep (.keep (.keep (.drop .nil)))) (.aggL (.cons (.same _) (.cons (.same _) (.cons (.emp _) .nil)))) ⟨J,J⟩
theorem T6 (s:Ay)(s1_l:List Token)(s1_end:Int)(l:List Volume)(h0:Ag)(o0:Nat)(o1:Nat)(o2:Nat)(g:Nat)(w:AV)(w1:AV)(w2:AV)(w3:AV)(w4:AV)(w5:AV)(w6:AV)(g1:Nat)(v1:AV)(g2:Nat)(vH:Av v1 o2 g2 l.length)(hI0:Ids h0 [o0,o1,o2] 3):Fm s s1_l s1_end l≠.bad→Bq Tryz.prog 188 [(.str s),(.ptr o0 g 0 0)] (hp h0 [o0,o1,o2] [some (.rows g 1 [[(.ptr o1 g1 0 0)]]),some (.rows g1 10 [[(.sl 4 (List.map Ac s1_l)),(.int .i64 s1_end),v1,w,w1,w2,w3,w4,w5,w6]]),Ah v1 g2 2 (List.map Aw l)]) (C5 (fun a_ v h'=>v=(.agg (Bu a_.1))∧h'=hp h0 [o0,o1,o2] [some (.rows g 1 [[(.ptr o1 g1 0 0)]]),some (.rows g1 10 [[(.sl 4 (List.map Ac a_.2)),(.int .i64 s1_end),v1,w,w1,w2,w3,w4,w5,w6]]),Ah v1 g2 2 (List.map Aw l)]) h0 (Fm s s1_l s1_end l)):=by
 refine Bm (n:=25) 2 Tryz.func188 J (by decide) J J hI0 J fun ids he hI=>?_
 clear hI0
 obtain rfl:ix ids 0=o0:=he 0 rfl
 obtain rfl:ix ids 1=o1:=he 1 rfl
 obtain rfl:ix ids 2=o2:=he 2 rfl
 clear he
 refine Bn (Al (Fm.eq_1 _ _ _ _) ?_)
 refine Aj ?_
 refine Y<|O<|A8 (j:=3) hI J J J J Hx J fun g3=>Z<|Aj ?_
 refine Y<|O<|Ab 2 [] [(6,(.agg [(.str s),(.str []),(.str []),(.I 0),(.I 0),.emp,.emp]))] ?_
 refine A8 (j:=4) hI J J J J Hx J fun g4=>An (Aq (v:=(.agg [(.str s),(.str []),(.str []),(.I 0),(.I 0),.emp,.emp])) hI J J J J Hx J J J J J)<|Z<|Aj ?_
 refine Y<|O<|Ab 1 [0] [(7,(.q ids 1 g1))] ?_
 refine Ap [1] hI J J (D1 [102,114,111,109] s1_l s1_end _ (ix ids 1) v1 w w1 w2 w3 w4 w5 w6 g1 (by exact hI.sub' J J)) J J J J J J (fun v _=>Ao (K:=3) (N:=2) Tryz.func188 hI) ?_
 rintro _ _ _ _ ⟨rfl,rfl⟩
 refine A0 [1] hI J J J ?_
 refine Ar<|Z<|Aj ?_
 refine Y<|O<|Ab 1 [0] [(9,(.q ids 1 g1))] ?_
 refine Ap [1] hI J J (Da (s1_l.drop 1) s1_end _ (ix ids 1) v1 w w1 w2 w3 w4 w5 w6 g1 (by exact hI.sub' J J)) J J J J J J (fun v _=>Ao (K:=3) (N:=2) Tryz.func188 hI) ?_
 rintro r1 _ _ _ ⟨rfl,rfl⟩
 refine A0 [1] hI J J J ?_
 refine Ar<|Aa (.ptr (ix ids 4) g4 0 1) J (Cb (B3 (c:=0) (off:=1) (i:=1) Hx J Cf J))<|An (Aq (v:=(.str r1)) hI J J J J Cf J J J J J)<|Z<|Aj ?_
 refine Y<|O<|Ab 1 [0] [(12,(.q ids 1 g1))] ?_
 refine Ap [1] hI J J (D1 [116,111] ((s1_l.drop 1).drop 1) s1_end _ (ix ids 1) v1 w w1 w2 w3 w4 w5 w6 g1 (by exact hI.sub' J J)) J J J J J J (fun v _=>Ao (K:=3) (N:=2) Tryz.func188 hI) ?_
 rintro _ _ _ _ ⟨rfl,rfl⟩
 refine A0 [1] hI J J J ?_
 refine Ar<|Z<|Aj ?_
 refine Y<|O<|Ab 1 [0] [(14,(.q ids 1 g1))] ?_
 refine Ap [1] hI J J (Da (((s1_l.drop 1).drop 1).drop 1) s1_end _ (ix ids 1) v1 w w1 w2 w3 w4 w5 w6 g1 (by exact hI.sub' J J)) J J J J J J (fun v _=>Ao (K:=3) (N:=2) Tryz.func188 hI) ?_
 rintro r3 _ _ _ ⟨rfl,rfl⟩
 refine A0 [1] hI J J J ?_
 refine Ar<|Aa (.ptr (ix ids 4) g4 0 2) J (Cb (B3 (c:=0) (off:=2) (i:=2) Hx J Cf J))<|An (Aq (v:=(.str r3)) hI J J J J Cf J J J J J)<|Z<|Aj ?_
 refine Y<|O<|Ab 1 [0] [(17,(.q ids 1 g1))] ?_
 refine Ap [1] hI J J (D1 [118,105,97] ((((s1_l.drop 1).drop 1).drop 1).drop 1) s1_end _ (ix ids 1) v1 w w1 w2 w3 w4 w5 w6 g1 (by exact hI.sub' J J)) J J J J J J (fun v _=>Ao (K:=3) (N:=2) Tryz.func188 hI) ?_
 rintro _ _ _ _ ⟨rfl,rfl⟩
 refine A0 [1] hI J J J ?_
 refine Ar<|Z<|Aj ?_
 refine Y<|O<|Ab 3 [0,0] [(21,(.func (.func 177) [(.q ids 1 g1)] [])),(19,(.q ids 1 g1))] ?_
 refine Ap [1,2] hI J J (Lm 8 (((((s1_l.drop 1).drop 1).drop 1).drop 1).drop 1) s1_end l _ (ix ids 1) (ix ids 2) w w1 w2 w3 w4 w5 w6 g1 v1 g2 vH (by exact hI.sub' J J)) J J J J J J (fun v _=>Ao (K:=3) (N:=2) Tryz.func188 hI) ?_
 rintro r5 _ _ _ ⟨rfl,rfl⟩
 refine A0 [1,2] hI J J J ?_
 refine Ar<|Aa (.ptr (ix ids 4) g4 0 5) J (Cb (B3 (c:=0) (off:=5) (i:=5) Hx J D0 J))<|An (Aq (v:=(.sl 1 (List.map rS r5.1))) hI J J J J D0 J J J J J)<|Z<|Aj ?_
 refine Y<|O<|Ab 1 [4] [(24,(.agg [(.str s),(.str r1),(.str r3),(.I 0),(.I 0),(.sl 1 (List.map rS r5.1)),.emp]))] ?_
 refine An (Aq (v:=(.agg [(.str s),(.str r1),(.str r3),(.I 0),(.I 0),(.sl 1 (List.map rS r5.1)),.emp])) hI J J J J Hx J J J J J)<|Z<|Aj ?_
 exact D4 (K:=3) (N:=2) (a:=(({ Name:=s,A:=r1,B:=r3,From:=0,To:=0,Names:=r5.1,Segments:=[] }:Route),r5.2)) (vs:=[(.agg [(.str s),(.str r1),(.str r3),(.I 0),(.I 0),(.sl 1 (List.map rS r5.1)),.emp])]) [some (.rows g 1 [[(.q ids 1 g1)]]),some (.rows g1 10 [[(.sl 4 (List.map Ac r5.2)),(.I s1_end),v1,w,w1,w2,w3,w4,w5,w6]]),Ah v1 g2 2 (List.map Aw l)] Tryz.func188 hI J (Cc (A3 hI J J J Hx J) C8) J (.keep (.keep (.keep (.drop (.drop .nil))))) (.aggL (.cons (.same _) (.cons (.same _) (.cons (.same _) (.cons (.same _) (.cons (.same _) (.cons (.same _) (.cons (.emp _) .nil)))))))) ⟨J,J⟩
theorem T3 (s:Ay)(s1_l:List Token)(s1_end:Int)(l:List Volume)(h0:Ag)(o0:Nat)(o1:Nat)(o2:Nat)(g:Nat)(w:AV)(w1:AV)(w2:AV)(w3:AV)(w4:AV)(w5:AV)(w6:AV)(g1:Nat)(v1:AV)(g2:Nat)(vH:Av v1 o2 g2 l.length)(hI0:Ids h0 [o0,o1,o2] 3):Ft s s1_l s1_end l≠.bad→Bq Tryz.prog 174 [(.str s),(.ptr o0 g 0 0)] (hp h0 [o0,o1,o2] [some (.rows g 1 [[(.ptr o1 g1 0 0)]]),some (.rows g1 10 [[(.sl 4 (List.map Ac s1_l)),(.int .i64 s1_end),v1,w,w1,w2,w3,w4,w5,w6]]),Ah v1 g2 2 (List.map Aw l)]) (C5 (fun a_ v h'=>v=(.agg (A9 a_.1))∧h'=hp h0 [o0,o1,o2] [some (.rows g 1 [[(.ptr o1 g1 0 0)]]),some (.rows g1 10 [[(.sl 4 (List.map Ac a_.2)),(.int .i64 s1_end),v1,w,w1,w2,w3,w4,w5,w6]]),Ah v1 g2 2 (List.map Aw l)]) h0 (Ft s s1_l s1_end l)):=by
 refine Bm (n:=27) 2 Tryz.func174 J (by decide) J J hI0 J fun ids he hI=>?_
 clear hI0
 obtain rfl:ix ids 0=o0:=he 0 rfl
 obtain rfl:ix ids 1=o1:=he 1 rfl
 obtain rfl:ix ids 2=o2:=he 2 rfl
 clear he
 refine Bn (Al (Ft.eq_1 _ _ _ _) ?_)
 refine Aj ?_
 refine Y<|O<|A8 (j:=3) hI J J J J Gn J fun g3=>Z<|Aj ?_
 refine Y<|O<|Ab 2 [] [(6,(.agg [(.str s),.emp,.emp,(.I 0),(.I 0)]))] ?_
 refine A8 (j:=4) hI J J J J Gn J fun g4=>An (Aq (v:=(.agg [(.str s),.emp,.emp,(.I 0),(.I 0)])) hI J J J J Gn J J J J J)<|Z<|Aj ?_
 refine Y<|O<|Ab 1 [0] [(7,(.q ids 1 g1))] ?_
 refine Ap [1] hI J J (Di [61] s1_l s1_end _ (ix ids 1) v1 w w1 w2 w3 w4 w5 w6 g1 (by exact hI.sub' J J)) J J J J J J (fun v _=>Ao (K:=3) (N:=2) Tryz.func174 hI) ?_
 rintro _ _ _ _ ⟨rfl,rfl⟩
 refine A0 [1] hI J J J ?_
 refine Ar<|Z<|Aj ?_
 refine Y<|O<|Ab 3 [0,0] [(11,(.func (.func 177) [(.q ids 1 g1)] [])),(9,(.q ids 1 g1))] ?_
 refine Ap [1,2] hI J J (Lm 64 (s1_l.drop 1) s1_end l _ (ix ids 1) (ix ids 2) w w1 w2 w3 w4 w5 w6 g1 v1 g2 vH (by exact hI.sub' J J)) J J J J J J (fun v _=>Ao (K:=3) (N:=2) Tryz.func174 hI) ?_
 rintro r1 _ _ _ ⟨rfl,rfl⟩
 refine A0 [1,2] hI J J J ?_
 refine Ar<|Aa (.ptr (ix ids 4) g4 0 1) J (Cb (B3 (c:=0) (off:=1) (i:=1) Gn J D0 J))<|An (Aq (v:=(.sl 1 (List.map rS r1.1))) hI J J J J D0 J J J J J)<|Z<|Aj ?_
 refine Y<|O<|Ab 1 [0] [(14,(.q ids 1 g1))] ?_
 refine Ap [1] hI J J (D1 [114,97,100,97,114] r1.2 s1_end _ (ix ids 1) v1 w w1 w2 w3 w4 w5 w6 g1 (by exact hI.sub' J J)) J J J J J J (fun v _=>Ao (K:=3) (N:=2) Tryz.func174 hI) ?_
 rintro _ _ _ _ ⟨rfl,rfl⟩
 refine A0 [1] hI J J J ?_
 refine Ar<|Z<|Aj ?_
 refine Y<|O<|Ab 1 [0] [(16,(.q ids 1 g1))] ?_
 refine Ap [1] hI J J (Ep 0 64 (r1.2.drop 1) s1_end _ (ix ids 1) v1 w w1 w2 w3 w4 w5 w6 g1 (by exact hI.sub' J J)) J J J J J J (fun v _=>Ao (K:=3) (N:=2) Tryz.func174 hI) ?_
 rintro r3 _ _ _ ⟨rfl,rfl⟩
 refine A0 [1] hI J J J ?_
 refine Ar<|Aa (.ptr (ix ids 4) g4 0 3) J (Cb (B3 (c:=0) (off:=3) (i:=3) Gn J C2 J))<|An (Aq (v:=(.I r3)) hI J J J J C2 J J J J J)<|Z<|Aj ?_
 refine Y<|O<|Ab 1 [0] [(19,(.q ids 1 g1))] ?_
 refine Ap [1] hI J J (D1 [112,114,111,99,101,100,117,114,97,108] ((r1.2.drop 1).drop 1) s1_end _ (ix ids 1) v1 w w1 w2 w3 w4 w5 w6 g1 (by exact hI.sub' J J)) J J J J J J (fun v _=>Ao (K:=3) (N:=2) Tryz.func174 hI) ?_
 rintro _ _ _ _ ⟨rfl,rfl⟩
 refine A0 [1] hI J J J ?_
 refine Ar<|Z<|Aj ?_
 refine Y<|O<|Ab 3 [0,4] [(23,(.I r3)),(21,(.q ids 1 g1))] ?_
 refine Ap [1] hI J J (Ep 0 r3 (((r1.2.drop 1).drop 1).drop 1) s1_end _ (ix ids 1) v1 w w1 w2 w3 w4 w5 w6 g1 (by exact hI.sub' J J)) J J J J J J (fun v _=>Ao (K:=3) (N:=2) Tryz.func174 hI) ?_
 rintro r5 _ _ _ ⟨rfl,rfl⟩
 refine A0 [1] hI J J J ?_
 refine Ar<|Aa (.ptr (ix ids 4) g4 0 4) J (Cb (B3 (c:=0) (off:=4) (i:=4) Gn J C2 J))<|An (Aq (v:=(.I r5)) hI J J J J C2 J J J J J)<|Z<|Aj ?_
 refine Y<|O<|Ab 1 [4] [(26,(.agg [(.str s),(.sl 1 (List.map rS r1.1)),.emp,(.I r3),(.I r5)]))] ?_
 refine An (Aq (v:=(.agg [(.str s),(.sl 1 (List.map rS r1.1)),.emp,(.I r3),(.I r5)])) hI J J J J Gn J J J J J)<|Z<|Aj ?_
 exact D4 (K:=3) (N:=2) (a:=(({ Name:=s,Names:=r1.1,Volumes:=[],Radar:=r3,Procedural:=r5 }:Sector),((((r1.2.drop 1).drop 1).drop 1).drop 1))) (vs:=[(.agg [(.str s),(.sl 1 (List.map rS r1.1)),.emp,(.I r3),(.I r5)])]) [some (.rows g 1 [[(.q ids 1 g1)]]),some (.rows g1 10 [[(.sl 4 (List.map Ac ((((r1.2.drop 1).drop 1).drop 1).drop 1))),(.I s1_end),v1,w,w1,w2,w3,w4,w5,w6]]),Ah v1 g2 2 (List.map Aw l)] Tryz.func174 hI J (Cc (A3 hI J J J Gn J) C8) J (.keep (.keep (.keep (.drop (.drop .nil))))) (.aggL (.cons (.same _) (.cons (.same _) (.cons (.emp _) (.cons (.same _) (.cons (.same _) .nil)))))) ⟨J,J⟩
theorem T1 (most:Int)(s0_l:List Token)(s0_end:Int)(l:List Volume)(h0:Ag)(o0:Nat)(o1:Nat)(w:AV)(w1:AV)(w2:AV)(w3:AV)(w4:AV)(w5:AV)(w6:AV)(g:Nat)(v1:AV)(g1:Nat)(vH:Av v1 o1 g1 l.length)(hI0:Ids h0 [o0,o1] 2):Fs most s0_l s0_end l≠.bad→Bq Tryz.prog 210 [(.ptr o0 g 0 0),(.int .i64 most),(.func (.func 200) [(.ptr o0 g 0 0)] [])] (hp h0 [o0,o1] [some (.rows g 10 [[(.sl 4 (List.map Ac s0_l)),(.int .i64 s0_end),v1,w,w1,w2,w3,w4,w5,w6]]),Ah v1 g1 2 (List.map Aw l)]) (C5 (fun a_ v h'=>v=(.sl 2 (List.map B7 a_.1))∧h'=hp h0 [o0,o1] [some (.rows g 10 [[(.sl 4 (List.map Ac a_.2)),(.int .i64 s0_end),v1,w,w1,w2,w3,w4,w5,w6]]),Ah v1 g1 2 (List.map Aw l)]) h0 (Fs most s0_l s0_end l)):=by
 refine Bm (n:=24) 1 Tryz.func210 J (by decide) J J hI0 J fun ids he hI=>?_
 clear hI0
 obtain rfl:ix ids 0=o0:=he 0 rfl
 obtain rfl:ix ids 1=o1:=he 1 rfl
 clear he
 refine Bn (Al (Fs.eq_1 _ _ _ _) ?_)
 refine Aj ?_
 refine Y<|O<|Aa .emp J Ai<|Z<|Ba<|D6 [(0,(.q ids 0 g)),(1,(.I most)),(2,(.func (.func 200) [(.q ids 0 g)] [])),(6,.emp)] (FI J)<|Lo (P:=Tryz.prog) (C4 fun fL l1=>Gs most s0_end fL l1) ((fun r=>.ok r):((List Span)×(List Token))→R ((List Span)×(List Token))) (C4 fun fL l1=>fun(fr:Nat→AV) (h:Ag) => ∃ (v2:AV),∃ (g2:Nat),Av v2 (ix ids 2) g2 l1.length∧fr=A5 [(0,(.q ids 0 g)),(1,(.I most)),(2,(.func (.func 200) [(.q ids 0 g)] [])),(6,v2)]∧h=hp h0 ids [(some (.rows g 10 [[(.sl 4 (List.map Ac fL)),(.I s0_end),v1,w,w1,w2,w3,w4,w5,w6]])),(Ah v1 g1 2 (List.map Aw l)),(Ah v2 g2 2 (List.map B7 l1))]) (s0_l,[]) ?_ ?_
 ·exact⟨.emp,0,.nil,J,J⟩
 rintro vW hW ⟨fL,l1⟩ fr h ⟨v2,g2,vH1,rfl,rfl⟩
 refine Al (m':=Gs most s0_end fL l1) J (Al (Gs.eq_1 _ _ _ _) ?_)
 refine Ba<|Y<|O<|Ab 2 [] [(8,(.func (.func 200) [(.q ids 0 g)] [])),(7,v2)] ?_
 refine Ap [0] hI J J (Sk fL s0_end _ (ix ids 0) v1 w w1 w2 w3 w4 w5 w6 g (by exact hI.sub' J J)) J J J J J J (fun v _=>Ao (K:=2) (N:=1) Tryz.func210 hI) ?_
 rintro r _ _ _ ⟨rfl,rfl⟩
 refine A0 [0] hI J J J ?_
 refine Ar<|C3 (e:=B7) (L:=[r]) (st:=2) (rows:=[[(.I r.From),(.I r.To)]]) J Ki Hz J J J J J (.cons (RowSim.refl _) .nil) (fun x=>Abm x) J J<|Ee fun hl=>Ha (e:=B7) (L:=l1) (L2:=[r]) (v:=v2) (g:=g2) (st:=2) (j:=2) hI J J J J vH1 J (Gb J) Ki Ki J Hz J J J hl fun v3 g3 vH2=>Aa v3 J Ai<|Z<|Aj ?_
 refine Y<|Y<|O<|Aa (.q ids 0 g) J Ad<|Ap [0] hI J J (Nk 3 [44] (((fL.drop 1).drop 1).drop 1) s0_end _ (ix ids 0) v1 w w1 w2 w3 w4 w5 w6 g (by exact hI.sub' J J)) J J J J J J (fun v _=>Ao (K:=2) (N:=1) Tryz.func210 hI) ?_
 rintro r1 _ _ _ ⟨rfl,rfl⟩
 refine A0 [0] hI J J J ?_
 refine Ar<|Aa (.bool (!r1)) J (Oa J)<|Z<|D2 J (fun hc=>?_) (fun hc=>?_)
 ·refine Ax<|Y<|Y<|O<|Aa v3 J Ad<|Aa (.I ((l1++[r]).length:Int)) J (A2 (Av.len vH2 Ki))<|Ab 2 [] [(19,(.bool (((l1++[r]).length:Int)==most)))] ?_
  refine Z<|Dx (π:=Unit) (fun _=>Gu s0_end fL l1 r) (fun _=>fun(fr:Nat→AV) (h:Ag)=>fr=A5 [(0,(.q ids 0 g)),(1,(.I most)),(2,(.func (.func 200) [(.q ids 0 g)] [])),(6,v3)]∧h=hp h0 ids [(some (.rows g 10 [[(.sl 4 (List.map Ac (((fL.drop 1).drop 1).drop 1))),(.I s0_end),v1,w,w1,w2,w3,w4,w5,w6]])),(Ah v1 g1 2 (List.map Aw l)),(Ah v3 g3 2 (List.map B7 (l1++[r])))]) ?_ fun hJ=>?_
  ·rintro _ fr h ⟨rfl,rfl⟩
   refine Al (Gu.eq_1 _ _ _ _)<|O<|Aa (.q ids 0 g) J Ad<|Ap [0] hI J J (Di [44] (((fL.drop 1).drop 1).drop 1) s0_end _ (ix ids 0) v1 w w1 w2 w3 w4 w5 w6 g (by exact hI.sub' J J)) J J J J J J (fun v _=>Ao (K:=2) (N:=1) Tryz.func210 hI) ?_
   rintro _ _ _ _ ⟨rfl,rfl⟩
   refine A0 [0] hI J J J ?_
   refine Ar<|Z<|Aj ?_
   refine Bi<|Bo (G7 (hW (((((fL.drop 1).drop 1).drop 1).drop 1),(l1++[r])) _ _ ⟨v3,g3,vH2,J,J⟩))
  refine Bx J (fun hc1=>?_) (fun hc1=>?_)
  ·refine O<|Aa (.q ids 0 g) J Ad<|Ap [0] hI J J (Cn 2 (((fL.drop 1).drop 1).drop 1) s0_end _ (ix ids 0) v1 w w1 w2 w3 w4 w5 w6 g (by exact hI.sub' J J)) J J J J J J (fun v _=>Ao (K:=2) (N:=1) Tryz.func210 hI) ?_
   rintro _ _ _ _ ⟨rfl,rfl⟩
   refine A0 [0] hI J J J ?_
   refine Ar<|Z<|Bo (hJ () _ _ ⟨J,J⟩)
  refine Ax<|Bo (hJ () _ _ ⟨J,J⟩)
 refine Y<|O<|Ab 2 [] [(6,v3)] ?_
 refine Z<|Kq<|D4 (K:=2) (N:=1) (a:=((l1++[r]),(((fL.drop 1).drop 1).drop 1))) (vs:=[v3]) [some (.rows g 10 [[(.sl 4 (List.map Ac (((fL.drop 1).drop 1).drop 1))),(.I s0_end),v1,w,w1,w2,w3,w4,w5,w6]]),Ah v1 g1 2 (List.map Aw l)] Tryz.func210 hI J J J (.keep (.keep (.drop .nil))) (D9 vH2 (hI.at J J) (hI.at J J) (fun x=>Abm x)) ⟨J,J⟩
theorem Ro (text:Ay)(s0_l:List Token)(s0_end:Int)(l:List Volume)(h0:Ag)(o0:Nat)(o1:Nat)(w:AV)(w1:AV)(w2:AV)(w3:AV)(w4:AV)(w5:AV)(w6:AV)(g:Nat)(v1:AV)(g1:Nat)(vH:Av v1 o1 g1 l.length)(hI0:Ids h0 [o0,o1] 2):G2 text s0_l s0_end l≠.bad→Bq Tryz.prog 171 [(.ptr o0 g 0 0),(.str text)] (hp h0 [o0,o1] [some (.rows g 10 [[(.sl 4 (List.map Ac s0_l)),(.int .i64 s0_end),v1,w,w1,w2,w3,w4,w5,w6]]),Ah v1 g1 2 (List.map Aw l)]) (C5 (fun a_ v h'=>v=(.sl 2 (List.map B7 a_.1))∧h'=hp h0 [o0,o1] [some (.rows g 10 [[(.sl 4 (List.map Ac a_.2)),(.int .i64 s0_end),v1,w,w1,w2,w3,w4,w5,w6]]),Ah v1 g1 2 (List.map Aw l)]) h0 (G2 text s0_l s0_end l)):=by
 refine Bm (n:=16) 0 Tryz.func171 J (by decide) J J hI0 J fun ids he hI=>?_
 clear hI0
 obtain rfl:ix ids 0=o0:=he 0 rfl
 obtain rfl:ix ids 1=o1:=he 1 rfl
 clear he
 refine Bn (Al (G2.eq_1 _ _ _ _) ?_)
 refine Y<|O<|Aa .emp J Ai<|Z<|Y<|Y<|O ?_
 refine Ab 2 [] [(6,(.str text)),(5,(.q ids 0 g))] ?_
 refine Ap [0] hI J J (Nk 1 text s0_l s0_end _ (ix ids 0) v1 w w1 w2 w3 w4 w5 w6 g (by exact hI.sub' J J)) J J J J J J (fun v _=>Ao (K:=2) (N:=0) Tryz.func171 hI) ?_
 rintro r _ _ _ ⟨rfl,rfl⟩
 refine A0 [0] hI J J J ?_
 refine Ar<|Aa (.bool (!r)) J (Oa J)<|Z<|D2 J (fun hc=>?_) (fun hc=>?_)
 ·refine Ax<|Y<|O<|Ab 2 [] [(10,(.str text)),(9,(.q ids 0 g))] ?_
  refine Ap [0] hI J J (D1 text s0_l s0_end _ (ix ids 0) v1 w w1 w2 w3 w4 w5 w6 g (by exact hI.sub' J J)) J J J J J J (fun v _=>Ao (K:=2) (N:=0) Tryz.func171 hI) ?_
  rintro _ _ _ _ ⟨rfl,rfl⟩
  refine A0 [0] hI J J J ?_
  refine Ar<|Z<|Aj ?_
  refine Y<|O<|Ab 3 [] [(14,(.func (.func 200) [(.q ids 0 g)] [])),(12,(.q ids 0 g))] ?_
  refine Ap [0,1] hI J J (T1 16 (s0_l.drop 1) s0_end l _ (ix ids 0) (ix ids 1) w w1 w2 w3 w4 w5 w6 g v1 g1 vH (by exact hI.sub' J J)) J J J J J J (fun v _=>Ao (K:=2) (N:=0) Tryz.func171 hI) ?_
  rintro r2 _ _ _ ⟨rfl,rfl⟩
  refine A0 [0,1] hI J J J ?_
  refine Ar<|Aa (.sl 2 (List.map B7 r2.1)) J Ai<|Z<|Aj ?_
  exact D4 (K:=2) (N:=0) (a:=(r2.1,r2.2)) (vs:=[(.sl 2 (List.map B7 r2.1))]) [some (.rows g 10 [[(.sl 4 (List.map Ac r2.2)),(.I s0_end),v1,w,w1,w2,w3,w4,w5,w6]]),Ah v1 g1 2 (List.map Aw l)] Tryz.func171 hI J J J (.keep (.keep .nil)) (.same _) ⟨J,J⟩
 refine Y<|O<|Aa .emp J Ai<|Z<|D4 (K:=2) (N:=0) (a:=([],s0_l)) (vs:=[.emp]) [some (.rows g 10 [[(.sl 4 (List.map Ac s0_l)),(.I s0_end),v1,w,w1,w2,w3,w4,w5,w6]]),Ah v1 g1 2 (List.map Aw l)] Tryz.func171 hI J J J (.keep (.keep .nil)) (.emp _) ⟨J,J⟩
theorem T0 (s:Ay)(s1_l:List Token)(s1_end:Int)(l:List Volume)(h0:Ag)(o0:Nat)(o1:Nat)(o2:Nat)(g:Nat)(w:AV)(w1:AV)(w2:AV)(w3:AV)(w4:AV)(w5:AV)(w6:AV)(g1:Nat)(v1:AV)(g2:Nat)(vH:Av v1 o2 g2 l.length)(hI0:Ids h0 [o0,o1,o2] 3):Fp s s1_l s1_end l≠.bad→Bq Tryz.prog 185 [(.str s),(.ptr o0 g 0 0)] (hp h0 [o0,o1,o2] [some (.rows g 1 [[(.ptr o1 g1 0 0)]]),some (.rows g1 10 [[(.sl 4 (List.map Ac s1_l)),(.int .i64 s1_end),v1,w,w1,w2,w3,w4,w5,w6]]),Ah v1 g2 2 (List.map Aw l)]) (C5 (fun a_ v h'=>v=(.agg (Be a_.1))∧h'=hp h0 [o0,o1,o2] [some (.rows g 1 [[(.ptr o1 g1 0 0)]]),some (.rows g1 10 [[(.sl 4 (List.map Ac a_.2)),(.int .i64 s1_end),v1,w,w1,w2,w3,w4,w5,w6]]),Ah v1 g2 2 (List.map Aw l)]) h0 (Fp s s1_l s1_end l)):=by
 refine Bm (n:=21) 2 Tryz.func185 J (by decide) J J hI0 J fun ids he hI=>?_
 clear hI0
 obtain rfl:ix ids 0=o0:=he 0 rfl
 obtain rfl:ix ids 1=o1:=he 1 rfl
 obtain rfl:ix ids 2=o2:=he 2 rfl
 clear he
 refine Bn (Al (Fp.eq_1 _ _ _ _) ?_)
 refine Aj ?_
 refine Y<|O<|A8 (j:=3) hI J J J J H0 J fun g3=>Z<|Aj ?_
 refine Y<|O<|Ab 2 [] [(6,(.agg [(.str s),(.str []),(.I 0),(.I 0),.emp]))] ?_
 refine A8 (j:=4) hI J J J J H0 J fun g4=>An (Aq (v:=(.agg [(.str s),(.str []),(.I 0),(.I 0),.emp])) hI J J J J H0 J J J J J)<|Z<|Aj ?_
 refine Y<|O<|Ab 1 [0] [(7,(.q ids 1 g1))] ?_
 refine Ap [1] hI J J (D1 [105,110] s1_l s1_end _ (ix ids 1) v1 w w1 w2 w3 w4 w5 w6 g1 (by exact hI.sub' J J)) J J J J J J (fun v _=>Ao (K:=3) (N:=2) Tryz.func185 hI) ?_
 rintro _ _ _ _ ⟨rfl,rfl⟩
 refine A0 [1] hI J J J ?_
 refine Ar<|Z<|Aj ?_
 refine Y<|O<|Ab 1 [0] [(9,(.q ids 1 g1))] ?_
 refine Ap [1] hI J J (Da (s1_l.drop 1) s1_end _ (ix ids 1) v1 w w1 w2 w3 w4 w5 w6 g1 (by exact hI.sub' J J)) J J J J J J (fun v _=>Ao (K:=3) (N:=2) Tryz.func185 hI) ?_
 rintro r1 _ _ _ ⟨rfl,rfl⟩
 refine A0 [1] hI J J J ?_
 refine Ar<|Aa (.ptr (ix ids 4) g4 0 1) J (Cb (B3 (c:=0) (off:=1) (i:=1) H0 J Cf J))<|An (Aq (v:=(.str r1)) hI J J J J Cf J J J J J)<|Z<|Aj ?_
 refine Y<|O<|Ab 1 [0] [(12,(.q ids 1 g1))] ?_
 refine Ap [1] hI J J (D1 [108,101,110,103,116,104] ((s1_l.drop 1).drop 1) s1_end _ (ix ids 1) v1 w w1 w2 w3 w4 w5 w6 g1 (by exact hI.sub' J J)) J J J J J J (fun v _=>Ao (K:=3) (N:=2) Tryz.func185 hI) ?_
 rintro _ _ _ _ ⟨rfl,rfl⟩
 refine A0 [1] hI J J J ?_
 refine Ar<|Z<|Aj ?_
 refine Y<|O<|Ab 1 [0] [(14,(.q ids 1 g1))] ?_
 refine Ap [1] hI J J (Ep 1 4096 (((s1_l.drop 1).drop 1).drop 1) s1_end _ (ix ids 1) v1 w w1 w2 w3 w4 w5 w6 g1 (by exact hI.sub' J J)) J J J J J J (fun v _=>Ao (K:=3) (N:=2) Tryz.func185 hI) ?_
 rintro r3 _ _ _ ⟨rfl,rfl⟩
 refine A0 [1] hI J J J ?_
 refine Ar<|Aa (.ptr (ix ids 4) g4 0 3) J (Cb (B3 (c:=0) (off:=3) (i:=3) H0 J C2 J))<|An (Aq (v:=(.I r3)) hI J J J J C2 J J J J J)<|Z<|Aj ?_
 refine Y<|O<|Ab 1 [0] [(17,(.q ids 1 g1))] ?_
 refine Ap [1,2] hI J J (Ro [111,112,101,110] ((((s1_l.drop 1).drop 1).drop 1).drop 1) s1_end l _ (ix ids 1) (ix ids 2) w w1 w2 w3 w4 w5 w6 g1 v1 g2 vH (by exact hI.sub' J J)) J J J J J J (fun v _=>Ao (K:=3) (N:=2) Tryz.func185 hI) ?_
 rintro r4 _ _ _ ⟨rfl,rfl⟩
 refine A0 [1,2] hI J J J ?_
 refine Ar<|Aa (.ptr (ix ids 4) g4 0 4) J (Cb (B3 (c:=0) (off:=4) (i:=4) H0 J Ki J))<|An (Aq (v:=(.sl 2 (List.map B7 r4.1))) hI J J J J Ki J J J J J)<|Z<|Aj ?_
 refine Y<|O<|Ab 1 [4] [(20,(.agg [(.str s),(.str r1),(.I 0),(.I r3),(.sl 2 (List.map B7 r4.1))]))] ?_
 refine An (Aq (v:=(.agg [(.str s),(.str r1),(.I 0),(.I r3),(.sl 2 (List.map B7 r4.1))])) hI J J J J H0 J J J J J)<|Z<|Aj ?_
 exact D4 (K:=3) (N:=2) (a:=(({ Name:=s,In:=r1,Volume:=0,Length:=r3,Open:=r4.1 }:Segment),r4.2)) (vs:=[(.agg [(.str s),(.str r1),(.I 0),(.I r3),(.sl 2 (List.map B7 r4.1))])]) [some (.rows g 1 [[(.q ids 1 g1)]]),some (.rows g1 10 [[(.sl 4 (List.map Ac r4.2)),(.I s1_end),v1,w,w1,w2,w3,w4,w5,w6]]),Ah v1 g2 2 (List.map Aw l)] Tryz.func185 hI J (Cc (A3 hI J J J H0 J) C8) J (.keep (.keep (.keep (.drop (.drop .nil))))) (.aggL (.cons (.same _) (.cons (.same _) (.cons (.same _) (.cons (.same _) (.cons (.same _) .nil)))))) ⟨J,J⟩
theorem T5 (s:Ay)(s1_l:List Token)(s1_end:Int)(l:List Volume)(h0:Ag)(o0:Nat)(o1:Nat)(o2:Nat)(g:Nat)(w:AV)(w1:AV)(w2:AV)(w3:AV)(w4:AV)(w5:AV)(w6:AV)(g1:Nat)(v1:AV)(g2:Nat)(vH:Av v1 o2 g2 l.length)(hI0:Ids h0 [o0,o1,o2] 3):Fu s s1_l s1_end l≠.bad→Bq Tryz.prog 170 [(.str s),(.ptr o0 g 0 0)] (hp h0 [o0,o1,o2] [some (.rows g 1 [[(.ptr o1 g1 0 0)]]),some (.rows g1 10 [[(.sl 4 (List.map Ac s1_l)),(.int .i64 s1_end),v1,w,w1,w2,w3,w4,w5,w6]]),Ah v1 g2 2 (List.map Aw l)]) (C5 (fun a_ v h'=>v=(.agg (Aw a_.1))∧h'=hp h0 [o0,o1,o2] [some (.rows g 1 [[(.ptr o1 g1 0 0)]]),some (.rows g1 10 [[(.sl 4 (List.map Ac a_.2)),(.int .i64 s1_end),v1,w,w1,w2,w3,w4,w5,w6]]),Ah v1 g2 2 (List.map Aw l)]) h0 (Fu s s1_l s1_end l)):=by
 refine Bm (n:=8) 1 Tryz.func170 J (by decide) J J hI0 J fun ids he hI=>?_
 clear hI0
 obtain rfl:ix ids 0=o0:=he 0 rfl
 obtain rfl:ix ids 1=o1:=he 1 rfl
 obtain rfl:ix ids 2=o2:=he 2 rfl
 clear he
 refine Bn (Al (Fu.eq_1 _ _ _ _) ?_)
 refine Aj ?_
 refine Y<|O<|A8 (j:=3) hI J J J J Ji J fun g3=>Z<|Aj ?_
 refine Y<|O<|Ab 2 [0] [(5,(.q ids 1 g1)),(4,(.str s))] ?_
 refine Ap [1,2] hI J J (Ro [99,108,111,115,101,100] s1_l s1_end l _ (ix ids 1) (ix ids 2) w w1 w2 w3 w4 w5 w6 g1 v1 g2 vH (by exact hI.sub' J J)) J J J J J J (fun v _=>Ao (K:=3) (N:=1) Tryz.func170 hI) ?_
 rintro r _ _ _ ⟨rfl,rfl⟩
 refine A0 [1,2] hI J J J ?_
 refine Ar<|Aa (.agg [(.str s),(.sl 2 (List.map B7 r.1))]) J (Hy (Oq Ji Apg J))<|An (Aq (v:=(.agg [(.str s),(.sl 2 (List.map B7 r.1))])) hI J J J J Ji J J J J J)<|Z<|Aj ?_
 exact D4 (K:=3) (N:=1) (a:=(({ Name:=s,Closed:=r.1 }:Volume),r.2)) (vs:=[(.agg [(.str s),(.sl 2 (List.map B7 r.1))])]) [some (.rows g 1 [[(.q ids 1 g1)]]),some (.rows g1 10 [[(.sl 4 (List.map Ac r.2)),(.I s1_end),v1,w,w1,w2,w3,w4,w5,w6]]),Ah v1 g2 2 (List.map Aw l)] Tryz.func170 hI J (Cc (A3 hI J J J Ji J) C8) J (.keep (.keep (.keep (.drop .nil)))) (.aggL (.cons (.same _) (.cons (.same _) .nil))) ⟨J,J⟩
theorem We (most:Int)(s0_l:List Token)(s0_end:Int)(l:List Volume)(h0:Ag)(o0:Nat)(o1:Nat)(o2:Nat)(w:AV)(w1:AV)(w2:AV)(w3:AV)(w4:AV)(w5:AV)(w6:AV)(g:Nat)(v1:AV)(g1:Nat)(g2:Nat)(vH:Av v1 o1 g1 l.length)(hI0:Ids h0 [o0,o1,o2] 3):Hu most s0_l s0_end l≠.bad→Bq Tryz.prog 169 [(.ptr o0 g 0 0),(.ptr o0 g 0 2),(.int .i64 most),(.func (.func 170) [] [(.ptr o2 g2 0 0)])] (hp h0 [o0,o1,o2] [some (.rows g 10 [[(.sl 4 (List.map Ac s0_l)),(.int .i64 s0_end),v1,w,w1,w2,w3,w4,w5,w6]]),Ah v1 g1 2 (List.map Aw l),some (.rows g2 1 [[(.ptr o0 g 0 0)]])]) (C5 (fun a_ v h' => ∃ (v3:AV),∃ (g5:Nat),Av v3 o1 g5 a_.2.length∧v=(.tup [])∧h'=hp h0 [o0,o1,o2] [some (.rows g 10 [[(.sl 4 (List.map Ac a_.1)),(.int .i64 s0_end),v3,w,w1,w2,w3,w4,w5,w6]]),Ah v3 g5 2 (List.map Aw a_.2),some (.rows g2 1 [[(.ptr o0 g 0 0)]])]) h0 (Hu most s0_l s0_end l)):=by
 refine Bm (n:=39) 1 Tryz.func169 J (by decide) J J hI0 J fun ids he hI=>?_
 clear hI0
 obtain rfl:ix ids 0=o0:=he 0 rfl
 obtain rfl:ix ids 1=o1:=he 1 rfl
 obtain rfl:ix ids 2=o2:=he 2 rfl
 clear he
 refine Bn (Al (Hu.eq_1 _ _ _ _) ?_)
 refine Aj ?_
 refine Y<|Y<|O<|Ab 3 [0] [(11,v1)] ?_
 refine Aa (.I (l.length:Int)) J (A2 (Av.len vH Hj))<|Ab 2 [] [(14,(.bool ((l.length:Int)==most)))] ?_
 refine Z<|Dx (π:=Unit) (fun _=>Ia s0_l s0_end l) (fun _=>fun(fr:Nat→AV) (h:Ag)=>fr=A5 [(0,(.q ids 0 g)),(1,(.ptr (ix ids 0) g 0 2)),(3,(.func (.func 170) [] [(.q ids 2 g2)]))]∧h=hp h0 ids [(some (.rows g 10 [[(.sl 4 (List.map Ac s0_l)),(.I s0_end),v1,w,w1,w2,w3,w4,w5,w6]])),(Ah v1 g1 2 (List.map Aw l)),(some (.rows g2 1 [[(.q ids 0 g)]])),none]) ?_ fun hJ=>?_
 ·rintro _ fr h ⟨rfl,rfl⟩
  refine Al (Ia.eq_1 _ _ _)<|Y<|O<|Ab 5 [0] [(21,(.sl 4 (List.map Ac s0_l))),(17,(.q ids 0 g))] ?_
  refine Ee fun hs=>Aa (.sl 4 (List.map Ac (s0_l.drop 1))) J (Fr (N0 Ch C1 J hs))<|Ab 2 [] [(24,(.q ids 0 g))] ?_
  refine An (Aq (v:=(.sl 4 (List.map Ac (s0_l.drop 1)))) hI J J J J Ch J J J J J)<|Z<|Aj ?_
  refine Y<|O<|Ab 2 [] [(26,(.q ids 0 g)),(25,(.func (.func 170) [] [(.q ids 2 g2)]))] ?_
  refine Ap [0] hI J J (Da (s0_l.drop 1) s0_end _ (ix ids 0) v1 w w1 w2 w3 w4 w5 w6 g (by exact hI.sub' J J)) J J J J J J (fun v _=>Ao (K:=3) (N:=1) Tryz.func169 hI) ?_
  rintro r1 _ _ _ ⟨rfl,rfl⟩
  refine A0 [0] hI J J J ?_
  refine Ar<|Ap [2,0,1] hI J J (T5 r1 ((s0_l.drop 1).drop 1) s0_end l _ (ix ids 2) (ix ids 0) (ix ids 1) g2 w w1 w2 w3 w4 w5 w6 g v1 g1 vH (by exact hI.sub' J J)) J J J J J J (fun v _=>Ao (K:=3) (N:=1) Tryz.func169 hI) ?_
  rintro r2 _ _ _ ⟨rfl,rfl⟩
  refine A0 [2,0,1] hI J J J ?_
  refine Ar<|A8 (j:=3) hI J J J J Ji J fun g3=>An (Aq (v:=(.agg (Aw r2.1))) hI J J J J Ji J J J J J)<|Z<|Aj ?_
  refine Y<|O<|Aa (.q ids 0 g) J Ad<|Ap [0] hI J J (Di [59] r2.2 s0_end _ (ix ids 0) v1 w w1 w2 w3 w4 w5 w6 g (by exact hI.sub' J J)) J J J J J J (fun v _=>Ao (K:=3) (N:=1) Tryz.func169 hI) ?_
  rintro _ _ _ _ ⟨rfl,rfl⟩
  refine A0 [0] hI J J J ?_
  refine Ar<|Z<|Aj ?_
  refine Ct Es [[],[],[1],[1,2],[],[4],[1,2,3,4,5],[0,0,1,2,3,4,5,6],[0,1,2,3,4,5,6,6,6,7]] [(false,0),(false,1),(false,2),(false,3),(false,4),(true,5),(true,6),(false,7),(true,8)] (by kernel_rfl)<|Af (.ptr (ix ids 0) g 0 2) J J Ad<|Af (.ptr (ix ids 0) g 0 2) J J Ad<|Af (.ptr (ix ids 0) g 0 2) J J (Br J)<|Af v1 J J (Au (A3 hI J J J Hj J))<|Af (.agg (Aw r2.1)) J J (Au (A3 hI J J J Ji J))<|Iv J J (fun _ _=>J) (fun K hK=>Mr (e:=Aw) (L:=[r2.1]) (st:=2) (rows:=[[(.str r2.1.Name),(.sl 2 (List.map B7 r2.1.Closed))]]) Hj Ji J J J J J (.cons (RowSim.refl _) .nil) (fun x=>Rm x) J J (hK _ _ (Ae J (Bt J (Au (A3 hI J J J Hj J)) (Bt J (Br J) (Bt J Ad (Bt J Ad Bp))))) ?_))
  clear hK K
  refine Kt fun hl=>Iv J J (fun _ _=>J) (fun K hK=>H4 (e:=Aw) (L:=l) (L2:=[r2.1]) (v:=v1) (g:=g1) (st:=2) (j:=1) hI J J J vH J (Gb J) Hj Hj J Ji J J J hl fun v2 g4 vH1=>hK _ _ (Ae J (Ae J (Ae J (Ae J (Bt J Ad Bp))))) ?_)
  clear hK K
  refine Af (.ptr (ix ids 0) g 0 2) J J (Br J)<|D7 J (fun _ _=>J) (fun K hK=>Co (G5 vH1 hI J J J J Hj J J J) (hK _ _ (Ae J (Ae J (Ae J (Ae J (Ae J (Ae J Bp)))))) ?_))
  clear hK K
  refine Ck<|Aj ?_
  exact Ci (K:=3) (N:=1) (a:=((r2.2.drop 1),(l++[r2.1]))) (vs:=[]) [some (.rows g 10 [[(.sl 4 (List.map Ac (r2.2.drop 1))),(.I s0_end),v2,w,w1,w2,w3,w4,w5,w6]]),Ah v2 g4 2 (List.map Aw (l++[r2.1])),some (.rows g2 1 [[(.q ids 0 g)]])] Tryz.func169 hI J J J (.keep (.keep (.keep (.drop .nil)))) (.same _) ⟨v2,g4,vH1,J,J⟩
 refine Bx J (fun hc=>?_) (fun hc=>?_)
 ·refine O<|Aa (.q ids 0 g) J Ad<|Ap [0] hI J J (Cn 2 s0_l s0_end _ (ix ids 0) v1 w w1 w2 w3 w4 w5 w6 g (by exact hI.sub' J J)) J J J J J J (fun v _=>Ao (K:=3) (N:=1) Tryz.func169 hI) ?_
  rintro _ _ _ _ ⟨rfl,rfl⟩
  refine A0 [0] hI J J J ?_
  refine Ar<|Z<|Bo (hJ () _ _ ⟨J,J⟩)
 refine Ax<|Bo (hJ () _ _ ⟨J,J⟩)
theorem Vo (s0_l:List Token)(s0_end:Int)(l:List Volume)(h0:Ag)(o0:Nat)(o1:Nat)(w:AV)(w1:AV)(w2:AV)(w3:AV)(w4:AV)(w5:AV)(w6:AV)(g:Nat)(v1:AV)(g1:Nat)(vH:Av v1 o1 g1 l.length)(hI0:Ids h0 [o0,o1] 2):I8 s0_l s0_end l≠.bad→Bq Tryz.prog 168 [(.ptr o0 g 0 0)] (hp h0 [o0,o1] [some (.rows g 10 [[(.sl 4 (List.map Ac s0_l)),(.int .i64 s0_end),v1,w,w1,w2,w3,w4,w5,w6]]),Ah v1 g1 2 (List.map Aw l)]) (C5 (fun a_ v h' => ∃ (v3:AV),∃ (g4:Nat),Av v3 o1 g4 a_.2.length∧v=(.tup [])∧h'=hp h0 [o0,o1] [some (.rows g 10 [[(.sl 4 (List.map Ac a_.1)),(.int .i64 s0_end),v3,w,w1,w2,w3,w4,w5,w6]]),Ah v3 g4 2 (List.map Aw a_.2)]) h0 (I8 s0_l s0_end l)):=by
 refine Bm (n:=9) 1 Tryz.func168 J (by decide) J J hI0 J fun ids he hI=>?_
 clear hI0
 obtain rfl:ix ids 0=o0:=he 0 rfl
 obtain rfl:ix ids 1=o1:=he 1 rfl
 clear he
 refine Bn (Al (I8.eq_1 _ _ _) ?_)
 refine Aj ?_
 refine Y<|O<|Cl (v:=(.q ids 0 g)) (j:=2) hI J J J J J J J fun g2=>Z<|Aj ?_
 refine Ct Es [[],[],[1],[1,2],[1,2,3],[],[0,1,2,3,4,5]] [(false,0),(false,1),(false,2),(false,3),(false,4),(false,5),(true,6)] (by kernel_rfl)<|Af (.q ids 0 g) J J (Au (A3 hI J J J Tt J))<|Af (.q ids 0 g) J J (Au (A3 hI J J J Tt J))<|Af (.q ids 0 g) J J (Br J)<|Af (.ptr (ix ids 0) g 0 2) J J (Cb (B3 (c:=0) (off:=2) (i:=2) Z1 J Dl J))<|Af (.ptr (ix ids 0) g 0 2) J J (Cb (B3 (c:=2) (off:=0) (i:=0) Dl J Hj J))<|Af (.func (.func 170) [] [(.q ids 2 g2)]) J J R9 ?_
 refine Su [0,1,2] hI J J (We 64 s0_l s0_end l _ (ix ids 0) (ix ids 1) (ix ids 2) w w1 w2 w3 w4 w5 w6 g v1 g1 g2 vH (by exact hI.sub' J J)) J J J J J J J (fun v _ _ _=>Ao (K:=2) (N:=1) Tryz.func168 hI) ?_
 rintro r _ _ _ ⟨v2,g3,vH1,rfl,rfl⟩
 refine Ui [0,1,2] [some (.rows g 10 [[(.sl 4 (List.map Ac r.1)),(.I s0_end),v2,w,w1,w2,w3,w4,w5,w6]]),Ah v2 g3 2 (List.map Aw r.2),some (.rows g2 1 [[(.q ids 0 g)]])] hI J J J J ⟨(Ae J (Ae J (Ae J (Ae J (Ae J (Ae J Bp)))))),?_⟩
 refine Ug<|Ck<|Aj ?_
 exact Ci (K:=2) (N:=1) (a:=(r.1,r.2)) (vs:=[]) [some (.rows g 10 [[(.sl 4 (List.map Ac r.1)),(.I s0_end),v2,w,w1,w2,w3,w4,w5,w6]]),Ah v2 g3 2 (List.map Aw r.2)] Tryz.func168 hI J J J (.keep (.keep (.drop .nil))) (.same _) ⟨v2,g3,vH1,J,J⟩
end Go.Am

/- Written by shrink.py from texts of ours: comments struck, what is not reached left out, names short. -/
import Derived.Test.YtjidhdlbojmlfaaGreatDoorU4
import Derived.Shelf.Strings.Builder1
import Derived.Shelf.Strings.Builder2
import Derived.Shelf.Strings.OnBuilder
import Derived.Shelf.Small.Strs
import Derived.Shelf.Strings.Builder2Cap
import Derived.Shelf.Strconv.Atoi
import Derived.Shelf.Strconv.Itoa0
import Derived.Shelf.Strconv.Itoa1
import Derived.Shelf.LaysM
import Derived.Shelf.Strconv.Itoa2
import Derived.Shelf.Strconv.Itoa3
import Derived.Shelf.Strconv.AtoiErrFast
import Derived.Shelf.Strconv.ParseIntEmpty
import Derived.Shelf.Strconv.AtoiFail
import Derived.Shelf.Strconv.Clone
import Derived.Shelf.Strconv.SyntaxError
import Derived.Shelf.LaysC
import Derived.Shelf.Strconv.ToError
import Derived.Shelf.Strconv.Lower
import Derived.Shelf.Strconv.ParseUint10
import Derived.Shelf.Strconv.ParseUint10Empty
import Derived.Shelf.Strconv.ParseUint10Any
import Derived.Shelf.Strconv.ParseInt10
import Derived.Shelf.Strconv.AtoiLong
import Derived.Shelf.Strconv.AtoiInnerAll
import Derived.Shelf.Strconv.RangeError
import Derived.Shelf.Strconv.ToErrorRange
import Derived.Shelf.Strconv.AtoiAll
import Derived.Shelf.Strconv.ErrVarAll
import Derived.Shelf.Strings.Search1
import Derived.Test.YtjidhdlbojmlfaaGreatDoorProg
namespace Go.Am
open Go
set_option linter.unusedVariables false
set_option linter.unusedSimpArgs false
theorem X3 {α σ ε:Type}{b:Nat→α→σ→R (σ ⊕ ε)}(hb : ∀ j a s,∃ x,b j a s=.ok x) : ∀ (l:List α) (k:Nat) (s:σ),∃ x,each b k l s=.ok x
 | [],k,s=>⟨_,rfl⟩
 | a::l,k,s=>by
  obtain⟨x,h⟩:=hb k a s
  rw [S4,h,R.ok_bind]
  cases x with
  | inl s'=>exact X3 hb l (k+1) s'
  | inr e=>exact⟨_,rfl⟩
theorem Ph {α β:Type}{x:R α}{f:α→R β}(hx : ∃ a,x=.ok a)(hf : ∀ a,∃ b,f a=.ok b) : ∃ b,x.bind f=.ok b:=by
 obtain⟨a,rfl⟩:=hx
 exact hf a
theorem Ac4 {β:Type}{c:Prop}[Decidable c]{x y:R β}(hx : ∃ a,x=.ok a)(hy : ∃ a,y=.ok a) : ∃ b,(if c then x else y)=.ok b:=by
 split
 ·exact hx
 ·exact hy
theorem Ac6 {α β γ:Type}{f:α→R γ}{g:β→R γ}(hf : ∀ a,∃ b,f a=.ok b)(hg : ∀ a,∃ b,g a=.ok b) : ∀ x,∃ b,C6 f g x=.ok b:=fun x=>by
 cases x with
 | inl a=>exact hf a
 | inr b=>exact hg b
theorem Yj (l:List Aw) : ∃ b,Me l=.ok b:=by
 unfold Me
 exact Ph (X3 (fun j a s=>by unfold Ny; exact Ac4 ⟨_,rfl⟩ ⟨_,rfl⟩) _ _ _) (Ac6 (fun _=>⟨_,rfl⟩) fun _=>⟨_,rfl⟩)
theorem Arr (a:Airspace) : ∃ b,V6 a=.ok b∧(b=true→a.Volumes.length≤70∧a.Sectors.length≤70∧a.Configs.length≤40∧a.Segments.length≤130∧a.Routes.length≤70∧a.Airports.length≤20∧a.Classes.length≤12∧a.Rules.length≤70):=by
 unfold V6
 split
 ·exact⟨false,rfl,fun h=>nomatch h⟩
 ·rename_i h
  simp only [Bool.or_eq_true,decide_eq_true_eq] at h
  obtain⟨b,hb⟩ : ∃ b,((Di (fun _ a1=>fun x=>Rm a1 x) 0 a.Volumes 0).bind ((fun x=>(each (fun _ a2=>fun x2=>Oi a2 x2) 0 a.Sectors x).bind (C6 (fun x2=>(each (fun _ a3=>fun x4=>Mr a3 x4) 0 a.Configs x2).bind (C6 (fun x4=>(Di (fun _ a4=>fun x6=>M6 a4 x6) 0 a.Segments x4).bind ((fun x6=>(each (fun _ a5=>fun x8=>Kk a5 x8) 0 a.Routes x6).bind (C6 (fun x8=>(Di (fun _ a6=>fun x10=>Ko a6 x10) 0 a.Airports x8).bind ((fun x10=>.ok (decide (x10≤600))))) (fun r=>.ok r))))) (fun r=>.ok r))) (fun r=>.ok r)))):R Bool)=.ok b:=by
   refine Ph (Xc (fun _ _ _=>⟨_,rfl⟩) _ _ _) fun x=>Ph (X3 (fun j a s=>by unfold Oi; exact Ph (Yj _) fun _=>Ac4 ⟨_,rfl⟩ ⟨_,rfl⟩) _ _ _) (Ac6 (fun x=>?_) fun _=>⟨_,rfl⟩)
   refine Ph (X3 (fun j a s=>by unfold Mr; exact Ph (Yj _) fun _=>Ac4 ⟨_,rfl⟩ ⟨_,rfl⟩) _ _ _) (Ac6 (fun x=>?_) fun _=>⟨_,rfl⟩)
   refine Ph (Xc (fun _ _ _=>⟨_,rfl⟩) _ _ _) fun x=>Ph (X3 (fun j a s=>by unfold Kk; exact Ph (Yj _) fun _=>Ac4 ⟨_,rfl⟩ ⟨_,rfl⟩) _ _ _) (Ac6 (fun x=>?_) fun _=>⟨_,rfl⟩)
   exact Ph (Xc (fun _ _ _=>⟨_,rfl⟩) _ _ _) fun x=>⟨_,rfl⟩
  exact⟨b,hb,fun _=>by omega⟩
theorem Ag7 (a:Airspace)(h:a.Sectors.length≤130∧a.Configs.length≤130∧a.Segments.length≤130∧a.Routes.length≤130∧a.Rules.length≤130):On a=.ok (Yy a):=by
 obtain⟨h1,h2,h3,h4,h5⟩:=h
 have hL:(1000000:Nat)≤Em:=by decide
 unfold On
 rw [Ta (b:=fun _ x s=>L4 x s) (g:=Abp) (c:=80) (fun _ _ _=>rfl) a.Sectors 0 [] (by simp; omega),R.ok_bind]
 rw [Ta (b:=fun _ x s=>Kh x s) (g:=Ab7) (c:=64) (fun _ _ _=>rfl) a.Configs 0 [] (by simp; omega),R.ok_bind]
 rw [Ta (b:=fun _ x s=>Ik x s) (g:=Abr) (c:=72) (fun _ _ _=>rfl) a.Segments 0 [] (by simp; omega),R.ok_bind]
 rw [Ta (b:=fun _ x s=>G5 x s) (g:=Acu) (c:=112) (fun _ _ _=>rfl) a.Routes 0 [] (by simp; omega),R.ok_bind]
 rw [Ta (b:=fun _ x s=>Gd x s) (g:=Acm) (c:=80) (fun _ _ _=>rfl) a.Rules 0 [] (by simp; omega),R.ok_bind]
 rfl
theorem Amm (a:Airspace):Pp (Yy a)=Pp a:=by
 unfold Pp Yy
 simp only [List.flatMap_map]
 rfl
theorem Al4 {a:Airspace}(h:GoodA a):GoodA (Yy a) where
 fits:=by
  obtain⟨f1,f2,f3,f4,f5,f6,f7,f8⟩:=h.fits
  simp only [Zf,Yy,List.length_map]
  exact⟨f1,f2,f3,f4,f5,f6,f7,f8⟩
 vol:=h.vol
 sec:=fun x hx=>by
  obtain⟨y,hy,rfl⟩:=List.mem_map.1 hx
  exact h.sec y hy
 con:=fun x hx=>by
  obtain⟨y,hy,rfl⟩:=List.mem_map.1 hx
  exact h.con y hy
 seg:=fun x hx=>by
  obtain⟨y,hy,rfl⟩:=List.mem_map.1 hx
  exact h.seg y hy
 rou:=fun x hx=>by
  obtain⟨y,hy,rfl⟩:=List.mem_map.1 hx
  exact h.rou y hy
 air:=h.air
 cla:=h.cla
 rul:=fun x hx=>by
  obtain⟨y,hy,rfl⟩:=List.mem_map.1 hx
  exact h.rul y hy
theorem Ag4 {a:Airspace}(h:GoodA a)(hl:(Zq a).length≤65536):Vc (Zq a)=(Yy a,0,0):=by
 obtain⟨r,h1,h2⟩:=Amv (Afc h) 0
 rw [Ajk hl h1]
 have hn:=Age _ _ h2
 have e2:Al8 (Q7 (Pp a))=Al8 (Q7 r):=by rw [← Af6,← Af6,hn]
 rw [Alz h] at e2
 cases h3:Q7 r with
 | ok B=>rw [h3] at e2; cases e2; rfl
 | error x=>rw [h3] at e2; cases e2
theorem App {a:Airspace}(h:M8.bulk a≤1048576):Mid 1048576 a where
 vol:=fun x hx=>by
  have h1:=Xp (st:=2) (T:=Vb) hx
  have h2:=Xv (st:=2) (T:=R9) (fun _=>Nat.le_add_left _ _) x.Closed
  simp only [M8,Vb] at h h1 h2; omega
 sec:=fun x hx=>by
  have h1:=Xp (st:=5) (T:=U5) hx
  have h2:=Xv (st:=1) (T:=E8) (fun _=>Nat.le_add_left _ _) x.Names
  simp only [M8,U5] at h h1 h2; omega
 con:=fun x hx=>by
  have h1:=Xp (st:=3) (T:=Vd) hx
  have h2:=Xv (st:=1) (T:=E8) (fun _=>Nat.le_add_left _ _) x.Names
  simp only [M8,Vd] at h h1 h2; omega
 seg:=fun x hx=>by
  have h1:=Xp (st:=5) (T:=Sz) hx
  have h2:=Xv (st:=2) (T:=R9) (fun _=>Nat.le_add_left _ _) x.Open
  simp only [M8,Sz] at h h1 h2; omega
 rou:=fun x hx=>by
  have h1:=Xp (st:=7) (T:=X8) hx
  have h2:=Xv (st:=1) (T:=E8) (fun _=>Nat.le_add_left _ _) x.Names
  simp only [M8,X8] at h h1 h2; omega
 air:=fun x hx=>by
  have h1:=Xp (st:=2) (T:=Ss) hx
  have h2:=Xv (st:=2) (T:=Ac1) (fun _=>Nat.le_add_left _ _) x.Modes
  simp only [M8,Ss] at h h1 h2; omega
theorem law_SyntaxBack:Pu:=by
 intro a _ hb
 unfold Qf
 rw [Ao8,R.ok_bind,if_pos rfl]
 obtain⟨b,h1,h2⟩:=Arr a
 rw [h1,R.ok_bind]
 cases b with
 | false=>rfl
 | true=>
  rw [if_pos rfl]
  obtain⟨c1,c2,c3,c4,c5,c6,c7,c8⟩:=h2 rfl
  have hlen:=Ahy (App hb)
  by_cases hg:GoodA a
  ·rw [Ad8 hg,R.ok_bind]
   by_cases hl:(Zq a).length≤65536
   ·rw [if_neg (by simp; omega),Ai1,R.ok_bind,Ag4 hg hl]
    rw [Ad8 (Al4 hg),R.ok_bind,Ag7 a (by omega)]
    simp only [beq_self_eq_true,if_true,R.ok_bind,Ajw]
    unfold Zq
    rw [Amm]
    simp
   ·rw [if_pos (by simp; omega)]; rfl
  ·rw [Ans hg (by omega),R.ok_bind]; rfl
end Go.Am
namespace Go.Proofs
open Go.Shelf
def Tryz.lays156_ren:Go.Shelf.Ren:=⟨fun | 156=>61 | 165=>110 | 166=>111 | 169=>112 | 240=>121 | 241=>122 | 276=>134 | 277=>135 | n=>n,fun | 31=>55 | 9=>9 | 3=>3 | 4=>4 | 0=>0 | 20=>20 | 72=>176 | 76=>170 | 70=>173 | 37=>174 | 75=>169 | 127=>184 | 164=>198 | 5=>5 | 80=>178 | n=>n,fun | n=>n⟩
theorem Tryz.lays156:Go.Proofs.Lays.n156 Tryz.prog Tryz.lays156_ren:={
 mixed:=by kernel_rfl
 f156:=Tryz.func61.trans (congrArg some (by kernel_rfl))
 f165:=Tryz.func110.trans (congrArg some (by kernel_rfl))
 f166:=Tryz.func111.trans (congrArg some (by kernel_rfl))
 f169:=Tryz.func112.trans (congrArg some (by kernel_rfl))
 f240:=Tryz.func121.trans (congrArg some (by kernel_rfl))
 f241:=Tryz.func122.trans (congrArg some (by kernel_rfl))
 f276:=Tryz.func134.trans (congrArg some (by kernel_rfl))
 f277:=Tryz.func135.trans (congrArg some (by kernel_rfl))
 t0:=Tryz.underlying0
 a0:=Tryz.isAgg0
 z0:=Tryz.sizeOf0
 v0:=Tryz.zeroValue0
 t3:=Tryz.underlying3
 a3:=Tryz.isAgg3
 z3:=Tryz.sizeOf3
 v3:=Tryz.zeroValue3
 t4:=Tryz.underlying4
 a4:=Tryz.isAgg4
 z4:=Tryz.sizeOf4
 v4:=Tryz.zeroValue4
 t9:=Tryz.underlying9
 a9:=Tryz.isAgg9
 z9:=Tryz.sizeOf9
 v9:=Tryz.zeroValue9
 t20:=Tryz.underlying20
 a20:=Tryz.isAgg20
 z20:=Tryz.sizeOf20
 v20:=Tryz.zeroValue20
 t31:=Tryz.underlying55
 a31:=Tryz.isAgg55
 z31:=Tryz.sizeOf55
 v31:=Tryz.zeroValue55
 t37:=Tryz.underlying174
 a37:=Tryz.isAgg174
 z37:=Tryz.sizeOf174
 v37:=Tryz.zeroValue174
 t70:=Tryz.underlying173
 a70:=Tryz.isAgg173
 z70:=Tryz.sizeOf173
 v70:=Tryz.zeroValue173
 t72:=Tryz.underlying176
 a72:=Tryz.isAgg176
 z72:=Tryz.sizeOf176
 v72:=Tryz.zeroValue176
 t75:=Tryz.underlying169
 a75:=Tryz.isAgg169
 z75:=Tryz.sizeOf169
 v75:=Tryz.zeroValue169
 t76:=Tryz.underlying170
 a76:=Tryz.isAgg170
 z76:=Tryz.sizeOf170
 v76:=Tryz.zeroValue170
 t127:=Tryz.underlying184
 a127:=Tryz.isAgg184
 z127:=Tryz.sizeOf184
 v127:=Tryz.zeroValue184
 t164:=Tryz.underlying198
 a164:=Tryz.isAgg198
 z164:=Tryz.sizeOf198
 v164:=Tryz.zeroValue198 }
theorem Tryz.Builder_Extra_156:Builder.Extra Tryz.prog Tryz.lays156_ren:={
 sizeBuilder:=by kernel_rfl
 liesBuilder:=by kernel_rfl
 t5:=Tryz.underlying5
 a5:=Tryz.isAgg5
 z5:=Tryz.sizeOf5
 v5:=Tryz.zeroValue5
 infoByte:=by kernel_rfl
 cellsByte:=by kernel_rfl
 sizeByte:=by kernel_rfl
 neB5:=by decide }
open Go.RowKit in
theorem Tryz.strings_Join_none (a : Option Addr) (c : Nat) (sep : ByteArray) (w : World) :
  Calls Tryz.prog 61 #[.slice a 0 c, .string sep] w fun e w' => e = .returned (.string ⟨#[]⟩) ∧ w' = w := Any.strings_Join_none Tryz.lays156 Tryz.Builder_Extra_156 a c sep w
open Go.RowKit in
theorem Tryz.strings_Join (bk o c : Nat) (xs : List ByteArray) (sep : ByteArray) (w : World) (hcells : ∀ (j : Nat) x, xs[j]? = some x → w.cell? ⟨bk, o + j, none⟩ = some (.string x)) (hbk : bk < w.heap.size) (hN : xs.length ≤ 140737488355328) (hcap : xs.length ≤ c) (hlen : (Lib.join (xs.map (·.data.toList)) sep.data.toList).length ≤ 140737488355328) :
  Calls Tryz.prog 61 #[.slice (some ⟨bk, o, none⟩) xs.length c, .string sep] w fun e w' => e = .returned (.string ⟨(Lib.join (xs.map (·.data.toList)) sep.data.toList).toArray⟩) ∧ Below w.heap.size w w' := Any.strings_Join Tryz.lays156 Tryz.Builder_Extra_156 bk o c xs sep w hcells hbk hN hcap hlen
def Tryz.lays137_ren:Go.Shelf.Ren:=⟨fun | 137=>108 | 217=>119 | 266=>129 | n=>n,fun | 9=>9 | 5=>5 | 3=>3 | n=>n,fun | n=>n⟩
theorem Tryz.lays137:Go.Proofs.Lays.n137 Tryz.prog Tryz.lays137_ren:={
 mixed:=by kernel_rfl
 f137:=Tryz.func108.trans (congrArg some (by kernel_rfl))
 f217:=Tryz.func119.trans (congrArg some (by kernel_rfl))
 f266:=Tryz.func129.trans (congrArg some (by kernel_rfl))
 t3:=Tryz.underlying3
 a3:=Tryz.isAgg3
 z3:=Tryz.sizeOf3
 v3:=Tryz.zeroValue3
 t5:=Tryz.underlying5
 a5:=Tryz.isAgg5
 z5:=Tryz.sizeOf5
 v5:=Tryz.zeroValue5
 t9:=Tryz.underlying9
 a9:=Tryz.isAgg9
 z9:=Tryz.sizeOf9
 v9:=Tryz.zeroValue9 }
open Go.RowKit in
theorem Tryz.strings_IndexByte (s : ByteArray) (c : Int) (w : World) :
  Calls Tryz.prog 108 #[.string s, .int .u8 c] w fun e w' => e = .returned (.int .i64 (Lib.indexByte s.data.toList c.toNat.toUInt8)) ∧ w' = w := Any.strings_IndexByte Tryz.lays137 s c w
def Tryz.laysM171_ren:Go.Shelf.Ren:=⟨fun | 171=>60 | 243=>109 | 246=>120 | 283=>130 | 284=>131 | 285=>132 | 286=>133 | 129=>140 | 317=>139 | 318=>141 | 319=>142 | 320=>143 | 337=>146 | 338=>147 | n=>n,fun | 3=>3 | 9=>9 | 2=>2 | 4=>4 | 171=>192 | 0=>0 | 53=>193 | 37=>174 | 5=>5 | 173=>196 | 212=>210 | 51=>211 | 20=>20 | 213=>212 | 46=>203 | 232=>220 | 233=>221 | n=>n,fun | 17=>4 | 18=>5 | 19=>6 | n=>n⟩
theorem Tryz.laysM171:Go.Proofs.LaysM.n171 Tryz.prog Tryz.laysM171_ren:={
 mixed:=by kernel_rfl
 f129:=Tryz.func140.trans (congrArg some (by kernel_rfl))
 f171:=Tryz.func60.trans (congrArg some (by kernel_rfl))
 f243:=Tryz.func109.trans (congrArg some (by kernel_rfl))
 f246:=Tryz.func120.trans (congrArg some (by kernel_rfl))
 f283:=Tryz.func130.trans (congrArg some (by kernel_rfl))
 f284:=Tryz.func131.trans (congrArg some (by kernel_rfl))
 f285:=Tryz.func132.trans (congrArg some (by kernel_rfl))
 f286:=Tryz.func133.trans (congrArg some (by kernel_rfl))
 f317:=Tryz.func139.trans (congrArg some (by kernel_rfl))
 f318:=Tryz.func141.trans (congrArg some (by kernel_rfl))
 f319:=Tryz.func142.trans (congrArg some (by kernel_rfl))
 f320:=Tryz.func143.trans (congrArg some (by kernel_rfl))
 f337:=Tryz.func146.trans (congrArg some (by kernel_rfl))
 f338:=Tryz.func147.trans (congrArg some (by kernel_rfl))
 t0:=Tryz.underlying0
 a0:=Tryz.isAgg0
 z0:=Tryz.sizeOf0
 v0:=Tryz.zeroValue0
 t2:=Tryz.underlying2
 a2:=Tryz.isAgg2
 z2:=Tryz.sizeOf2
 v2:=Tryz.zeroValue2
 t3:=Tryz.underlying3
 a3:=Tryz.isAgg3
 z3:=Tryz.sizeOf3
 v3:=Tryz.zeroValue3
 t4:=Tryz.underlying4
 a4:=Tryz.isAgg4
 z4:=Tryz.sizeOf4
 v4:=Tryz.zeroValue4
 t5:=Tryz.underlying5
 a5:=Tryz.isAgg5
 z5:=Tryz.sizeOf5
 v5:=Tryz.zeroValue5
 t9:=Tryz.underlying9
 a9:=Tryz.isAgg9
 z9:=Tryz.sizeOf9
 v9:=Tryz.zeroValue9
 t20:=Tryz.underlying20
 a20:=Tryz.isAgg20
 z20:=Tryz.sizeOf20
 v20:=Tryz.zeroValue20
 t37:=Tryz.underlying174
 a37:=Tryz.isAgg174
 z37:=Tryz.sizeOf174
 v37:=Tryz.zeroValue174
 t46:=Tryz.underlying203
 a46:=Tryz.isAgg203
 z46:=Tryz.sizeOf203
 v46:=Tryz.zeroValue203
 t51:=Tryz.underlying211
 a51:=Tryz.isAgg211
 z51:=Tryz.sizeOf211
 v51:=Tryz.zeroValue211
 t53:=Tryz.underlying193
 a53:=Tryz.isAgg193
 z53:=Tryz.sizeOf193
 v53:=Tryz.zeroValue193
 t171:=Tryz.underlying192
 a171:=Tryz.isAgg192
 z171:=Tryz.sizeOf192
 v171:=Tryz.zeroValue192
 t173:=Tryz.underlying196
 a173:=Tryz.isAgg196
 z173:=Tryz.sizeOf196
 v173:=Tryz.zeroValue196
 t212:=Tryz.underlying210
 a212:=Tryz.isAgg210
 z212:=Tryz.sizeOf210
 v212:=Tryz.zeroValue210
 t213:=Tryz.underlying212
 a213:=Tryz.isAgg212
 z213:=Tryz.sizeOf212
 t232:=Tryz.underlying220
 a232:=Tryz.isAgg220
 z232:=Tryz.sizeOf220
 v232:=Tryz.zeroValue220
 t233:=Tryz.underlying221
 a233:=Tryz.isAgg221
 z233:=Tryz.sizeOf221
 v233:=Tryz.zeroValue221
 g17:=by kernel_rfl
 g18:=by kernel_rfl
 g19:=by kernel_rfl
 i0:=by kernel_rfl
 i2:=by kernel_rfl
 i3:=by kernel_rfl
 i4:=by kernel_rfl
 i5:=by kernel_rfl
 i9:=by kernel_rfl
 i20:=by kernel_rfl
 i37:=by kernel_rfl
 i46:=by kernel_rfl
 i51:=by kernel_rfl
 i53:=by kernel_rfl
 i171:=by kernel_rfl
 i173:=by kernel_rfl
 i212:=by kernel_rfl
 i232:=by kernel_rfl
 i233:=by kernel_rfl
 m17:=by kernel_rfl
 m18:=by kernel_rfl
 m19:=by kernel_rfl }
open Go.RowKit Go.Sort Go.Lib in
theorem Tryz.strconv_Itoa (n : Int) (h0 : -9223372036854775808 ≤ n) (h1 : n ≤ 9223372036854775807) (w : World) (htab : Lib.TabIs Tryz.prog w "internal/strconv.uint64pow10" .u64 Lib.pow10Tab) :
  Calls Tryz.prog 60 #[.int .i64 n] w fun e w' => e = .returned (.string ⟨(Lib.itoa n).toArray⟩) ∧ ∃ k os, w' = grow (w.drewN k) os := Any.strconv_Itoa Tryz.laysM171 n h0 h1 w htab
def Tryz.laysC172_ren:Go.Shelf.Ren:=⟨fun | 172=>106 | 244=>116 | 245=>117 | 247=>124 | 279=>125 | 280=>126 | 281=>127 | 282=>128 | 287=>136 | 316=>137 | 171=>60 | 205=>138 | 321=>144 | 322=>145 | 243=>109 | 246=>120 | 283=>130 | 284=>131 | 285=>132 | 286=>133 | 129=>140 | 317=>139 | 318=>141 | 319=>142 | 320=>143 | 337=>146 | 338=>147 | n=>n,fun | 9=>9 | 3=>3 | 75=>169 | 76=>170 | 4=>4 | 5=>5 | 167=>186 | 37=>174 | 0=>0 | 85=>187 | 2=>2 | 168=>189 | 53=>193 | 175=>201 | 46=>203 | 210=>206 | 127=>184 | 145=>218 | 143=>216 | 21=>21 | 171=>192 | 173=>196 | 212=>210 | 51=>211 | 20=>20 | 213=>212 | 232=>220 | 233=>221 | 80=>178 | n=>n,fun | 15=>1 | 16=>2 | 17=>4 | 18=>5 | 19=>6 | n=>n⟩
theorem Tryz.laysC172:Go.Proofs.LaysC.n172 Tryz.prog Tryz.laysC172_ren:={
 mixed:=by kernel_rfl
 f129:=Tryz.func140.trans (congrArg some (by kernel_rfl))
 f171:=Tryz.func60.trans (congrArg some (by kernel_rfl))
 f172:=Tryz.func106.trans (congrArg some (by kernel_rfl))
 f205:=Tryz.func138.trans (congrArg some (by kernel_rfl))
 f243:=Tryz.func109.trans (congrArg some (by kernel_rfl))
 f244:=Tryz.func116.trans (congrArg some (by kernel_rfl))
 f245:=Tryz.func117.trans (congrArg some (by kernel_rfl))
 f246:=Tryz.func120.trans (congrArg some (by kernel_rfl))
 f247:=Tryz.func124.trans (congrArg some (by kernel_rfl))
 f279:=Tryz.func125.trans (congrArg some (by kernel_rfl))
 f280:=Tryz.func126.trans (congrArg some (by kernel_rfl))
 f281:=Tryz.func127.trans (congrArg some (by kernel_rfl))
 f282:=Tryz.func128.trans (congrArg some (by kernel_rfl))
 f283:=Tryz.func130.trans (congrArg some (by kernel_rfl))
 f284:=Tryz.func131.trans (congrArg some (by kernel_rfl))
 f285:=Tryz.func132.trans (congrArg some (by kernel_rfl))
 f286:=Tryz.func133.trans (congrArg some (by kernel_rfl))
 f287:=Tryz.func136.trans (congrArg some (by kernel_rfl))
 f316:=Tryz.func137.trans (congrArg some (by kernel_rfl))
 f317:=Tryz.func139.trans (congrArg some (by kernel_rfl))
 f318:=Tryz.func141.trans (congrArg some (by kernel_rfl))
 f319:=Tryz.func142.trans (congrArg some (by kernel_rfl))
 f320:=Tryz.func143.trans (congrArg some (by kernel_rfl))
 f321:=Tryz.func144.trans (congrArg some (by kernel_rfl))
 f322:=Tryz.func145.trans (congrArg some (by kernel_rfl))
 f337:=Tryz.func146.trans (congrArg some (by kernel_rfl))
 f338:=Tryz.func147.trans (congrArg some (by kernel_rfl))
 t0:=Tryz.underlying0
 a0:=Tryz.isAgg0
 z0:=Tryz.sizeOf0
 v0:=Tryz.zeroValue0
 t2:=Tryz.underlying2
 a2:=Tryz.isAgg2
 z2:=Tryz.sizeOf2
 v2:=Tryz.zeroValue2
 t3:=Tryz.underlying3
 a3:=Tryz.isAgg3
 z3:=Tryz.sizeOf3
 v3:=Tryz.zeroValue3
 t4:=Tryz.underlying4
 a4:=Tryz.isAgg4
 z4:=Tryz.sizeOf4
 v4:=Tryz.zeroValue4
 t5:=Tryz.underlying5
 a5:=Tryz.isAgg5
 z5:=Tryz.sizeOf5
 v5:=Tryz.zeroValue5
 t9:=Tryz.underlying9
 a9:=Tryz.isAgg9
 z9:=Tryz.sizeOf9
 v9:=Tryz.zeroValue9
 t20:=Tryz.underlying20
 a20:=Tryz.isAgg20
 z20:=Tryz.sizeOf20
 v20:=Tryz.zeroValue20
 t21:=Tryz.underlying21
 a21:=Tryz.isAgg21
 z21:=Tryz.sizeOf21
 v21:=Tryz.zeroValue21
 t37:=Tryz.underlying174
 a37:=Tryz.isAgg174
 z37:=Tryz.sizeOf174
 v37:=Tryz.zeroValue174
 t46:=Tryz.underlying203
 a46:=Tryz.isAgg203
 z46:=Tryz.sizeOf203
 v46:=Tryz.zeroValue203
 t51:=Tryz.underlying211
 a51:=Tryz.isAgg211
 z51:=Tryz.sizeOf211
 v51:=Tryz.zeroValue211
 t53:=Tryz.underlying193
 a53:=Tryz.isAgg193
 z53:=Tryz.sizeOf193
 v53:=Tryz.zeroValue193
 t75:=Tryz.underlying169
 a75:=Tryz.isAgg169
 z75:=Tryz.sizeOf169
 v75:=Tryz.zeroValue169
 t76:=Tryz.underlying170
 a76:=Tryz.isAgg170
 z76:=Tryz.sizeOf170
 v76:=Tryz.zeroValue170
 t85:=Tryz.underlying187
 a85:=Tryz.isAgg187
 z85:=Tryz.sizeOf187
 v85:=Tryz.zeroValue187
 t127:=Tryz.underlying184
 a127:=Tryz.isAgg184
 z127:=Tryz.sizeOf184
 v127:=Tryz.zeroValue184
 t143:=Tryz.underlying216
 a143:=Tryz.isAgg216
 z143:=Tryz.sizeOf216
 v143:=Tryz.zeroValue216
 t145:=Tryz.underlying218
 a145:=Tryz.isAgg218
 z145:=Tryz.sizeOf218
 v145:=Tryz.zeroValue218
 t167:=Tryz.underlying186
 a167:=Tryz.isAgg186
 z167:=Tryz.sizeOf186
 v167:=Tryz.zeroValue186
 t168:=Tryz.underlying189
 a168:=Tryz.isAgg189
 z168:=Tryz.sizeOf189
 v168:=Tryz.zeroValue189
 t171:=Tryz.underlying192
 a171:=Tryz.isAgg192
 z171:=Tryz.sizeOf192
 v171:=Tryz.zeroValue192
 t173:=Tryz.underlying196
 a173:=Tryz.isAgg196
 z173:=Tryz.sizeOf196
 v173:=Tryz.zeroValue196
 t175:=Tryz.underlying201
 a175:=Tryz.isAgg201
 z175:=Tryz.sizeOf201
 v175:=Tryz.zeroValue201
 t210:=Tryz.underlying206
 a210:=Tryz.isAgg206
 z210:=Tryz.sizeOf206
 v210:=Tryz.zeroValue206
 t212:=Tryz.underlying210
 a212:=Tryz.isAgg210
 z212:=Tryz.sizeOf210
 v212:=Tryz.zeroValue210
 t213:=Tryz.underlying212
 a213:=Tryz.isAgg212
 z213:=Tryz.sizeOf212
 t232:=Tryz.underlying220
 a232:=Tryz.isAgg220
 z232:=Tryz.sizeOf220
 v232:=Tryz.zeroValue220
 t233:=Tryz.underlying221
 a233:=Tryz.isAgg221
 z233:=Tryz.sizeOf221
 v233:=Tryz.zeroValue221
 g15:=by kernel_rfl
 g16:=by kernel_rfl
 g17:=by kernel_rfl
 g18:=by kernel_rfl
 g19:=by kernel_rfl
 t80:=Tryz.underlying178
 a80:=Tryz.isAgg178
 z80:=Tryz.sizeOf178
 v80:=Tryz.zeroValue178
 i0:=by kernel_rfl
 i2:=by kernel_rfl
 i3:=by kernel_rfl
 i4:=by kernel_rfl
 i5:=by kernel_rfl
 i9:=by kernel_rfl
 i20:=by kernel_rfl
 i21:=by kernel_rfl
 i37:=by kernel_rfl
 i46:=by kernel_rfl
 i51:=by kernel_rfl
 i53:=by kernel_rfl
 i75:=by kernel_rfl
 i76:=by kernel_rfl
 i80:=by kernel_rfl
 i85:=by kernel_rfl
 i127:=by kernel_rfl
 i143:=by kernel_rfl
 i145:=by kernel_rfl
 i167:=by kernel_rfl
 i168:=by kernel_rfl
 i171:=by kernel_rfl
 i173:=by kernel_rfl
 i175:=by kernel_rfl
 i210:=by kernel_rfl
 i212:=by kernel_rfl
 i232:=by kernel_rfl
 i233:=by kernel_rfl
 m15:=by kernel_rfl
 m16:=by kernel_rfl
 m17:=by kernel_rfl
 m18:=by kernel_rfl
 m19:=by kernel_rfl
 c0:=by kernel_rfl
 c2:=by kernel_rfl
 c3:=by kernel_rfl
 c4:=by kernel_rfl
 c5:=by kernel_rfl
 c9:=by kernel_rfl
 c20:=by kernel_rfl
 c21:=by kernel_rfl
 c37:=by kernel_rfl
 c46:=by kernel_rfl
 c51:=by kernel_rfl
 c53:=by kernel_rfl
 c75:=by kernel_rfl
 c76:=by kernel_rfl
 c80:=by kernel_rfl
 c85:=by kernel_rfl
 c127:=by kernel_rfl
 c143:=by kernel_rfl
 c145:=by kernel_rfl
 c167:=by kernel_rfl
 c168:=by kernel_rfl
 c171:=by kernel_rfl
 c173:=by kernel_rfl
 c175:=by kernel_rfl
 c210:=by kernel_rfl
 c212:=by kernel_rfl
 c213:=by kernel_rfl
 c232:=by kernel_rfl
 c233:=by kernel_rfl }
open Go.RowKit in
theorem Tryz.strconv_Atoi_ok (s : ByteArray) (hmax : s.size ≤ 9223372036854775806) (v : Int) (h : Lib.atoiAll s.data.toList = .ok v) (w : World) :
  Calls Tryz.prog 106 #[.string s] w fun e w' => e = .returned (.tuple #[.int .i64 v, .nilIface]) ∧ (w' = w ∨ ∃ t, w' = Lib.bytesWorld w 5 t) := Any.strconv_Atoi_ok Tryz.laysC172 s hmax v h w
open Go.RowKit in
theorem Tryz.strconv_Atoi_syntax_var (s : ByteArray) (hlim : s.size ≤ 281474976710656) (h : Lib.atoiAll s.data.toList = Lib.NumEnd.syntax) (tp : TypeId) (p : Value) (w : World) (hvar : w.var? Tryz.prog "strconv.ErrSyntax" = some #[.iface tp p]) :
  Calls Tryz.prog 106 #[.string s] w fun e w' => ∃ N, e = .returned (.tuple #[.int .i64 0, .iface 189 (.pointer (some ⟨N, 0, none⟩))]) ∧ w.heap.size ≤ N ∧ w'.heap[N]? = some (.cells #[.string ⟨#[65, 116, 111, 105]⟩, .string s, .iface tp p] 206 (0, 0)) ∧ Below w.heap.size w w' := Any.strconv_Atoi_syntax_var Tryz.laysC172 s hlim h tp p w hvar
open Go.RowKit in
theorem Tryz.strconv_Atoi_range_var (s : ByteArray) (hlim : s.size ≤ 281474976710656) (h : Lib.atoiAll s.data.toList = .range) (tp : TypeId) (p : Value) (w : World) (hvar : w.var? Tryz.prog "strconv.ErrRange" = some #[.iface tp p]) :
  Calls Tryz.prog 106 #[.string s] w fun e w' => ∃ N, e = .returned (.tuple #[.int .i64 (Lib.atoiSat s.data.toList), .iface 189 (.pointer (some ⟨N, 0, none⟩))]) ∧ w.heap.size ≤ N ∧ w'.heap[N]? = some (.cells #[.string ⟨#[65, 116, 111, 105]⟩, .string s, .iface tp p] 206 (0, 0)) ∧ Below w.heap.size w w' := Any.strconv_Atoi_range_var Tryz.laysC172 s hlim h tp p w hvar
end Go.Proofs
namespace Go.Am
open Go Go.Proofs
set_option linter.unusedVariables false
set_option linter.unusedSimpArgs false
theorem Aid {w w':World}{s:String}(hs:(Tryz.prog.globalNamed s).all (fun g=>Nat.blt g 7)=true)(e : ∀ b,b<7→w'.heap[b]? = w.heap[b]?):w'.var? Tryz.prog s=w.var? Tryz.prog s:=by
 unfold World.var?
 cases hq:Tryz.prog.globalNamed s with
 | none=>rfl
 | some g=>
  rw [hq] at hs
  simp only [Option.bind_some]
  rw [e g (by simpa using hs)]
def GWp (w : World) : Prop := ((∃ tp p, w.var? Tryz.prog "strconv.ErrRange" = some #[.iface tp p])) ∧ ((∃ tp p, w.var? Tryz.prog "strconv.ErrSyntax" = some #[.iface tp p])) ∧ (Lib.TabIs Tryz.prog w "internal/strconv.uint64pow10" .u64 Lib.pow10Tab)
theorem Aqb {w w':World}(e : ∀ b,b<7→w'.heap[b]? = w.heap[b]?)(k:GWp w):GWp w':=⟨(by obtain⟨tp,p,h⟩:=k.1; exact⟨tp,p,by rw [Aid (by kernel_rfl) e]; exact h⟩),(by obtain⟨tp,p,h⟩:=k.2.1; exact⟨tp,p,by rw [Aid (by kernel_rfl) e]; exact h⟩),(by rw [Lib.TabIs,Aid (by kernel_rfl) e]; exact k.2.2)⟩
def Pk:List (Aw×Aw×FuncId):=[([97,105,114,112,111,114,116],[111,118,101,114,102,108,105,103,104,116,47,115,121,110,116,97,120,46,100,101,102,105,110,105,116,105,111,110,115,36,54],189),([99,108,97,115,115],[111,118,101,114,102,108,105,103,104,116,47,115,121,110,116,97,120,46,100,101,102,105,110,105,116,105,111,110,115,36,55],194),([99,111,110,102,105,103],[111,118,101,114,102,108,105,103,104,116,47,115,121,110,116,97,120,46,100,101,102,105,110,105,116,105,111,110,115,36,51],180),([99,117,114,102,101,119],[111,118,101,114,102,108,105,103,104,116,47,115,121,110,116,97,120,46,100,101,102,105,110,105,116,105,111,110,115,36,56],197),([101,120,101,109,112,116],[111,118,101,114,102,108,105,103,104,116,47,115,121,110,116,97,120,46,100,101,102,105,110,105,116,105,111,110,115,36,57],201),([108,111,110,103,101,115,116],[111,118,101,114,102,108,105,103,104,116,47,115,121,110,116,97,120,46,100,101,102,105,110,105,116,105,111,110,115,36,49,49],205),([114,111,117,116,101],[111,118,101,114,102,108,105,103,104,116,47,115,121,110,116,97,120,46,100,101,102,105,110,105,116,105,111,110,115,36,53],186),([115,101,99,116,111,114],[111,118,101,114,102,108,105,103,104,116,47,115,121,110,116,97,120,46,100,101,102,105,110,105,116,105,111,110,115,36,50],172),([115,101,103,109,101,110,116],[111,118,101,114,102,108,105,103,104,116,47,115,121,110,116,97,120,46,100,101,102,105,110,105,116,105,111,110,115,36,52],183),([118,111,108,117,109,101],[111,118,101,114,102,108,105,103,104,116,47,115,121,110,116,97,120,46,100,101,102,105,110,105,116,105,111,110,115,36,49],168),([119,101,105,103,104,116],[111,118,101,114,102,108,105,103,104,116,47,115,121,110,116,97,120,46,100,101,102,105,110,105,116,105,111,110,115,36,49,48],203)]
instance gwI:GW Tryz.prog where
 n:=7
 G:=fun m w=>GWp w∧FMapAt w m 0 (Kx Pk)
 keep:=fun hn e k=>⟨Aqb (fun b hb=>e b (Nat.lt_of_lt_of_le hb hn)) k.1,k.2.keep (Nat.lt_of_lt_of_le (by decide) hn) e⟩
 row:=fun b=>if b=0 then some [.mapc (Kx Pk)] else none
 rowOk:=by
  intro m w b r hn hm k hr
  by_cases h0:b=0
  ·subst h0
   simp at hr
   subst hr
   refine⟨by decide,fun mu M hM j hj=>?_⟩
   obtain rfl:j=0:=by simpa using hj
   exact k.2.rv hm hM
  simp [h0] at hr
theorem Aj3 {m : Nat} {w : World} (k : GW.G Tryz.prog m w) : (∃ tp p, w.var? Tryz.prog "strconv.ErrRange" = some #[.iface tp p]) := k.1.1
theorem Ahm {m : Nat} {w : World} (k : GW.G Tryz.prog m w) : (∃ tp p, w.var? Tryz.prog "strconv.ErrSyntax" = some #[.iface tp p]) := k.1.2.1
theorem Aon {m : Nat} {w : World} (k : GW.G Tryz.prog m w) : Lib.TabIs Tryz.prog w "internal/strconv.uint64pow10" .u64 Lib.pow10Tab := k.1.2.2
theorem Gk:Tryz.prog.follows .mixedOrders=true:=by kernel_rfl
theorem Dw:ti Tryz.prog 3=some ⟨.int .i64,1,8,[.int .i64 0]⟩:=by kernel_rfl
theorem Qu:ti Tryz.prog 4=some ⟨.bool,1,1,[.bool false]⟩:=by kernel_rfl
theorem Cz:ti Tryz.prog 9=some ⟨.str,1,16,[.str []]⟩:=by kernel_rfl
theorem Al9:ti Tryz.prog 20=some ⟨.ifc,1,16,[.nili]⟩:=by kernel_rfl
theorem Io:ti Tryz.prog 23=some ⟨.sl 54,1,24,[.emp]⟩:=by kernel_rfl
theorem H3:ti Tryz.prog 24=some ⟨.sl 58,1,24,[.emp]⟩:=by kernel_rfl
theorem Ja:ti Tryz.prog 25=some ⟨.sl 77,1,24,[.emp]⟩:=by kernel_rfl
theorem Jr:ti Tryz.prog 26=some ⟨.sl 79,1,24,[.emp]⟩:=by kernel_rfl
theorem I8:ti Tryz.prog 27=some ⟨.sl 81,1,24,[.emp]⟩:=by kernel_rfl
theorem Mh:ti Tryz.prog 28=some ⟨.sl 51,1,24,[.emp]⟩:=by kernel_rfl
theorem Mf:ti Tryz.prog 29=some ⟨.sl 85,1,24,[.emp]⟩:=by kernel_rfl
theorem E0:ti Tryz.prog 30=some ⟨.sl 62,1,24,[.emp]⟩:=by kernel_rfl
theorem Ee:ti Tryz.prog 32=some ⟨.st [(0,23),(1,24),(2,25),(3,26),(4,27),(5,28),(6,29),(7,30)],8,192,[.emp,.emp,.emp,.emp,.emp,.emp,.emp,.emp]⟩:=by kernel_rfl
theorem Oa:ti Tryz.prog 33=some ⟨.int .i64,1,8,[.int .i64 0]⟩:=by kernel_rfl
theorem C1:ti Tryz.prog 42=some ⟨.sl 47,1,24,[.emp]⟩:=by kernel_rfl
theorem Db:ti Tryz.prog 47=some ⟨.st [(0,3),(1,9),(2,3),(3,3)],4,40,[.int .i64 0,.str [],.int .i64 0,.int .i64 0]⟩:=by kernel_rfl
theorem N6:ti Tryz.prog 49=some ⟨.sl 83,1,24,[.emp]⟩:=by kernel_rfl
theorem Jo:ti Tryz.prog 51=some ⟨.st [(0,9),(1,49)],2,40,[.str [],.emp]⟩:=by kernel_rfl
theorem Lv:ti Tryz.prog 52=some ⟨.sl 60,1,24,[.emp]⟩:=by kernel_rfl
theorem Km:ti Tryz.prog 54=some ⟨.st [(0,9),(1,52)],2,40,[.str [],.emp]⟩:=by kernel_rfl
theorem Dy:ti Tryz.prog 55=some ⟨.sl 9,1,24,[.emp]⟩:=by kernel_rfl
theorem M4:ti Tryz.prog 56=some ⟨.sl 3,1,24,[.emp]⟩:=by kernel_rfl
theorem Gl:ti Tryz.prog 58=some ⟨.st [(0,9),(1,55),(2,56),(3,3),(4,3)],5,80,[.str [],.emp,.emp,.int .i64 0,.int .i64 0]⟩:=by kernel_rfl
theorem Lu:ti Tryz.prog 60=some ⟨.st [(0,3),(1,3)],2,16,[.int .i64 0,.int .i64 0]⟩:=by kernel_rfl
theorem Dp:ti Tryz.prog 62=some ⟨.st [(0,3),(1,9),(2,9),(3,3),(4,3),(5,3),(6,60)],8,80,[.int .i64 0,.str [],.str [],.int .i64 0,.int .i64 0,.int .i64 0,.int .i64 0,.int .i64 0]⟩:=by kernel_rfl
theorem Acf:ti Tryz.prog 64=some ⟨.st [(0,3),(1,33)],2,16,[.int .i64 0,.int .i64 0]⟩:=by kernel_rfl
theorem T8:ti Tryz.prog 66=some ⟨.ptr 68,1,8,[.nilp]⟩:=by kernel_rfl
theorem Aal:ti Tryz.prog 68=some ⟨.st [(0,42),(1,3),(2,32)],10,224,[.emp,.int .i64 0,.emp,.emp,.emp,.emp,.emp,.emp,.emp,.emp]⟩:=by kernel_rfl
theorem Ic:ti Tryz.prog 77=some ⟨.st [(0,9),(1,55),(2,56)],3,64,[.str [],.emp,.emp]⟩:=by kernel_rfl
theorem Hk:ti Tryz.prog 79=some ⟨.st [(0,9),(1,9),(2,3),(3,3),(4,52)],5,72,[.str [],.str [],.int .i64 0,.int .i64 0,.emp]⟩:=by kernel_rfl
theorem Gw:ti Tryz.prog 81=some ⟨.st [(0,9),(1,9),(2,9),(3,3),(4,3),(5,55),(6,56)],7,112,[.str [],.str [],.str [],.int .i64 0,.int .i64 0,.emp,.emp]⟩:=by kernel_rfl
theorem Py:ti Tryz.prog 83=some ⟨.st [(0,9),(1,3)],2,24,[.str [],.int .i64 0]⟩:=by kernel_rfl
theorem M7:ti Tryz.prog 85=some ⟨.st [(0,9),(1,3),(2,3),(3,3)],4,40,[.str [],.int .i64 0,.int .i64 0,.int .i64 0]⟩:=by kernel_rfl
theorem Afs:ti Tryz.prog 87=some ⟨.ptr 89,1,8,[.nilp]⟩:=by kernel_rfl
theorem Zc:ti Tryz.prog 89=some ⟨.st [(0,42),(1,4)],2,32,[.emp,.bool false]⟩:=by kernel_rfl
theorem Ap2:ti Tryz.prog 113=some ⟨.int .i64,1,8,[.int .i64 0]⟩:=by kernel_rfl
theorem Ac5:ti Tryz.prog 114=some ⟨.fn,1,8,[.nilf]⟩:=by kernel_rfl
theorem Yv:ti Tryz.prog 115=some ⟨.arr 6 114,6,48,[.nilf,.nilf,.nilf,.nilf,.nilf,.nilf]⟩:=by kernel_rfl
theorem Ap8:ti Tryz.prog 117=some ⟨.st [(0,115)],6,48,[.nilf,.nilf,.nilf,.nilf,.nilf,.nilf]⟩:=by kernel_rfl
theorem Pm:ti Tryz.prog 120=some ⟨.st [(0,9),(1,3),(2,42)],3,48,[.str [],.int .i64 0,.emp]⟩:=by kernel_rfl
theorem So:ti Tryz.prog 140=some ⟨.fn,1,8,[.nilf]⟩:=by kernel_rfl
theorem Rz:ti Tryz.prog 142=some ⟨.map 9 140,1,8,[.mnil]⟩:=by kernel_rfl
theorem Auj:ti Tryz.prog 169=some ⟨.ifc,1,16,[.nili]⟩:=by kernel_rfl
theorem Alg:Jj Tryz.prog [(0,23),(1,24),(2,25),(3,26),(4,27),(5,28),(6,29),(7,30)]=some [(0,1),(1,1),(2,1),(3,1),(4,1),(5,1),(6,1),(7,1)]:=by kernel_rfl
theorem Asf:Jj Tryz.prog [(0,9),(1,49)]=some [(0,1),(1,1)]:=by kernel_rfl
theorem Asi:Jj Tryz.prog [(0,9),(1,52)]=some [(0,1),(1,1)]:=by kernel_rfl
theorem Atu:Jj Tryz.prog [(0,9),(1,55),(2,56),(3,3),(4,3)]=some [(0,1),(1,1),(2,1),(3,1),(4,1)]:=by kernel_rfl
theorem Avz:Jj Tryz.prog [(0,42),(1,3),(2,32)]=some [(0,1),(1,1),(2,8)]:=by kernel_rfl
theorem Avp:Jj Tryz.prog [(0,9),(1,55),(2,56)]=some [(0,1),(1,1),(2,1)]:=by kernel_rfl
theorem Awa:Jj Tryz.prog [(0,42),(1,4)]=some [(0,1),(1,1)]:=by kernel_rfl
theorem Amg {o:BinOp}{x y:Operand}{a b:AV}(ha:a.isAgg=true)(hb:b.isAgg=true):Mj Tryz.prog o 60 x y a b=true:=Y5 ha hb (by kernel_rfl)
theorem Ant {aFrom:Int}{aTo:Int}{bFrom:Int}{bTo:Int}:Pd Tryz.prog .neq 60 (AV.agg [(.int .i64 aFrom),(.int .i64 aTo)]) (AV.agg [(.int .i64 bFrom),(.int .i64 bTo)])=some (.bool (!((aFrom==bFrom)&&(aTo==bTo)))):=by
 have he60:Wz Tryz.prog 60=true:=by kernel_rfl
 simp only [Pd,Wv,he60,if_true,List.drop_succ_cons,List.drop_zero,List.take_succ_cons,List.take_zero,List.take_nil,Acz,Aac,Sq,Lj,Dw,Lu,TK.agg,Nat.reduceAdd,Nat.reduceLT,Nat.reduceLeDiff,List.length_cons,List.length_nil,List.getD_cons_zero,List.getD_cons_succ,Y1,Bool.and_true,Option.map_some,if_false,Bool.false_eq_true,reduceCtorEq,Nat.zero_add]
 try rfl
theorem Ahk {o:BinOp}{x y:Operand}{a b:AV}(ha:a.isAgg=true)(hb:b.isAgg=true):Mj Tryz.prog o 62 x y a b=true:=Y5 ha hb (by kernel_rfl)
theorem Ah0 {aKind:Int}{aC:Aw}{aA:Aw}{aClass:Int}{aAirport:Int}{aN:Int}{aHours_From:Int}{aHours_To:Int}{bKind:Int}{bC:Aw}{bA:Aw}{bClass:Int}{bAirport:Int}{bN:Int}{bHours_From:Int}{bHours_To:Int}:Pd Tryz.prog .neq 62 (AV.agg [(.int .i64 aKind),(.str aC),(.str aA),(.int .i64 aClass),(.int .i64 aAirport),(.int .i64 aN),(.int .i64 aHours_From),(.int .i64 aHours_To)]) (AV.agg [(.int .i64 bKind),(.str bC),(.str bA),(.int .i64 bClass),(.int .i64 bAirport),(.int .i64 bN),(.int .i64 bHours_From),(.int .i64 bHours_To)])=some (.bool (!((aKind==bKind)&&((aC==bC)&&((aA==bA)&&((aClass==bClass)&&((aAirport==bAirport)&&((aN==bN)&&((aHours_From==bHours_From)&&(aHours_To==bHours_To)))))))))):=by
 have he60:Wz Tryz.prog 60=true:=by kernel_rfl
 have he62:Wz Tryz.prog 62=true:=by kernel_rfl
 simp only [Pd,Wv,he60,he62,if_true,List.drop_succ_cons,List.drop_zero,List.take_succ_cons,List.take_zero,List.take_nil,Acz,Aac,Sq,Lj,Dw,Cz,Lu,Dp,TK.agg,Nat.reduceAdd,Nat.reduceLT,Nat.reduceLeDiff,List.length_cons,List.length_nil,List.getD_cons_zero,List.getD_cons_succ,Y1,Bool.and_true,Option.map_some,if_false,Bool.false_eq_true,reduceCtorEq,Nat.zero_add]
 try rfl
theorem Anv {o:BinOp}{x y:Operand}{a b:AV}(ha:a.isAgg=true)(hb:b.isAgg=true):Mj Tryz.prog o 83 x y a b=true:=Y5 ha hb (by kernel_rfl)
theorem Anp {aName:Aw}{Jj:Int}{bName:Aw}{bPlaces:Int}:Pd Tryz.prog .neq 83 (AV.agg [(.str aName),(.int .i64 Jj)]) (AV.agg [(.str bName),(.int .i64 bPlaces)])=some (.bool (!((aName==bName)&&(Jj==bPlaces)))):=by
 have he83:Wz Tryz.prog 83=true:=by kernel_rfl
 simp only [Pd,Wv,he83,if_true,List.drop_succ_cons,List.drop_zero,List.take_succ_cons,List.take_zero,List.take_nil,Acz,Aac,Sq,Lj,Dw,Cz,Py,TK.agg,Nat.reduceAdd,Nat.reduceLT,Nat.reduceLeDiff,List.length_cons,List.length_nil,List.getD_cons_zero,List.getD_cons_succ,Y1,Bool.and_true,Option.map_some,if_false,Bool.false_eq_true,reduceCtorEq,Nat.zero_add]
 try rfl
theorem Am6 {o:BinOp}{x y:Operand}{a b:AV}(ha:a.isAgg=true)(hb:b.isAgg=true):Mj Tryz.prog o 85 x y a b=true:=Y5 ha hb (by kernel_rfl)
theorem Amy {aName:Aw}{aSlow:Int}{aFast:Int}{Jj:Int}{bName:Aw}{bSlow:Int}{bFast:Int}{bPlaces:Int}:Pd Tryz.prog .neq 85 (AV.agg [(.str aName),(.int .i64 aSlow),(.int .i64 aFast),(.int .i64 Jj)]) (AV.agg [(.str bName),(.int .i64 bSlow),(.int .i64 bFast),(.int .i64 bPlaces)])=some (.bool (!((aName==bName)&&((aSlow==bSlow)&&((aFast==bFast)&&(Jj==bPlaces)))))):=by
 have he85:Wz Tryz.prog 85=true:=by kernel_rfl
 simp only [Pd,Wv,he85,if_true,List.drop_succ_cons,List.drop_zero,List.take_succ_cons,List.take_zero,List.take_nil,Acz,Aac,Sq,Lj,Dw,Cz,M7,TK.agg,Nat.reduceAdd,Nat.reduceLT,Nat.reduceLeDiff,List.length_cons,List.length_nil,List.getD_cons_zero,List.getD_cons_succ,Y1,Bool.and_true,Option.map_some,if_false,Bool.false_eq_true,reduceCtorEq,Nat.zero_add]
 try rfl
end Go.Am
namespace Go.Am
open Go Go.Proofs
set_option maxRecDepth 100000
set_option maxHeartbeats 4000000
set_option linter.unusedSimpArgs false
set_option linter.unusedVariables false
theorem Ud (s:Aw)(c:Int):CP Tryz.prog 108 [.str s,.int .u8 c] (strings_IndexByte s c) (fun x=>AV.int .i64 x):=
 Ah2 (.mk Tryz.func108 rfl (by decide)) (fun p h=>by cases h) fun a ha B mu h w cargs hs hl=>by
  obtain⟨c1,c2,rfl,h1,h2⟩:=Alc hl
  obtain rfl:=Aeh h1; obtain rfl:=Anu h2
  cases ha
  refine(Go.Proofs.Tryz.strings_IndexByte ⟨s.toArray⟩ c w).mono ?_
  rintro e w' ⟨rfl,rfl⟩
  exact⟨Go.RowKit.Below.refl _ _,_,J,.int _ _⟩
theorem Rl (c:Int):CP Tryz.prog 58 [(.int .u8 c)] (Lq c) (fun(x:Int)=>(AV.int .i64 x)):=by
 refine C0 (n:=47) 0 Tryz.func58 J (by decide) J J fun h0 ids hI=>Bn (Ak (Lq.eq_1 _) ?_)
 refine Y<|O<|Z (.I 0) J Aj<|Aa<|Y<|A8<|Y ?_
 refine O<|Ab 3 [] [(6,(.bool (decide (c≥97))))] ?_
 refine Bx 3 [(0,(.int .u8 c)),(9,(.bool ((decide (c≥97))&&(decide (c≤122)))))] ?_ fun hJ=>Bt (decide (c≥97)) (fun hb1=>?_) (fun hb1=>?_)
 ·refine Z (.bool ((decide (c≥97))&&(decide (c≤122)))) J Ad<|Bx 7 [(0,(.int .u8 c)),(17,(.bool (((decide (c≥97))&&(decide (c≤122)))||((decide (c≥65))&&(decide (c≤90))))))] ?_ fun hJ1=>Bt ((decide (c≥97))&&(decide (c≤122))) (fun hb3=>?_) (fun hb3=>?_)
  ·refine Z (.bool (((decide (c≥97))&&(decide (c≤122)))||((decide (c≥65))&&(decide (c≤90))))) J Aj<|Aa<|Cf J (fun hc=>?_) (fun hc=>?_)
   ·refine Y<|O<|Z (.I 2) J Aj<|Aa<|Br (a:=2) (vs:=[(.I 2)]) Tryz.func58 hI J (.same _)
   refine Y<|O<|Ab 3 [] [(21,(.bool (decide (c≥48))))] ?_
   refine Bx 3 [(0,(.int .u8 c)),(24,(.bool ((decide (c≥48))&&(decide (c≤57)))))] ?_ fun hJ3=>Bt (decide (c≥48)) (fun hb7=>?_) (fun hb7=>?_)
   ·refine Z (.bool ((decide (c≥48))&&(decide (c≤57)))) J Aj<|Aa<|Cf J (fun hc1=>?_) (fun hc1=>?_)
    ·refine Y<|O<|Z (.I 3) J Aj<|Aa<|Br (a:=3) (vs:=[(.I 3)]) Tryz.func58 hI J (.same _)
    refine Y<|O<|Ab 3 [] [(25,(.bool (c==95)))] ?_
    refine Aa<|Cf J (fun hc2=>?_) (fun hc2=>?_)
    ·refine Y<|O<|Z (.I 5) J Aj<|Aa<|Br (a:=5) (vs:=[(.I 5)]) Tryz.func58 hI J (.same _)
    refine Y<|O<|Ab 3 [] [(31,(.bool (c==32)))] ?_
    refine Bx 3 [(0,(.int .u8 c)),(34,(.bool ((c==32)||(c==9))))] ?_ fun hJ4=>Bt (c==32) (fun hb9=>?_) (fun hb9=>?_)
    ·refine Z (.bool ((c==32)||(c==9))) J Ad<|Bx 3 [(0,(.int .u8 c)),(38,(.bool (((c==32)||(c==9))||(c==10))))] ?_ fun hJ5=>Bt ((c==32)||(c==9)) (fun hb11=>?_) (fun hb11=>?_)
     ·refine Z (.bool (((c==32)||(c==9))||(c==10))) J Ad<|Bx 3 [(0,(.int .u8 c)),(42,(.bool ((((c==32)||(c==9))||(c==10))||(c==13))))] ?_ fun hJ6=>Bt (((c==32)||(c==9))||(c==10)) (fun hb13=>?_) (fun hb13=>?_)
      ·refine Z (.bool ((((c==32)||(c==9))||(c==10))||(c==13))) J Aj<|Aa<|Cf J (fun hc3=>?_) (fun hc3=>?_)
       ·refine Y<|O<|Z (.I 1) J Aj<|Aa<|Br (a:=1) (vs:=[(.I 1)]) Tryz.func58 hI J (.same _)
       refine Y<|O<|Z (.int .u8 c) J Ad<|B0 [(.str [123,125,40,41,59,44,61,35,47,60,33,45,46]),(.int .u8 c)] J J J J ((Ud [123,125,40,41,59,44,61,35,47,60,33,45,46] c) _) (fun v _=>Cg Tryz.func58 hI) fun r _=>Ab 2 [] [(43,(.bool (decide (r≥0))))] ?_
       refine Aa<|Qp J (fun hc4=>?_) (fun hc4=>?_)
       ·refine Y<|O<|Z (.I 4) J Aj<|Aa<|Br (a:=4) (vs:=[(.I 4)]) Tryz.func58 hI J (.same _)
       refine Az<|Bj<|Y<|O<|Z (.I 0) J Aj<|Aa<|Br (a:=0) (vs:=[(.I 0)]) Tryz.func58 hI J (.same _)
      ·refine A5 (t:=39) hb13 J<|Ab 3 [] [(42,(.bool true))] ?_
       exact Bg hJ6 (.cons J (.cons (Es hb13) .nil))
      refine A5 (t:=39) hb13 J<|Ab 3 [] [(42,(.bool (c==13)))] ?_
      exact Bg hJ6 (.cons J (.cons (Er hb13) .nil))
     ·refine A5 (t:=35) hb11 J<|Ab 3 [] [(38,(.bool true))] ?_
      exact Bg hJ5 (.cons J (.cons (Es hb11) .nil))
     refine A5 (t:=35) hb11 J<|Ab 3 [] [(38,(.bool (c==10)))] ?_
     exact Bg hJ5 (.cons J (.cons (Er hb11) .nil))
    ·refine A5 (t:=31) hb9 J<|Ab 3 [] [(34,(.bool true))] ?_
     exact Bg hJ4 (.cons J (.cons (Es hb9) .nil))
    refine A5 (t:=31) hb9 J<|Ab 3 [] [(34,(.bool (c==9)))] ?_
    exact Bg hJ4 (.cons J (.cons (Er hb9) .nil))
   ·refine A5 (t:=21) hb7 J<|Ab 3 [] [(24,(.bool (decide (c≤57))))] ?_
    exact Bg hJ3 (.cons J (.cons (Lh hb7) .nil))
   refine A5 (t:=21) hb7 J<|Ab 3 [] [(24,(.bool false))] ?_
   exact Bg hJ3 (.cons J (.cons (Lg hb7) .nil))
  ·refine A5 (t:=10) hb3 J<|Ab 7 [] [(17,(.bool true))] ?_
   exact Bg hJ1 (.cons J (.cons (Es hb3) .nil))
  refine A5 (t:=10) hb3 J<|Ab 3 [] [(13,(.bool (decide (c≥65))))] ?_
  refine Bx 3 [(0,(.int .u8 c)),(10,(.bool false)),(16,(.bool ((decide (c≥65))&&(decide (c≤90)))))] ?_ fun hJ2=>Bt (decide (c≥65)) (fun hb5=>?_) (fun hb5=>?_)
  ·refine Z (.bool ((decide (c≥65))&&(decide (c≤90)))) J (D4 (t:=false) J J)<|Bg hJ1 (.cons J (.cons (Er hb3) .nil))
  ·refine A5 (t:=13) hb5 J<|Ab 3 [] [(16,(.bool (decide (c≤90))))] ?_
   exact Bg hJ2 (.cons J (.cons J (.cons (Lh hb5) .nil)))
  refine A5 (t:=13) hb5 J<|Ab 3 [] [(16,(.bool false))] ?_
  exact Bg hJ2 (.cons J (.cons J (.cons (Lg hb5) .nil)))
 ·refine A5 (t:=6) hb1 J<|Ab 3 [] [(9,(.bool (decide (c≤122))))] ?_
  exact Bg hJ (.cons J (.cons (Lh hb1) .nil))
 refine A5 (t:=6) hb1 J<|Ab 3 [] [(9,(.bool false))] ?_
 exact Bg hJ (.cons J (.cons (Lg hb1) .nil))
theorem Tr (s:T119):CP Tryz.prog 53 [(.cp (O5 s) 0)] (Pn s) (fun(_:Unit)=>AV.tup []):=by
 refine C0 (n:=7) 0 Tryz.func53 J (by decide) J J fun h0 ids hI=>Bn (Ak (Pn.eq_1 _) ?_)
 refine O<|Ab 5 [] [(6,(.iface 113 (.I s.fAt)))] ?_
 exact S1 (v:=⟨113,.I s.fAt⟩) J J (Cg Tryz.func53 hI)
theorem Abb (s:List Int)(v:Int):CP Tryz.prog 123 [(.sl 1 (List.map (rI .i64) s)),(.int .i64 v)] (Ql s v) (fun(x:Int)=>(AV.int .i64 x)):=by
 refine C0 (n:=19) 0 Tryz.func123 J (by decide) J J fun h0 ids hI=>Bn (Ak (Ql.eq_1 _ _) ?_)
 refine Y<|O<|Z (.I 0) J Aj<|Aa<|Y<|Y<|O ?_
 refine Z (.sl 1 (List.map (rI .i64) s)) J Ad<|Z (.I (s.length:Int)) J (Ay (A7 M4))<|Z (.I 0) J Ad<|Aa<|A8<|Dt [(0,(.sl 1 (List.map (rI .i64) s))),(1,(.I v)),(7,(.I (s.length:Int))),(8,(.I 0))] (FI J)<|Ej (P:=Tryz.prog) s (fun j a=>fun _=>G6 v j a) ((C6 (fun _=>.ok (-1)) (fun r=>.ok r)):(Unit ⊕ Int)→R Int) (fun j=>fun _=>fun(fr:Nat→AV) (h:Ae)=>fr=A6 [(0,(.sl 1 (List.map (rI .i64) s))),(1,(.I v)),(7,(.I (s.length:Int))),(8,(.I (j:Int)))]∧h=hp h0 ids []) () ?_ ?_ ?_
 ·exact⟨J,J⟩
 ·rintro j a ha W hW _ fr h ⟨rfl,rfl⟩
  refine Ak (m':=G6 v j a) J (Ak (G6.eq_1 _ _ _) ?_)
  refine Y<|O<|Z (.bool (decide ((j:Int)<(s.length:Int)))) J (Ba J J J)<|Aa<|Y<|Do (t:=0) (L:=s) J fun hlim=>Cm J (Int.ofNat_lt.2 (A3 ha)) ?_
  refine Az<|Y<|A8<|Y<|O<|Ab 2 [] [(5,(.I (j:Int)))] ?_
  refine Aa<|Y<|O<|Ab 3 [] [(13,(.I (j:Int))),(12,(.sl 1 (List.map (rI .i64) s))),(11,(.I v))] ?_
  refine Z (.cp [(.I a)] 0) J (Bs (Cv M4 Dw J ha))<|Ab 2 [] [(16,(.bool (v==a)))] ?_
  refine Aa<|Cf J (fun hc=>?_) (fun hc=>?_)
  ·refine Y<|O<|Ab 2 [] [(4,(.I (j:Int)))] ?_
   refine Aa<|Ex<|F2<|Br (a:=(j:Int)) (vs:=[(.I (j:Int))]) Tryz.func123 hI J (.same _)
  refine Az<|Bj<|O<|Ab 2 [] [(8,(.I (IntKind.wrap .i64 ((j:Int)+1))))] ?_
  refine Aa<|Bq (Ey (hW () _ _ ⟨J,J⟩)) (.cons J (.cons J (.cons J (.cons (Dj (A3 ha) hlim) .nil))))
 rintro _ fr h ⟨rfl,rfl⟩
 refine Ak (E5 _ _ _)<|Y<|O<|Z (.bool (decide ((s.length:Int)<(s.length:Int)))) J (Ba J J J)<|Aa<|Y<|Co J (Int.lt_irrefl _) ?_
 refine Ct J<|Y<|O<|Z (.I (-1)) J Aj<|Aa<|Br (a:=(-1)) (vs:=[(.I (-1))]) Tryz.func123 hI J (.same _)
theorem Y8 (s:List Int)(v:Int):CP Tryz.prog 115 [(.sl 1 (List.map (rI .i64) s)),(.int .i64 v)] (L9 s v) (fun(x:Bool)=>(AV.bool x)):=by
 refine C0 (n:=9) 0 Tryz.func115 J (by decide) J J fun h0 ids hI=>Bn (Ak (L9.eq_1 _ _) ?_)
 refine Y<|O<|Z (.bool false) J Aj<|Aa<|Y<|O<|Ab 2 [] [(6,(.I v)),(5,(.sl 1 (List.map (rI .i64) s)))] ?_
 refine B0 [(.sl 1 (List.map (rI .i64) s)),(.I v)] J J J J ((Abb s v) _) (fun v _=>Cg Tryz.func115 hI) fun r _=>Ab 2 [] [(4,(.bool (decide (r≥0))))] ?_
 refine Aa<|Br (a:=(decide (r≥0))) (vs:=[(.bool (decide (r≥0)))]) Tryz.func115 hI J (.same _)
theorem Rg (s:T119)(some:List Int):CP Tryz.prog 104 [(.cp (O5 s) 0),(.sl 1 (List.map (rI .i64) some))] (Kd s some) (fun(x:Aw)=>(AV.str x)):=by
 refine C0 (n:=40) 0 Tryz.func104 J (by decide) J J fun h0 ids hI=>Bn (Ak (Kd.eq_1 _ _) ?_)
 refine Y<|O<|Z (.str []) J Aj<|Aa<|Y<|O<|Ab 5 [] [(5,(.I s.fAt))] ?_
 refine Aa<|Y<|Ei (fun n1=>My s n1) (fun n1=>fun(fr:Nat→AV) (h:Ae)=>fr=A6 [(0,(.cp (O5 s) 0)),(5,(.I n1))]∧h=hp h0 ids []) ?_ fun hJ1=>?_
 ·rintro n1 fr h ⟨rfl,rfl⟩
  refine Ak (My.eq_1 _ _)<|Y<|Dh Gk [[],[0],[0,1],[0,1,2],[],[4],[4,5],[4,5,6],[],[0,1,2,3,4,5,6,7,8],[0,1,2,3,4,5,6,7,8,9,9]] [(false,0),(false,1),(false,2),(false,3),(false,4),(false,5),(false,6),(false,7),(false,8),(false,9),(false,10)] (by kernel_rfl)<|Af (.cp (O5 s) 0) J J Ad<|Af (.cp (O5 s) 0) J J (Bk J)<|Af (.cp (O5 s) 0) J J (Ca (Aab (c:=0) (off:=0) (i:=0) Pm J Cz J))<|Af (.str s.fSrc) J J (Au (Cr Cz J)) ?_
  refine Af (.cp (O5 s) 0) J J Ad<|Af (.cp (O5 s) 0) J J (Bk J)<|Af (.cp (O5 s) 1) J J (Ca (Aab (c:=0) (off:=1) (i:=1) Pm J Dw J))<|Af (.I s.fAt) J J (Au (Cr Dw J))<|Af (.I n1) J J Ad<|K1 fun hs=>Af (.str (Sb s.fSrc s.fAt n1)) J J (Gz (Am7 Cz hs)) ?_
  refine Af (.str (Sb s.fSrc s.fAt n1)) J J Aj<|Cw<|Br (a:=(Sb s.fSrc s.fAt n1)) (vs:=[(.str (Sb s.fSrc s.fAt n1))]) Tryz.func104 hI J (.same _)
 refine A8<|Dt [(0,(.cp (O5 s) 0)),(1,(.sl 1 (List.map (rI .i64) some))),(5,(.I s.fAt))] (FI J)<|U6 (P:=Tryz.prog) (fun n=>Mv s some n) ((fun n1=>My s n1):Int→R Aw) (fun n=>fun(fr:Nat→AV) (h:Ae)=>fr=A6 [(0,(.cp (O5 s) 0)),(1,(.sl 1 (List.map (rI .i64) some))),(5,(.I n))]∧h=hp h0 ids []) s.fAt ?_ ?_
 ·exact⟨J,J⟩
 rintro vW hW n fr h ⟨rfl,rfl⟩
 refine Ak (m':=Mv s some n) J (Ak (Mv.eq_1 _ _ _) ?_)
 refine Y<|Y<|O<|Ab 5 [] [(14,(.str s.fSrc)),(10,(.I n))] ?_
 refine Z (.I (s.fSrc.length:Int)) J (Ay (Mi Cz))<|Ab 2 [] [(17,(.bool (decide (n<(s.fSrc.length:Int)))))] ?_
 refine Dq 10 ((fun(b:Bool)=>if b then(.ok (.inl (IntKind.wrap .i64 (n+1)))) else(.ok (.inr (n)))):Bool→R (Int ⊕ Int)) (fun(b:Bool) (fr:Nat→AV) (h:Ae)=>fr=A6 [(0,(.cp (O5 s) 0)),(1,(.sl 1 (List.map (rI .i64) some))),(5,(.I n)),(27,(.bool b))]∧h=hp h0 ids []) ?_ fun hJ=>Ed (fun hb1=>?_) (fun hb1=>?_)
 ·rintro b fr h ⟨rfl,rfl⟩
  refine Aa<|Cf J (fun hc=>?_) (fun hc=>?_)
  ·refine Az<|A8<|O<|Ab 3 [] [(5,(.I (IntKind.wrap .i64 (n+1))))] ?_
   refine Aa<|Bj<|Bq (Pt (hW (IntKind.wrap .i64 (n+1)) _ _ ⟨J,J⟩))
  refine Ct J<|Xn<|Bq (hJ1 n _ _ ⟨J,J⟩)
 ·refine A5 (t:=17) hb1 J<|Ab 6 [] [(23,(.I n)),(22,(.str s.fSrc)),(21,(.cp (O5 s) 0)),(20,(.cp (O5 s) 0)),(19,(.cp (O5 s) 0)),(18,(.sl 1 (List.map (rI .i64) some)))] ?_
  refine E1 fun a hz hx1=>Bz (tj:=17) (.int .u8 (a.toNat:Int)) J J J (Ae3 (Abo Cz hz hx1))<|B0 [(.int .u8 (a.toNat:Int))] J (Cq (tj:=17) J J) J J ((Rl (a.toNat:Int)) _) (fun v _=>Cg Tryz.func104 hI) fun r _=>B0 [(.sl 1 (List.map (rI .i64) some)),(.I r)] J (Cq (tj:=17) J J) J J ((Y8 some r) _) (fun v _=>Cg Tryz.func104 hI) fun r1 _=>Z (.bool r1) J (D4 (t:=true) J J)<|Bp<|Ck [(0,(.cp (O5 s) 0)),(1,(.sl 1 (List.map (rI .i64) some))),(5,(.I n)),(27,(.bool r1))] (FI J) ?_
  exact hJ r1 _ _ ⟨J,J⟩
 refine A5 (t:=17) hb1 J<|Ab 10 [] [(27,(.bool false)),(26,.und),(25,.und),(24,.und),(23,.und),(22,.und),(21,.und),(20,.und),(19,.und),(18,.und)] ?_
 refine Bp<|Ck [(0,(.cp (O5 s) 0)),(1,(.sl 1 (List.map (rI .i64) some))),(5,(.I n)),(27,(.bool false))] (FI J)<|hJ false _ _ ⟨J,J⟩
theorem Adn (s:Aw):CP Tryz.prog 100 [(.str s)] (Uu s) (fun(x:Bool)=>(AV.bool x)):=by
 refine C0 (n:=38) 0 Tryz.func100 J (by decide) J J fun h0 ids hI=>Bn (Ak (Uu.eq_1 _) ?_)
 refine Y<|O<|Z (.bool false) J Aj<|Aa<|Y<|Y<|O ?_
 refine Ab 3 [] [(7,(.bool (s==[])))] ?_
 refine Bx 4 [(0,(.str s)),(11,(.bool ((s==[])||(decide ((s.length:Int) > 32)))))] ?_ fun hJ=>Bt (s==[]) (fun hb1=>?_) (fun hb1=>?_)
 ·refine Z (.bool ((s==[])||(decide ((s.length:Int) > 32)))) J Ad<|Dq 5 ((fun(b:Bool)=>if b then(.ok false) else(if s.length≤Em then((each (fun _ a1=>fun _=>Qx a1) 0 s ()).bind (C6 (fun _=>.ok true) (fun r=>.ok r))) else .bad)):Bool→R Bool) (fun(b:Bool) (fr:Nat→AV) (h:Ae)=>fr=A6 [(0,(.str s)),(17,(.bool b))]∧h=hp h0 ids []) ?_ fun hJ1=>Ed (fun hb3=>?_) (fun hb3=>?_)
  ·rintro b fr h ⟨rfl,rfl⟩
   refine Aa<|Cf J (fun hc=>?_) (fun hc=>?_)
   ·refine Y<|O<|Z (.bool false) J Aj<|Aa<|Br (a:=false) (vs:=[(.bool false)]) Tryz.func100 hI J (.same _)
   refine Az<|Y<|Y<|O<|Z (.str s) J Ad<|Z (.I (s.length:Int)) J (Ay (Mi Cz))<|Z (.I 0) J Ad ?_
   refine Aa<|A8<|Arn fun hlim=>Dt [(0,(.str s)),(19,(.I (s.length:Int))),(20,(.I 0))] (FI J)<|Ej (P:=Tryz.prog) s (fun _ a1=>fun _=>Qx a1) ((C6 (fun _=>.ok true) (fun r=>.ok r)):(Unit ⊕ Bool)→R Bool) (fun j=>fun _=>fun(fr:Nat→AV) (h:Ae)=>fr=A6 [(0,(.str s)),(19,(.I (s.length:Int))),(20,(.I (j:Int)))]∧h=hp h0 ids []) () ?_ ?_ ?_
   ·exact⟨J,J⟩
   ·rintro j a1 ha1 W hW _ fr h ⟨rfl,rfl⟩
    refine Ak (m':=Qx a1) J (Ak (Qx.eq_1 _) ?_)
    refine Y<|O<|Z (.bool (decide ((j:Int)<(s.length:Int)))) J (Ba J J J)<|Aa<|Y<|Cm J (Int.ofNat_lt.2 (A3 ha1))<|Az ?_
    refine Y<|A8<|Y<|O<|Ab 2 [] [(3,(.I (j:Int)))] ?_
    refine Aa<|Y<|O<|Ab 2 [] [(24,(.I (j:Int))),(23,(.str s))] ?_
    refine Z (.int .u8 (a1.toNat:Int)) J (Ae3 (Aqy Cz ha1))<|B0 [(.int .u8 (a1.toNat:Int))] J J J J ((Rl (a1.toNat:Int)) _) (fun v _=>Cg Tryz.func100 hI) fun c _=>Z (.I c) J Aj<|Aa<|Y<|O<|Ab 3 [] [(29,(.bool (c != 2)))] ?_
    refine Bx 3 [(0,(.str s)),(4,(.I c)),(19,(.I (s.length:Int))),(20,(.I (j:Int))),(32,(.bool ((c != 2)&&(c != 3))))] ?_ fun hJ2=>Bt (c != 2) (fun hb5=>?_) (fun hb5=>?_)
    ·refine Z (.bool ((c != 2)&&(c != 3))) J Ad<|Bx 3 [(0,(.str s)),(19,(.I (s.length:Int))),(20,(.I (j:Int))),(36,(.bool (((c != 2)&&(c != 3))&&(c != 5))))] ?_ fun hJ3=>Bt ((c != 2)&&(c != 3)) (fun hb7=>?_) (fun hb7=>?_)
     ·refine Aa<|Cf J (fun hc1=>?_) (fun hc1=>?_)
      ·refine Y<|O<|Z (.bool false) J Aj<|Aa<|Ex<|F2<|Br (a:=false) (vs:=[(.bool false)]) Tryz.func100 hI J (.same _)
      refine Az<|Bj<|O<|Ab 2 [] [(20,(.I (IntKind.wrap .i64 ((j:Int)+1))))] ?_
      refine Aa<|Bq (Ey (hW () _ _ ⟨J,J⟩)) (.cons J (.cons J (.cons (Dj (A3 ha1) hlim) .nil)))
     ·refine A5 (t:=33) hb7 J<|Ab 3 [] [(36,(.bool (c != 5))),(35,(.bool (c != 5))),(34,(.I c))] ?_
      exact Bg hJ3 (.cons J (.cons J (.cons J (.cons (Lh hb7) .nil))))
     refine A5 (t:=33) hb7 J<|Ab 3 [] [(36,(.bool false)),(35,.und),(34,.und)] ?_
     exact Bg hJ3 (.cons J (.cons J (.cons J (.cons (Lg hb7) .nil))))
    ·refine A5 (t:=29) hb5 J<|Ab 3 [] [(32,(.bool (c != 3))),(31,(.bool (c != 3))),(30,(.I c))] ?_
     exact Bg hJ2 (.cons J (.cons J (.cons J (.cons J (.cons (Lh hb5) .nil)))))
    refine A5 (t:=29) hb5 J<|Ab 3 [] [(32,(.bool false)),(31,.und),(30,.und)] ?_
    exact Bg hJ2 (.cons J (.cons J (.cons J (.cons J (.cons (Lg hb5) .nil)))))
   rintro _ fr h ⟨rfl,rfl⟩
   refine Ak (E5 _ _ _)<|Y<|O<|Z (.bool (decide ((s.length:Int)<(s.length:Int)))) J (Ba J J J)<|Aa<|Y<|Co J (Int.lt_irrefl _) ?_
   refine Ct J<|Y<|O<|Z (.bool true) J Aj<|Aa<|Br (a:=true) (vs:=[(.bool true)]) Tryz.func100 hI J (.same _)
  ·refine A5 (t:=12) hb3 J<|Ab 5 [] [(17,(.bool true))] ?_
   refine Bp<|Ck [(0,(.str s)),(17,(.bool true))] (FI J)<|hJ1 true _ _ ⟨J,J⟩
  refine A5 (t:=12) hb3 J<|Bz (tj:=12) (.str s) J J J Ad<|E1 fun a hz hx1=>Bz (tj:=12) (.int .u8 (a.toNat:Int)) J J J (Ae3 (Abo Cz hz hx1))<|B0 [(.int .u8 (a.toNat:Int))] J (Cq (tj:=12) J J) J J ((Rl (a.toNat:Int)) _) (fun v _=>Cg Tryz.func100 hI) fun r _=>Ab 2 [] [(17,(.bool (r != 2)))] ?_
  refine Bp<|Ck [(0,(.str s)),(17,(.bool (r != 2)))] (FI J)<|hJ1 (r != 2) _ _ ⟨J,J⟩
 ·refine A5 (t:=7) hb1 J<|Ab 4 [] [(11,(.bool true))] ?_
  exact Bg hJ (.cons J (.cons (Es hb1) .nil))
 refine A5 (t:=7) hb1 J<|Bz (tj:=7) (.str s) J J J Ad<|Bz (tj:=7) (.I (s.length:Int)) J J J (Ay (Mi Cz))<|Ab 2 [] [(11,(.bool (decide ((s.length:Int) > 32))))] ?_
 exact Bg hJ (.cons J (.cons (Er hb1) .nil))
theorem Ab0 (t:Token):CP Tryz.prog 59 [(.agg (Ac t))] (S8 t) (fun(x:Bool)=>(AV.bool x)):=by
 refine C0 (n:=48) 1 Tryz.func59 J (by decide) J J fun h0 ids hI=>Bn (Ak (S8.eq_1 _) ?_)
 refine Y<|O<|Cx (v:=(.agg (Ac t))) (j:=0) hI J J J J J J J fun g=>Z (.bool false) J Aj<|Aa<|Al ?_
 refine Y<|Y<|O<|Ab 2 [0] [(4,(.I t.Kind))] ?_
 refine Aa<|A8<|Y<|O<|Ab 2 [] [(5,(.bool (t.Kind==1)))] ?_
 refine Aa<|Cf J (fun hc=>?_) (fun hc=>?_)
 ·refine Y<|O<|Ab 2 [0] [(8,(.str t.Text))] ?_
  refine B0 [(.str t.Text)] J J J J ((Adn t.Text) _) (fun v _=>Cg Tryz.func59 hI) fun r _=>Z (.bool r) J Ad<|Bx 4 [(14,(.bool (r&&(t.N==0))))] ?_ fun hJ=>Bt r (fun hb1=>?_) (fun hb1=>?_)
  ·refine Z (.bool (r&&(t.N==0))) J Aj<|Aa<|Br (a:=(r&&(t.N==0))) (vs:=[(.bool (r&&(t.N==0)))]) Tryz.func59 hI J (.same _)
  ·refine A5 (t:=10) hb1 J<|Ab 4 [0] [(14,(.bool (t.N==0)))] ?_
   exact Bg hJ (.cons (Lh hb1) .nil)
  refine A5 (t:=10) hb1 J<|Ab 4 [] [(14,(.bool false))] ?_
  exact Bg hJ (.cons (Lg hb1) .nil)
 refine Y<|O<|Ab 2 [] [(15,(.bool (t.Kind==2)))] ?_
 refine Aa<|Cf J (fun hc1=>?_) (fun hc1=>?_)
 ·refine Y<|O<|Ab 4 [0] [(20,(.bool (t.Text==[])))] ?_
  refine Bx 4 [(1,(.q ids 0 g)),(24,(.bool ((t.Text==[])&&(decide (t.N≥0)))))] ?_ fun hJ1=>Bt (t.Text==[]) (fun hb3=>?_) (fun hb3=>?_)
  ·refine Z (.bool ((t.Text==[])&&(decide (t.N≥0)))) J Ad<|Bx 4 [(29,(.bool (((t.Text==[])&&(decide (t.N≥0)))&&(decide (t.N≤1099511627776)))))] ?_ fun hJ2=>Bt ((t.Text==[])&&(decide (t.N≥0))) (fun hb5=>?_) (fun hb5=>?_)
   ·refine Z (.bool (((t.Text==[])&&(decide (t.N≥0)))&&(decide (t.N≤1099511627776)))) J Aj<|Aa<|Br (a:=(((t.Text==[])&&(decide (t.N≥0)))&&(decide (t.N≤1099511627776)))) (vs:=[(.bool (((t.Text==[])&&(decide (t.N≥0)))&&(decide (t.N≤1099511627776))))]) Tryz.func59 hI J (.same _)
   ·refine A5 (t:=25) hb5 J<|Ab 4 [0] [(29,(.bool (decide (t.N≤1099511627776))))] ?_
    exact Bg hJ2 (.cons (Lh hb5) .nil)
   refine A5 (t:=25) hb5 J<|Ab 4 [] [(29,(.bool false))] ?_
   exact Bg hJ2 (.cons (Lg hb5) .nil)
  ·refine A5 (t:=20) hb3 J<|Ab 4 [0] [(24,(.bool (decide (t.N≥0))))] ?_
   exact Bg hJ1 (.cons J (.cons (Lh hb3) .nil))
  refine A5 (t:=20) hb3 J<|Ab 4 [] [(24,(.bool false))] ?_
  exact Bg hJ1 (.cons J (.cons (Lg hb3) .nil))
 refine Y<|O<|Ab 2 [] [(30,(.bool (t.Kind==3)))] ?_
 refine Aa<|Cf J (fun hc2=>?_) (fun hc2=>?_)
 ·refine Y<|O<|Ab 2 [0] [(33,(.str t.Text))] ?_
  refine Z (.I (t.Text.length:Int)) J (Ay (Mi Cz))<|Ab 2 [] [(36,(.bool ((t.Text.length:Int)==1)))] ?_
  refine Dq 6 ((fun(b:Bool)=>.ok (b&&(t.N==0))):Bool→R Bool) (fun(b:Bool) (fr:Nat→AV) (h:Ae)=>fr=A6 [(1,(.q ids 0 g)),(42,(.bool b))]∧h=hp h0 ids [(some (.rows g 4 [(Ac t)]))]) ?_ fun hJ3=>Ed (fun hb7=>?_) (fun hb7=>?_)
  ·rintro b fr h ⟨rfl,rfl⟩
   refine Z (.bool b) J Ad<|Bx 4 [(47,(.bool (b&&(t.N==0))))] ?_ fun hJ4=>Bt b (fun hb9=>?_) (fun hb9=>?_)
   ·refine Z (.bool (b&&(t.N==0))) J Aj<|Aa<|Br (a:=(b&&(t.N==0))) (vs:=[(.bool (b&&(t.N==0)))]) Tryz.func59 hI J (.same _)
   ·refine A5 (t:=43) hb9 J<|Ab 4 [0] [(47,(.bool (t.N==0)))] ?_
    exact Bg hJ4 (.cons (Lh hb9) .nil)
   refine A5 (t:=43) hb9 J<|Ab 4 [] [(47,(.bool false))] ?_
   exact Bg hJ4 (.cons (Lg hb9) .nil)
  ·refine A5 (t:=36) hb7 J<|Ab 2 [0] [(38,(.str t.Text))] ?_
   refine E1 fun a hz hx1=>Bz (tj:=36) (.int .u8 (a.toNat:Int)) J J J (Ae3 (Abo Cz hz hx1))<|B0 [(.int .u8 (a.toNat:Int))] J (Cq (tj:=36) J J) J J ((Rl (a.toNat:Int)) _) (fun v _=>Cg Tryz.func59 hI) fun r1 _=>Ab 2 [] [(42,(.bool (r1==4)))] ?_
   refine Bp<|Ck [(1,(.q ids 0 g)),(42,(.bool (r1==4)))] (FI J)<|hJ3 (r1==4) _ _ ⟨J,J⟩
  refine A5 (t:=36) hb7 J<|Ab 6 [] [(42,(.bool false))] ?_
  refine Bp<|Ck [(1,(.q ids 0 g)),(42,(.bool false))] (FI J)<|hJ3 false _ _ ⟨J,J⟩
 refine Az<|Bj<|Y<|O<|Z (.bool false) J Aj<|Aa<|Br (a:=false) (vs:=[(.bool false)]) Tryz.func59 hI J (.same _)
theorem Ad7 (s:Aw)(h0:Ae)(hI0:Ids h0 [] 0):Pz s≠.bad→Bl Tryz.prog 106 [.str s] (hp h0 [] []) (Cu (fun a_ v h' => ∃ (v1:AV),Ali v1 a_.2∧v=(.tup [.int .i64 a_.1,v1])∧h'=hp h0 [] []) h0 (Pz s)):=by
 refine Ats (.mk Tryz.func106 J (by decide)) (fun p h=>by unfold Pz at h; split at h <;> (try split at h) <;> cases h) fun a ha B mu w cargs hs hl=>?_
 obtain⟨c1,rfl,h1⟩:=Akk hl
 obtain rfl:=Aeh h1
 have rv_tup : ∀ {w:World} {n:Int} {v:AV} {c:Value},RV h0 mu w v c→RV h0 mu w (.tup [.int .i64 n,v]) (.tuple #[.int .i64 n,c]):=fun hv=>by
  refine .tup _ [_,_] J fun i hi=>?_
  match i,hi with
  | 0,_=>exact .int _ _
  | 1,_=>exact hv
 have err : ∀ {w w':World} {N:Nat} {x y z:Value} {t:TypeId},w.heap.size≤N→w'.heap[N]? = some (.cells #[x,y,z] t (0,0))→Sim B mu h0 w→RV h0 mu w' (.iface 189 (.cp [.any,.any,.any] 0)) (.iface 189 (.pointer (some ⟨N,0,none⟩))):=by
  intro w w' N x y z t hN hc hs
  refine .iface _ _ _ (.cp _ 0 N 0 (fun j=>[x,y,z].getD j undef) (fun j hj=>?_) (fun j hj=>?_) (fun hm=>?_) ?_)
  ·unfold World.cell?; rw [hc]
   match j,hj with
   | 0,_=>rfl
   | 1,_=>rfl
   | 2,_=>rfl
  ·match j,hj with
   | 0,_=>exact .any _
   | 1,_=>exact .any _
   | 2,_=>exact .any _
  ·have:=Ep.lt hs hm; omega
  ·rcases Nat.lt_or_ge N _ with hh | hh
   ·exact hh
   ·rw [Array.getElem?_eq_none hh] at hc; cases hc
 unfold Pz at ha
 split at ha
 ·rename_i hn
  split at ha
  ·rename_i v hv
   cases ha
   refine(Go.Proofs.Tryz.strconv_Atoi_ok ⟨s.toArray⟩ (by show s.toArray.size≤_; simp; omega) v hv w).mono ?_
   rintro e w' ⟨rfl,hw⟩
   refine⟨?_,_,_,J,⟨.nili,J,J,J⟩,rv_tup .nili⟩
   rcases hw with rfl | ⟨t,rfl⟩
   ·exact Go.RowKit.Below.refl _ _
   ·exact Lib.bytesWorld_below _ _ _
  ·rename_i hv
   cases ha
   obtain⟨tp,p,hp⟩:=Ahm hs.glob.2
   refine(Go.Proofs.Tryz.strconv_Atoi_syntax_var ⟨s.toArray⟩ (by show s.toArray.size≤_; simpa using hn) hv tp p w hp).mono ?_
   rintro e w' ⟨N,rfl,h1,h2,h3⟩
   exact⟨h3,_,_,J,⟨.iface 189 (.cp [.any,.any,.any] 0),⟨_,_,J⟩,J,J⟩,rv_tup (err h1 h2 hs)⟩
  ·rename_i hv
   cases ha
   obtain⟨tp,p,hp⟩:=Aj3 hs.glob.2
   refine(Go.Proofs.Tryz.strconv_Atoi_range_var ⟨s.toArray⟩ (by show s.toArray.size≤_; simpa using hn) hv tp p w hp).mono ?_
   rintro e w' ⟨N,rfl,h1,h2,h3⟩
   exact⟨h3,_,_,J,⟨.iface 189 (.cp [.any,.any,.any] 0),⟨_,_,J⟩,J,J⟩,rv_tup (err h1 h2 hs)⟩
 ·cases ha
theorem Y0 (n:Int):CP Tryz.prog 60 [.int .i64 n] (strconv_Itoa n) (fun x=>AV.str x):=
 Ah2 (.mk Tryz.func60 rfl (by decide)) (fun p h=>by unfold strconv_Itoa at h; split at h <;> cases h) fun a ha B mu h w cargs hs hl=>by
  obtain⟨c1,rfl,h1⟩:=Akk hl
  obtain rfl:=Anu h1
  unfold strconv_Itoa at ha
  split at ha
  ·rename_i hn
   cases ha
   refine(Go.Proofs.Tryz.strconv_Itoa n hn.1 hn.2 w (Aon hs.glob.2)).mono ?_
   rintro e w' ⟨rfl,k,os,rfl⟩
   refine⟨⟨J,J,J,?_,fun i hi=>?_⟩,_,J,.str _⟩
   ·show w.heap.size≤(w.heap++os).size
    simp
   ·show(w.heap++os)[i]? = _
    exact Array.getElem?_append_left hi
  ·cases ha
theorem Sn (s:Aw)(vprefix:Aw):CP Tryz.prog 118 [(.str s),(.str vprefix)] (Iv s vprefix) (fun(x:Bool)=>(AV.bool x)):=by
 refine C0 (n:=18) 0 Tryz.func118 J (by decide) J J fun h0 ids hI=>Bn (Ak (Iv.eq_1 _ _) ?_)
 refine Y<|O<|Z (.bool false) J Aj<|Aa<|Y<|O<|Z (.str s) J Ad ?_
 refine Z (.I (s.length:Int)) J (Ay (Mi Cz))<|Z (.str vprefix) J Ad<|Z (.I (vprefix.length:Int)) J (Ay (Mi Cz))<|Ab 2 [] [(10,(.bool (decide ((s.length:Int)≥(vprefix.length:Int)))))] ?_
 refine Dq 7 ((fun(b:Bool)=>.ok b):Bool→R Bool) (fun(b:Bool) (fr:Nat→AV) (h:Ae)=>fr=A6 [(17,(.bool b))]∧h=hp h0 ids []) ?_ fun hJ=>Ed (fun hb1=>?_) (fun hb1=>?_)
 ·rintro b fr h ⟨rfl,rfl⟩
  refine Z (.bool b) J Aj<|Aa<|Br (a:=b) (vs:=[(.bool b)]) Tryz.func118 hI J (.same _)
 ·refine A5 (t:=10) hb1 J<|Ab 2 [] [(12,(.str vprefix)),(11,(.str s))] ?_
  refine Bz (tj:=10) (.I (vprefix.length:Int)) J J J (Ay (Mi Cz))<|Gj fun hs=>Bz (tj:=10) (.str (s.take (Int.toNat (vprefix.length:Int)))) J J J (Gz (Ary Cz hs))<|Ab 3 [] [(17,(.bool ((s.take (Int.toNat (vprefix.length:Int)))==vprefix)))] ?_
  refine Bp<|Ck [(17,(.bool ((s.take (Int.toNat (vprefix.length:Int)))==vprefix)))] (FI J)<|hJ ((s.take (Int.toNat (vprefix.length:Int)))==vprefix) _ _ ⟨J,J⟩
 refine A5 (t:=10) hb1 J<|Ab 7 [] [(17,(.bool false))] ?_
 refine Bp<|Ck [(17,(.bool false))] (FI J)<|hJ false _ _ ⟨J,J⟩
theorem Aaj (s:Aw)(vprefix:Aw):CP Tryz.prog 107 [(.str s),(.str vprefix)] (N3 s vprefix) (fun(x:Bool)=>(AV.bool x)):=by
 refine C0 (n:=8) 0 Tryz.func107 J (by decide) J J fun h0 ids hI=>Bn (Ak (N3.eq_1 _ _) ?_)
 refine Y<|O<|Z (.bool false) J Aj<|Aa<|Y<|O<|Ab 2 [] [(6,(.str vprefix)),(5,(.str s))] ?_
 refine B0 [(.str s),(.str vprefix)] J J J J ((Sn s vprefix) _) (fun v _=>Cg Tryz.func107 hI) fun r _=>Z (.bool r) J Aj<|Aa<|Br (a:=r) (vs:=[(.bool r)]) Tryz.func107 hI J (.same _)
theorem Ze (s0_src:Aw)(s0_at:Int)(l:List Token)(h0:Ae)(o0:Nat)(o1:Nat)(g:Nat)(v1:AV)(g1:Nat)(vH:A2 v1 o1 g1 l.length)(hI0:Ids h0 [o0,o1] 2):L7 s0_src s0_at l≠.bad→Bl Tryz.prog 54 [(.ptr o0 g 0 0)] (hp h0 [o0,o1] [some (.rows g 3 [[(.str s0_src),(.int .i64 s0_at),v1]]),Ah v1 g1 4 (List.map Ac l)]) (Cu (fun a_ v h'=>v=(.tup [])∧h'=hp h0 [o0,o1] [some (.rows g 3 [[(.str s0_src),(.int .i64 a_),v1]]),Ah v1 g1 4 (List.map Ac l)]) h0 (L7 s0_src s0_at l)):=by
 refine Be (n:=13) 0 Tryz.func54 J (by decide) J J hI0 J fun ids he hI=>?_
 clear hI0
 obtain rfl:ix ids 0=o0:=he 0 rfl
 obtain rfl:ix ids 1=o1:=he 1 rfl
 clear he
 refine Bn (Ak (L7.eq_1 _ _ _) ?_)
 refine Dh Gk [[],[0],[0,1],[0,1,2],[],[],[4,5],[4,5,6],[0,1,2,3,4,5,6,7],[0,0,1,2,3,4,5,6,7,8],[0,1,2,3,4,5,6,7,8,9],[0,1,2,3,4,5,6,7,8,9,10]] [(false,0),(false,1),(false,2),(false,3),(false,4),(true,5),(true,6),(false,7),(false,8),(false,9),(false,10),(true,11)] (by kernel_rfl)<|Af (.q ids 0 g) J J Ad<|Af (.q ids 0 g) J J (Bk J)<|Af (.ptr (ix ids 0) g 0 1) J J (Ca (B9 (c:=0) (off:=1) (i:=1) Pm J Dw J))<|Af (.I s0_at) J J (Au (Bh hI J J J Dw J))<|Af (.q ids 0 g) J J Ad<|Jp J J (fun _ _=>J) (fun K hK=>Mg (e:=(rI .i64)) (L:=[1]) (st:=1) (rows:=[[(.I 1)]]) M4 Dw J J J J J (.cons (RowSim.refl _) .nil) (fun x=>Ai9 x) J J (hK _ _ (Bv J Ad (Bv J (Au (Bh hI J J J Dw J)) (Bv J (Ca (B9 (c:=0) (off:=1) (i:=1) Pm J Dw J)) (Bv J (Bk J) (Bv J Ad B8))))) ?_))
 clear hK K
 refine Xq [(.q ids 0 g),(.sl 1 (List.map (rI .i64) [1]))] J J J J J (CP.lend (Rg ({ fSrc:=s0_src,fAt:=s0_at,fL:=l }:T119) [1]) (LF.lfz (.cons (.ptrL (hI.at J J) J J (.cons (.same _) (.cons (.same _) (.cons (Fx vH (hI.at J J) J (fun x=>Qm x)) .nil)))) (.cons (.same _) .nil))) (fun _ _=>(.str _))) (fun v _ _ _=>Ao (K:=2) (N:=0) Tryz.func54 hI) (Ag J (Bv J (Au (Bh hI J J J Dw J)) (Bv J (Ca (B9 (c:=0) (off:=1) (i:=1) Pm J Dw J)) (Bv J (Bk J) (Bv J Ad B8))))) fun r _=>Af (.I (r.length:Int)) J J (Ay (Mi Cz))<|Af (.I (IntKind.wrap .i64 (s0_at+(r.length:Int)))) J J (Ba J J J)<|Af (.q ids 0 g) J J (Bk J)<|Af (.ptr (ix ids 0) g 0 1) J J (Ca (B9 (c:=0) (off:=1) (i:=1) Pm J Dw J))<|Gx J (fun _ _=>J) (fun K hK=>D8 (A0 (v:=(.I (IntKind.wrap .i64 (s0_at+(r.length:Int))))) hI J J J J Dw J J J J J) (hK _ _ (Ag J (Ag J (Ag J (Ag J (Ag J (Ag J (Ag J (Ag J (Ag J B8))))))))) ?_))
 clear hK K
 refine Cw<|Al ?_
 exact Ce (K:=2) (N:=0) (a:=(IntKind.wrap .i64 (s0_at+(r.length:Int)))) (vs:=[]) [some (.rows g 3 [[(.str s0_src),(.I (IntKind.wrap .i64 (s0_at+(r.length:Int)))),v1]]),Ah v1 g1 4 (List.map Ac l)] Tryz.func54 hI J J J (.keep (.keep .nil)) (.same _) ⟨J,J⟩
theorem Qi (text:Aw)(t:Token)(s0_src:Aw)(s0_at:Int)(l:List Token)(h0:Ae)(o0:Nat)(o1:Nat)(g:Nat)(v1:AV)(g1:Nat)(vH:A2 v1 o1 g1 l.length)(hI0:Ids h0 [o0,o1] 2):Ha text t s0_src s0_at l≠.bad→Bl Tryz.prog 105 [(.ptr o0 g 0 0),(.str text),(.agg (Ac t))] (hp h0 [o0,o1] [some (.rows g 3 [[(.str s0_src),(.int .i64 s0_at),v1]]),Ah v1 g1 4 (List.map Ac l)]) (Cu (fun a_ v h' => ∃ (v3:AV),∃ (g4:Nat),A2 v3 o1 g4 a_.length∧v=(.tup [])∧h'=hp h0 [o0,o1] [some (.rows g 3 [[(.str s0_src),(.int .i64 (IntKind.wrap .i64 (s0_at+(text.length:Int)))),v3]]),Ah v3 g4 4 (List.map Ac a_)]) h0 (Ha text t s0_src s0_at l)):=by
 refine Be (n:=38) 1 Tryz.func105 J (by decide) J J hI0 J fun ids he hI=>?_
 clear hI0
 obtain rfl:ix ids 0=o0:=he 0 rfl
 obtain rfl:ix ids 1=o1:=he 1 rfl
 clear he
 refine Bn (Ak (Ha.eq_1 _ _ _ _ _) ?_)
 refine Al ?_
 refine Y<|O<|Cx (v:=(.agg (Ac t))) (j:=2) hI J J J J J J J fun g2=>Aa<|Al ?_
 refine Y<|Y<|O<|Ab 1 [2] [(6,(.agg (Ac t)))] ?_
 refine B0 [(.agg (Ac t))] J J J J ((Ab0 t) _) (fun v _=>Ao (K:=2) (N:=1) Tryz.func105 hI) fun r _=>Z (.bool (!r)) J (O3 J)<|Aa<|D2 J (fun hc=>?_) (fun hc=>?_)
 ·refine Az<|Y<|O<|Ab 5 [0] [(18,(.ptr (ix ids 2) g2 0 3)),(17,(.I s0_at))] ?_
  refine Ar (A0 (v:=(.I s0_at)) hI J J J J Dw J J J J J)<|Aa<|Al ?_
  refine Y<|Dh Gk [[],[],[1],[1,2],[1,2,3],[],[5],[1,2,3,4,5,6],[0,0,1,2,3,4,5,6,7],[0,1,2,3,4,5,6,7,8],[0,1,2,3,4,5,6,7,8,9]] [(false,0),(false,1),(false,2),(false,3),(false,4),(false,5),(true,6),(true,7),(false,8),(false,9),(true,10)] (by kernel_rfl)<|Af (.q ids 0 g) J J Ad<|Af (.q ids 0 g) J J Ad<|Af (.q ids 0 g) J J (Bk J)<|Af (.ptr (ix ids 0) g 0 2) J J (Ca (B9 (c:=0) (off:=2) (i:=2) Pm J C1 J))<|Af v1 J J (Au (Bh hI J J J C1 J)) ?_
  refine Af (.agg [(.I t.Kind),(.str t.Text),(.I t.N),(.I s0_at)]) J J (Au (Bh hI J J J Db J))<|Jp J J (fun _ _=>J) (fun K hK=>Mg (e:=Ac) (L:=[({ Kind:=t.Kind,Text:=t.Text,N:=t.N,At:=s0_at }:Token)]) (st:=4) (rows:=[[(.I t.Kind),(.str t.Text),(.I t.N),(.I s0_at)]]) C1 Db J J J J J (.cons (.cons (.same _) (.cons (.same _) (.cons (.same _) (.cons (.same _) .nil)))) .nil) (fun x=>Qm x) J J (hK _ _ (Ag J (Bv J (Au (Bh hI J J J C1 J)) (Bv J (Ca (B9 (c:=0) (off:=2) (i:=2) Pm J C1 J)) (Bv J (Bk J) (Bv J Ad (Bv J Ad B8)))))) ?_))
  clear hK K
  refine K1 fun hl=>Jp J J (fun _ _=>J) (fun K hK=>Iu (e:=Ac) (L:=l) (L2:=[({ Kind:=t.Kind,Text:=t.Text,N:=t.N,At:=s0_at }:Token)]) (v:=v1) (g:=g1) (st:=4) (j:=1) hI J J J vH J (Kn J) C1 C1 J Db J J J hl fun v2 g3 vH1=>hK _ _ (Ag J (Ag J (Ag J (Ag J (Ag J (Bv J Ad B8)))))) ?_)
  clear hK K
  refine Af (.q ids 0 g) J J (Bk J)<|Af (.ptr (ix ids 0) g 0 2) J J (Ca (B9 (c:=0) (off:=2) (i:=2) Pm J C1 J))<|Gx J (fun _ _=>J) (fun K hK=>D8 (Jl vH1 hI J J J J C1 J J J) (hK _ _ (Ag J (Ag J (Ag J (Ag J (Ag J (Ag J (Ag J (Ag J B8)))))))) ?_))
  clear hK K
  refine Cw<|Al ?_
  refine O<|Ab 5 [0] [(33,(.str text)),(32,(.I s0_at)),(29,(.q ids 0 g))] ?_
  refine Z (.I (text.length:Int)) J (Ay (Mi Cz))<|Ab 3 [] [(37,(.ptr (ix ids 0) g 0 1)),(35,(.I (IntKind.wrap .i64 (s0_at+(text.length:Int)))))] ?_
  refine Ar (A0 (v:=(.I (IntKind.wrap .i64 (s0_at+(text.length:Int))))) hI J J J J Dw J J J J J)<|Aa<|Al ?_
  exact Ce (K:=2) (N:=1) (a:=(l++[({ Kind:=t.Kind,Text:=t.Text,N:=t.N,At:=s0_at }:Token)])) (vs:=[]) [some (.rows g 3 [[(.str s0_src),(.I (IntKind.wrap .i64 (s0_at+(text.length:Int)))),v2]]),Ah v2 g3 4 (List.map Ac (l++[({ Kind:=t.Kind,Text:=t.Text,N:=t.N,At:=s0_at }:Token)]))] Tryz.func105 hI J J J (.keep (.keep (.drop .nil))) (.same _) ⟨v2,g3,vH1,J,J⟩
 refine O<|Ab 5 [0] [(13,(.iface 113 (.I s0_at)))] ?_
 exact S1 (v:=⟨113,.I s0_at⟩) J J (Ao (K:=2) (N:=1) Tryz.func105 hI)
theorem Zz (s0_src:Aw)(s0_at:Int)(l:List Token)(h0:Ae)(o0:Nat)(o1:Nat)(g:Nat)(v1:AV)(g1:Nat)(vH:A2 v1 o1 g1 l.length)(hI0:Ids h0 [o0,o1] 2):Nb s0_src s0_at l≠.bad→Bl Tryz.prog 55 [(.ptr o0 g 0 0)] (hp h0 [o0,o1] [some (.rows g 3 [[(.str s0_src),(.int .i64 s0_at),v1]]),Ah v1 g1 4 (List.map Ac l)]) (Cu (fun a_ v h' => ∃ (v3:AV),∃ (g3:Nat),A2 v3 o1 g3 a_.2.length∧v=(.tup [])∧h'=hp h0 [o0,o1] [some (.rows g 3 [[(.str s0_src),(.int .i64 a_.1),v3]]),Ah v3 g3 4 (List.map Ac a_.2)]) h0 (Nb s0_src s0_at l)):=by
 refine Be (n:=11) 0 Tryz.func55 J (by decide) J J hI0 J fun ids he hI=>?_
 clear hI0
 obtain rfl:ix ids 0=o0:=he 0 rfl
 obtain rfl:ix ids 1=o1:=he 1 rfl
 clear he
 refine Bn (Ak (Nb.eq_1 _ _ _) ?_)
 refine Y<|O<|Z (.q ids 0 g) J Ad<|Df (e:=(rI .i64)) (L:=[2,3,5]) (st:=1) (rows:=[[(.I 2)],[(.I 3)],[(.I 5)]]) J M4 Dw J J J J J (.cons (RowSim.refl _) (.cons (RowSim.refl _) (.cons (RowSim.refl _) .nil))) (fun x=>Ai9 x) J J<|B0 [(.q ids 0 g),(.sl 1 (List.map (rI .i64) [2,3,5]))] J J J J (CP.lend (Rg ({ fSrc:=s0_src,fAt:=s0_at,fL:=l }:T119) [2,3,5]) (LF.lfz (.cons (.ptrL (hI.at J J) J J (.cons (.same _) (.cons (.same _) (.cons (Fx vH (hI.at J J) J (fun x=>Qm x)) .nil)))) (.cons (.same _) .nil))) (fun _ _=>(.str _))) (fun v _=>Ao (K:=2) (N:=0) Tryz.func55 hI) fun t _=>Z (.str t) J Aj<|Aa ?_
 refine O<|Ab 4 [] [(9,(.agg [(.I 1),(.str t),(.I 0),(.I 0)])),(7,(.str t)),(6,(.q ids 0 g))] ?_
 refine An [0,1] hI J J (Qi t ({ Kind:=1,Text:=t,N:=0,At:=0 }:Token) s0_src s0_at l _ (ix ids 0) (ix ids 1) g v1 g1 vH (by exact hI.sub' J J)) J J J J J J (fun v _=>Ao (K:=2) (N:=0) Tryz.func55 hI) ?_
 rintro r _ _ _ ⟨v2,g2,vH1,rfl,rfl⟩
 refine Ax [0,1] hI J J J ?_
 refine Ap<|Aa<|Al ?_
 exact Ce (K:=2) (N:=0) (a:=((IntKind.wrap .i64 (s0_at+(t.length:Int))),r)) (vs:=[]) [some (.rows g 3 [[(.str s0_src),(.I (IntKind.wrap .i64 (s0_at+(t.length:Int)))),v2]]),Ah v2 g2 4 (List.map Ac r)] Tryz.func55 hI J J J (.keep (.keep .nil)) (.same _) ⟨v2,g2,vH1,J,J⟩
theorem Yn (s0_src:Aw)(s0_at:Int)(l:List Token)(h0:Ae)(o0:Nat)(o1:Nat)(g:Nat)(v1:AV)(g1:Nat)(vH:A2 v1 o1 g1 l.length)(hI0:Ids h0 [o0,o1] 2):Lf s0_src s0_at l≠.bad→Bl Tryz.prog 56 [(.ptr o0 g 0 0)] (hp h0 [o0,o1] [some (.rows g 3 [[(.str s0_src),(.int .i64 s0_at),v1]]),Ah v1 g1 4 (List.map Ac l)]) (Cu (fun a_ v h' => ∃ (v4:AV),∃ (g3:Nat),A2 v4 o1 g3 a_.2.length∧v=(.tup [])∧h'=hp h0 [o0,o1] [some (.rows g 3 [[(.str s0_src),(.int .i64 a_.1),v4]]),Ah v4 g3 4 (List.map Ac a_.2)]) h0 (Lf s0_src s0_at l)):=by
 refine Be (n:=31) 0 Tryz.func56 J (by decide) J J hI0 J fun ids he hI=>?_
 clear hI0
 obtain rfl:ix ids 0=o0:=he 0 rfl
 obtain rfl:ix ids 1=o1:=he 1 rfl
 clear he
 refine Bn (Ak (Lf.eq_1 _ _ _) ?_)
 refine Y<|O<|Z (.q ids 0 g) J Ad<|Df (e:=(rI .i64)) (L:=[3]) (st:=1) (rows:=[[(.I 3)]]) J M4 Dw J J J J J (.cons (RowSim.refl _) .nil) (fun x=>Ai9 x) J J<|B0 [(.q ids 0 g),(.sl 1 (List.map (rI .i64) [3]))] J J J J (CP.lend (Rg ({ fSrc:=s0_src,fAt:=s0_at,fL:=l }:T119) [3]) (LF.lfz (.cons (.ptrL (hI.at J J) J J (.cons (.same _) (.cons (.same _) (.cons (Fx vH (hI.at J J) J (fun x=>Qm x)) .nil)))) (.cons (.same _) .nil))) (fun _ _=>(.str _))) (fun v _=>Ao (K:=2) (N:=0) Tryz.func56 hI) fun t _=>Z (.str t) J Aj<|Aa ?_
 refine Y<|O<|Z (.str t) J Ad<|An [] hI J J (Ad7 t _ (by exact hI.sub' J J)) J J J J J J (fun v _=>Ao (K:=2) (N:=0) Tryz.func56 hI) ?_
 rintro r _ _ _ ⟨v2,vH1,rfl,rfl⟩
 refine Ax [] hI J J J ?_
 refine Ap<|Ab 5 [] [(4,v2),(3,(.I r.1))] ?_
 refine Aa<|Y<|Y<|O<|Z v2 J Ad<|Z (.bool r.2) J (Ba (Ang (.inr J) vH1) J (Apr Auj vH1))<|Z (.bool r.2) J Ad ?_
 refine Dq 5 ((fun(b:Bool)=>if b then(.pan ⟨113,.I s0_at⟩) else((Ha t ({ Kind:=2,Text:=[],N:=r.1,At:=0 }:Token) s0_src s0_at l).bind fun r2=>.ok ((IntKind.wrap .i64 (s0_at+(t.length:Int))),r2))):Bool→R (Int×(List Token))) (fun(b:Bool) (fr:Nat→AV) (h:Ae)=>fr=A6 [(0,(.q ids 0 g)),(2,(.str t)),(3,(.I r.1)),(20,(.bool b))]∧h=hp h0 ids [(some (.rows g 3 [[(.str s0_src),(.I s0_at),v1]])),(Ah v1 g1 4 (List.map Ac l))]) ?_ fun hJ=>Ed (fun hb1=>?_) (fun hb1=>?_)
 ·rintro b fr h ⟨rfl,rfl⟩
  refine Aa<|Cf J (fun hc=>?_) (fun hc=>?_)
  ·refine O<|Ab 5 [0] [(25,(.iface 113 (.I s0_at)))] ?_
   exact S1 (v:=⟨113,.I s0_at⟩) J J (Ao (K:=2) (N:=0) Tryz.func56 hI)
  refine Az<|O<|Ab 4 [] [(29,(.agg [(.I 2),(.str []),(.I r.1),(.I 0)])),(27,(.str t)),(26,(.q ids 0 g))] ?_
  refine An [0,1] hI J J (Qi t ({ Kind:=2,Text:=[],N:=r.1,At:=0 }:Token) s0_src s0_at l _ (ix ids 0) (ix ids 1) g v1 g1 vH (by exact hI.sub' J J)) J J J J J J (fun v _=>Ao (K:=2) (N:=0) Tryz.func56 hI) ?_
  rintro r2 _ _ _ ⟨v3,g2,vH2,rfl,rfl⟩
  refine Ax [0,1] hI J J J ?_
  refine Ap<|Aa<|Al ?_
  exact Ce (K:=2) (N:=0) (a:=((IntKind.wrap .i64 (s0_at+(t.length:Int))),r2)) (vs:=[]) [some (.rows g 3 [[(.str s0_src),(.I (IntKind.wrap .i64 (s0_at+(t.length:Int)))),v3]]),Ah v3 g2 4 (List.map Ac r2)] Tryz.func56 hI J J J (.keep (.keep .nil)) (.same _) ⟨v3,g2,vH2,J,J⟩
 ·refine A5 (t:=15) hb1 J<|Ab 5 [] [(20,(.bool true))] ?_
  refine Bp<|Ck [(0,(.q ids 0 g)),(2,(.str t)),(3,(.I r.1)),(20,(.bool true))] (FI J)<|hJ true _ _ ⟨J,J⟩
 refine A5 (t:=15) hb1 J<|Bz (tj:=15) (.I r.1) J J J Ad<|B0 [(.I r.1)] J (Cq (tj:=15) J J) J J ((Y0 r.1) _) (fun v _=>Ao (K:=2) (N:=0) Tryz.func56 hI) fun r1 _=>Ab 3 [] [(20,(.bool (!(r1==t))))] ?_
 refine Bp<|Ck [(0,(.q ids 0 g)),(2,(.str t)),(3,(.I r.1)),(20,(.bool (!(r1==t))))] (FI J)<|hJ (!(r1==t)) _ _ ⟨J,J⟩
theorem Z7 (s0_src:Aw)(s0_at:Int)(l:List Token)(h0:Ae)(o0:Nat)(o1:Nat)(g:Nat)(v1:AV)(g1:Nat)(vH:A2 v1 o1 g1 l.length)(hI0:Ids h0 [o0,o1] 2):M5 s0_src s0_at l≠.bad→Bl Tryz.prog 57 [(.ptr o0 g 0 0)] (hp h0 [o0,o1] [some (.rows g 3 [[(.str s0_src),(.int .i64 s0_at),v1]]),Ah v1 g1 4 (List.map Ac l)]) (Cu (fun a_ v h' => ∃ (v3:AV),∃ (g3:Nat),A2 v3 o1 g3 a_.2.length∧v=(.tup [])∧h'=hp h0 [o0,o1] [some (.rows g 3 [[(.str s0_src),(.int .i64 a_.1),v3]]),Ah v3 g3 4 (List.map Ac a_.2)]) h0 (M5 s0_src s0_at l)):=by
 refine Be (n:=61) 0 Tryz.func57 J (by decide) J J hI0 J fun ids he hI=>?_
 clear hI0
 obtain rfl:ix ids 0=o0:=he 0 rfl
 obtain rfl:ix ids 1=o1:=he 1 rfl
 clear he
 refine Bn (Ak (M5.eq_1 _ _ _) ?_)
 refine Y<|Y<|Dh Gk [[],[0],[0,1],[0,1,2],[],[4],[4,5],[4,5,6],[0,1,2,3,4,5,6,7],[0,1,2,3,4,5,6,7,8]] [(false,0),(false,1),(false,2),(false,3),(false,4),(false,5),(false,6),(false,7),(false,8),(true,9)] (by kernel_rfl)<|Af (.q ids 0 g) J J Ad<|Af (.q ids 0 g) J J (Bk J)<|Af (.q ids 0 g) J J (Ca (B9 (c:=0) (off:=0) (i:=0) Pm J Cz J))<|Af (.str s0_src) J J (Au (Bh hI J J J Cz J)) ?_
 refine Af (.q ids 0 g) J J Ad<|Af (.q ids 0 g) J J (Bk J)<|Af (.ptr (ix ids 0) g 0 1) J J (Ca (B9 (c:=0) (off:=1) (i:=1) Pm J Dw J))<|Af (.I s0_at) J J (Au (Bh hI J J J Dw J))<|K1 fun hs=>Af (.str (s0_src.drop (Int.toNat s0_at))) J J (Gz (Akw Cz hs))<|Xq [(.str (s0_src.drop (Int.toNat s0_at))),(.str [47,47])] J J J J J ((Aaj (s0_src.drop (Int.toNat s0_at)) [47,47]) _) (fun v _ _ _=>Ao (K:=2) (N:=0) Tryz.func57 hI) (Ag J (Ag J (Ag J (Ag J (Ag J (Ag J (Ag J (Ag J (Ag J B8))))))))) fun r _=>?_
 refine Cw<|Cf J (fun hc=>?_) (fun hc=>?_)
 ·refine Y<|Y<|Dh Gk [[],[0],[0,1],[0,1,2],[],[4],[4,5],[4,5,6],[0,1,2,3,4,5,6,7],[0,1,2,3,4,5,6,7,8],[0,1,2,3,4,5,6,7,8,9,9,9]] [(false,0),(false,1),(false,2),(false,3),(false,4),(false,5),(false,6),(false,7),(false,8),(true,9),(false,10)] (by kernel_rfl)<|Af (.q ids 0 g) J J Ad<|Af (.q ids 0 g) J J (Bk J)<|Af (.q ids 0 g) J J (Ca (B9 (c:=0) (off:=0) (i:=0) Pm J Cz J))<|Af (.str s0_src) J J (Au (Bh hI J J J Cz J)) ?_
  refine Af (.q ids 0 g) J J Ad<|Af (.q ids 0 g) J J (Bk J)<|Af (.ptr (ix ids 0) g 0 1) J J (Ca (B9 (c:=0) (off:=1) (i:=1) Pm J Dw J))<|Af (.I s0_at) J J (Au (Bh hI J J J Dw J))<|K1 fun hs1=>Af (.str (s0_src.drop (Int.toNat s0_at))) J J (Gz (Akw Cz hs1))<|Xq [(.str (s0_src.drop (Int.toNat s0_at))),(.int .u8 10)] J J J J J ((Ud (s0_src.drop (Int.toNat s0_at)) 10) _) (fun v _ _ _=>Ao (K:=2) (N:=0) Tryz.func57 hI) (Ag J (Ag J (Ag J (Ag J (Ag J (Ag J (Ag J (Ag J (Ag J B8))))))))) fun n _=>?_
  refine Af (.I n) J J Aj<|Cw<|Y<|O<|Ab 2 [] [(25,(.bool (decide (n≥0))))] ?_
  refine Aa<|Qp J (fun hc1=>?_) (fun hc1=>?_)
  ·refine O<|Ab 8 [0] [(33,(.ptr (ix ids 0) g 0 1)),(31,(.I (IntKind.wrap .i64 (s0_at+n))))] ?_
   refine Ar (A0 (v:=(.I (IntKind.wrap .i64 (s0_at+n)))) hI J J J J Dw J J J J J)<|Aa<|Al ?_
   exact D5 (K:=2) (N:=0) (a:=((IntKind.wrap .i64 (s0_at+n)),l)) (vs:=[]) [some (.rows g 3 [[(.str s0_src),(.I (IntKind.wrap .i64 (s0_at+n))),v1]]),Ah v1 g1 4 (List.map Ac l)] Tryz.func57 hI J J J (.keep (.keep .nil)) (.same _) ⟨v1,g1,vH,J,J⟩
  refine O<|Ab 5 [0] [(38,(.str s0_src)),(34,(.q ids 0 g))] ?_
  refine Z (.I (s0_src.length:Int)) J (Ay (Mi Cz))<|Ab 2 [] [(41,(.ptr (ix ids 0) g 0 1))] ?_
  refine Ar (A0 (v:=(.I (s0_src.length:Int))) hI J J J J Dw J J J J J)<|Aa<|Al ?_
  exact D5 (K:=2) (N:=0) (a:=((s0_src.length:Int),l)) (vs:=[]) [some (.rows g 3 [[(.str s0_src),(.I (s0_src.length:Int)),v1]]),Ah v1 g1 4 (List.map Ac l)] Tryz.func57 hI J J J (.keep (.keep .nil)) (.same _) ⟨v1,g1,vH,J,J⟩
 refine Az<|Y<|Dh Gk [[],[0],[0,1],[0,1,2],[],[4],[4,5],[4,5,6],[],[8],[8,9],[8,9,10],[8,9,10,11],[0,1,2,3,4,5,6,7,8,9,10,11,12],[0,1,2,3,4,5,6,7,8,9,10,11,12,13,13]] [(false,0),(false,1),(false,2),(false,3),(false,4),(false,5),(false,6),(false,7),(false,8),(false,9),(false,10),(false,11),(false,12),(false,13),(false,14)] (by kernel_rfl)<|Af (.q ids 0 g) J J Ad<|Af (.q ids 0 g) J J (Bk J)<|Af (.q ids 0 g) J J (Ca (B9 (c:=0) (off:=0) (i:=0) Pm J Cz J))<|Af (.str s0_src) J J (Au (Bh hI J J J Cz J)) ?_
 refine Af (.q ids 0 g) J J Ad<|Af (.q ids 0 g) J J (Bk J)<|Af (.ptr (ix ids 0) g 0 1) J J (Ca (B9 (c:=0) (off:=1) (i:=1) Pm J Dw J))<|Af (.I s0_at) J J (Au (Bh hI J J J Dw J))<|Af (.q ids 0 g) J J Ad<|Af (.q ids 0 g) J J (Bk J)<|Af (.ptr (ix ids 0) g 0 1) J J (Ca (B9 (c:=0) (off:=1) (i:=1) Pm J Dw J)) ?_
 refine Af (.I s0_at) J J (Au (Bh hI J J J Dw J))<|Af (.I (IntKind.wrap .i64 (s0_at+1))) J J (Ba J J J)<|K1 fun hs2=>Af (.str (Sb s0_src s0_at (IntKind.wrap .i64 (s0_at+1)))) J J (Gz (Am7 Cz hs2))<|Af (.str (Sb s0_src s0_at (IntKind.wrap .i64 (s0_at+1)))) J J Aj<|Cw<|O ?_
 refine Ab 4 [] [(59,(.agg [(.I 3),(.str (Sb s0_src s0_at (IntKind.wrap .i64 (s0_at+1)))),(.I 0),(.I 0)])),(57,(.str (Sb s0_src s0_at (IntKind.wrap .i64 (s0_at+1))))),(56,(.q ids 0 g))] ?_
 refine An [0,1] hI J J (Qi (Sb s0_src s0_at (IntKind.wrap .i64 (s0_at+1))) ({ Kind:=3,Text:=(Sb s0_src s0_at (IntKind.wrap .i64 (s0_at+1))),N:=0,At:=0 }:Token) s0_src s0_at l _ (ix ids 0) (ix ids 1) g v1 g1 vH (by exact hI.sub' J J)) J J J J J J (fun v _=>Ao (K:=2) (N:=0) Tryz.func57 hI) ?_
 rintro r1 _ _ _ ⟨v2,g2,vH1,rfl,rfl⟩
 refine Ax [0,1] hI J J J ?_
 refine Ap<|Aa<|Al ?_
 exact Ce (K:=2) (N:=0) (a:=((IntKind.wrap .i64 (s0_at+((Sb s0_src s0_at (IntKind.wrap .i64 (s0_at+1))).length:Int))),r1)) (vs:=[]) [some (.rows g 3 [[(.str s0_src),(.I (IntKind.wrap .i64 (s0_at+((Sb s0_src s0_at (IntKind.wrap .i64 (s0_at+1))).length:Int)))),v2]]),Ah v2 g2 4 (List.map Ac r1)] Tryz.func57 hI J J J (.keep (.keep .nil)) (.same _) ⟨v2,g2,vH1,J,J⟩
theorem Af3 (a0:AV)(a1:AV)(a2:AV)(h:Ae):P4 Tryz.prog 52 [a0,a1,a2] .ret h (Ab9 (fun _:Unit=>h) .ret (.ok ())):=by
 refine Ads (n:=9) Tryz.func52 J (by decide) J J ?_ ⟨(),J⟩
 refine Y<|O<|Akd J<|Z .nili J Aj<|Aa<|Y<|O ?_
 refine Z .nili J Ad<|Z (.bool false) J (Ba J J (Afd Al9))<|Aa<|Ky false J<|Az<|Acv Tryz.func52 J J J
theorem Abd (n:Int)(h0:Ae)(ids:List Nat)(hI:Ids h0 ids 3)(g0_:Nat)(g1_:Nat)(g2_:Nat)(r0_:List AV)(r1_:List AV)(r2_:List AV)(hr0_:r0_.length=1)(hr1_:r1_.length=1)(hr2_:r2_.length=1):(∃ a,Ka n=.ok a)→P4 Tryz.prog 52 [(.ptr (ix ids 0) g0_ 0 0),(.ptr (ix ids 1) g1_ 0 0),(.ptr (ix ids 2) g2_ 0 0)] (.pan (.iface 113 (.int .i64 n)) false) (hp h0 ids [some (.rows g0_ 1 [r0_]),some (.rows g1_ 1 [r1_]),some (.rows g2_ 1 [r2_])]) (Ab9 (fun p=>hp h0 ids [some (.rows g0_ 1 [[.emp]]),some (.rows g1_ 1 [[(.int .i64 p)]]),some (.rows g2_ 1 [[(.int .i64 70)]])]) (.pan (.iface 113 (.int .i64 n)) true) (Ka n)):=by
 refine Ads (n:=9) Tryz.func52 J (by decide) J J<|Bn (Ak (Ka.eq_1 _) ?_)
 refine Y<|O<|Akz J<|Z (.iface 113 (.I n)) J Aj<|Aa<|Y<|O ?_
 refine Z (.iface 113 (.I n)) J Ad<|Z (.bool true) J (Ba J J (Adu Al9))<|Aa<|Ky true J<|Dh Gk [[],[0],[],[0,1,1,2,2],[0,1,2,3,3]] [(false,0),(false,1),(true,2),(true,3),(true,4)] (by kernel_rfl)<|Af (.iface 113 (.I n)) J J Ad<|Af (.I n) J J (Alj (Ap3 Ap2 (by decide))) ?_
 refine Gx J (fun _ _=>J) (fun K hK=>D8 (Xt (v:=.emp) hI J J J C1 J J J hr0_ J) (hK _ _ (Bv J (Alj (Ap3 Ap2 (by decide))) (Bv J Ad B8)) ?_))
 clear hK K
 refine Gx J (fun _ _=>J) (fun K hK=>D8 (Xt (v:=(.I n)) hI J J J Dw J J J hr1_ J) (hK _ _ (Ag J (Ag J B8)) ?_))
 clear hK K
 refine Gx J (fun _ _=>J) (fun K hK=>D8 (Xt (v:=(.I 70)) hI J J J Oa J J J hr2_ J) (hK _ _ (Ag J (Ag J B8)) ?_))
 clear hK K
 refine Cw<|Al ?_
 exact Acv (a:=n) Tryz.func52 J J J
theorem Al2 (src:Aw):CP Tryz.prog 16 [(.str src)] (Ac7 src) (fun(p:((List Token)×Int×Int))=>AV.tup [(.sl 4 (List.map Ac p.1)),(.int .i64 p.2.1),(.int .i64 p.2.2)]):=by
 show CP _ _ _ ((Y4 src).catch' (O1 113 .i64 (fun n=>(Ka n).bind fun p=>.ok ([],p,70)) (fun _=>.bad))) _
 refine Agy (n:=39) 6 Tryz.func16 J (by decide) J J fun h0 ids hI=>?_
 have hU : ∀ (v:PV) (fr:Nat→AV) (xs:List (Option AO)) (g0_:Nat) (r0_:List AV) (g1_:Nat) (r1_:List AV) (g2_:Nat) (r2_:List AV) (hl_:xs.length=6) (hr0_:r0_.length=1) (hr1_:r1_.length=1) (hr2_:r2_.length=1) (hy_:xs.take 3=[some (.rows g0_ 1 [r0_]),some (.rows g1_ 1 [r1_]),some (.rows g2_ 1 [r2_])]) (hq2_:fr 2=.q ids 0 g0_) (hq3_:fr 3=.q ids 1 g1_) (hq4_:fr 4=.q ids 2 g2_),WU Tryz.prog 16 39 false (Q3 (fun(p:((List Token)×Int×Int))=>AV.tup [(.sl 4 (List.map Ac p.1)),(.I p.2.1),(.I p.2.2)]) h0 (O1 113 .i64 (fun n=>(Ka n).bind fun p=>.ok ([],p,70)) (fun _=>.bad))) (.pan v) (.pan v.av false) fr [⟨52,[.q ids 0 g0_,.q ids 1 g1_,.q ids 2 g2_]⟩] (hp h0 ids xs) .ret:=by
  intro v fr xs g0_ r0_ g1_ r1_ g2_ r2_ hl_ hr0_ hr1_ hr2_ hy_ hq2_ hq3_ hq4_
  refine Aum (t:=113) (k:=.i64) J (fun n hv=>?_) (fun hne113=>?_)
  ·subst hv
   exact Ahj (Hc:=Ka n) (fin:=fun p=>([],p,70)) (c:=3) (cells:=fun p=>[some (.rows g0_ 1 [[.emp]]),some (.rows g1_ 1 [[(.I p)]]),some (.rows g2_ 1 [[(.I 70)]])]) (vs:=fun p=>[.emp,(.I p),(.I 70)]) Tryz.func16 hI hl_ J hy_ (by first | (rw [Agx]; done) | (rw [Agx]; rfl)) (fun hx=>by have:=Abd n h0 (ids.take 3) (hI.take J) g0_ g1_ g2_ r0_ r1_ r2_ hr0_ hr1_ hr2_ hx; simp only [Ow (c:=3) (j:=0) J,Ow (c:=3) (j:=1) J,Ow (c:=3) (j:=2) J] at this; exact this) (by intro w; simp [Ka]) (fun p=>(R5 hq2_ (Xm (hI.take J) (Ow J) J J J C1 J) (R5 hq3_ (Xm (hI.take J) (Ow J) J J J Dw J) (R5 hq4_ (Xm (hI.take J) (Ow J) J J J Oa J) Fj)))) (fun p=>(.tupL (.cons (.emp _) (.cons (.same _) (.cons (.same _) .nil)))))
  exact Ap0 (by rw [Am5 hne113])
 refine Bn (Ak (Y4.eq_1 _) ?_)
 refine Y<|O<|Bf (j:=0) hI J J J J C1 J fun g=>Bf (j:=1) hI J J J J Dw J fun g1=>Bf (j:=2) hI J J J J Oa J fun g2=>Aa<|Al ?_
 refine Y<|Y<|O<|Z (.str src) J Ad<|Z (.I (src.length:Int)) J (Ay (Mi Cz))<|Z (.bool (decide ((src.length:Int) > 65536))) J (Ba J J J)<|Aa ?_
 refine Qp J (fun hc=>?_) (fun hc=>?_)
 ·refine Y<|O<|Ar (A0 (v:=.emp) hI J J J J C1 J J J J J)<|Ar (A0 (v:=(.I 0)) hI J J J J Dw J J J J J)<|Ar (A0 (v:=(.I 2)) hI J J J J Oa J J J J J)<|Aa<|Al ?_
  exact Aih (a:=([],0,2)) (vs:=[.emp,(.I 0),(.I 2)]) Tryz.func16 hI (Dx (Bh hI J J J C1 J) (Dx (Bh hI J J J Dw J) (Dx (Bh hI J J J Oa J) Fj))) (.tupL (.cons (.emp _) (.cons (.same _) (.cons (.same _) .nil))))
 refine Az<|Y<|O<|Z (.func (.func 52) [] [(.q ids 0 g),(.q ids 1 g1),(.q ids 2 g2)]) J R0<|Ah4 J J J ?_
 refine Aa<|Y<|O<|Bf (j:=3) hI J J J J Ap8 J fun g3=>Aa<|Al ?_
 refine Y<|O<|Ab 2 [] [(12,(.q ids 3 g3)),(11,(.agg [(.func (.func 53) [] []),(.func (.func 54) [] []),(.func (.func 55) [] []),(.func (.func 56) [] []),(.func (.func 57) [] []),(.func (.func 53) [] [])]))] ?_
 refine Ar (A0 (v:=(.agg [(.func (.func 53) [] []),(.func (.func 54) [] []),(.func (.func 55) [] []),(.func (.func 56) [] []),(.func (.func 57) [] []),(.func (.func 53) [] [])])) hI J J J J Yv J J J J J)<|Aa<|Al ?_
 refine Y<|O<|Ab 2 [] [(14,(.agg [(.str src),(.I 0),.emp]))] ?_
 refine Cx (v:=(.agg [(.str src),(.I 0),.emp])) (j:=4) hI J J J J J J J fun g4=>Z (.q ids 4 g4) J Aj<|Aa<|Al ?_
 refine Y<|Ei (C3 fun fAt3 l1=>Xk fAt3 l1) (C3 fun fAt3 l1=>fun(fr:Nat→AV) (h:Ae) => ∃ (v4:AV),∃ (g9:Nat),A2 v4 (ix ids 5) g9 l1.length∧fr=A6 [(2,(.q ids 0 g)),(3,(.q ids 1 g1)),(4,(.q ids 2 g2)),(6,(.q ids 4 g4))]∧h=hp h0 ids [(some (.rows g 1 [[.emp]])),(some (.rows g1 1 [[(.I 0)]])),(some (.rows g2 1 [[(.I 0)]])),none,(some (.rows g4 3 [[(.str src),(.I fAt3),v4]])),(Ah v4 g9 4 (List.map Ac l1))]) ?_ fun hJ=>?_
 ·rintro⟨fAt3,l1⟩ fr h ⟨v4,g9,vH4,rfl,rfl⟩
  refine Ak (Xk.eq_1 _ _)<|Y<|O<|Ab 4 [4] [(38,v4)] ?_
  refine Ar (Jl vH4 hI J J J J C1 J J J)<|Ar (A0 (v:=(.I 0)) hI J J J J Dw J J J J J)<|Ar (A0 (v:=(.I 0)) hI J J J J Oa J J J J J)<|Aa<|Al ?_
  exact Ak1 (a:=(l1,0,0)) (vs:=[v4,(.I 0),(.I 0)]) Tryz.func16 hI (Af3 _ _ _ _) (Dx (Bh hI J J J C1 J) (Dx (Bh hI J J J Dw J) (Dx (Bh hI J J J Oa J) Fj))) (.tupL (.cons (Fx vH4 (hI.at J J) (hI.out J) (fun x=>Qm x)) (.cons (.same _) (.cons (.same _) .nil))))
 refine A8<|Dt [(0,(.str src)),(2,(.q ids 0 g)),(3,(.q ids 1 g1)),(4,(.q ids 2 g2)),(5,(.q ids 3 g3)),(6,(.q ids 4 g4))] (FI J)<|U6 (P:=Tryz.prog) (C3 fun fAt l=>N7 src fAt l) ((C3 fun fAt3 l1=>Xk fAt3 l1):(Int×(List Token))→R ((List Token)×Int×Int)) (C3 fun fAt l=>fun(fr:Nat→AV) (h:Ae) => ∃ (v:AV),∃ (g5:Nat),A2 v (ix ids 5) g5 l.length∧fr=A6 [(0,(.str src)),(2,(.q ids 0 g)),(3,(.q ids 1 g1)),(4,(.q ids 2 g2)),(5,(.q ids 3 g3)),(6,(.q ids 4 g4))]∧h=hp h0 ids [(some (.rows g 1 [[.emp]])),(some (.rows g1 1 [[(.I 0)]])),(some (.rows g2 1 [[(.I 0)]])),(some (.rows g3 6 [[(.func (.func 53) [] []),(.func (.func 54) [] []),(.func (.func 55) [] []),(.func (.func 56) [] []),(.func (.func 57) [] []),(.func (.func 53) [] [])]])),(some (.rows g4 3 [[(.str src),(.I fAt),v]])),(Ah v g5 4 (List.map Ac l))]) (0,[]) ?_ ?_
 ·exact⟨.emp,0,.nil,J,J⟩
 rintro vW hW ⟨fAt,l⟩ fr h ⟨v,g5,vH,rfl,rfl⟩
 refine Ak (m':=N7 src fAt l) J (Ak (N7.eq_1 _ _ _) ?_)
 refine Y<|Y<|O<|Ab 5 [4] [(20,(.str src)),(19,(.I fAt))] ?_
 refine Z (.I (src.length:Int)) J (Ay (Mi Cz))<|Z (.bool (decide (fAt<(src.length:Int)))) J (Ba J J J)<|Aa<|Qp J (fun hc1=>?_) (fun hc1=>?_)
 ·refine Az<|A8<|O<|Ab 5 [4] [(27,(.I fAt)),(23,(.str src))] ?_
  refine E1 fun a hz hx1=>Z (.int .u8 (a.toNat:Int)) J (Ae3 (Abo Cz hz hx1))<|B0 [(.int .u8 (a.toNat:Int))] J J J J ((Rl (a.toNat:Int)) _) (fun v _=>hU v _ _ _ _ _ _ _ _ J J J J J J J J) fun r _=>Z (.q ids 3 g3) J (Ca (B9 (c:=0) (off:=0) (i:=0) Ap8 J Yv J))<|Xs (fun hi=>?_) (fun _=>?_)
  ·refine Z (.q ids 3 g3) J (Bs (Vf 0 Yv Ac5 hi J))<|Ab 2 [3] [(33,(.q ids 4 g4)),(32,(.func (.func 53) [] []))] ?_
   refine B0 [(.q ids 4 g4)] J J J J (CP.lend (Tr ({ fSrc:=src,fAt:=fAt,fL:=l }:T119)) (LF.lfz (.cons (.ptrL (hI.at J J) J J (.cons (.same _) (.cons (.same _) (.cons (Fx vH (hI.at J J) J (fun x=>Qm x)) .nil)))) .nil)) (fun _ _=>.tup0)) (fun v _=>hU v _ _ _ _ _ _ _ _ J J J J J J J J) fun _ _=>Aa<|Bj<|Bq (Pt (hW (fAt,l) _ _ ⟨v,g5,vH,J,J⟩))
  refine Xs (fun hi=>?_) (fun _=>?_)
  ·refine Z (.ptr (ix ids 3) g3 0 1) J (Bs (Vf 1 Yv Ac5 hi J))<|Ab 2 [3] [(33,(.q ids 4 g4)),(32,(.func (.func 54) [] []))] ?_
   refine An [4,5] hI J J (Ze src fAt l _ (ix ids 4) (ix ids 5) g4 v g5 vH (by exact hI.sub' J J)) J J J J J J (fun v _=>hU v _ _ _ _ _ _ _ _ J J J J J J J J) ?_
   rintro r2 _ _ _ ⟨rfl,rfl⟩
   refine Ax [4,5] hI J J J ?_
   refine Ap<|Aa<|Al ?_
   refine Bj<|Bq (Pt (hW (r2,l) _ _ ⟨v,g5,vH,J,J⟩))
  refine Xs (fun hi=>?_) (fun _=>?_)
  ·refine Z (.ptr (ix ids 3) g3 0 2) J (Bs (Vf 2 Yv Ac5 hi J))<|Ab 2 [3] [(33,(.q ids 4 g4)),(32,(.func (.func 55) [] []))] ?_
   refine An [4,5] hI J J (Zz src fAt l _ (ix ids 4) (ix ids 5) g4 v g5 vH (by exact hI.sub' J J)) J J J J J J (fun v _=>hU v _ _ _ _ _ _ _ _ J J J J J J J J) ?_
   rintro r3 _ _ _ ⟨v1,g6,vH1,rfl,rfl⟩
   refine Ax [4,5] hI J J J ?_
   refine Ap<|Aa<|Al ?_
   refine Bj<|Bq (Pt (hW (r3.1,r3.2) _ _ ⟨v1,g6,vH1,J,J⟩))
  refine Xs (fun hi=>?_) (fun _=>?_)
  ·refine Z (.ptr (ix ids 3) g3 0 3) J (Bs (Vf 3 Yv Ac5 hi J))<|Ab 2 [3] [(33,(.q ids 4 g4)),(32,(.func (.func 56) [] []))] ?_
   refine An [4,5] hI J J (Yn src fAt l _ (ix ids 4) (ix ids 5) g4 v g5 vH (by exact hI.sub' J J)) J J J J J J (fun v _=>hU v _ _ _ _ _ _ _ _ J J J J J J J J) ?_
   rintro r4 _ _ _ ⟨v2,g7,vH2,rfl,rfl⟩
   refine Ax [4,5] hI J J J ?_
   refine Ap<|Aa<|Al ?_
   refine Bj<|Bq (Pt (hW (r4.1,r4.2) _ _ ⟨v2,g7,vH2,J,J⟩))
  refine Xs (fun hi=>?_) (fun _=>?_)
  ·refine Z (.ptr (ix ids 3) g3 0 4) J (Bs (Vf 4 Yv Ac5 hi J))<|Ab 2 [3] [(33,(.q ids 4 g4)),(32,(.func (.func 57) [] []))] ?_
   refine An [4,5] hI J J (Z7 src fAt l _ (ix ids 4) (ix ids 5) g4 v g5 vH (by exact hI.sub' J J)) J J J J J J (fun v _=>hU v _ _ _ _ _ _ _ _ J J J J J J J J) ?_
   rintro r5 _ _ _ ⟨v3,g8,vH3,rfl,rfl⟩
   refine Ax [4,5] hI J J J ?_
   refine Ap<|Aa<|Al ?_
   refine Bj<|Bq (Pt (hW (r5.1,r5.2) _ _ ⟨v3,g8,vH3,J,J⟩))
  refine Xs (fun hi=>?_) (fun _=>?_)
  ·refine Z (.ptr (ix ids 3) g3 0 5) J (Bs (Vf 5 Yv Ac5 hi J))<|Ab 2 [3] [(33,(.q ids 4 g4)),(32,(.func (.func 53) [] []))] ?_
   refine B0 [(.q ids 4 g4)] J J J J (CP.lend (Tr ({ fSrc:=src,fAt:=fAt,fL:=l }:T119)) (LF.lfz (.cons (.ptrL (hI.at J J) J J (.cons (.same _) (.cons (.same _) (.cons (Fx vH (hI.at J J) J (fun x=>Qm x)) .nil)))) .nil)) (fun _ _=>.tup0)) (fun v _=>hU v _ _ _ _ _ _ _ _ J J J J J J J J) fun _ _=>Aa<|Bj<|Bq (Pt (hW (fAt,l) _ _ ⟨v,g5,vH,J,J⟩))
  exact Aua
 refine Ct J<|Xn<|Eh [(some (.rows g 1 [[.emp]])),(some (.rows g1 1 [[(.I 0)]])),(some (.rows g2 1 [[(.I 0)]])),none,(some (.rows g4 3 [[(.str src),(.I fAt),v]])),(Ah v g5 4 (List.map Ac l))] hI J (.keep (.keep (.keep (.drop (.keep (.keep .nil))))))<|Bq (hJ (fAt,l) _ _ ⟨v,g5,vH,J,J⟩)
theorem Zs (r:T67)(e:Int):CP Tryz.prog 80 [(.cp (Avh r) 0),(.int .i64 e)] (Mt r e) (fun(_:Unit)=>AV.tup []):=by
 refine C0 (n:=26) 0 Tryz.func80 J (by decide) J J fun h0 ids hI=>Bn (Ak (Mt.eq_1 _ _) ?_)
 refine Y<|O<|Ab 5 [] [(4,(.I r.fEnd))] ?_
 refine Aa<|Y<|Y<|O<|Ab 4 [] [(12,(.sl 4 (List.map Ac r.fL)))] ?_
 refine Z (.I (r.fL.length:Int)) J (Ay (A7 C1))<|Z (.bool (decide ((r.fL.length:Int) > 0))) J (Ba J J J)<|Aa<|Qp J (fun hc=>?_) (fun hc=>?_)
 ·refine O<|Ab 4 [] [(18,(.sl 4 (List.map Ac r.fL)))] ?_
  refine E1 fun a hz hx1=>Z (.cp (Ac a) 0) J (Bs (D3 C1 Db J hz hx1))<|Ab 3 [] [(4,(.I a.At))] ?_
  refine Aa<|O<|Ab 4 [] [(25,(.iface 64 (.agg [(.I a.At),(.I e)])))] ?_
  exact S1 (v:=⟨64,.two .i64 .i64 a.At e⟩) J J (Cg Tryz.func80 hI)
 refine Az<|O<|Ab 4 [] [(25,(.iface 64 (.agg [(.I r.fEnd),(.I e)])))] ?_
 exact S1 (v:=⟨64,.two .i64 .i64 r.fEnd e⟩) J J (Cg Tryz.func80 hI)
theorem Cj (e:Int)(s_l:List Token)(s_end:Int)(h0:Ae)(o0:Nat)(w:AV)(w1:AV)(w2:AV)(w3:AV)(w4:AV)(w5:AV)(w6:AV)(w7:AV)(g:Nat)(hI0:Ids h0 [o0] 1):Bm e s_l s_end≠.bad→Bl Tryz.prog 80 [(.ptr o0 g 0 0),(.int .i64 e)] (hp h0 [o0] [some (.rows g 10 [[(.sl 4 (List.map Ac s_l)),(.int .i64 s_end),w,w1,w2,w3,w4,w5,w6,w7]])]) (Cu (fun a_ v h'=>v=(.tup [])∧h'=hp h0 [o0] [some (.rows g 10 [[(.sl 4 (List.map Ac s_l)),(.int .i64 s_end),w,w1,w2,w3,w4,w5,w6,w7]])]) h0 (Bm e s_l s_end)):=by
 refine Be (n:=26) 0 Tryz.func80 J (by decide) J J hI0 J fun ids he hI=>?_
 clear hI0
 obtain rfl:ix ids 0=o0:=he 0 rfl
 clear he
 refine Bn (Ak (Bm.eq_1 _ _ _) ?_)
 refine Y<|O<|Ab 5 [0] [(4,(.I s_end))] ?_
 refine Aa<|Y<|Y<|O<|Ab 4 [0] [(12,(.sl 4 (List.map Ac s_l)))] ?_
 refine Z (.I (s_l.length:Int)) J (Ay (A7 C1))<|Z (.bool (decide ((s_l.length:Int) > 0))) J (Ba J J J)<|Aa<|Qp J (fun hc=>?_) (fun hc=>?_)
 ·refine O<|Ab 4 [0] [(18,(.sl 4 (List.map Ac s_l)))] ?_
  refine E1 fun a hz hx1=>Z (.cp (Ac a) 0) J (Bs (D3 C1 Db J hz hx1))<|Ab 3 [] [(4,(.I a.At))] ?_
  refine Aa<|O<|Ab 4 [] [(25,(.iface 64 (.agg [(.I a.At),(.I e)])))] ?_
  exact S1 (v:=⟨64,.two .i64 .i64 a.At e⟩) J J (Ao (K:=1) (N:=0) Tryz.func80 hI)
 refine Az<|O<|Ab 4 [] [(25,(.iface 64 (.agg [(.I s_end),(.I e)])))] ?_
 exact S1 (v:=⟨64,.two .i64 .i64 s_end e⟩) J J (Ao (K:=1) (N:=0) Tryz.func80 hI)
theorem X6 (a:Token):CP Tryz.prog 212 [(.agg (Ac a))] (K5 a) (fun(x:Bool)=>(AV.bool x)):=by
 refine C0 (n:=3) 1 Tryz.func212 J (by decide) J J fun h0 ids hI=>Bn (Ak (K5.eq_1 _) ?_)
 refine Y<|O<|Cx (v:=(.agg (Ac a))) (j:=0) hI J J J J J J J fun g=>Z (.bool false) J Aj<|Aa<|Al ?_
 refine Y<|O<|Z (.bool true) J Aj<|Aa<|Br (a:=true) (vs:=[(.bool true)]) Tryz.func212 hI J (.same _)
theorem Yk (kind:Int)(s_l:List Token)(s_end:Int)(h0:Ae)(o0:Nat)(w:AV)(w1:AV)(w2:AV)(w3:AV)(w4:AV)(w5:AV)(w6:AV)(w7:AV)(g:Nat)(hI0:Ids h0 [o0] 1):Ni kind s_l s_end≠.bad→Bl Tryz.prog 207 [(.ptr o0 g 0 0),(.int .i64 kind),(.func (.func 212) [] [])] (hp h0 [o0] [some (.rows g 10 [[(.sl 4 (List.map Ac s_l)),(.int .i64 s_end),w,w1,w2,w3,w4,w5,w6,w7]])]) (Cu (fun a_ v h'=>v=(.agg (Ac a_))∧h'=hp h0 [o0] [some (.rows g 10 [[(.sl 4 (List.map Ac (s_l.drop 1))),(.int .i64 s_end),w,w1,w2,w3,w4,w5,w6,w7]])]) h0 (Ni kind s_l s_end)):=by
 refine Be (n:=53) 2 Tryz.func207 J (by decide) J J hI0 J fun ids he hI=>?_
 clear hI0
 obtain rfl:ix ids 0=o0:=he 0 rfl
 clear he
 refine Bn (Ak (Ni.eq_1 _ _ _) ?_)
 refine Al ?_
 refine Y<|O<|Bf (j:=1) hI J J J J Db J fun g1=>Aa<|Al ?_
 refine Y<|Y<|O<|Ab 4 [0] [(11,(.sl 4 (List.map Ac s_l)))] ?_
 refine Z (.I (s_l.length:Int)) J (Ay (A7 C1))<|Ab 2 [] [(14,(.bool ((s_l.length:Int)==0)))] ?_
 refine Dq 10 ((fun(b:Bool)=>(if b then R.ok true else(E3 s_l 0).bind fun a1=>(K5 a1).bind fun r=>R.ok (!r)).bind (fun(b1:Bool)=>if b1 then((Bm 80 s_l s_end).bind fun _=>Fa s_l) else(Fa s_l))):Bool→R Token) (fun(b:Bool) (fr:Nat→AV) (h:Ae)=>fr=A6 [(0,(.q ids 0 g)),(2,(.func (.func 212) [] [])),(6,(.q ids 1 g1)),(24,(.bool b))]∧h=hp h0 ids [(some (.rows g 10 [[(.sl 4 (List.map Ac s_l)),(.I s_end),w,w1,w2,w3,w4,w5,w6,w7]])),(some (.rows g1 4 [[(.I 0),(.str []),(.I 0),(.I 0)]])),none]) ?_ fun hJ=>Ed (fun hb1=>?_) (fun hb1=>?_)
 ·rintro b fr h ⟨rfl,rfl⟩
  refine Z (.bool b) J Ad<|Dq 10 ((fun(b1:Bool)=>if b1 then((Bm 80 s_l s_end).bind fun _=>Fa s_l) else(Fa s_l)):Bool→R Token) (fun(b1:Bool) (fr:Nat→AV) (h:Ae)=>fr=A6 [(0,(.q ids 0 g)),(6,(.q ids 1 g1)),(35,(.bool b1))]∧h=hp h0 ids [(some (.rows g 10 [[(.sl 4 (List.map Ac s_l)),(.I s_end),w,w1,w2,w3,w4,w5,w6,w7]])),(some (.rows g1 4 [[(.I 0),(.str []),(.I 0),(.I 0)]])),none]) ?_ fun hJ1=>Ed (fun hb3=>?_) (fun hb3=>?_)
  ·rintro b1 fr h ⟨rfl,rfl⟩
   refine Aa<|Ei (π:=Unit) (fun _=>Fa s_l) (fun _=>fun(fr:Nat→AV) (h:Ae)=>fr=A6 [(0,(.q ids 0 g)),(6,(.q ids 1 g1))]∧h=hp h0 ids [(some (.rows g 10 [[(.sl 4 (List.map Ac s_l)),(.I s_end),w,w1,w2,w3,w4,w5,w6,w7]])),(some (.rows g1 4 [[(.I 0),(.str []),(.I 0),(.I 0)]])),none]) ?_ fun hJ2=>?_
   ·rintro _ fr h ⟨rfl,rfl⟩
    refine Ak (Fa.eq_1 _)<|Y<|O<|Ab 4 [0] [(41,(.sl 4 (List.map Ac s_l)))] ?_
    refine E1 fun a2 hz2 hx3=>Z (.cp (Ac a2) 0) J (Bs (D3 C1 Db J hz2 hx3))<|Z (.agg (Ac a2)) J (Au (Cr Db J))<|Bf (j:=2) hI J J J J Db J fun g2=>Ar (A0 (v:=(.agg (Ac a2))) hI J J J J Db J J J J J)<|Aa<|Al ?_
    refine Y<|O<|Ab 5 [0] [(48,(.sl 4 (List.map Ac s_l))),(44,(.q ids 0 g))] ?_
    refine Gj fun hs=>Z (.sl 4 (List.map Ac (s_l.drop 1))) J (Gz (Ns C1 Db J hs))<|Ab 2 [] [(51,(.q ids 0 g))] ?_
    refine Ar (A0 (v:=(.sl 4 (List.map Ac (s_l.drop 1)))) hI J J J J C1 J J J J J)<|Aa<|Al ?_
    refine Y<|O<|Ab 1 [2] [(52,(.agg (Ac a2)))] ?_
    refine Ar (A0 (v:=(.agg (Ac a2))) hI J J J J Db J J J J J)<|Aa<|Al ?_
    exact D5 (K:=1) (N:=2) (a:=a2) (vs:=[(.agg (Ac a2))]) [some (.rows g 10 [[(.sl 4 (List.map Ac (s_l.drop 1))),(.I s_end),w,w1,w2,w3,w4,w5,w6,w7]])] Tryz.func207 hI J (Dx (Bh hI J J J Db J) Fj) J (.keep (.drop (.drop .nil))) (.same _) ⟨J,J⟩
   refine Cf J (fun hc=>?_) (fun hc=>?_)
   ·refine O<|Z (.q ids 0 g) J Ad<|An [0] hI J J (Cj 80 s_l s_end _ (ix ids 0) w w1 w2 w3 w4 w5 w6 w7 g (by exact hI.sub' J J)) J J J J J J (fun v _=>Ao (K:=1) (N:=2) Tryz.func207 hI) ?_
    rintro _ _ _ _ ⟨rfl,rfl⟩
    refine Ax [0] hI J J J ?_
    refine Ap<|Aa<|Bq (hJ2 () _ _ ⟨J,J⟩)
   refine Az<|Bq (hJ2 () _ _ ⟨J,J⟩)
  ·refine A5 (t:=25) hb3 J<|Ab 10 [] [(35,(.bool true))] ?_
   refine Bp<|Ck [(0,(.q ids 0 g)),(6,(.q ids 1 g1)),(35,(.bool true))] (FI J)<|hJ1 true _ _ ⟨J,J⟩
  refine A5 (t:=25) hb3 J<|Ab 5 [0] [(30,(.sl 4 (List.map Ac s_l))),(26,(.func (.func 212) [] []))] ?_
  refine E1 fun a1 hz1 hx2=>Bz (tj:=25) (.cp (Ac a1) 0) J J J (Bs (D3 C1 Db J hz1 hx2))<|Bz (tj:=25) (.agg (Ac a1)) J J J (Au (Cr Db J))<|B0 [(.agg (Ac a1))] J (Cq (tj:=25) J J) J J ((X6 a1) _) (fun v _=>Ao (K:=1) (N:=2) Tryz.func207 hI) fun r _=>Ab 2 [] [(35,(.bool (!r)))] ?_
  refine Bp<|Ck [(0,(.q ids 0 g)),(6,(.q ids 1 g1)),(35,(.bool (!r)))] (FI J)<|hJ1 (!r) _ _ ⟨J,J⟩
 ·refine A5 (t:=14) hb1 J<|Ab 10 [] [(24,(.bool true))] ?_
  refine Bp<|Ck [(0,(.q ids 0 g)),(2,(.func (.func 212) [] [])),(6,(.q ids 1 g1)),(24,(.bool true))] (FI J)<|hJ true _ _ ⟨J,J⟩
 refine A5 (t:=14) hb1 J<|Ab 4 [0] [(18,(.sl 4 (List.map Ac s_l)))] ?_
 refine E1 fun a hz hx1=>Bz (tj:=14) (.cp (Ac a) 0) J J J (Bs (D3 C1 Db J hz hx1))<|Ab 5 [] [(24,(.bool (a.Kind != kind)))] ?_
 refine Bp<|Ck [(0,(.q ids 0 g)),(2,(.func (.func 212) [] [])),(6,(.q ids 1 g1)),(24,(.bool (a.Kind != kind)))] (FI J)<|hJ (a.Kind != kind) _ _ ⟨J,J⟩
theorem Cy (s_l:List Token)(s_end:Int)(h0:Ae)(o0:Nat)(w:AV)(w1:AV)(w2:AV)(w3:AV)(w4:AV)(w5:AV)(w6:AV)(w7:AV)(g:Nat)(hI0:Ids h0 [o0] 1):Cc s_l s_end≠.bad→Bl Tryz.prog 177 [(.ptr o0 g 0 0)] (hp h0 [o0] [some (.rows g 10 [[(.sl 4 (List.map Ac s_l)),(.int .i64 s_end),w,w1,w2,w3,w4,w5,w6,w7]])]) (Cu (fun a_ v h'=>v=(.str a_)∧h'=hp h0 [o0] [some (.rows g 10 [[(.sl 4 (List.map Ac (s_l.drop 1))),(.int .i64 s_end),w,w1,w2,w3,w4,w5,w6,w7]])]) h0 (Cc s_l s_end)):=by
 refine Be (n:=6) 0 Tryz.func177 J (by decide) J J hI0 J fun ids he hI=>?_
 clear hI0
 obtain rfl:ix ids 0=o0:=he 0 rfl
 clear he
 refine Bn (Ak (Cc.eq_1 _ _) ?_)
 refine Y<|O<|Z (.str []) J Aj<|Aa<|Y<|O<|Z (.q ids 0 g) J Ad ?_
 refine An [0] hI J J (Yk 1 s_l s_end _ (ix ids 0) w w1 w2 w3 w4 w5 w6 w7 g (by exact hI.sub' J J)) J J J J J J (fun v _=>Ao (K:=1) (N:=0) Tryz.func177 hI) ?_
 rintro r _ _ _ ⟨rfl,rfl⟩
 refine Ax [0] hI J J J ?_
 refine Ap<|Ab 2 [] [(2,(.str r.Text))] ?_
 refine Aa<|Al ?_
 exact D5 (K:=1) (N:=0) (a:=r.Text) (vs:=[(.str r.Text)]) [some (.rows g 10 [[(.sl 4 (List.map Ac (s_l.drop 1))),(.I s_end),w,w1,w2,w3,w4,w5,w6,w7]])] Tryz.func177 hI J J J (.keep .nil) (.same _) ⟨J,J⟩
theorem Xz (t:Token)(b:Aw):CP Tryz.prog 213 [(.agg (Ac t)),(.cp [(.str b)] 0)] (K0 t b) (fun(x:Bool)=>(AV.bool x)):=by
 refine C0 (n:=8) 1 Tryz.func213 J (by decide) J J fun h0 ids hI=>Bn (Ak (K0.eq_1 _ _) ?_)
 refine Y<|O<|Cx (v:=(.agg (Ac t))) (j:=0) hI J J J J J J J fun g=>Z (.bool false) J Aj<|Aa<|Al ?_
 refine Y<|O<|Ab 5 [0] [(3,(.bool (t.Text==b)))] ?_
 refine Aa<|Br (a:=(t.Text==b)) (vs:=[(.bool (t.Text==b))]) Tryz.func213 hI J (.same _)
theorem Wn (kind:Int)(s0_l:List Token)(s0_end:Int)(s1:Aw)(h0:Ae)(o0:Nat)(o1:Nat)(w:AV)(w1:AV)(w2:AV)(w3:AV)(w4:AV)(w5:AV)(w6:AV)(w7:AV)(g:Nat)(g1:Nat)(hI0:Ids h0 [o0,o1] 2):Ly kind s0_l s0_end s1≠.bad→Bl Tryz.prog 207 [(.ptr o0 g 0 0),(.int .i64 kind),(.func (.func 213) [] [(.ptr o1 g1 0 0)])] (hp h0 [o0,o1] [some (.rows g 10 [[(.sl 4 (List.map Ac s0_l)),(.int .i64 s0_end),w,w1,w2,w3,w4,w5,w6,w7]]),some (.rows g1 1 [[(.str s1)]])]) (Cu (fun a_ v h'=>v=(.agg (Ac a_))∧h'=hp h0 [o0,o1] [some (.rows g 10 [[(.sl 4 (List.map Ac (s0_l.drop 1))),(.int .i64 s0_end),w,w1,w2,w3,w4,w5,w6,w7]]),some (.rows g1 1 [[(.str s1)]])]) h0 (Ly kind s0_l s0_end s1)):=by
 refine Be (n:=53) 2 Tryz.func207 J (by decide) J J hI0 J fun ids he hI=>?_
 clear hI0
 obtain rfl:ix ids 0=o0:=he 0 rfl
 obtain rfl:ix ids 1=o1:=he 1 rfl
 clear he
 refine Bn (Ak (Ly.eq_1 _ _ _ _) ?_)
 refine Al ?_
 refine Y<|O<|Bf (j:=2) hI J J J J Db J fun g2=>Aa<|Al ?_
 refine Y<|Y<|O<|Ab 4 [0] [(11,(.sl 4 (List.map Ac s0_l)))] ?_
 refine Z (.I (s0_l.length:Int)) J (Ay (A7 C1))<|Ab 2 [] [(14,(.bool ((s0_l.length:Int)==0)))] ?_
 refine Dq 10 ((fun(b:Bool)=>(if b then R.ok true else(E3 s0_l 0).bind fun a1=>(K0 a1 s1).bind fun r=>R.ok (!r)).bind (fun(b1:Bool)=>if b1 then((Bm 80 s0_l s0_end).bind fun _=>Ew s0_l) else(Ew s0_l))):Bool→R Token) (fun(b:Bool) (fr:Nat→AV) (h:Ae)=>fr=A6 [(0,(.q ids 0 g)),(2,(.func (.func 213) [] [(.q ids 1 g1)])),(6,(.q ids 2 g2)),(24,(.bool b))]∧h=hp h0 ids [(some (.rows g 10 [[(.sl 4 (List.map Ac s0_l)),(.I s0_end),w,w1,w2,w3,w4,w5,w6,w7]])),(some (.rows g1 1 [[(.str s1)]])),(some (.rows g2 4 [[(.I 0),(.str []),(.I 0),(.I 0)]])),none]) ?_ fun hJ=>Ed (fun hb1=>?_) (fun hb1=>?_)
 ·rintro b fr h ⟨rfl,rfl⟩
  refine Z (.bool b) J Ad<|Dq 10 ((fun(b1:Bool)=>if b1 then((Bm 80 s0_l s0_end).bind fun _=>Ew s0_l) else(Ew s0_l)):Bool→R Token) (fun(b1:Bool) (fr:Nat→AV) (h:Ae)=>fr=A6 [(0,(.q ids 0 g)),(6,(.q ids 2 g2)),(35,(.bool b1))]∧h=hp h0 ids [(some (.rows g 10 [[(.sl 4 (List.map Ac s0_l)),(.I s0_end),w,w1,w2,w3,w4,w5,w6,w7]])),(some (.rows g1 1 [[(.str s1)]])),(some (.rows g2 4 [[(.I 0),(.str []),(.I 0),(.I 0)]])),none]) ?_ fun hJ1=>Ed (fun hb3=>?_) (fun hb3=>?_)
  ·rintro b1 fr h ⟨rfl,rfl⟩
   refine Aa<|Ei (π:=Unit) (fun _=>Ew s0_l) (fun _=>fun(fr:Nat→AV) (h:Ae)=>fr=A6 [(0,(.q ids 0 g)),(6,(.q ids 2 g2))]∧h=hp h0 ids [(some (.rows g 10 [[(.sl 4 (List.map Ac s0_l)),(.I s0_end),w,w1,w2,w3,w4,w5,w6,w7]])),(some (.rows g1 1 [[(.str s1)]])),(some (.rows g2 4 [[(.I 0),(.str []),(.I 0),(.I 0)]])),none]) ?_ fun hJ2=>?_
   ·rintro _ fr h ⟨rfl,rfl⟩
    refine Ak (Ew.eq_1 _)<|Y<|O<|Ab 4 [0] [(41,(.sl 4 (List.map Ac s0_l)))] ?_
    refine E1 fun a2 hz2 hx3=>Z (.cp (Ac a2) 0) J (Bs (D3 C1 Db J hz2 hx3))<|Z (.agg (Ac a2)) J (Au (Cr Db J))<|Bf (j:=3) hI J J J J Db J fun g3=>Ar (A0 (v:=(.agg (Ac a2))) hI J J J J Db J J J J J)<|Aa<|Al ?_
    refine Y<|O<|Ab 5 [0] [(48,(.sl 4 (List.map Ac s0_l))),(44,(.q ids 0 g))] ?_
    refine Gj fun hs=>Z (.sl 4 (List.map Ac (s0_l.drop 1))) J (Gz (Ns C1 Db J hs))<|Ab 2 [] [(51,(.q ids 0 g))] ?_
    refine Ar (A0 (v:=(.sl 4 (List.map Ac (s0_l.drop 1)))) hI J J J J C1 J J J J J)<|Aa<|Al ?_
    refine Y<|O<|Ab 1 [3] [(52,(.agg (Ac a2)))] ?_
    refine Ar (A0 (v:=(.agg (Ac a2))) hI J J J J Db J J J J J)<|Aa<|Al ?_
    exact D5 (K:=2) (N:=2) (a:=a2) (vs:=[(.agg (Ac a2))]) [some (.rows g 10 [[(.sl 4 (List.map Ac (s0_l.drop 1))),(.I s0_end),w,w1,w2,w3,w4,w5,w6,w7]]),some (.rows g1 1 [[(.str s1)]])] Tryz.func207 hI J (Dx (Bh hI J J J Db J) Fj) J (.keep (.keep (.drop (.drop .nil)))) (.same _) ⟨J,J⟩
   refine Cf J (fun hc=>?_) (fun hc=>?_)
   ·refine O<|Z (.q ids 0 g) J Ad<|An [0] hI J J (Cj 80 s0_l s0_end _ (ix ids 0) w w1 w2 w3 w4 w5 w6 w7 g (by exact hI.sub' J J)) J J J J J J (fun v _=>Ao (K:=2) (N:=2) Tryz.func207 hI) ?_
    rintro _ _ _ _ ⟨rfl,rfl⟩
    refine Ax [0] hI J J J ?_
    refine Ap<|Aa<|Bq (hJ2 () _ _ ⟨J,J⟩)
   refine Az<|Bq (hJ2 () _ _ ⟨J,J⟩)
  ·refine A5 (t:=25) hb3 J<|Ab 10 [] [(35,(.bool true))] ?_
   refine Bp<|Ck [(0,(.q ids 0 g)),(6,(.q ids 2 g2)),(35,(.bool true))] (FI J)<|hJ1 true _ _ ⟨J,J⟩
  refine A5 (t:=25) hb3 J<|Ab 5 [0] [(30,(.sl 4 (List.map Ac s0_l))),(26,(.func (.func 213) [] [(.q ids 1 g1)]))] ?_
  refine E1 fun a1 hz1 hx2=>Bz (tj:=25) (.cp (Ac a1) 0) J J J (Bs (D3 C1 Db J hz1 hx2))<|Bz (tj:=25) (.agg (Ac a1)) J J J (Au (Cr Db J))<|B0 [(.agg (Ac a1)),(.q ids 1 g1)] J (Cq (tj:=25) J J) J J (CP.lend (Xz a1 s1) (LF.lfz (.cons (.same _) (.cons (.ptrL (hI.at J J) J J (Zy _)) .nil))) (fun _ _=>(.bool _))) (fun v _=>Ao (K:=2) (N:=2) Tryz.func207 hI) fun r _=>Ab 2 [] [(35,(.bool (!r)))] ?_
  refine Bp<|Ck [(0,(.q ids 0 g)),(6,(.q ids 2 g2)),(35,(.bool (!r)))] (FI J)<|hJ1 (!r) _ _ ⟨J,J⟩
 ·refine A5 (t:=14) hb1 J<|Ab 10 [] [(24,(.bool true))] ?_
  refine Bp<|Ck [(0,(.q ids 0 g)),(2,(.func (.func 213) [] [(.q ids 1 g1)])),(6,(.q ids 2 g2)),(24,(.bool true))] (FI J)<|hJ true _ _ ⟨J,J⟩
 refine A5 (t:=14) hb1 J<|Ab 4 [0] [(18,(.sl 4 (List.map Ac s0_l)))] ?_
 refine E1 fun a hz hx1=>Bz (tj:=14) (.cp (Ac a) 0) J J J (Bs (D3 C1 Db J hz hx1))<|Ab 5 [] [(24,(.bool (a.Kind != kind)))] ?_
 refine Bp<|Ck [(0,(.q ids 0 g)),(2,(.func (.func 213) [] [(.q ids 1 g1)])),(6,(.q ids 2 g2)),(24,(.bool (a.Kind != kind)))] (FI J)<|hJ (a.Kind != kind) _ _ ⟨J,J⟩
theorem Dn (text:Aw)(s_l:List Token)(s_end:Int)(h0:Ae)(o0:Nat)(w:AV)(w1:AV)(w2:AV)(w3:AV)(w4:AV)(w5:AV)(w6:AV)(w7:AV)(g:Nat)(hI0:Ids h0 [o0] 1):C8 text s_l s_end≠.bad→Bl Tryz.prog 178 [(.ptr o0 g 0 0),(.str text)] (hp h0 [o0] [some (.rows g 10 [[(.sl 4 (List.map Ac s_l)),(.int .i64 s_end),w,w1,w2,w3,w4,w5,w6,w7]])]) (Cu (fun a_ v h'=>v=(.tup [])∧h'=hp h0 [o0] [some (.rows g 10 [[(.sl 4 (List.map Ac (s_l.drop 1))),(.int .i64 s_end),w,w1,w2,w3,w4,w5,w6,w7]])]) h0 (C8 text s_l s_end)):=by
 refine Be (n:=7) 1 Tryz.func178 J (by decide) J J hI0 J fun ids he hI=>?_
 clear hI0
 obtain rfl:ix ids 0=o0:=he 0 rfl
 clear he
 refine Bn (Ak (C8.eq_1 _ _ _) ?_)
 refine Al ?_
 refine Y<|O<|Cx (v:=(.str text)) (j:=1) hI J J J J J J J fun g1=>Aa<|Al ?_
 refine O<|Ab 2 [] [(5,(.func (.func 213) [] [(.q ids 1 g1)])),(4,(.q ids 0 g))] ?_
 refine An [0,1] hI J J (Wn 1 s_l s_end text _ (ix ids 0) (ix ids 1) w w1 w2 w3 w4 w5 w6 w7 g g1 (by exact hI.sub' J J)) J J J J J J (fun v _=>Ao (K:=1) (N:=1) Tryz.func178 hI) ?_
 rintro r _ _ _ ⟨rfl,rfl⟩
 refine Ax [0,1] hI J J J ?_
 refine Ap<|Aa<|Al ?_
 exact Ce (K:=1) (N:=1) (a:=()) (vs:=[]) [some (.rows g 10 [[(.sl 4 (List.map Ac (s_l.drop 1))),(.I s_end),w,w1,w2,w3,w4,w5,w6,w7]])] Tryz.func178 hI J J J (.keep (.drop .nil)) (.same _) ⟨J,J⟩
theorem W6 (t:Token)(b:Int)(c:Int):CP Tryz.prog 214 [(.agg (Ac t)),(.cp [(.int .i64 b)] 0),(.cp [(.int .i64 c)] 0)] (H0 t b c) (fun(x:Bool)=>(AV.bool x)):=by
 refine C0 (n:=15) 1 Tryz.func214 J (by decide) J J fun h0 ids hI=>Bn (Ak (H0.eq_1 _ _ _) ?_)
 refine Y<|O<|Cx (v:=(.agg (Ac t))) (j:=0) hI J J J J J J J fun g=>Z (.bool false) J Aj<|Aa<|Al ?_
 refine Y<|O<|Ab 5 [0] [(9,(.bool (decide (t.N≥b))))] ?_
 refine Bx 5 [(14,(.bool ((decide (t.N≥b))&&(decide (t.N≤c)))))] ?_ fun hJ=>Bt (decide (t.N≥b)) (fun hb1=>?_) (fun hb1=>?_)
 ·refine Z (.bool ((decide (t.N≥b))&&(decide (t.N≤c)))) J Aj<|Aa<|Br (a:=((decide (t.N≥b))&&(decide (t.N≤c)))) (vs:=[(.bool ((decide (t.N≥b))&&(decide (t.N≤c))))]) Tryz.func214 hI J (.same _)
 ·refine A5 (t:=9) hb1 J<|Ab 5 [0] [(14,(.bool (decide (t.N≤c))))] ?_
  exact Bg hJ (.cons (Lh hb1) .nil)
 refine A5 (t:=9) hb1 J<|Ab 5 [] [(14,(.bool false))] ?_
 exact Bg hJ (.cons (Lg hb1) .nil)
theorem W4 (kind:Int)(s0_l:List Token)(s0_end:Int)(s1:Int)(s2:Int)(h0:Ae)(o0:Nat)(o1:Nat)(o2:Nat)(w:AV)(w1:AV)(w2:AV)(w3:AV)(w4:AV)(w5:AV)(w6:AV)(w7:AV)(g:Nat)(g1:Nat)(g2:Nat)(hI0:Ids h0 [o0,o1,o2] 3):L1 kind s0_l s0_end s1 s2≠.bad→Bl Tryz.prog 207 [(.ptr o0 g 0 0),(.int .i64 kind),(.func (.func 214) [] [(.ptr o1 g1 0 0),(.ptr o2 g2 0 0)])] (hp h0 [o0,o1,o2] [some (.rows g 10 [[(.sl 4 (List.map Ac s0_l)),(.int .i64 s0_end),w,w1,w2,w3,w4,w5,w6,w7]]),some (.rows g1 1 [[(.int .i64 s1)]]),some (.rows g2 1 [[(.int .i64 s2)]])]) (Cu (fun a_ v h'=>v=(.agg (Ac a_))∧h'=hp h0 [o0,o1,o2] [some (.rows g 10 [[(.sl 4 (List.map Ac (s0_l.drop 1))),(.int .i64 s0_end),w,w1,w2,w3,w4,w5,w6,w7]]),some (.rows g1 1 [[(.int .i64 s1)]]),some (.rows g2 1 [[(.int .i64 s2)]])]) h0 (L1 kind s0_l s0_end s1 s2)):=by
 refine Be (n:=53) 2 Tryz.func207 J (by decide) J J hI0 J fun ids he hI=>?_
 clear hI0
 obtain rfl:ix ids 0=o0:=he 0 rfl
 obtain rfl:ix ids 1=o1:=he 1 rfl
 obtain rfl:ix ids 2=o2:=he 2 rfl
 clear he
 refine Bn (Ak (L1.eq_1 _ _ _ _ _) ?_)
 refine Al ?_
 refine Y<|O<|Bf (j:=3) hI J J J J Db J fun g3=>Aa<|Al ?_
 refine Y<|Y<|O<|Ab 4 [0] [(11,(.sl 4 (List.map Ac s0_l)))] ?_
 refine Z (.I (s0_l.length:Int)) J (Ay (A7 C1))<|Ab 2 [] [(14,(.bool ((s0_l.length:Int)==0)))] ?_
 refine Dq 10 ((fun(b:Bool)=>(if b then R.ok true else(E3 s0_l 0).bind fun a1=>(H0 a1 s1 s2).bind fun r=>R.ok (!r)).bind (fun(b1:Bool)=>if b1 then((Bm 80 s0_l s0_end).bind fun _=>Et s0_l) else(Et s0_l))):Bool→R Token) (fun(b:Bool) (fr:Nat→AV) (h:Ae)=>fr=A6 [(0,(.q ids 0 g)),(2,(.func (.func 214) [] [(.q ids 1 g1),(.q ids 2 g2)])),(6,(.q ids 3 g3)),(24,(.bool b))]∧h=hp h0 ids [(some (.rows g 10 [[(.sl 4 (List.map Ac s0_l)),(.I s0_end),w,w1,w2,w3,w4,w5,w6,w7]])),(some (.rows g1 1 [[(.I s1)]])),(some (.rows g2 1 [[(.I s2)]])),(some (.rows g3 4 [[(.I 0),(.str []),(.I 0),(.I 0)]])),none]) ?_ fun hJ=>Ed (fun hb1=>?_) (fun hb1=>?_)
 ·rintro b fr h ⟨rfl,rfl⟩
  refine Z (.bool b) J Ad<|Dq 10 ((fun(b1:Bool)=>if b1 then((Bm 80 s0_l s0_end).bind fun _=>Et s0_l) else(Et s0_l)):Bool→R Token) (fun(b1:Bool) (fr:Nat→AV) (h:Ae)=>fr=A6 [(0,(.q ids 0 g)),(6,(.q ids 3 g3)),(35,(.bool b1))]∧h=hp h0 ids [(some (.rows g 10 [[(.sl 4 (List.map Ac s0_l)),(.I s0_end),w,w1,w2,w3,w4,w5,w6,w7]])),(some (.rows g1 1 [[(.I s1)]])),(some (.rows g2 1 [[(.I s2)]])),(some (.rows g3 4 [[(.I 0),(.str []),(.I 0),(.I 0)]])),none]) ?_ fun hJ1=>Ed (fun hb3=>?_) (fun hb3=>?_)
  ·rintro b1 fr h ⟨rfl,rfl⟩
   refine Aa<|Ei (π:=Unit) (fun _=>Et s0_l) (fun _=>fun(fr:Nat→AV) (h:Ae)=>fr=A6 [(0,(.q ids 0 g)),(6,(.q ids 3 g3))]∧h=hp h0 ids [(some (.rows g 10 [[(.sl 4 (List.map Ac s0_l)),(.I s0_end),w,w1,w2,w3,w4,w5,w6,w7]])),(some (.rows g1 1 [[(.I s1)]])),(some (.rows g2 1 [[(.I s2)]])),(some (.rows g3 4 [[(.I 0),(.str []),(.I 0),(.I 0)]])),none]) ?_ fun hJ2=>?_
   ·rintro _ fr h ⟨rfl,rfl⟩
    refine Ak (Et.eq_1 _)<|Y<|O<|Ab 4 [0] [(41,(.sl 4 (List.map Ac s0_l)))] ?_
    refine E1 fun a2 hz2 hx3=>Z (.cp (Ac a2) 0) J (Bs (D3 C1 Db J hz2 hx3))<|Z (.agg (Ac a2)) J (Au (Cr Db J))<|Bf (j:=4) hI J J J J Db J fun g4=>Ar (A0 (v:=(.agg (Ac a2))) hI J J J J Db J J J J J)<|Aa<|Al ?_
    refine Y<|O<|Ab 5 [0] [(48,(.sl 4 (List.map Ac s0_l))),(44,(.q ids 0 g))] ?_
    refine Gj fun hs=>Z (.sl 4 (List.map Ac (s0_l.drop 1))) J (Gz (Ns C1 Db J hs))<|Ab 2 [] [(51,(.q ids 0 g))] ?_
    refine Ar (A0 (v:=(.sl 4 (List.map Ac (s0_l.drop 1)))) hI J J J J C1 J J J J J)<|Aa<|Al ?_
    refine Y<|O<|Ab 1 [4] [(52,(.agg (Ac a2)))] ?_
    refine Ar (A0 (v:=(.agg (Ac a2))) hI J J J J Db J J J J J)<|Aa<|Al ?_
    exact D5 (K:=3) (N:=2) (a:=a2) (vs:=[(.agg (Ac a2))]) [some (.rows g 10 [[(.sl 4 (List.map Ac (s0_l.drop 1))),(.I s0_end),w,w1,w2,w3,w4,w5,w6,w7]]),some (.rows g1 1 [[(.I s1)]]),some (.rows g2 1 [[(.I s2)]])] Tryz.func207 hI J (Dx (Bh hI J J J Db J) Fj) J (.keep (.keep (.keep (.drop (.drop .nil))))) (.same _) ⟨J,J⟩
   refine Cf J (fun hc=>?_) (fun hc=>?_)
   ·refine O<|Z (.q ids 0 g) J Ad<|An [0] hI J J (Cj 80 s0_l s0_end _ (ix ids 0) w w1 w2 w3 w4 w5 w6 w7 g (by exact hI.sub' J J)) J J J J J J (fun v _=>Ao (K:=3) (N:=2) Tryz.func207 hI) ?_
    rintro _ _ _ _ ⟨rfl,rfl⟩
    refine Ax [0] hI J J J ?_
    refine Ap<|Aa<|Bq (hJ2 () _ _ ⟨J,J⟩)
   refine Az<|Bq (hJ2 () _ _ ⟨J,J⟩)
  ·refine A5 (t:=25) hb3 J<|Ab 10 [] [(35,(.bool true))] ?_
   refine Bp<|Ck [(0,(.q ids 0 g)),(6,(.q ids 3 g3)),(35,(.bool true))] (FI J)<|hJ1 true _ _ ⟨J,J⟩
  refine A5 (t:=25) hb3 J<|Ab 5 [0] [(30,(.sl 4 (List.map Ac s0_l))),(26,(.func (.func 214) [] [(.q ids 1 g1),(.q ids 2 g2)]))] ?_
  refine E1 fun a1 hz1 hx2=>Bz (tj:=25) (.cp (Ac a1) 0) J J J (Bs (D3 C1 Db J hz1 hx2))<|Bz (tj:=25) (.agg (Ac a1)) J J J (Au (Cr Db J))<|B0 [(.agg (Ac a1)),(.q ids 1 g1),(.q ids 2 g2)] J (Cq (tj:=25) J J) J J (CP.lend (W6 a1 s1 s2) (LF.lfz (.cons (.same _) (.cons (.ptrL (hI.at J J) J J (Zy _)) (.cons (.ptrL (hI.at J J) J J (Zy _)) .nil)))) (fun _ _=>(.bool _))) (fun v _=>Ao (K:=3) (N:=2) Tryz.func207 hI) fun r _=>Ab 2 [] [(35,(.bool (!r)))] ?_
  refine Bp<|Ck [(0,(.q ids 0 g)),(6,(.q ids 3 g3)),(35,(.bool (!r)))] (FI J)<|hJ1 (!r) _ _ ⟨J,J⟩
 ·refine A5 (t:=14) hb1 J<|Ab 10 [] [(24,(.bool true))] ?_
  refine Bp<|Ck [(0,(.q ids 0 g)),(2,(.func (.func 214) [] [(.q ids 1 g1),(.q ids 2 g2)])),(6,(.q ids 3 g3)),(24,(.bool true))] (FI J)<|hJ true _ _ ⟨J,J⟩
 refine A5 (t:=14) hb1 J<|Ab 4 [0] [(18,(.sl 4 (List.map Ac s0_l)))] ?_
 refine E1 fun a hz hx1=>Bz (tj:=14) (.cp (Ac a) 0) J J J (Bs (D3 C1 Db J hz hx1))<|Ab 5 [] [(24,(.bool (a.Kind != kind)))] ?_
 refine Bp<|Ck [(0,(.q ids 0 g)),(2,(.func (.func 214) [] [(.q ids 1 g1),(.q ids 2 g2)])),(6,(.q ids 3 g3)),(24,(.bool (a.Kind != kind)))] (FI J)<|hJ (a.Kind != kind) _ _ ⟨J,J⟩
theorem Ek (least:Int)(most:Int)(s_l:List Token)(s_end:Int)(h0:Ae)(o0:Nat)(w:AV)(w1:AV)(w2:AV)(w3:AV)(w4:AV)(w5:AV)(w6:AV)(w7:AV)(g:Nat)(hI0:Ids h0 [o0] 1):Dv least most s_l s_end≠.bad→Bl Tryz.prog 179 [(.ptr o0 g 0 0),(.int .i64 least),(.int .i64 most)] (hp h0 [o0] [some (.rows g 10 [[(.sl 4 (List.map Ac s_l)),(.int .i64 s_end),w,w1,w2,w3,w4,w5,w6,w7]])]) (Cu (fun a_ v h'=>v=(.int .i64 a_)∧h'=hp h0 [o0] [some (.rows g 10 [[(.sl 4 (List.map Ac (s_l.drop 1))),(.int .i64 s_end),w,w1,w2,w3,w4,w5,w6,w7]])]) h0 (Dv least most s_l s_end)):=by
 refine Be (n:=11) 2 Tryz.func179 J (by decide) J J hI0 J fun ids he hI=>?_
 clear hI0
 obtain rfl:ix ids 0=o0:=he 0 rfl
 clear he
 refine Bn (Ak (Dv.eq_1 _ _ _ _) ?_)
 refine Al ?_
 refine Y<|O<|Cx (v:=(.I least)) (j:=1) hI J J J J J J J fun g1=>Cx (v:=(.I most)) (j:=2) hI J J J J J J J fun g2=>Z (.I 0) J Aj<|Aa<|Al ?_
 refine Y<|O<|Ab 2 [] [(8,(.func (.func 214) [] [(.q ids 1 g1),(.q ids 2 g2)])),(7,(.q ids 0 g))] ?_
 refine An [0,1,2] hI J J (W4 2 s_l s_end least most _ (ix ids 0) (ix ids 1) (ix ids 2) w w1 w2 w3 w4 w5 w6 w7 g g1 g2 (by exact hI.sub' J J)) J J J J J J (fun v _=>Ao (K:=1) (N:=2) Tryz.func179 hI) ?_
 rintro r _ _ _ ⟨rfl,rfl⟩
 refine Ax [0,1,2] hI J J J ?_
 refine Ap<|Ab 2 [] [(6,(.I r.N))] ?_
 refine Aa<|Al ?_
 exact D5 (K:=1) (N:=2) (a:=r.N) (vs:=[(.I r.N)]) [some (.rows g 10 [[(.sl 4 (List.map Ac (s_l.drop 1))),(.I s_end),w,w1,w2,w3,w4,w5,w6,w7]])] Tryz.func179 hI J J J (.keep (.drop (.drop .nil))) (.same _) ⟨J,J⟩
theorem Tq (s1_l:List Token)(s1_end:Int)(h0:Ae)(o0:Nat)(o1:Nat)(g:Nat)(w:AV)(w1:AV)(w2:AV)(w3:AV)(w4:AV)(w5:AV)(w6:AV)(w7:AV)(g1:Nat)(hI0:Ids h0 [o0,o1] 2):Gg s1_l s1_end≠.bad→Bl Tryz.prog 193 [(.ptr o0 g 0 0)] (hp h0 [o0,o1] [some (.rows g 1 [[(.ptr o1 g1 0 0)]]),some (.rows g1 10 [[(.sl 4 (List.map Ac s1_l)),(.int .i64 s1_end),w,w1,w2,w3,w4,w5,w6,w7]])]) (Cu (fun a_ v h'=>v=(.agg (Ds a_))∧h'=hp h0 [o0,o1] [some (.rows g 1 [[(.ptr o1 g1 0 0)]]),some (.rows g1 10 [[(.sl 4 (List.map Ac (((s1_l.drop 1).drop 1).drop 1))),(.int .i64 s1_end),w,w1,w2,w3,w4,w5,w6,w7]])]) h0 (Gg s1_l s1_end)):=by
 refine Be (n:=11) 1 Tryz.func193 J (by decide) J J hI0 J fun ids he hI=>?_
 clear hI0
 obtain rfl:ix ids 0=o0:=he 0 rfl
 obtain rfl:ix ids 1=o1:=he 1 rfl
 clear he
 refine Bn (Ak (Gg.eq_1 _ _) ?_)
 refine Al ?_
 refine Y<|O<|Bf (j:=2) hI J J J J Py J fun g2=>Aa<|Al ?_
 refine Y<|O<|Ab 1 [0] [(2,(.q ids 1 g1))] ?_
 refine An [1] hI J J (Dn [109,111,100,101] s1_l s1_end _ (ix ids 1) w w1 w2 w3 w4 w5 w6 w7 g1 (by exact hI.sub' J J)) J J J J J J (fun v _=>Ao (K:=2) (N:=1) Tryz.func193 hI) ?_
 rintro _ _ _ _ ⟨rfl,rfl⟩
 refine Ax [1] hI J J J ?_
 refine Ap<|Aa<|Al ?_
 refine Y<|O<|Ab 1 [0] [(4,(.q ids 1 g1))] ?_
 refine An [1] hI J J (Cy (s1_l.drop 1) s1_end _ (ix ids 1) w w1 w2 w3 w4 w5 w6 w7 g1 (by exact hI.sub' J J)) J J J J J J (fun v _=>Ao (K:=2) (N:=1) Tryz.func193 hI) ?_
 rintro r1 _ _ _ ⟨rfl,rfl⟩
 refine Ax [1] hI J J J ?_
 refine Ap<|Z (.q ids 2 g2) J (Ca (B9 (c:=0) (off:=0) (i:=0) Py J Cz J))<|Ar (A0 (v:=(.str r1)) hI J J J J Cz J J J J J)<|Aa<|Al ?_
 refine Y<|O<|Ab 1 [0] [(7,(.q ids 1 g1))] ?_
 refine An [1] hI J J (Ek 0 64 ((s1_l.drop 1).drop 1) s1_end _ (ix ids 1) w w1 w2 w3 w4 w5 w6 w7 g1 (by exact hI.sub' J J)) J J J J J J (fun v _=>Ao (K:=2) (N:=1) Tryz.func193 hI) ?_
 rintro r2 _ _ _ ⟨rfl,rfl⟩
 refine Ax [1] hI J J J ?_
 refine Ap<|Z (.ptr (ix ids 2) g2 0 1) J (Ca (B9 (c:=0) (off:=1) (i:=1) Py J Dw J))<|Ar (A0 (v:=(.I r2)) hI J J J J Dw J J J J J)<|Aa<|Al ?_
 refine Y<|O<|Ab 1 [2] [(10,(.agg [(.str r1),(.I r2)]))] ?_
 refine Ar (A0 (v:=(.agg [(.str r1),(.I r2)])) hI J J J J Py J J J J J)<|Aa<|D5 (K:=2) (N:=1) (a:=({ Name:=r1,Places:=r2 }:Mode)) (vs:=[(.agg [(.str r1),(.I r2)])]) [some (.rows g 1 [[(.q ids 1 g1)]]),some (.rows g1 10 [[(.sl 4 (List.map Ac (((s1_l.drop 1).drop 1).drop 1))),(.I s1_end),w,w1,w2,w3,w4,w5,w6,w7]])] Tryz.func193 hI J (Dx (Bh hI J J J Py J) Fj) J (.keep (.keep (.drop .nil))) (.aggL (.cons (.same _) (.cons (.same _) .nil))) ⟨J,J⟩
theorem Nh (kind:Int)(text:Aw)(s_l:List Token)(s_end:Int)(h0:Ae)(o0:Nat)(w:AV)(w1:AV)(w2:AV)(w3:AV)(w4:AV)(w5:AV)(w6:AV)(w7:AV)(g:Nat)(hI0:Ids h0 [o0] 1):F4 kind text s_l s_end≠.bad→Bl Tryz.prog 209 [(.ptr o0 g 0 0),(.int .i64 kind),(.str text)] (hp h0 [o0] [some (.rows g 10 [[(.sl 4 (List.map Ac s_l)),(.int .i64 s_end),w,w1,w2,w3,w4,w5,w6,w7]])]) (Cu (fun a_ v h'=>v=(.bool a_)∧h'=hp h0 [o0] [some (.rows g 10 [[(.sl 4 (List.map Ac s_l)),(.int .i64 s_end),w,w1,w2,w3,w4,w5,w6,w7]])]) h0 (F4 kind text s_l s_end)):=by
 refine Be (n:=35) 0 Tryz.func209 J (by decide) J J hI0 J fun ids he hI=>?_
 clear hI0
 obtain rfl:ix ids 0=o0:=he 0 rfl
 clear he
 refine Bn (Ak (F4.eq_1 _ _ _ _) ?_)
 refine Y<|O<|Z (.bool false) J Aj<|Aa<|Y<|O<|Ab 4 [0] [(10,(.sl 4 (List.map Ac s_l)))] ?_
 refine Z (.I (s_l.length:Int)) J (Ay (A7 C1))<|Ab 2 [] [(13,(.bool (decide ((s_l.length:Int) > 0))))] ?_
 refine Dq 10 ((fun(b:Bool)=>(if b then(E3 s_l 0).bind fun a1=>R.ok (a1.Text==text) else R.ok false).bind (fun(b1:Bool)=>.ok b1)):Bool→R Bool) (fun(b:Bool) (fr:Nat→AV) (h:Ae)=>fr=A6 [(0,(.q ids 0 g)),(2,(.str text)),(23,(.bool b))]∧h=hp h0 ids [(some (.rows g 10 [[(.sl 4 (List.map Ac s_l)),(.I s_end),w,w1,w2,w3,w4,w5,w6,w7]]))]) ?_ fun hJ=>Ed (fun hb1=>?_) (fun hb1=>?_)
 ·rintro b fr h ⟨rfl,rfl⟩
  refine Z (.bool b) J Ad<|Dq 10 ((fun(b1:Bool)=>.ok b1):Bool→R Bool) (fun(b1:Bool) (fr:Nat→AV) (h:Ae)=>fr=A6 [(34,(.bool b1))]∧h=hp h0 ids [(some (.rows g 10 [[(.sl 4 (List.map Ac s_l)),(.I s_end),w,w1,w2,w3,w4,w5,w6,w7]]))]) ?_ fun hJ1=>Ed (fun hb3=>?_) (fun hb3=>?_)
  ·rintro b1 fr h ⟨rfl,rfl⟩
   refine Z (.bool b1) J Aj<|Aa<|D5 (K:=1) (N:=0) (a:=b1) (vs:=[(.bool b1)]) [some (.rows g 10 [[(.sl 4 (List.map Ac s_l)),(.I s_end),w,w1,w2,w3,w4,w5,w6,w7]])] Tryz.func209 hI J J J (.keep .nil) (.same _) ⟨J,J⟩
  ·refine A5 (t:=24) hb3 J<|Ab 4 [0] [(28,(.sl 4 (List.map Ac s_l)))] ?_
   refine E1 fun a1 hz1 hx2=>Bz (tj:=24) (.cp (Ac a1) 0) J J J (Bs (D3 C1 Db J hz1 hx2))<|Ab 5 [] [(34,(.bool (a1.Text==text)))] ?_
   refine Bp<|Ck [(34,(.bool (a1.Text==text)))] (FI J)<|hJ1 (a1.Text==text) _ _ ⟨J,J⟩
  refine A5 (t:=24) hb3 J<|Ab 10 [] [(34,(.bool false))] ?_
  refine Bp<|Ck [(34,(.bool false))] (FI J)<|hJ1 false _ _ ⟨J,J⟩
 ·refine A5 (t:=13) hb1 J<|Ab 4 [0] [(17,(.sl 4 (List.map Ac s_l)))] ?_
  refine E1 fun a hz hx1=>Bz (tj:=13) (.cp (Ac a) 0) J J J (Bs (D3 C1 Db J hz hx1))<|Ab 5 [] [(23,(.bool (a.Kind==kind)))] ?_
  refine Bp<|Ck [(0,(.q ids 0 g)),(2,(.str text)),(23,(.bool (a.Kind==kind)))] (FI J)<|hJ (a.Kind==kind) _ _ ⟨J,J⟩
 refine A5 (t:=13) hb1 J<|Ab 10 [] [(23,(.bool false))] ?_
 refine Bp<|Ck [(0,(.q ids 0 g)),(2,(.str text)),(23,(.bool false))] (FI J)<|hJ false _ _ ⟨J,J⟩
theorem Yi (t:Token)(b:Aw):CP Tryz.prog 211 [(.agg (Ac t)),(.cp [(.str b)] 0)] (Kz t b) (fun(x:Bool)=>(AV.bool x)):=by
 refine C0 (n:=8) 1 Tryz.func211 J (by decide) J J fun h0 ids hI=>Bn (Ak (Kz.eq_1 _ _) ?_)
 refine Y<|O<|Cx (v:=(.agg (Ac t))) (j:=0) hI J J J J J J J fun g=>Z (.bool false) J Aj<|Aa<|Al ?_
 refine Y<|O<|Ab 5 [0] [(3,(.bool (t.Text==b)))] ?_
 refine Aa<|Br (a:=(t.Text==b)) (vs:=[(.bool (t.Text==b))]) Tryz.func211 hI J (.same _)
theorem W3 (kind:Int)(s0_l:List Token)(s0_end:Int)(s1:Aw)(h0:Ae)(o0:Nat)(o1:Nat)(w:AV)(w1:AV)(w2:AV)(w3:AV)(w4:AV)(w5:AV)(w6:AV)(w7:AV)(g:Nat)(g1:Nat)(hI0:Ids h0 [o0,o1] 2):Lz kind s0_l s0_end s1≠.bad→Bl Tryz.prog 207 [(.ptr o0 g 0 0),(.int .i64 kind),(.func (.func 211) [] [(.ptr o1 g1 0 0)])] (hp h0 [o0,o1] [some (.rows g 10 [[(.sl 4 (List.map Ac s0_l)),(.int .i64 s0_end),w,w1,w2,w3,w4,w5,w6,w7]]),some (.rows g1 1 [[(.str s1)]])]) (Cu (fun a_ v h'=>v=(.agg (Ac a_))∧h'=hp h0 [o0,o1] [some (.rows g 10 [[(.sl 4 (List.map Ac (s0_l.drop 1))),(.int .i64 s0_end),w,w1,w2,w3,w4,w5,w6,w7]]),some (.rows g1 1 [[(.str s1)]])]) h0 (Lz kind s0_l s0_end s1)):=by
 refine Be (n:=53) 2 Tryz.func207 J (by decide) J J hI0 J fun ids he hI=>?_
 clear hI0
 obtain rfl:ix ids 0=o0:=he 0 rfl
 obtain rfl:ix ids 1=o1:=he 1 rfl
 clear he
 refine Bn (Ak (Lz.eq_1 _ _ _ _) ?_)
 refine Al ?_
 refine Y<|O<|Bf (j:=2) hI J J J J Db J fun g2=>Aa<|Al ?_
 refine Y<|Y<|O<|Ab 4 [0] [(11,(.sl 4 (List.map Ac s0_l)))] ?_
 refine Z (.I (s0_l.length:Int)) J (Ay (A7 C1))<|Ab 2 [] [(14,(.bool ((s0_l.length:Int)==0)))] ?_
 refine Dq 10 ((fun(b:Bool)=>(if b then R.ok true else(E3 s0_l 0).bind fun a1=>(Kz a1 s1).bind fun r=>R.ok (!r)).bind (fun(b1:Bool)=>if b1 then((Bm 80 s0_l s0_end).bind fun _=>Ev s0_l) else(Ev s0_l))):Bool→R Token) (fun(b:Bool) (fr:Nat→AV) (h:Ae)=>fr=A6 [(0,(.q ids 0 g)),(2,(.func (.func 211) [] [(.q ids 1 g1)])),(6,(.q ids 2 g2)),(24,(.bool b))]∧h=hp h0 ids [(some (.rows g 10 [[(.sl 4 (List.map Ac s0_l)),(.I s0_end),w,w1,w2,w3,w4,w5,w6,w7]])),(some (.rows g1 1 [[(.str s1)]])),(some (.rows g2 4 [[(.I 0),(.str []),(.I 0),(.I 0)]])),none]) ?_ fun hJ=>Ed (fun hb1=>?_) (fun hb1=>?_)
 ·rintro b fr h ⟨rfl,rfl⟩
  refine Z (.bool b) J Ad<|Dq 10 ((fun(b1:Bool)=>if b1 then((Bm 80 s0_l s0_end).bind fun _=>Ev s0_l) else(Ev s0_l)):Bool→R Token) (fun(b1:Bool) (fr:Nat→AV) (h:Ae)=>fr=A6 [(0,(.q ids 0 g)),(6,(.q ids 2 g2)),(35,(.bool b1))]∧h=hp h0 ids [(some (.rows g 10 [[(.sl 4 (List.map Ac s0_l)),(.I s0_end),w,w1,w2,w3,w4,w5,w6,w7]])),(some (.rows g1 1 [[(.str s1)]])),(some (.rows g2 4 [[(.I 0),(.str []),(.I 0),(.I 0)]])),none]) ?_ fun hJ1=>Ed (fun hb3=>?_) (fun hb3=>?_)
  ·rintro b1 fr h ⟨rfl,rfl⟩
   refine Aa<|Ei (π:=Unit) (fun _=>Ev s0_l) (fun _=>fun(fr:Nat→AV) (h:Ae)=>fr=A6 [(0,(.q ids 0 g)),(6,(.q ids 2 g2))]∧h=hp h0 ids [(some (.rows g 10 [[(.sl 4 (List.map Ac s0_l)),(.I s0_end),w,w1,w2,w3,w4,w5,w6,w7]])),(some (.rows g1 1 [[(.str s1)]])),(some (.rows g2 4 [[(.I 0),(.str []),(.I 0),(.I 0)]])),none]) ?_ fun hJ2=>?_
   ·rintro _ fr h ⟨rfl,rfl⟩
    refine Ak (Ev.eq_1 _)<|Y<|O<|Ab 4 [0] [(41,(.sl 4 (List.map Ac s0_l)))] ?_
    refine E1 fun a2 hz2 hx3=>Z (.cp (Ac a2) 0) J (Bs (D3 C1 Db J hz2 hx3))<|Z (.agg (Ac a2)) J (Au (Cr Db J))<|Bf (j:=3) hI J J J J Db J fun g3=>Ar (A0 (v:=(.agg (Ac a2))) hI J J J J Db J J J J J)<|Aa<|Al ?_
    refine Y<|O<|Ab 5 [0] [(48,(.sl 4 (List.map Ac s0_l))),(44,(.q ids 0 g))] ?_
    refine Gj fun hs=>Z (.sl 4 (List.map Ac (s0_l.drop 1))) J (Gz (Ns C1 Db J hs))<|Ab 2 [] [(51,(.q ids 0 g))] ?_
    refine Ar (A0 (v:=(.sl 4 (List.map Ac (s0_l.drop 1)))) hI J J J J C1 J J J J J)<|Aa<|Al ?_
    refine Y<|O<|Ab 1 [3] [(52,(.agg (Ac a2)))] ?_
    refine Ar (A0 (v:=(.agg (Ac a2))) hI J J J J Db J J J J J)<|Aa<|Al ?_
    exact D5 (K:=2) (N:=2) (a:=a2) (vs:=[(.agg (Ac a2))]) [some (.rows g 10 [[(.sl 4 (List.map Ac (s0_l.drop 1))),(.I s0_end),w,w1,w2,w3,w4,w5,w6,w7]]),some (.rows g1 1 [[(.str s1)]])] Tryz.func207 hI J (Dx (Bh hI J J J Db J) Fj) J (.keep (.keep (.drop (.drop .nil)))) (.same _) ⟨J,J⟩
   refine Cf J (fun hc=>?_) (fun hc=>?_)
   ·refine O<|Z (.q ids 0 g) J Ad<|An [0] hI J J (Cj 80 s0_l s0_end _ (ix ids 0) w w1 w2 w3 w4 w5 w6 w7 g (by exact hI.sub' J J)) J J J J J J (fun v _=>Ao (K:=2) (N:=2) Tryz.func207 hI) ?_
    rintro _ _ _ _ ⟨rfl,rfl⟩
    refine Ax [0] hI J J J ?_
    refine Ap<|Aa<|Bq (hJ2 () _ _ ⟨J,J⟩)
   refine Az<|Bq (hJ2 () _ _ ⟨J,J⟩)
  ·refine A5 (t:=25) hb3 J<|Ab 10 [] [(35,(.bool true))] ?_
   refine Bp<|Ck [(0,(.q ids 0 g)),(6,(.q ids 2 g2)),(35,(.bool true))] (FI J)<|hJ1 true _ _ ⟨J,J⟩
  refine A5 (t:=25) hb3 J<|Ab 5 [0] [(30,(.sl 4 (List.map Ac s0_l))),(26,(.func (.func 211) [] [(.q ids 1 g1)]))] ?_
  refine E1 fun a1 hz1 hx2=>Bz (tj:=25) (.cp (Ac a1) 0) J J J (Bs (D3 C1 Db J hz1 hx2))<|Bz (tj:=25) (.agg (Ac a1)) J J J (Au (Cr Db J))<|B0 [(.agg (Ac a1)),(.q ids 1 g1)] J (Cq (tj:=25) J J) J J (CP.lend (Yi a1 s1) (LF.lfz (.cons (.same _) (.cons (.ptrL (hI.at J J) J J (Zy _)) .nil))) (fun _ _=>(.bool _))) (fun v _=>Ao (K:=2) (N:=2) Tryz.func207 hI) fun r _=>Ab 2 [] [(35,(.bool (!r)))] ?_
  refine Bp<|Ck [(0,(.q ids 0 g)),(6,(.q ids 2 g2)),(35,(.bool (!r)))] (FI J)<|hJ1 (!r) _ _ ⟨J,J⟩
 ·refine A5 (t:=14) hb1 J<|Ab 10 [] [(24,(.bool true))] ?_
  refine Bp<|Ck [(0,(.q ids 0 g)),(2,(.func (.func 211) [] [(.q ids 1 g1)])),(6,(.q ids 2 g2)),(24,(.bool true))] (FI J)<|hJ true _ _ ⟨J,J⟩
 refine A5 (t:=14) hb1 J<|Ab 4 [0] [(18,(.sl 4 (List.map Ac s0_l)))] ?_
 refine E1 fun a hz hx1=>Bz (tj:=14) (.cp (Ac a) 0) J J J (Bs (D3 C1 Db J hz hx1))<|Ab 5 [] [(24,(.bool (a.Kind != kind)))] ?_
 refine Bp<|Ck [(0,(.q ids 0 g)),(2,(.func (.func 211) [] [(.q ids 1 g1)])),(6,(.q ids 2 g2)),(24,(.bool (a.Kind != kind)))] (FI J)<|hJ (a.Kind != kind) _ _ ⟨J,J⟩
theorem C4 (text:Aw)(s_l:List Token)(s_end:Int)(h0:Ae)(o0:Nat)(w:AV)(w1:AV)(w2:AV)(w3:AV)(w4:AV)(w5:AV)(w6:AV)(w7:AV)(g:Nat)(hI0:Ids h0 [o0] 1):Ch text s_l s_end≠.bad→Bl Tryz.prog 175 [(.ptr o0 g 0 0),(.str text)] (hp h0 [o0] [some (.rows g 10 [[(.sl 4 (List.map Ac s_l)),(.int .i64 s_end),w,w1,w2,w3,w4,w5,w6,w7]])]) (Cu (fun a_ v h'=>v=(.tup [])∧h'=hp h0 [o0] [some (.rows g 10 [[(.sl 4 (List.map Ac (s_l.drop 1))),(.int .i64 s_end),w,w1,w2,w3,w4,w5,w6,w7]])]) h0 (Ch text s_l s_end)):=by
 refine Be (n:=7) 1 Tryz.func175 J (by decide) J J hI0 J fun ids he hI=>?_
 clear hI0
 obtain rfl:ix ids 0=o0:=he 0 rfl
 clear he
 refine Bn (Ak (Ch.eq_1 _ _ _) ?_)
 refine Al ?_
 refine Y<|O<|Cx (v:=(.str text)) (j:=1) hI J J J J J J J fun g1=>Aa<|Al ?_
 refine O<|Ab 2 [] [(5,(.func (.func 211) [] [(.q ids 1 g1)])),(4,(.q ids 0 g))] ?_
 refine An [0,1] hI J J (W3 3 s_l s_end text _ (ix ids 0) (ix ids 1) w w1 w2 w3 w4 w5 w6 w7 g g1 (by exact hI.sub' J J)) J J J J J J (fun v _=>Ao (K:=1) (N:=1) Tryz.func175 hI) ?_
 rintro r _ _ _ ⟨rfl,rfl⟩
 refine Ax [0,1] hI J J J ?_
 refine Ap<|Aa<|Al ?_
 exact Ce (K:=1) (N:=1) (a:=()) (vs:=[]) [some (.rows g 10 [[(.sl 4 (List.map Ac (s_l.drop 1))),(.I s_end),w,w1,w2,w3,w4,w5,w6,w7]])] Tryz.func175 hI J J J (.keep (.drop .nil)) (.same _) ⟨J,J⟩
theorem Vs (s:Aw)(s1_l:List Token)(s1_end:Int)(h0:Ae)(o0:Nat)(o1:Nat)(g:Nat)(w:AV)(w1:AV)(w2:AV)(w3:AV)(w4:AV)(w5:AV)(w6:AV)(w7:AV)(g1:Nat)(hI0:Ids h0 [o0,o1] 2):F9 s s1_l s1_end≠.bad→Bl Tryz.prog 196 [(.str s),(.ptr o0 g 0 0)] (hp h0 [o0,o1] [some (.rows g 1 [[(.ptr o1 g1 0 0)]]),some (.rows g1 10 [[(.sl 4 (List.map Ac s1_l)),(.int .i64 s1_end),w,w1,w2,w3,w4,w5,w6,w7]])]) (Cu (fun a_ v h'=>v=(.agg (By a_))∧h'=hp h0 [o0,o1] [some (.rows g 1 [[(.ptr o1 g1 0 0)]]),some (.rows g1 10 [[(.sl 4 (List.map Ac ((((((s1_l.drop 1).drop 1).drop 1).drop 1).drop 1).drop 1))),(.int .i64 s1_end),w,w1,w2,w3,w4,w5,w6,w7]])]) h0 (F9 s s1_l s1_end)):=by
 refine Be (n:=25) 2 Tryz.func196 J (by decide) J J hI0 J fun ids he hI=>?_
 clear hI0
 obtain rfl:ix ids 0=o0:=he 0 rfl
 obtain rfl:ix ids 1=o1:=he 1 rfl
 clear he
 refine Bn (Ak (F9.eq_1 _ _ _) ?_)
 refine Al ?_
 refine Y<|O<|Bf (j:=2) hI J J J J M7 J fun g2=>Aa<|Al ?_
 refine Y<|O<|Ab 2 [] [(6,(.agg [(.str s),(.I 0),(.I 0),(.I 0)]))] ?_
 refine Bf (j:=3) hI J J J J M7 J fun g3=>Ar (A0 (v:=(.agg [(.str s),(.I 0),(.I 0),(.I 0)])) hI J J J J M7 J J J J J)<|Aa<|Al ?_
 refine Y<|O<|Ab 1 [0] [(7,(.q ids 1 g1))] ?_
 refine An [1] hI J J (Dn [115,108,111,119] s1_l s1_end _ (ix ids 1) w w1 w2 w3 w4 w5 w6 w7 g1 (by exact hI.sub' J J)) J J J J J J (fun v _=>Ao (K:=2) (N:=2) Tryz.func196 hI) ?_
 rintro _ _ _ _ ⟨rfl,rfl⟩
 refine Ax [1] hI J J J ?_
 refine Ap<|Aa<|Al ?_
 refine Y<|O<|Ab 1 [0] [(9,(.q ids 1 g1))] ?_
 refine An [1] hI J J (Ek 1 64 (s1_l.drop 1) s1_end _ (ix ids 1) w w1 w2 w3 w4 w5 w6 w7 g1 (by exact hI.sub' J J)) J J J J J J (fun v _=>Ao (K:=2) (N:=2) Tryz.func196 hI) ?_
 rintro r1 _ _ _ ⟨rfl,rfl⟩
 refine Ax [1] hI J J J ?_
 refine Ap<|Z (.ptr (ix ids 3) g3 0 1) J (Ca (B9 (c:=0) (off:=1) (i:=1) M7 J Dw J))<|Ar (A0 (v:=(.I r1)) hI J J J J Dw J J J J J)<|Aa<|Al ?_
 refine Y<|O<|Ab 1 [0] [(12,(.q ids 1 g1))] ?_
 refine An [1] hI J J (Dn [102,97,115,116] ((s1_l.drop 1).drop 1) s1_end _ (ix ids 1) w w1 w2 w3 w4 w5 w6 w7 g1 (by exact hI.sub' J J)) J J J J J J (fun v _=>Ao (K:=2) (N:=2) Tryz.func196 hI) ?_
 rintro _ _ _ _ ⟨rfl,rfl⟩
 refine Ax [1] hI J J J ?_
 refine Ap<|Aa<|Al ?_
 refine Y<|O<|Ab 3 [0,3] [(16,(.I r1)),(14,(.q ids 1 g1))] ?_
 refine An [1] hI J J (Ek r1 64 (((s1_l.drop 1).drop 1).drop 1) s1_end _ (ix ids 1) w w1 w2 w3 w4 w5 w6 w7 g1 (by exact hI.sub' J J)) J J J J J J (fun v _=>Ao (K:=2) (N:=2) Tryz.func196 hI) ?_
 rintro r3 _ _ _ ⟨rfl,rfl⟩
 refine Ax [1] hI J J J ?_
 refine Ap<|Z (.ptr (ix ids 3) g3 0 2) J (Ca (B9 (c:=0) (off:=2) (i:=2) M7 J Dw J))<|Ar (A0 (v:=(.I r3)) hI J J J J Dw J J J J J)<|Aa<|Al ?_
 refine Y<|O<|Ab 1 [0] [(19,(.q ids 1 g1))] ?_
 refine An [1] hI J J (Dn [112,108,97,99,101,115] ((((s1_l.drop 1).drop 1).drop 1).drop 1) s1_end _ (ix ids 1) w w1 w2 w3 w4 w5 w6 w7 g1 (by exact hI.sub' J J)) J J J J J J (fun v _=>Ao (K:=2) (N:=2) Tryz.func196 hI) ?_
 rintro _ _ _ _ ⟨rfl,rfl⟩
 refine Ax [1] hI J J J ?_
 refine Ap<|Aa<|Al ?_
 refine Y<|O<|Ab 1 [0] [(21,(.q ids 1 g1))] ?_
 refine An [1] hI J J (Ek 1 8 (((((s1_l.drop 1).drop 1).drop 1).drop 1).drop 1) s1_end _ (ix ids 1) w w1 w2 w3 w4 w5 w6 w7 g1 (by exact hI.sub' J J)) J J J J J J (fun v _=>Ao (K:=2) (N:=2) Tryz.func196 hI) ?_
 rintro r5 _ _ _ ⟨rfl,rfl⟩
 refine Ax [1] hI J J J ?_
 refine Ap<|Z (.ptr (ix ids 3) g3 0 3) J (Ca (B9 (c:=0) (off:=3) (i:=3) M7 J Dw J))<|Ar (A0 (v:=(.I r5)) hI J J J J Dw J J J J J)<|Aa<|Al ?_
 refine Y<|O<|Ab 1 [3] [(24,(.agg [(.str s),(.I r1),(.I r3),(.I r5)]))] ?_
 refine Ar (A0 (v:=(.agg [(.str s),(.I r1),(.I r3),(.I r5)])) hI J J J J M7 J J J J J)<|Aa<|Al ?_
 exact D5 (K:=2) (N:=2) (a:=({ Name:=s,Slow:=r1,Fast:=r3,Places:=r5 }:Class)) (vs:=[(.agg [(.str s),(.I r1),(.I r3),(.I r5)])]) [some (.rows g 1 [[(.q ids 1 g1)]]),some (.rows g1 10 [[(.sl 4 (List.map Ac ((((((s1_l.drop 1).drop 1).drop 1).drop 1).drop 1).drop 1))),(.I s1_end),w,w1,w2,w3,w4,w5,w6,w7]])] Tryz.func196 hI J (Dx (Bh hI J J J M7 J) Fj) J (.keep (.keep (.drop (.drop .nil)))) (.aggL (.cons (.same _) (.cons (.same _) (.cons (.same _) (.cons (.same _) .nil))))) ⟨J,J⟩
theorem Sg (s_l:List Token)(s_end:Int)(h0:Ae)(o0:Nat)(w:AV)(w1:AV)(w2:AV)(w3:AV)(w4:AV)(w5:AV)(w6:AV)(w7:AV)(g:Nat)(hI0:Ids h0 [o0] 1):Il s_l s_end≠.bad→Bl Tryz.prog 200 [(.ptr o0 g 0 0)] (hp h0 [o0] [some (.rows g 10 [[(.sl 4 (List.map Ac s_l)),(.int .i64 s_end),w,w1,w2,w3,w4,w5,w6,w7]])]) (Cu (fun a_ v h'=>v=(.agg (Cb a_))∧h'=hp h0 [o0] [some (.rows g 10 [[(.sl 4 (List.map Ac (((s_l.drop 1).drop 1).drop 1))),(.int .i64 s_end),w,w1,w2,w3,w4,w5,w6,w7]])]) h0 (Il s_l s_end)):=by
 refine Be (n:=15) 1 Tryz.func200 J (by decide) J J hI0 J fun ids he hI=>?_
 clear hI0
 obtain rfl:ix ids 0=o0:=he 0 rfl
 clear he
 refine Bn (Ak (Il.eq_1 _ _) ?_)
 refine Al ?_
 refine Y<|O<|Bf (j:=1) hI J J J J Lu J fun g1=>Aa<|Al ?_
 refine Y<|O<|Z (.q ids 0 g) J Ad<|An [0] hI J J (Ek 0 1439 s_l s_end _ (ix ids 0) w w1 w2 w3 w4 w5 w6 w7 g (by exact hI.sub' J J)) J J J J J J (fun v _=>Ao (K:=1) (N:=1) Tryz.func200 hI) ?_
 rintro r _ _ _ ⟨rfl,rfl⟩
 refine Ax [0] hI J J J ?_
 refine Ap<|Z (.q ids 1 g1) J (Ca (B9 (c:=0) (off:=0) (i:=0) Lu J Dw J))<|Ar (A0 (v:=(.I r)) hI J J J J Dw J J J J J)<|Aa<|Al ?_
 refine Y<|O<|Z (.q ids 0 g) J Ad<|An [0] hI J J (Dn [116,111] (s_l.drop 1) s_end _ (ix ids 0) w w1 w2 w3 w4 w5 w6 w7 g (by exact hI.sub' J J)) J J J J J J (fun v _=>Ao (K:=1) (N:=1) Tryz.func200 hI) ?_
 rintro _ _ _ _ ⟨rfl,rfl⟩
 refine Ax [0] hI J J J ?_
 refine Ap<|Aa<|Al ?_
 refine Y<|O<|Ab 4 [1] [(11,(.I (IntKind.wrap .i64 (r+1)))),(8,(.q ids 0 g))] ?_
 refine An [0] hI J J (Ek (IntKind.wrap .i64 (r+1)) 1440 ((s_l.drop 1).drop 1) s_end _ (ix ids 0) w w1 w2 w3 w4 w5 w6 w7 g (by exact hI.sub' J J)) J J J J J J (fun v _=>Ao (K:=1) (N:=1) Tryz.func200 hI) ?_
 rintro r2 _ _ _ ⟨rfl,rfl⟩
 refine Ax [0] hI J J J ?_
 refine Ap<|Z (.ptr (ix ids 1) g1 0 1) J (Ca (B9 (c:=0) (off:=1) (i:=1) Lu J Dw J))<|Ar (A0 (v:=(.I r2)) hI J J J J Dw J J J J J)<|Aa<|Al ?_
 refine Y<|O<|Ab 1 [1] [(14,(.agg [(.I r),(.I r2)]))] ?_
 refine Ar (A0 (v:=(.agg [(.I r),(.I r2)])) hI J J J J Lu J J J J J)<|Aa<|D5 (K:=1) (N:=1) (a:=({ From:=r,To:=r2 }:Span)) (vs:=[(.agg [(.I r),(.I r2)])]) [some (.rows g 10 [[(.sl 4 (List.map Ac (((s_l.drop 1).drop 1).drop 1))),(.I s_end),w,w1,w2,w3,w4,w5,w6,w7]])] Tryz.func200 hI J (Dx (Bh hI J J J Lu J) Fj) J (.keep (.drop .nil)) (.aggL (.cons (.same _) (.cons (.same _) .nil))) ⟨J,J⟩
theorem Vr (s0:Rule)(s2_l:List Token)(s2_end:Int)(h0:Ae)(o0:Nat)(o1:Nat)(o2:Nat)(g:Nat)(g1:Nat)(w:AV)(w1:AV)(w2:AV)(w3:AV)(w4:AV)(w5:AV)(w6:AV)(w7:AV)(g2:Nat)(hI0:Ids h0 [o0,o1,o2] 3):La s0 s2_l s2_end≠.bad→Bl Tryz.prog 199 [(.ptr o0 g 0 0),(.ptr o1 g1 0 0)] (hp h0 [o0,o1,o2] [some (.rows g 8 [(Bc s0)]),some (.rows g1 1 [[(.ptr o2 g2 0 0)]]),some (.rows g2 10 [[(.sl 4 (List.map Ac s2_l)),(.int .i64 s2_end),w,w1,w2,w3,w4,w5,w6,w7]])]) (Cu (fun a_ v h'=>v=(.tup [])∧h'=hp h0 [o0,o1,o2] [some (.rows g 8 [(Bc a_)]),some (.rows g1 1 [[(.ptr o2 g2 0 0)]]),some (.rows g2 10 [[(.sl 4 (List.map Ac (((((s2_l.drop 1).drop 1).drop 1).drop 1).drop 1))),(.int .i64 s2_end),w,w1,w2,w3,w4,w5,w6,w7]])]) h0 (La s0 s2_l s2_end)):=by
 refine Be (n:=15) 0 Tryz.func199 J (by decide) J J hI0 J fun ids he hI=>?_
 clear hI0
 obtain rfl:ix ids 0=o0:=he 0 rfl
 obtain rfl:ix ids 1=o1:=he 1 rfl
 obtain rfl:ix ids 2=o2:=he 2 rfl
 clear he
 refine Bn (Ak (La.eq_1 _ _ _) ?_)
 refine Y<|O<|Ab 1 [1] [(3,(.q ids 2 g2))] ?_
 refine An [2] hI J J (Dn [97,116] s2_l s2_end _ (ix ids 2) w w1 w2 w3 w4 w5 w6 w7 g2 (by exact hI.sub' J J)) J J J J J J (fun v _=>Ao (K:=3) (N:=0) Tryz.func199 hI) ?_
 rintro _ _ _ _ ⟨rfl,rfl⟩
 refine Ax [2] hI J J J ?_
 refine Ap<|Aa<|Al ?_
 refine Y<|O<|Ab 2 [1] [(6,(.q ids 2 g2)),(5,(.q ids 0 g))] ?_
 refine An [2] hI J J (Cy (s2_l.drop 1) s2_end _ (ix ids 2) w w1 w2 w3 w4 w5 w6 w7 g2 (by exact hI.sub' J J)) J J J J J J (fun v _=>Ao (K:=3) (N:=0) Tryz.func199 hI) ?_
 rintro r1 _ _ _ ⟨rfl,rfl⟩
 refine Ax [2] hI J J J ?_
 refine Ap<|Ab 2 [] [(9,(.ptr (ix ids 0) g 0 2))] ?_
 refine Ar (A0 (v:=(.str r1)) hI J J J J Cz J J J J J)<|Aa<|Al ?_
 refine O<|Ab 2 [1] [(11,(.q ids 2 g2)),(10,(.q ids 0 g))] ?_
 refine An [2] hI J J (Sg ((s2_l.drop 1).drop 1) s2_end _ (ix ids 2) w w1 w2 w3 w4 w5 w6 w7 g2 (by exact hI.sub' J J)) J J J J J J (fun v _=>Ao (K:=3) (N:=0) Tryz.func199 hI) ?_
 rintro r2 _ _ _ ⟨rfl,rfl⟩
 refine Ax [2] hI J J J ?_
 refine Ap<|Ab 2 [] [(14,(.ptr (ix ids 0) g 0 6))] ?_
 refine Ar (A0 (v:=(.agg (Cb r2))) hI J J J J Lu J J J J J)<|Aa<|Al ?_
 exact Ce (K:=3) (N:=0) (a:=({ Kind:=s0.Kind,C:=s0.C,A:=r1,Class:=s0.Class,Airport:=s0.Airport,N:=s0.N,Hours:=r2 }:Rule)) (vs:=[]) [some (.rows g 8 [(Bc ({ Kind:=s0.Kind,C:=s0.C,A:=r1,Class:=s0.Class,Airport:=s0.Airport,N:=s0.N,Hours:=r2 }:Rule))]),some (.rows g1 1 [[(.q ids 2 g2)]]),some (.rows g2 10 [[(.sl 4 (List.map Ac (((((s2_l.drop 1).drop 1).drop 1).drop 1).drop 1))),(.I s2_end),w,w1,w2,w3,w4,w5,w6,w7]])] Tryz.func199 hI J J J (.fz (.cons (.same _) (.cons (.same _) (.cons (.same _) (.cons (.same _) (.cons (.same _) (.cons (.same _) (.cons (.same _) (.cons (.same _) .nil)))))))) J (C2 J (C2 J (C2 J (C2 J (C2 J (C2 J (C2 J (C2 J X5)))))))) (.keep (.keep .nil))) (.same _) ⟨J,J⟩
theorem Ws (class1:Aw)(s0:Int)(s3_l:List Token)(s3_end:Int)(h0:Ae)(o0:Nat)(o1:Nat)(o2:Nat)(o3:Nat)(g:Nat)(g1:Nat)(g2:Nat)(w:AV)(w1:AV)(w2:AV)(w3:AV)(w4:AV)(w5:AV)(w6:AV)(w7:AV)(g3:Nat)(hI0:Ids h0 [o0,o1,o2,o3] 4):Gs class1 s0 s3_l s3_end≠.bad→Bl Tryz.prog 216 [(.str class1),(.ptr o0 g 0 0),(.ptr o1 g1 0 0)] (hp h0 [o0,o1,o2,o3] [some (.rows g 1 [[(.int .i64 s0)]]),some (.rows g1 1 [[(.func (.func 199) [] [(.ptr o2 g2 0 0)])]]),some (.rows g2 1 [[(.ptr o3 g3 0 0)]]),some (.rows g3 10 [[(.sl 4 (List.map Ac s3_l)),(.int .i64 s3_end),w,w1,w2,w3,w4,w5,w6,w7]])]) (Cu (fun a_ v h'=>v=(.agg (Bc a_))∧h'=hp h0 [o0,o1,o2,o3] [some (.rows g 1 [[(.int .i64 s0)]]),some (.rows g1 1 [[(.func (.func 199) [] [(.ptr o2 g2 0 0)])]]),some (.rows g2 1 [[(.ptr o3 g3 0 0)]]),some (.rows g3 10 [[(.sl 4 (List.map Ac (((((s3_l.drop 1).drop 1).drop 1).drop 1).drop 1))),(.int .i64 s3_end),w,w1,w2,w3,w4,w5,w6,w7]])]) h0 (Gs class1 s0 s3_l s3_end)):=by
 refine Be (n:=12) 2 Tryz.func216 J (by decide) J J hI0 J fun ids he hI=>?_
 clear hI0
 obtain rfl:ix ids 0=o0:=he 0 rfl
 obtain rfl:ix ids 1=o1:=he 1 rfl
 obtain rfl:ix ids 2=o2:=he 2 rfl
 obtain rfl:ix ids 3=o3:=he 3 rfl
 clear he
 refine Bn (Ak (Gs.eq_1 _ _ _ _) ?_)
 refine Al ?_
 refine Y<|O<|Bf (j:=4) hI J J J J Dp J fun g4=>Aa<|Al ?_
 refine Y<|O<|Ab 3 [0] [(8,(.agg [(.I s0),(.str class1),(.str []),(.I 0),(.I 0),(.I 0),(.I 0),(.I 0)]))] ?_
 refine Bf (j:=5) hI J J J J Dp J fun g5=>Ar (A0 (v:=(.agg [(.I s0),(.str class1),(.str []),(.I 0),(.I 0),(.I 0),(.I 0),(.I 0)])) hI J J J J Dp J J J J J)<|Aa<|Al ?_
 refine Y<|O<|Ab 1 [1] [(9,(.func (.func 199) [] [(.q ids 2 g2)]))] ?_
 refine An [5,2,3] hI J J (Vr ({ Kind:=s0,C:=class1,A:=[],Class:=0,Airport:=0,N:=0,Hours:=({ From:=0,To:=0 }:Span) }:Rule) s3_l s3_end _ (ix ids 5) (ix ids 2) (ix ids 3) g5 g2 w w1 w2 w3 w4 w5 w6 w7 g3 (by exact hI.sub' J J)) J J J J J J (fun v _=>Ao (K:=4) (N:=2) Tryz.func216 hI) ?_
 rintro r _ _ _ ⟨rfl,rfl⟩
 refine Ax [5,2,3] hI J J J ?_
 refine Ap<|Aa<|Al ?_
 refine Y<|O<|Ab 1 [5] [(11,(.agg (Bc r)))] ?_
 refine Ar (A0 (v:=(.agg (Bc r))) hI J J J J Dp J J J J J)<|Aa<|Al ?_
 exact D5 (K:=4) (N:=2) (a:=r) (vs:=[(.agg (Bc r))]) [some (.rows g 1 [[(.I s0)]]),some (.rows g1 1 [[(.func (.func 199) [] [(.q ids 2 g2)])]]),some (.rows g2 1 [[(.q ids 3 g3)]]),some (.rows g3 10 [[(.sl 4 (List.map Ac (((((s3_l.drop 1).drop 1).drop 1).drop 1).drop 1))),(.I s3_end),w,w1,w2,w3,w4,w5,w6,w7]])] Tryz.func216 hI J (Dx (Bh hI J J J Dp J) Fj) J (.keep (.keep (.keep (.keep (.drop (.drop .nil)))))) (.same _) ⟨J,J⟩
theorem V7 (a:Rule):CP Tryz.prog 202 [(.cp (Bc a) 0)] (Ok a) (fun(_:Unit)=>AV.tup []):=by
 refine C0 (n:=2) 0 Tryz.func202 J (by decide) J J fun h0 ids hI=>Bn (Ak (Ok.eq_1 _) ?_)
 refine Az<|Asz (a:=()) (vs:=[]) Tryz.func202 hI J (.tupL .nil)
theorem Wd (class1:Aw)(s0:Int)(h0:Ae)(o0:Nat)(o1:Nat)(g:Nat)(g1:Nat)(hI0:Ids h0 [o0,o1] 2):Hy class1 s0≠.bad→Bl Tryz.prog 216 [(.str class1),(.ptr o0 g 0 0),(.ptr o1 g1 0 0)] (hp h0 [o0,o1] [some (.rows g 1 [[(.int .i64 s0)]]),some (.rows g1 1 [[(.func (.func 202) [] [])]])]) (Cu (fun a_ v h'=>v=(.agg [(.int .i64 s0),(.str class1),(.str []),(.int .i64 0),(.int .i64 0),(.int .i64 0),(.int .i64 0),(.int .i64 0)])∧h'=hp h0 [o0,o1] [some (.rows g 1 [[(.int .i64 s0)]]),some (.rows g1 1 [[(.func (.func 202) [] [])]])]) h0 (Hy class1 s0)):=by
 refine Be (n:=12) 2 Tryz.func216 J (by decide) J J hI0 J fun ids he hI=>?_
 clear hI0
 obtain rfl:ix ids 0=o0:=he 0 rfl
 obtain rfl:ix ids 1=o1:=he 1 rfl
 clear he
 refine Bn (Ak (Hy.eq_1 _ _) ?_)
 refine Al ?_
 refine Y<|O<|Bf (j:=2) hI J J J J Dp J fun g2=>Aa<|Al ?_
 refine Y<|O<|Ab 3 [0] [(8,(.agg [(.I s0),(.str class1),(.str []),(.I 0),(.I 0),(.I 0),(.I 0),(.I 0)]))] ?_
 refine Bf (j:=3) hI J J J J Dp J fun g3=>Ar (A0 (v:=(.agg [(.I s0),(.str class1),(.str []),(.I 0),(.I 0),(.I 0),(.I 0),(.I 0)])) hI J J J J Dp J J J J J)<|Aa<|Al ?_
 refine Y<|O<|Ab 1 [1] [(9,(.func (.func 202) [] []))] ?_
 refine B0 [(.q ids 3 g3)] J J J J (CP.lend (V7 ({ Kind:=s0,C:=class1,A:=[],Class:=0,Airport:=0,N:=0,Hours:=({ From:=0,To:=0 }:Span) }:Rule)) (LF.lfz (.cons (.ptrL (hI.at J J) J J (.cons (.same _) (.cons (.same _) (.cons (.same _) (.cons (.same _) (.cons (.same _) (.cons (.same _) (.cons (.same _) (.cons (.same _) .nil))))))))) .nil)) (fun _ _=>.tup0)) (fun v _=>Ao (K:=2) (N:=2) Tryz.func216 hI) fun _ _=>Aa<|Y<|O<|Ab 1 [3] [(11,(.agg [(.I s0),(.str class1),(.str []),(.I 0),(.I 0),(.I 0),(.I 0),(.I 0)]))] ?_
 refine Ar (A0 (v:=(.agg [(.I s0),(.str class1),(.str []),(.I 0),(.I 0),(.I 0),(.I 0),(.I 0)])) hI J J J J Dp J J J J J)<|Aa<|Al ?_
 exact D5 (K:=2) (N:=2) (a:=()) (vs:=[(.agg [(.I s0),(.str class1),(.str []),(.I 0),(.I 0),(.I 0),(.I 0),(.I 0)])]) [some (.rows g 1 [[(.I s0)]]),some (.rows g1 1 [[(.func (.func 202) [] [])]])] Tryz.func216 hI J (Dx (Bh hI J J J Dp J) Fj) J (.keep (.keep (.drop (.drop .nil)))) (.same _) ⟨J,J⟩
theorem Tf (t:Token):CP Tryz.prog 208 [(.agg (Ac t))] (Hm t) (fun(x:Bool)=>(AV.bool x)):=by
 refine C0 (n:=12) 1 Tryz.func208 J (by decide) J J fun h0 ids hI=>Bn (Ak (Hm.eq_1 _) ?_)
 refine Y<|O<|Cx (v:=(.agg (Ac t))) (j:=0) hI J J J J J J J fun g=>Z (.bool false) J Aj<|Aa<|Al ?_
 refine Y<|O<|Ab 4 [0] [(6,(.bool (decide (t.N≤60))))] ?_
 refine Bx 5 [(11,(.bool ((decide (t.N≤60))&&((Int.tmod t.N 10)==0))))] ?_ fun hJ=>Bt (decide (t.N≤60)) (fun hb1=>?_) (fun hb1=>?_)
 ·refine Z (.bool ((decide (t.N≤60))&&((Int.tmod t.N 10)==0))) J Aj<|Aa<|Br (a:=((decide (t.N≤60))&&((Int.tmod t.N 10)==0))) (vs:=[(.bool ((decide (t.N≤60))&&((Int.tmod t.N 10)==0)))]) Tryz.func208 hI J (.same _)
 ·refine A5 (t:=6) hb1 J<|Ab 2 [0] [(8,(.I t.N))] ?_
  refine Bz (tj:=6) (.I (Int.tmod t.N 10)) J J J (Ba J J (Akc J (by decide)))<|Ab 2 [] [(11,(.bool ((Int.tmod t.N 10)==0)))] ?_
  exact Bg hJ (.cons (Lh hb1) .nil)
 refine A5 (t:=6) hb1 J<|Ab 5 [] [(11,(.bool false))] ?_
 exact Bg hJ (.cons (Lg hb1) .nil)
theorem Wp (kind:Int)(s_l:List Token)(s_end:Int)(h0:Ae)(o0:Nat)(w:AV)(w1:AV)(w2:AV)(w3:AV)(w4:AV)(w5:AV)(w6:AV)(w7:AV)(g:Nat)(hI0:Ids h0 [o0] 1):Hz kind s_l s_end≠.bad→Bl Tryz.prog 207 [(.ptr o0 g 0 0),(.int .i64 kind),(.func (.func 208) [] [])] (hp h0 [o0] [some (.rows g 10 [[(.sl 4 (List.map Ac s_l)),(.int .i64 s_end),w,w1,w2,w3,w4,w5,w6,w7]])]) (Cu (fun a_ v h'=>v=(.agg (Ac a_))∧h'=hp h0 [o0] [some (.rows g 10 [[(.sl 4 (List.map Ac (s_l.drop 1))),(.int .i64 s_end),w,w1,w2,w3,w4,w5,w6,w7]])]) h0 (Hz kind s_l s_end)):=by
 refine Be (n:=53) 2 Tryz.func207 J (by decide) J J hI0 J fun ids he hI=>?_
 clear hI0
 obtain rfl:ix ids 0=o0:=he 0 rfl
 clear he
 refine Bn (Ak (Hz.eq_1 _ _ _) ?_)
 refine Al ?_
 refine Y<|O<|Bf (j:=1) hI J J J J Db J fun g1=>Aa<|Al ?_
 refine Y<|Y<|O<|Ab 4 [0] [(11,(.sl 4 (List.map Ac s_l)))] ?_
 refine Z (.I (s_l.length:Int)) J (Ay (A7 C1))<|Ab 2 [] [(14,(.bool ((s_l.length:Int)==0)))] ?_
 refine Dq 10 ((fun(b:Bool)=>(if b then R.ok true else(E3 s_l 0).bind fun a1=>(Hm a1).bind fun r=>R.ok (!r)).bind (fun(b1:Bool)=>if b1 then((Bm 80 s_l s_end).bind fun _=>Eu s_l) else(Eu s_l))):Bool→R Token) (fun(b:Bool) (fr:Nat→AV) (h:Ae)=>fr=A6 [(0,(.q ids 0 g)),(2,(.func (.func 208) [] [])),(6,(.q ids 1 g1)),(24,(.bool b))]∧h=hp h0 ids [(some (.rows g 10 [[(.sl 4 (List.map Ac s_l)),(.I s_end),w,w1,w2,w3,w4,w5,w6,w7]])),(some (.rows g1 4 [[(.I 0),(.str []),(.I 0),(.I 0)]])),none]) ?_ fun hJ=>Ed (fun hb1=>?_) (fun hb1=>?_)
 ·rintro b fr h ⟨rfl,rfl⟩
  refine Z (.bool b) J Ad<|Dq 10 ((fun(b1:Bool)=>if b1 then((Bm 80 s_l s_end).bind fun _=>Eu s_l) else(Eu s_l)):Bool→R Token) (fun(b1:Bool) (fr:Nat→AV) (h:Ae)=>fr=A6 [(0,(.q ids 0 g)),(6,(.q ids 1 g1)),(35,(.bool b1))]∧h=hp h0 ids [(some (.rows g 10 [[(.sl 4 (List.map Ac s_l)),(.I s_end),w,w1,w2,w3,w4,w5,w6,w7]])),(some (.rows g1 4 [[(.I 0),(.str []),(.I 0),(.I 0)]])),none]) ?_ fun hJ1=>Ed (fun hb3=>?_) (fun hb3=>?_)
  ·rintro b1 fr h ⟨rfl,rfl⟩
   refine Aa<|Ei (π:=Unit) (fun _=>Eu s_l) (fun _=>fun(fr:Nat→AV) (h:Ae)=>fr=A6 [(0,(.q ids 0 g)),(6,(.q ids 1 g1))]∧h=hp h0 ids [(some (.rows g 10 [[(.sl 4 (List.map Ac s_l)),(.I s_end),w,w1,w2,w3,w4,w5,w6,w7]])),(some (.rows g1 4 [[(.I 0),(.str []),(.I 0),(.I 0)]])),none]) ?_ fun hJ2=>?_
   ·rintro _ fr h ⟨rfl,rfl⟩
    refine Ak (Eu.eq_1 _)<|Y<|O<|Ab 4 [0] [(41,(.sl 4 (List.map Ac s_l)))] ?_
    refine E1 fun a2 hz2 hx3=>Z (.cp (Ac a2) 0) J (Bs (D3 C1 Db J hz2 hx3))<|Z (.agg (Ac a2)) J (Au (Cr Db J))<|Bf (j:=2) hI J J J J Db J fun g2=>Ar (A0 (v:=(.agg (Ac a2))) hI J J J J Db J J J J J)<|Aa<|Al ?_
    refine Y<|O<|Ab 5 [0] [(48,(.sl 4 (List.map Ac s_l))),(44,(.q ids 0 g))] ?_
    refine Gj fun hs=>Z (.sl 4 (List.map Ac (s_l.drop 1))) J (Gz (Ns C1 Db J hs))<|Ab 2 [] [(51,(.q ids 0 g))] ?_
    refine Ar (A0 (v:=(.sl 4 (List.map Ac (s_l.drop 1)))) hI J J J J C1 J J J J J)<|Aa<|Al ?_
    refine Y<|O<|Ab 1 [2] [(52,(.agg (Ac a2)))] ?_
    refine Ar (A0 (v:=(.agg (Ac a2))) hI J J J J Db J J J J J)<|Aa<|Al ?_
    exact D5 (K:=1) (N:=2) (a:=a2) (vs:=[(.agg (Ac a2))]) [some (.rows g 10 [[(.sl 4 (List.map Ac (s_l.drop 1))),(.I s_end),w,w1,w2,w3,w4,w5,w6,w7]])] Tryz.func207 hI J (Dx (Bh hI J J J Db J) Fj) J (.keep (.drop (.drop .nil))) (.same _) ⟨J,J⟩
   refine Cf J (fun hc=>?_) (fun hc=>?_)
   ·refine O<|Z (.q ids 0 g) J Ad<|An [0] hI J J (Cj 80 s_l s_end _ (ix ids 0) w w1 w2 w3 w4 w5 w6 w7 g (by exact hI.sub' J J)) J J J J J J (fun v _=>Ao (K:=1) (N:=2) Tryz.func207 hI) ?_
    rintro _ _ _ _ ⟨rfl,rfl⟩
    refine Ax [0] hI J J J ?_
    refine Ap<|Aa<|Bq (hJ2 () _ _ ⟨J,J⟩)
   refine Az<|Bq (hJ2 () _ _ ⟨J,J⟩)
  ·refine A5 (t:=25) hb3 J<|Ab 10 [] [(35,(.bool true))] ?_
   refine Bp<|Ck [(0,(.q ids 0 g)),(6,(.q ids 1 g1)),(35,(.bool true))] (FI J)<|hJ1 true _ _ ⟨J,J⟩
  refine A5 (t:=25) hb3 J<|Ab 5 [0] [(30,(.sl 4 (List.map Ac s_l))),(26,(.func (.func 208) [] []))] ?_
  refine E1 fun a1 hz1 hx2=>Bz (tj:=25) (.cp (Ac a1) 0) J J J (Bs (D3 C1 Db J hz1 hx2))<|Bz (tj:=25) (.agg (Ac a1)) J J J (Au (Cr Db J))<|B0 [(.agg (Ac a1))] J (Cq (tj:=25) J J) J J ((Tf a1) _) (fun v _=>Ao (K:=1) (N:=2) Tryz.func207 hI) fun r _=>Ab 2 [] [(35,(.bool (!r)))] ?_
  refine Bp<|Ck [(0,(.q ids 0 g)),(6,(.q ids 1 g1)),(35,(.bool (!r)))] (FI J)<|hJ1 (!r) _ _ ⟨J,J⟩
 ·refine A5 (t:=14) hb1 J<|Ab 10 [] [(24,(.bool true))] ?_
  refine Bp<|Ck [(0,(.q ids 0 g)),(2,(.func (.func 208) [] [])),(6,(.q ids 1 g1)),(24,(.bool true))] (FI J)<|hJ true _ _ ⟨J,J⟩
 refine A5 (t:=14) hb1 J<|Ab 4 [0] [(18,(.sl 4 (List.map Ac s_l)))] ?_
 refine E1 fun a hz hx1=>Bz (tj:=14) (.cp (Ac a) 0) J J J (Bs (D3 C1 Db J hz hx1))<|Ab 5 [] [(24,(.bool (a.Kind != kind)))] ?_
 refine Bp<|Ck [(0,(.q ids 0 g)),(2,(.func (.func 208) [] [])),(6,(.q ids 1 g1)),(24,(.bool (a.Kind != kind)))] (FI J)<|hJ (a.Kind != kind) _ _ ⟨J,J⟩
theorem U0 (s0:Rule)(s2_l:List Token)(s2_end:Int)(h0:Ae)(o0:Nat)(o1:Nat)(o2:Nat)(g:Nat)(g1:Nat)(w:AV)(w1:AV)(w2:AV)(w3:AV)(w4:AV)(w5:AV)(w6:AV)(w7:AV)(g2:Nat)(hI0:Ids h0 [o0,o1,o2] 3):K6 s0 s2_l s2_end≠.bad→Bl Tryz.prog 206 [(.ptr o0 g 0 0),(.ptr o1 g1 0 0)] (hp h0 [o0,o1,o2] [some (.rows g 8 [(Bc s0)]),some (.rows g1 1 [[(.ptr o2 g2 0 0)]]),some (.rows g2 10 [[(.sl 4 (List.map Ac s2_l)),(.int .i64 s2_end),w,w1,w2,w3,w4,w5,w6,w7]])]) (Cu (fun a_ v h'=>v=(.tup [])∧h'=hp h0 [o0,o1,o2] [some (.rows g 8 [(Bc a_)]),some (.rows g1 1 [[(.ptr o2 g2 0 0)]]),some (.rows g2 10 [[(.sl 4 (List.map Ac (s2_l.drop 1))),(.int .i64 s2_end),w,w1,w2,w3,w4,w5,w6,w7]])]) h0 (K6 s0 s2_l s2_end)):=by
 refine Be (n:=9) 0 Tryz.func206 J (by decide) J J hI0 J fun ids he hI=>?_
 clear hI0
 obtain rfl:ix ids 0=o0:=he 0 rfl
 obtain rfl:ix ids 1=o1:=he 1 rfl
 obtain rfl:ix ids 2=o2:=he 2 rfl
 clear he
 refine Bn (Ak (K6.eq_1 _ _ _) ?_)
 refine O<|Ab 2 [1] [(4,(.q ids 2 g2)),(3,(.q ids 0 g))] ?_
 refine An [2] hI J J (Wp 2 s2_l s2_end _ (ix ids 2) w w1 w2 w3 w4 w5 w6 w7 g2 (by exact hI.sub' J J)) J J J J J J (fun v _=>Ao (K:=3) (N:=0) Tryz.func206 hI) ?_
 rintro r _ _ _ ⟨rfl,rfl⟩
 refine Ax [2] hI J J J ?_
 refine Ap<|Ab 3 [] [(8,(.ptr (ix ids 0) g 0 5)),(6,(.I r.N))] ?_
 refine Ar (A0 (v:=(.I r.N)) hI J J J J Dw J J J J J)<|Aa<|Al ?_
 exact Ce (K:=3) (N:=0) (a:=({ Kind:=s0.Kind,C:=s0.C,A:=s0.A,Class:=s0.Class,Airport:=s0.Airport,N:=r.N,Hours:=s0.Hours }:Rule)) (vs:=[]) [some (.rows g 8 [(Bc ({ Kind:=s0.Kind,C:=s0.C,A:=s0.A,Class:=s0.Class,Airport:=s0.Airport,N:=r.N,Hours:=s0.Hours }:Rule))]),some (.rows g1 1 [[(.q ids 2 g2)]]),some (.rows g2 10 [[(.sl 4 (List.map Ac (s2_l.drop 1))),(.I s2_end),w,w1,w2,w3,w4,w5,w6,w7]])] Tryz.func206 hI J J J (.fz (.cons (.same _) (.cons (.same _) (.cons (.same _) (.cons (.same _) (.cons (.same _) (.cons (.same _) (.cons (.same _) (.cons (.same _) .nil)))))))) J (C2 J (C2 J (C2 J (C2 J (C2 J (C2 J (C2 J (C2 J X5)))))))) (.keep (.keep .nil))) (.same _) ⟨J,J⟩
theorem Wg (class1:Aw)(s0:Int)(s3_l:List Token)(s3_end:Int)(h0:Ae)(o0:Nat)(o1:Nat)(o2:Nat)(o3:Nat)(g:Nat)(g1:Nat)(g2:Nat)(w:AV)(w1:AV)(w2:AV)(w3:AV)(w4:AV)(w5:AV)(w6:AV)(w7:AV)(g3:Nat)(hI0:Ids h0 [o0,o1,o2,o3] 4):Gn class1 s0 s3_l s3_end≠.bad→Bl Tryz.prog 216 [(.str class1),(.ptr o0 g 0 0),(.ptr o1 g1 0 0)] (hp h0 [o0,o1,o2,o3] [some (.rows g 1 [[(.int .i64 s0)]]),some (.rows g1 1 [[(.func (.func 206) [] [(.ptr o2 g2 0 0)])]]),some (.rows g2 1 [[(.ptr o3 g3 0 0)]]),some (.rows g3 10 [[(.sl 4 (List.map Ac s3_l)),(.int .i64 s3_end),w,w1,w2,w3,w4,w5,w6,w7]])]) (Cu (fun a_ v h'=>v=(.agg (Bc a_))∧h'=hp h0 [o0,o1,o2,o3] [some (.rows g 1 [[(.int .i64 s0)]]),some (.rows g1 1 [[(.func (.func 206) [] [(.ptr o2 g2 0 0)])]]),some (.rows g2 1 [[(.ptr o3 g3 0 0)]]),some (.rows g3 10 [[(.sl 4 (List.map Ac (s3_l.drop 1))),(.int .i64 s3_end),w,w1,w2,w3,w4,w5,w6,w7]])]) h0 (Gn class1 s0 s3_l s3_end)):=by
 refine Be (n:=12) 2 Tryz.func216 J (by decide) J J hI0 J fun ids he hI=>?_
 clear hI0
 obtain rfl:ix ids 0=o0:=he 0 rfl
 obtain rfl:ix ids 1=o1:=he 1 rfl
 obtain rfl:ix ids 2=o2:=he 2 rfl
 obtain rfl:ix ids 3=o3:=he 3 rfl
 clear he
 refine Bn (Ak (Gn.eq_1 _ _ _ _) ?_)
 refine Al ?_
 refine Y<|O<|Bf (j:=4) hI J J J J Dp J fun g4=>Aa<|Al ?_
 refine Y<|O<|Ab 3 [0] [(8,(.agg [(.I s0),(.str class1),(.str []),(.I 0),(.I 0),(.I 0),(.I 0),(.I 0)]))] ?_
 refine Bf (j:=5) hI J J J J Dp J fun g5=>Ar (A0 (v:=(.agg [(.I s0),(.str class1),(.str []),(.I 0),(.I 0),(.I 0),(.I 0),(.I 0)])) hI J J J J Dp J J J J J)<|Aa<|Al ?_
 refine Y<|O<|Ab 1 [1] [(9,(.func (.func 206) [] [(.q ids 2 g2)]))] ?_
 refine An [5,2,3] hI J J (U0 ({ Kind:=s0,C:=class1,A:=[],Class:=0,Airport:=0,N:=0,Hours:=({ From:=0,To:=0 }:Span) }:Rule) s3_l s3_end _ (ix ids 5) (ix ids 2) (ix ids 3) g5 g2 w w1 w2 w3 w4 w5 w6 w7 g3 (by exact hI.sub' J J)) J J J J J J (fun v _=>Ao (K:=4) (N:=2) Tryz.func216 hI) ?_
 rintro r _ _ _ ⟨rfl,rfl⟩
 refine Ax [5,2,3] hI J J J ?_
 refine Ap<|Aa<|Al ?_
 refine Y<|O<|Ab 1 [5] [(11,(.agg (Bc r)))] ?_
 refine Ar (A0 (v:=(.agg (Bc r))) hI J J J J Dp J J J J J)<|Aa<|Al ?_
 exact D5 (K:=4) (N:=2) (a:=r) (vs:=[(.agg (Bc r))]) [some (.rows g 1 [[(.I s0)]]),some (.rows g1 1 [[(.func (.func 206) [] [(.q ids 2 g2)])]]),some (.rows g2 1 [[(.q ids 3 g3)]]),some (.rows g3 10 [[(.sl 4 (List.map Ac (s3_l.drop 1))),(.I s3_end),w,w1,w2,w3,w4,w5,w6,w7]])] Tryz.func216 hI J (Dx (Bh hI J J J Dp J) Fj) J (.keep (.keep (.keep (.keep (.drop (.drop .nil)))))) (.same _) ⟨J,J⟩
theorem Uv (s0:Rule)(s2_l:List Token)(s2_end:Int)(h0:Ae)(o0:Nat)(o1:Nat)(o2:Nat)(g:Nat)(g1:Nat)(w:AV)(w1:AV)(w2:AV)(w3:AV)(w4:AV)(w5:AV)(w6:AV)(w7:AV)(g2:Nat)(hI0:Ids h0 [o0,o1,o2] 3):K7 s0 s2_l s2_end≠.bad→Bl Tryz.prog 204 [(.ptr o0 g 0 0),(.ptr o1 g1 0 0)] (hp h0 [o0,o1,o2] [some (.rows g 8 [(Bc s0)]),some (.rows g1 1 [[(.ptr o2 g2 0 0)]]),some (.rows g2 10 [[(.sl 4 (List.map Ac s2_l)),(.int .i64 s2_end),w,w1,w2,w3,w4,w5,w6,w7]])]) (Cu (fun a_ v h'=>v=(.tup [])∧h'=hp h0 [o0,o1,o2] [some (.rows g 8 [(Bc a_)]),some (.rows g1 1 [[(.ptr o2 g2 0 0)]]),some (.rows g2 10 [[(.sl 4 (List.map Ac (s2_l.drop 1))),(.int .i64 s2_end),w,w1,w2,w3,w4,w5,w6,w7]])]) h0 (K7 s0 s2_l s2_end)):=by
 refine Be (n:=8) 0 Tryz.func204 J (by decide) J J hI0 J fun ids he hI=>?_
 clear hI0
 obtain rfl:ix ids 0=o0:=he 0 rfl
 obtain rfl:ix ids 1=o1:=he 1 rfl
 obtain rfl:ix ids 2=o2:=he 2 rfl
 clear he
 refine Bn (Ak (K7.eq_1 _ _ _) ?_)
 refine O<|Ab 2 [1] [(4,(.q ids 2 g2)),(3,(.q ids 0 g))] ?_
 refine An [2] hI J J (Ek 1 8 s2_l s2_end _ (ix ids 2) w w1 w2 w3 w4 w5 w6 w7 g2 (by exact hI.sub' J J)) J J J J J J (fun v _=>Ao (K:=3) (N:=0) Tryz.func204 hI) ?_
 rintro r _ _ _ ⟨rfl,rfl⟩
 refine Ax [2] hI J J J ?_
 refine Ap<|Ab 2 [] [(7,(.ptr (ix ids 0) g 0 5))] ?_
 refine Ar (A0 (v:=(.I r)) hI J J J J Dw J J J J J)<|Aa<|Al ?_
 exact Ce (K:=3) (N:=0) (a:=({ Kind:=s0.Kind,C:=s0.C,A:=s0.A,Class:=s0.Class,Airport:=s0.Airport,N:=r,Hours:=s0.Hours }:Rule)) (vs:=[]) [some (.rows g 8 [(Bc ({ Kind:=s0.Kind,C:=s0.C,A:=s0.A,Class:=s0.Class,Airport:=s0.Airport,N:=r,Hours:=s0.Hours }:Rule))]),some (.rows g1 1 [[(.q ids 2 g2)]]),some (.rows g2 10 [[(.sl 4 (List.map Ac (s2_l.drop 1))),(.I s2_end),w,w1,w2,w3,w4,w5,w6,w7]])] Tryz.func204 hI J J J (.fz (.cons (.same _) (.cons (.same _) (.cons (.same _) (.cons (.same _) (.cons (.same _) (.cons (.same _) (.cons (.same _) (.cons (.same _) .nil)))))))) J (C2 J (C2 J (C2 J (C2 J (C2 J (C2 J (C2 J (C2 J X5)))))))) (.keep (.keep .nil))) (.same _) ⟨J,J⟩
theorem W7 (class1:Aw)(s0:Int)(s3_l:List Token)(s3_end:Int)(h0:Ae)(o0:Nat)(o1:Nat)(o2:Nat)(o3:Nat)(g:Nat)(g1:Nat)(g2:Nat)(w:AV)(w1:AV)(w2:AV)(w3:AV)(w4:AV)(w5:AV)(w6:AV)(w7:AV)(g3:Nat)(hI0:Ids h0 [o0,o1,o2,o3] 4):Gq class1 s0 s3_l s3_end≠.bad→Bl Tryz.prog 216 [(.str class1),(.ptr o0 g 0 0),(.ptr o1 g1 0 0)] (hp h0 [o0,o1,o2,o3] [some (.rows g 1 [[(.int .i64 s0)]]),some (.rows g1 1 [[(.func (.func 204) [] [(.ptr o2 g2 0 0)])]]),some (.rows g2 1 [[(.ptr o3 g3 0 0)]]),some (.rows g3 10 [[(.sl 4 (List.map Ac s3_l)),(.int .i64 s3_end),w,w1,w2,w3,w4,w5,w6,w7]])]) (Cu (fun a_ v h'=>v=(.agg (Bc a_))∧h'=hp h0 [o0,o1,o2,o3] [some (.rows g 1 [[(.int .i64 s0)]]),some (.rows g1 1 [[(.func (.func 204) [] [(.ptr o2 g2 0 0)])]]),some (.rows g2 1 [[(.ptr o3 g3 0 0)]]),some (.rows g3 10 [[(.sl 4 (List.map Ac (s3_l.drop 1))),(.int .i64 s3_end),w,w1,w2,w3,w4,w5,w6,w7]])]) h0 (Gq class1 s0 s3_l s3_end)):=by
 refine Be (n:=12) 2 Tryz.func216 J (by decide) J J hI0 J fun ids he hI=>?_
 clear hI0
 obtain rfl:ix ids 0=o0:=he 0 rfl
 obtain rfl:ix ids 1=o1:=he 1 rfl
 obtain rfl:ix ids 2=o2:=he 2 rfl
 obtain rfl:ix ids 3=o3:=he 3 rfl
 clear he
 refine Bn (Ak (Gq.eq_1 _ _ _ _) ?_)
 refine Al ?_
 refine Y<|O<|Bf (j:=4) hI J J J J Dp J fun g4=>Aa<|Al ?_
 refine Y<|O<|Ab 3 [0] [(8,(.agg [(.I s0),(.str class1),(.str []),(.I 0),(.I 0),(.I 0),(.I 0),(.I 0)]))] ?_
 refine Bf (j:=5) hI J J J J Dp J fun g5=>Ar (A0 (v:=(.agg [(.I s0),(.str class1),(.str []),(.I 0),(.I 0),(.I 0),(.I 0),(.I 0)])) hI J J J J Dp J J J J J)<|Aa<|Al ?_
 refine Y<|O<|Ab 1 [1] [(9,(.func (.func 204) [] [(.q ids 2 g2)]))] ?_
 refine An [5,2,3] hI J J (Uv ({ Kind:=s0,C:=class1,A:=[],Class:=0,Airport:=0,N:=0,Hours:=({ From:=0,To:=0 }:Span) }:Rule) s3_l s3_end _ (ix ids 5) (ix ids 2) (ix ids 3) g5 g2 w w1 w2 w3 w4 w5 w6 w7 g3 (by exact hI.sub' J J)) J J J J J J (fun v _=>Ao (K:=4) (N:=2) Tryz.func216 hI) ?_
 rintro r _ _ _ ⟨rfl,rfl⟩
 refine Ax [5,2,3] hI J J J ?_
 refine Ap<|Aa<|Al ?_
 refine Y<|O<|Ab 1 [5] [(11,(.agg (Bc r)))] ?_
 refine Ar (A0 (v:=(.agg (Bc r))) hI J J J J Dp J J J J J)<|Aa<|Al ?_
 exact D5 (K:=4) (N:=2) (a:=r) (vs:=[(.agg (Bc r))]) [some (.rows g 1 [[(.I s0)]]),some (.rows g1 1 [[(.func (.func 204) [] [(.q ids 2 g2)])]]),some (.rows g2 1 [[(.q ids 3 g3)]]),some (.rows g3 10 [[(.sl 4 (List.map Ac (s3_l.drop 1))),(.I s3_end),w,w1,w2,w3,w4,w5,w6,w7]])] Tryz.func216 hI J (Dx (Bh hI J J J Dp J) Fj) J (.keep (.keep (.keep (.keep (.drop (.drop .nil)))))) (.same _) ⟨J,J⟩
theorem Wy (most:Int)(s0_l:List Token)(s0_end:Int)(l:List Volume)(h0:Ae)(o0:Nat)(o1:Nat)(o2:Nat)(w:AV)(w1:AV)(w2:AV)(w3:AV)(w4:AV)(w5:AV)(w6:AV)(g:Nat)(v1:AV)(g1:Nat)(g2:Nat)(vH:A2 v1 o1 g1 l.length)(hI0:Ids h0 [o0,o1,o2] 3):Hx most s0_l s0_end l≠.bad→Bl Tryz.prog 192 [(.ptr o0 g 0 0),(.int .i64 most),(.func (.func 193) [] [(.ptr o2 g2 0 0)])] (hp h0 [o0,o1,o2] [some (.rows g 10 [[(.sl 4 (List.map Ac s0_l)),(.int .i64 s0_end),v1,w,w1,w2,w3,w4,w5,w6]]),Ah v1 g1 2 (List.map As l),some (.rows g2 1 [[(.ptr o0 g 0 0)]])]) (Cu (fun a_ v h'=>v=(.sl 2 (List.map Ds a_.1))∧h'=hp h0 [o0,o1,o2] [some (.rows g 10 [[(.sl 4 (List.map Ac a_.2)),(.int .i64 s0_end),v1,w,w1,w2,w3,w4,w5,w6]]),Ah v1 g1 2 (List.map As l),some (.rows g2 1 [[(.ptr o0 g 0 0)]])]) h0 (Hx most s0_l s0_end l)):=by
 refine Be (n:=24) 1 Tryz.func192 J (by decide) J J hI0 J fun ids he hI=>?_
 clear hI0
 obtain rfl:ix ids 0=o0:=he 0 rfl
 obtain rfl:ix ids 1=o1:=he 1 rfl
 obtain rfl:ix ids 2=o2:=he 2 rfl
 clear he
 refine Bn (Ak (Hx.eq_1 _ _ _ _) ?_)
 refine Al ?_
 refine Y<|O<|Z .emp J Aj<|Aa<|A8<|Dt [(0,(.q ids 0 g)),(1,(.I most)),(2,(.func (.func 193) [] [(.q ids 2 g2)])),(6,.emp)] (FI J)<|U6 (P:=Tryz.prog) (C3 fun fL l1=>Ie most s0_end fL l1) ((fun r=>.ok r):((List Mode)×(List Token))→R ((List Mode)×(List Token))) (C3 fun fL l1=>fun(fr:Nat→AV) (h:Ae) => ∃ (v2:AV),∃ (g3:Nat),A2 v2 (ix ids 3) g3 l1.length∧fr=A6 [(0,(.q ids 0 g)),(1,(.I most)),(2,(.func (.func 193) [] [(.q ids 2 g2)])),(6,v2)]∧h=hp h0 ids [(some (.rows g 10 [[(.sl 4 (List.map Ac fL)),(.I s0_end),v1,w,w1,w2,w3,w4,w5,w6]])),(Ah v1 g1 2 (List.map As l)),(some (.rows g2 1 [[(.q ids 0 g)]])),(Ah v2 g3 2 (List.map Ds l1))]) (s0_l,[]) ?_ ?_
 ·exact⟨.emp,0,.nil,J,J⟩
 rintro vW hW ⟨fL,l1⟩ fr h ⟨v2,g3,vH1,rfl,rfl⟩
 refine Ak (m':=Ie most s0_end fL l1) J (Ak (Ie.eq_1 _ _ _ _) ?_)
 refine A8<|Y<|O<|Ab 2 [] [(8,(.func (.func 193) [] [(.q ids 2 g2)])),(7,v2)] ?_
 refine An [2,0] hI J J (Tq fL s0_end _ (ix ids 2) (ix ids 0) g2 v1 w w1 w2 w3 w4 w5 w6 g (by exact hI.sub' J J)) J J J J J J (fun v _=>Ao (K:=3) (N:=1) Tryz.func192 hI) ?_
 rintro r _ _ _ ⟨rfl,rfl⟩
 refine Ax [2,0] hI J J J ?_
 refine Ap<|Df (e:=Ds) (L:=[r]) (st:=2) (rows:=[[(.str r.Name),(.I r.Places)]]) J N6 Py J J J J J (.cons (RowSim.refl _) .nil) (fun x=>Afb x) J J<|Gj fun hl=>P7 (e:=Ds) (L:=l1) (L2:=[r]) (v:=v2) (g:=g3) (st:=2) (j:=3) hI J J J J vH1 J (Kn J) N6 N6 J Py J J J hl fun v3 g4 vH2=>Z v3 J Aj<|Aa<|Al ?_
 refine Y<|Y<|O<|Z (.q ids 0 g) J Ad<|An [0] hI J J (Nh 3 [44] (((fL.drop 1).drop 1).drop 1) s0_end _ (ix ids 0) v1 w w1 w2 w3 w4 w5 w6 g (by exact hI.sub' J J)) J J J J J J (fun v _=>Ao (K:=3) (N:=1) Tryz.func192 hI) ?_
 rintro r1 _ _ _ ⟨rfl,rfl⟩
 refine Ax [0] hI J J J ?_
 refine Ap<|Z (.bool (!r1)) J (O3 J)<|Aa<|D2 J (fun hc=>?_) (fun hc=>?_)
 ·refine Az<|Y<|Y<|O<|Z v3 J Ad<|Z (.I ((l1++[r]).length:Int)) J (Ay (A2.len vH2 N6))<|Ab 2 [] [(19,(.bool (((l1++[r]).length:Int)==most)))] ?_
  refine Aa<|Ei (π:=Unit) (fun _=>Ia s0_end fL l1 r) (fun _=>fun(fr:Nat→AV) (h:Ae)=>fr=A6 [(0,(.q ids 0 g)),(1,(.I most)),(2,(.func (.func 193) [] [(.q ids 2 g2)])),(6,v3)]∧h=hp h0 ids [(some (.rows g 10 [[(.sl 4 (List.map Ac (((fL.drop 1).drop 1).drop 1))),(.I s0_end),v1,w,w1,w2,w3,w4,w5,w6]])),(Ah v1 g1 2 (List.map As l)),(some (.rows g2 1 [[(.q ids 0 g)]])),(Ah v3 g4 2 (List.map Ds (l1++[r])))]) ?_ fun hJ=>?_
  ·rintro _ fr h ⟨rfl,rfl⟩
   refine Ak (Ia.eq_1 _ _ _ _)<|O<|Z (.q ids 0 g) J Ad<|An [0] hI J J (C4 [44] (((fL.drop 1).drop 1).drop 1) s0_end _ (ix ids 0) v1 w w1 w2 w3 w4 w5 w6 g (by exact hI.sub' J J)) J J J J J J (fun v _=>Ao (K:=3) (N:=1) Tryz.func192 hI) ?_
   rintro _ _ _ _ ⟨rfl,rfl⟩
   refine Ax [0] hI J J J ?_
   refine Ap<|Aa<|Al ?_
   refine Bj<|Bq (Pt (hW (((((fL.drop 1).drop 1).drop 1).drop 1),(l1++[r])) _ _ ⟨v3,g4,vH2,J,J⟩))
  refine Cf J (fun hc1=>?_) (fun hc1=>?_)
  ·refine O<|Z (.q ids 0 g) J Ad<|An [0] hI J J (Cj 2 (((fL.drop 1).drop 1).drop 1) s0_end _ (ix ids 0) v1 w w1 w2 w3 w4 w5 w6 g (by exact hI.sub' J J)) J J J J J J (fun v _=>Ao (K:=3) (N:=1) Tryz.func192 hI) ?_
   rintro _ _ _ _ ⟨rfl,rfl⟩
   refine Ax [0] hI J J J ?_
   refine Ap<|Aa<|Bq (hJ () _ _ ⟨J,J⟩)
  refine Az<|Bq (hJ () _ _ ⟨J,J⟩)
 refine Y<|O<|Ab 2 [] [(6,v3)] ?_
 refine Aa<|Xn<|D5 (K:=3) (N:=1) (a:=((l1++[r]),(((fL.drop 1).drop 1).drop 1))) (vs:=[v3]) [some (.rows g 10 [[(.sl 4 (List.map Ac (((fL.drop 1).drop 1).drop 1))),(.I s0_end),v1,w,w1,w2,w3,w4,w5,w6]]),Ah v1 g1 2 (List.map As l),some (.rows g2 1 [[(.q ids 0 g)]])] Tryz.func192 hI J J J (.keep (.keep (.keep (.drop .nil)))) (Fx vH2 (hI.at J J) (hI.at J J) (fun x=>Afb x)) ⟨J,J⟩
theorem Um (s:Aw)(s1_l:List Token)(s1_end:Int)(l:List Volume)(h0:Ae)(o0:Nat)(o1:Nat)(o2:Nat)(g:Nat)(w:AV)(w1:AV)(w2:AV)(w3:AV)(w4:AV)(w5:AV)(w6:AV)(g1:Nat)(v1:AV)(g2:Nat)(vH:A2 v1 o2 g2 l.length)(hI0:Ids h0 [o0,o1,o2] 3):Fk s s1_l s1_end l≠.bad→Bl Tryz.prog 191 [(.str s),(.ptr o0 g 0 0)] (hp h0 [o0,o1,o2] [some (.rows g 1 [[(.ptr o1 g1 0 0)]]),some (.rows g1 10 [[(.sl 4 (List.map Ac s1_l)),(.int .i64 s1_end),v1,w,w1,w2,w3,w4,w5,w6]]),Ah v1 g2 2 (List.map As l)]) (Cu (fun a_ v h'=>v=(.agg (A9 a_.1))∧h'=hp h0 [o0,o1,o2] [some (.rows g 1 [[(.ptr o1 g1 0 0)]]),some (.rows g1 10 [[(.sl 4 (List.map Ac a_.2)),(.int .i64 s1_end),v1,w,w1,w2,w3,w4,w5,w6]]),Ah v1 g2 2 (List.map As l)]) h0 (Fk s s1_l s1_end l)):=by
 refine Be (n:=9) 1 Tryz.func191 J (by decide) J J hI0 J fun ids he hI=>?_
 clear hI0
 obtain rfl:ix ids 0=o0:=he 0 rfl
 obtain rfl:ix ids 1=o1:=he 1 rfl
 obtain rfl:ix ids 2=o2:=he 2 rfl
 clear he
 refine Bn (Ak (Fk.eq_1 _ _ _ _) ?_)
 refine Al ?_
 refine Y<|O<|Bf (j:=3) hI J J J J Jo J fun g3=>Aa<|Al ?_
 refine Y<|O<|Ab 3 [0] [(6,(.func (.func 193) [] [(.q ids 0 g)])),(5,(.q ids 1 g1)),(4,(.str s))] ?_
 refine An [1,2,0] hI J J (Wy 16 s1_l s1_end l _ (ix ids 1) (ix ids 2) (ix ids 0) w w1 w2 w3 w4 w5 w6 g1 v1 g2 g vH (by exact hI.sub' J J)) J J J J J J (fun v _=>Ao (K:=3) (N:=1) Tryz.func191 hI) ?_
 rintro r _ _ _ ⟨rfl,rfl⟩
 refine Ax [1,2,0] hI J J J ?_
 refine Ap<|Z (.agg [(.str s),(.sl 2 (List.map Ds r.1))]) J (Ma (Ry Jo Asf J))<|Ar (A0 (v:=(.agg [(.str s),(.sl 2 (List.map Ds r.1))])) hI J J J J Jo J J J J J)<|Aa<|Al ?_
 exact D5 (K:=3) (N:=1) (a:=(({ Name:=s,Modes:=r.1 }:Airport),r.2)) (vs:=[(.agg [(.str s),(.sl 2 (List.map Ds r.1))])]) [some (.rows g 1 [[(.q ids 1 g1)]]),some (.rows g1 10 [[(.sl 4 (List.map Ac r.2)),(.I s1_end),v1,w,w1,w2,w3,w4,w5,w6]]),Ah v1 g2 2 (List.map As l)] Tryz.func191 hI J (Dx (Bh hI J J J Jo J) Fj) J (.keep (.keep (.keep (.drop .nil)))) (.aggL (.cons (.same _) (.cons (.same _) .nil))) ⟨J,J⟩
theorem Ll (most:Int)(s0_l:List Token)(s0_end:Int)(l:List Volume)(h0:Ae)(o0:Nat)(o1:Nat)(w:AV)(w1:AV)(w2:AV)(w3:AV)(w4:AV)(w5:AV)(w6:AV)(g:Nat)(v1:AV)(g1:Nat)(vH:A2 v1 o1 g1 l.length)(hI0:Ids h0 [o0,o1] 2):Eo most s0_l s0_end l≠.bad→Bl Tryz.prog 176 [(.ptr o0 g 0 0),(.int .i64 most),(.func (.func 177) [(.ptr o0 g 0 0)] [])] (hp h0 [o0,o1] [some (.rows g 10 [[(.sl 4 (List.map Ac s0_l)),(.int .i64 s0_end),v1,w,w1,w2,w3,w4,w5,w6]]),Ah v1 g1 2 (List.map As l)]) (Cu (fun a_ v h'=>v=(.sl 1 (List.map rS a_.1))∧h'=hp h0 [o0,o1] [some (.rows g 10 [[(.sl 4 (List.map Ac a_.2)),(.int .i64 s0_end),v1,w,w1,w2,w3,w4,w5,w6]]),Ah v1 g1 2 (List.map As l)]) h0 (Eo most s0_l s0_end l)):=by
 refine Be (n:=24) 1 Tryz.func176 J (by decide) J J hI0 J fun ids he hI=>?_
 clear hI0
 obtain rfl:ix ids 0=o0:=he 0 rfl
 obtain rfl:ix ids 1=o1:=he 1 rfl
 clear he
 refine Bn (Ak (Eo.eq_1 _ _ _ _) ?_)
 refine Al ?_
 refine Y<|O<|Z .emp J Aj<|Aa<|A8<|Dt [(0,(.q ids 0 g)),(1,(.I most)),(2,(.func (.func 177) [(.q ids 0 g)] [])),(6,.emp)] (FI J)<|U6 (P:=Tryz.prog) (C3 fun fL l1=>Gu most s0_end fL l1) ((fun r=>.ok r):((List Aw)×(List Token))→R ((List Aw)×(List Token))) (C3 fun fL l1=>fun(fr:Nat→AV) (h:Ae) => ∃ (v2:AV),∃ (g2:Nat),A2 v2 (ix ids 2) g2 l1.length∧fr=A6 [(0,(.q ids 0 g)),(1,(.I most)),(2,(.func (.func 177) [(.q ids 0 g)] [])),(6,v2)]∧h=hp h0 ids [(some (.rows g 10 [[(.sl 4 (List.map Ac fL)),(.I s0_end),v1,w,w1,w2,w3,w4,w5,w6]])),(Ah v1 g1 2 (List.map As l)),(Ah v2 g2 1 (List.map rS l1))]) (s0_l,[]) ?_ ?_
 ·exact⟨.emp,0,.nil,J,J⟩
 rintro vW hW ⟨fL,l1⟩ fr h ⟨v2,g2,vH1,rfl,rfl⟩
 refine Ak (m':=Gu most s0_end fL l1) J (Ak (Gu.eq_1 _ _ _ _) ?_)
 refine A8<|Y<|O<|Ab 2 [] [(8,(.func (.func 177) [(.q ids 0 g)] [])),(7,v2)] ?_
 refine An [0] hI J J (Cy fL s0_end _ (ix ids 0) v1 w w1 w2 w3 w4 w5 w6 g (by exact hI.sub' J J)) J J J J J J (fun v _=>Ao (K:=2) (N:=1) Tryz.func176 hI) ?_
 rintro r _ _ _ ⟨rfl,rfl⟩
 refine Ax [0] hI J J J ?_
 refine Ap<|Df (e:=rS) (L:=[r]) (st:=1) (rows:=[[(.str r)]]) J Dy Cz J J J J J (.cons (RowSim.refl _) .nil) (fun x=>G3 x) J J<|Gj fun hl=>P7 (e:=rS) (L:=l1) (L2:=[r]) (v:=v2) (g:=g2) (st:=1) (j:=2) hI J J J J vH1 J (Kn J) Dy Dy J Cz J J J hl fun v3 g3 vH2=>Z v3 J Aj<|Aa<|Al ?_
 refine Y<|Y<|O<|Z (.q ids 0 g) J Ad<|An [0] hI J J (Nh 3 [44] (fL.drop 1) s0_end _ (ix ids 0) v1 w w1 w2 w3 w4 w5 w6 g (by exact hI.sub' J J)) J J J J J J (fun v _=>Ao (K:=2) (N:=1) Tryz.func176 hI) ?_
 rintro r1 _ _ _ ⟨rfl,rfl⟩
 refine Ax [0] hI J J J ?_
 refine Ap<|Z (.bool (!r1)) J (O3 J)<|Aa<|D2 J (fun hc=>?_) (fun hc=>?_)
 ·refine Az<|Y<|Y<|O<|Z v3 J Ad<|Z (.I ((l1++[r]).length:Int)) J (Ay (A2.len vH2 Dy))<|Ab 2 [] [(19,(.bool (((l1++[r]).length:Int)==most)))] ?_
  refine Aa<|Ei (π:=Unit) (fun _=>Gv s0_end fL l1 r) (fun _=>fun(fr:Nat→AV) (h:Ae)=>fr=A6 [(0,(.q ids 0 g)),(1,(.I most)),(2,(.func (.func 177) [(.q ids 0 g)] [])),(6,v3)]∧h=hp h0 ids [(some (.rows g 10 [[(.sl 4 (List.map Ac (fL.drop 1))),(.I s0_end),v1,w,w1,w2,w3,w4,w5,w6]])),(Ah v1 g1 2 (List.map As l)),(Ah v3 g3 1 (List.map rS (l1++[r])))]) ?_ fun hJ=>?_
  ·rintro _ fr h ⟨rfl,rfl⟩
   refine Ak (Gv.eq_1 _ _ _ _)<|O<|Z (.q ids 0 g) J Ad<|An [0] hI J J (C4 [44] (fL.drop 1) s0_end _ (ix ids 0) v1 w w1 w2 w3 w4 w5 w6 g (by exact hI.sub' J J)) J J J J J J (fun v _=>Ao (K:=2) (N:=1) Tryz.func176 hI) ?_
   rintro _ _ _ _ ⟨rfl,rfl⟩
   refine Ax [0] hI J J J ?_
   refine Ap<|Aa<|Al ?_
   refine Bj<|Bq (Pt (hW (((fL.drop 1).drop 1),(l1++[r])) _ _ ⟨v3,g3,vH2,J,J⟩))
  refine Cf J (fun hc1=>?_) (fun hc1=>?_)
  ·refine O<|Z (.q ids 0 g) J Ad<|An [0] hI J J (Cj 2 (fL.drop 1) s0_end _ (ix ids 0) v1 w w1 w2 w3 w4 w5 w6 g (by exact hI.sub' J J)) J J J J J J (fun v _=>Ao (K:=2) (N:=1) Tryz.func176 hI) ?_
   rintro _ _ _ _ ⟨rfl,rfl⟩
   refine Ax [0] hI J J J ?_
   refine Ap<|Aa<|Bq (hJ () _ _ ⟨J,J⟩)
  refine Az<|Bq (hJ () _ _ ⟨J,J⟩)
 refine Y<|O<|Ab 2 [] [(6,v3)] ?_
 refine Aa<|Xn<|D5 (K:=2) (N:=1) (a:=((l1++[r]),(fL.drop 1))) (vs:=[v3]) [some (.rows g 10 [[(.sl 4 (List.map Ac (fL.drop 1))),(.I s0_end),v1,w,w1,w2,w3,w4,w5,w6]]),Ah v1 g1 2 (List.map As l)] Tryz.func176 hI J J J (.keep (.keep (.drop .nil))) (Fx vH2 (hI.at J J) (hI.at J J) (fun x=>G3 x)) ⟨J,J⟩
theorem Up (s:Aw)(s1_l:List Token)(s1_end:Int)(l:List Volume)(h0:Ae)(o0:Nat)(o1:Nat)(o2:Nat)(g:Nat)(w:AV)(w1:AV)(w2:AV)(w3:AV)(w4:AV)(w5:AV)(w6:AV)(g1:Nat)(v1:AV)(g2:Nat)(vH:A2 v1 o2 g2 l.length)(hI0:Ids h0 [o0,o1,o2] 3):Fr s s1_l s1_end l≠.bad→Bl Tryz.prog 182 [(.str s),(.ptr o0 g 0 0)] (hp h0 [o0,o1,o2] [some (.rows g 1 [[(.ptr o1 g1 0 0)]]),some (.rows g1 10 [[(.sl 4 (List.map Ac s1_l)),(.int .i64 s1_end),v1,w,w1,w2,w3,w4,w5,w6]]),Ah v1 g2 2 (List.map As l)]) (Cu (fun a_ v h'=>v=(.agg (Bd a_.1))∧h'=hp h0 [o0,o1,o2] [some (.rows g 1 [[(.ptr o1 g1 0 0)]]),some (.rows g1 10 [[(.sl 4 (List.map Ac a_.2)),(.int .i64 s1_end),v1,w,w1,w2,w3,w4,w5,w6]]),Ah v1 g2 2 (List.map As l)]) h0 (Fr s s1_l s1_end l)):=by
 refine Be (n:=12) 1 Tryz.func182 J (by decide) J J hI0 J fun ids he hI=>?_
 clear hI0
 obtain rfl:ix ids 0=o0:=he 0 rfl
 obtain rfl:ix ids 1=o1:=he 1 rfl
 obtain rfl:ix ids 2=o2:=he 2 rfl
 clear he
 refine Bn (Ak (Fr.eq_1 _ _ _ _) ?_)
 refine Al ?_
 refine Y<|O<|Bf (j:=3) hI J J J J Ic J fun g3=>Aa<|Al ?_
 refine Y<|O<|Ab 1 [0] [(4,(.q ids 1 g1))] ?_
 refine An [1] hI J J (C4 [61] s1_l s1_end _ (ix ids 1) v1 w w1 w2 w3 w4 w5 w6 g1 (by exact hI.sub' J J)) J J J J J J (fun v _=>Ao (K:=3) (N:=1) Tryz.func182 hI) ?_
 rintro _ _ _ _ ⟨rfl,rfl⟩
 refine Ax [1] hI J J J ?_
 refine Ap<|Aa<|Al ?_
 refine Y<|O<|Ab 4 [0,0] [(9,(.func (.func 177) [(.q ids 1 g1)] [])),(7,(.q ids 1 g1)),(6,(.str s))] ?_
 refine An [1,2] hI J J (Ll 64 (s1_l.drop 1) s1_end l _ (ix ids 1) (ix ids 2) w w1 w2 w3 w4 w5 w6 g1 v1 g2 vH (by exact hI.sub' J J)) J J J J J J (fun v _=>Ao (K:=3) (N:=1) Tryz.func182 hI) ?_
 rintro r1 _ _ _ ⟨rfl,rfl⟩
 refine Ax [1,2] hI J J J ?_
 refine Ap<|Z (.agg [(.str s),(.sl 1 (List.map rS r1.1)),.emp]) J (Ma (Ry Ic Avp J))<|Ar (A0 (v:=(.agg [(.str s),(.sl 1 (List.map rS r1.1)),.emp])) hI J J J J Ic J J J J J)<|Aa<|Al ?_
 exact D5 (K:=3) (N:=1) (a:=(({ Name:=s,Names:=r1.1,Sectors:=[] }:Config),r1.2)) (vs:=[(.agg [(.str s),(.sl 1 (List.map rS r1.1)),.emp])]) [some (.rows g 1 [[(.q ids 1 g1)]]),some (.rows g1 10 [[(.sl 4 (List.map Ac r1.2)),(.I s1_end),v1,w,w1,w2,w3,w4,w5,w6]]),Ah v1 g2 2 (List.map As l)] Tryz.func182 hI J (Dx (Bh hI J J J Ic J) Fj) J (.keep (.keep (.keep (.drop .nil)))) (.aggL (.cons (.same _) (.cons (.same _) (.cons (.emp _) .nil)))) ⟨J,J⟩
theorem Uk (s:Aw)(s1_l:List Token)(s1_end:Int)(l:List Volume)(h0:Ae)(o0:Nat)(o1:Nat)(o2:Nat)(g:Nat)(w:AV)(w1:AV)(w2:AV)(w3:AV)(w4:AV)(w5:AV)(w6:AV)(g1:Nat)(v1:AV)(g2:Nat)(vH:A2 v1 o2 g2 l.length)(hI0:Ids h0 [o0,o1,o2] 3):Fi s s1_l s1_end l≠.bad→Bl Tryz.prog 188 [(.str s),(.ptr o0 g 0 0)] (hp h0 [o0,o1,o2] [some (.rows g 1 [[(.ptr o1 g1 0 0)]]),some (.rows g1 10 [[(.sl 4 (List.map Ac s1_l)),(.int .i64 s1_end),v1,w,w1,w2,w3,w4,w5,w6]]),Ah v1 g2 2 (List.map As l)]) (Cu (fun a_ v h'=>v=(.agg (Bo a_.1))∧h'=hp h0 [o0,o1,o2] [some (.rows g 1 [[(.ptr o1 g1 0 0)]]),some (.rows g1 10 [[(.sl 4 (List.map Ac a_.2)),(.int .i64 s1_end),v1,w,w1,w2,w3,w4,w5,w6]]),Ah v1 g2 2 (List.map As l)]) h0 (Fi s s1_l s1_end l)):=by
 refine Be (n:=25) 2 Tryz.func188 J (by decide) J J hI0 J fun ids he hI=>?_
 clear hI0
 obtain rfl:ix ids 0=o0:=he 0 rfl
 obtain rfl:ix ids 1=o1:=he 1 rfl
 obtain rfl:ix ids 2=o2:=he 2 rfl
 clear he
 refine Bn (Ak (Fi.eq_1 _ _ _ _) ?_)
 refine Al ?_
 refine Y<|O<|Bf (j:=3) hI J J J J Gw J fun g3=>Aa<|Al ?_
 refine Y<|O<|Ab 2 [] [(6,(.agg [(.str s),(.str []),(.str []),(.I 0),(.I 0),.emp,.emp]))] ?_
 refine Bf (j:=4) hI J J J J Gw J fun g4=>Ar (A0 (v:=(.agg [(.str s),(.str []),(.str []),(.I 0),(.I 0),.emp,.emp])) hI J J J J Gw J J J J J)<|Aa<|Al ?_
 refine Y<|O<|Ab 1 [0] [(7,(.q ids 1 g1))] ?_
 refine An [1] hI J J (Dn [102,114,111,109] s1_l s1_end _ (ix ids 1) v1 w w1 w2 w3 w4 w5 w6 g1 (by exact hI.sub' J J)) J J J J J J (fun v _=>Ao (K:=3) (N:=2) Tryz.func188 hI) ?_
 rintro _ _ _ _ ⟨rfl,rfl⟩
 refine Ax [1] hI J J J ?_
 refine Ap<|Aa<|Al ?_
 refine Y<|O<|Ab 1 [0] [(9,(.q ids 1 g1))] ?_
 refine An [1] hI J J (Cy (s1_l.drop 1) s1_end _ (ix ids 1) v1 w w1 w2 w3 w4 w5 w6 g1 (by exact hI.sub' J J)) J J J J J J (fun v _=>Ao (K:=3) (N:=2) Tryz.func188 hI) ?_
 rintro r1 _ _ _ ⟨rfl,rfl⟩
 refine Ax [1] hI J J J ?_
 refine Ap<|Z (.ptr (ix ids 4) g4 0 1) J (Ca (B9 (c:=0) (off:=1) (i:=1) Gw J Cz J))<|Ar (A0 (v:=(.str r1)) hI J J J J Cz J J J J J)<|Aa<|Al ?_
 refine Y<|O<|Ab 1 [0] [(12,(.q ids 1 g1))] ?_
 refine An [1] hI J J (Dn [116,111] ((s1_l.drop 1).drop 1) s1_end _ (ix ids 1) v1 w w1 w2 w3 w4 w5 w6 g1 (by exact hI.sub' J J)) J J J J J J (fun v _=>Ao (K:=3) (N:=2) Tryz.func188 hI) ?_
 rintro _ _ _ _ ⟨rfl,rfl⟩
 refine Ax [1] hI J J J ?_
 refine Ap<|Aa<|Al ?_
 refine Y<|O<|Ab 1 [0] [(14,(.q ids 1 g1))] ?_
 refine An [1] hI J J (Cy (((s1_l.drop 1).drop 1).drop 1) s1_end _ (ix ids 1) v1 w w1 w2 w3 w4 w5 w6 g1 (by exact hI.sub' J J)) J J J J J J (fun v _=>Ao (K:=3) (N:=2) Tryz.func188 hI) ?_
 rintro r3 _ _ _ ⟨rfl,rfl⟩
 refine Ax [1] hI J J J ?_
 refine Ap<|Z (.ptr (ix ids 4) g4 0 2) J (Ca (B9 (c:=0) (off:=2) (i:=2) Gw J Cz J))<|Ar (A0 (v:=(.str r3)) hI J J J J Cz J J J J J)<|Aa<|Al ?_
 refine Y<|O<|Ab 1 [0] [(17,(.q ids 1 g1))] ?_
 refine An [1] hI J J (Dn [118,105,97] ((((s1_l.drop 1).drop 1).drop 1).drop 1) s1_end _ (ix ids 1) v1 w w1 w2 w3 w4 w5 w6 g1 (by exact hI.sub' J J)) J J J J J J (fun v _=>Ao (K:=3) (N:=2) Tryz.func188 hI) ?_
 rintro _ _ _ _ ⟨rfl,rfl⟩
 refine Ax [1] hI J J J ?_
 refine Ap<|Aa<|Al ?_
 refine Y<|O<|Ab 3 [0,0] [(21,(.func (.func 177) [(.q ids 1 g1)] [])),(19,(.q ids 1 g1))] ?_
 refine An [1,2] hI J J (Ll 8 (((((s1_l.drop 1).drop 1).drop 1).drop 1).drop 1) s1_end l _ (ix ids 1) (ix ids 2) w w1 w2 w3 w4 w5 w6 g1 v1 g2 vH (by exact hI.sub' J J)) J J J J J J (fun v _=>Ao (K:=3) (N:=2) Tryz.func188 hI) ?_
 rintro r5 _ _ _ ⟨rfl,rfl⟩
 refine Ax [1,2] hI J J J ?_
 refine Ap<|Z (.ptr (ix ids 4) g4 0 5) J (Ca (B9 (c:=0) (off:=5) (i:=5) Gw J Dy J))<|Ar (A0 (v:=(.sl 1 (List.map rS r5.1))) hI J J J J Dy J J J J J)<|Aa<|Al ?_
 refine Y<|O<|Ab 1 [4] [(24,(.agg [(.str s),(.str r1),(.str r3),(.I 0),(.I 0),(.sl 1 (List.map rS r5.1)),.emp]))] ?_
 refine Ar (A0 (v:=(.agg [(.str s),(.str r1),(.str r3),(.I 0),(.I 0),(.sl 1 (List.map rS r5.1)),.emp])) hI J J J J Gw J J J J J)<|Aa<|Al ?_
 exact D5 (K:=3) (N:=2) (a:=(({ Name:=s,A:=r1,B:=r3,From:=0,To:=0,Names:=r5.1,Segments:=[] }:Route),r5.2)) (vs:=[(.agg [(.str s),(.str r1),(.str r3),(.I 0),(.I 0),(.sl 1 (List.map rS r5.1)),.emp])]) [some (.rows g 1 [[(.q ids 1 g1)]]),some (.rows g1 10 [[(.sl 4 (List.map Ac r5.2)),(.I s1_end),v1,w,w1,w2,w3,w4,w5,w6]]),Ah v1 g2 2 (List.map As l)] Tryz.func188 hI J (Dx (Bh hI J J J Gw J) Fj) J (.keep (.keep (.keep (.drop (.drop .nil))))) (.aggL (.cons (.same _) (.cons (.same _) (.cons (.same _) (.cons (.same _) (.cons (.same _) (.cons (.same _) (.cons (.emp _) .nil)))))))) ⟨J,J⟩
theorem Uo (s:Aw)(s1_l:List Token)(s1_end:Int)(l:List Volume)(h0:Ae)(o0:Nat)(o1:Nat)(o2:Nat)(g:Nat)(w:AV)(w1:AV)(w2:AV)(w3:AV)(w4:AV)(w5:AV)(w6:AV)(g1:Nat)(v1:AV)(g2:Nat)(vH:A2 v1 o2 g2 l.length)(hI0:Ids h0 [o0,o1,o2] 3):Ft s s1_l s1_end l≠.bad→Bl Tryz.prog 174 [(.str s),(.ptr o0 g 0 0)] (hp h0 [o0,o1,o2] [some (.rows g 1 [[(.ptr o1 g1 0 0)]]),some (.rows g1 10 [[(.sl 4 (List.map Ac s1_l)),(.int .i64 s1_end),v1,w,w1,w2,w3,w4,w5,w6]]),Ah v1 g2 2 (List.map As l)]) (Cu (fun a_ v h'=>v=(.agg (A4 a_.1))∧h'=hp h0 [o0,o1,o2] [some (.rows g 1 [[(.ptr o1 g1 0 0)]]),some (.rows g1 10 [[(.sl 4 (List.map Ac a_.2)),(.int .i64 s1_end),v1,w,w1,w2,w3,w4,w5,w6]]),Ah v1 g2 2 (List.map As l)]) h0 (Ft s s1_l s1_end l)):=by
 refine Be (n:=27) 2 Tryz.func174 J (by decide) J J hI0 J fun ids he hI=>?_
 clear hI0
 obtain rfl:ix ids 0=o0:=he 0 rfl
 obtain rfl:ix ids 1=o1:=he 1 rfl
 obtain rfl:ix ids 2=o2:=he 2 rfl
 clear he
 refine Bn (Ak (Ft.eq_1 _ _ _ _) ?_)
 refine Al ?_
 refine Y<|O<|Bf (j:=3) hI J J J J Gl J fun g3=>Aa<|Al ?_
 refine Y<|O<|Ab 2 [] [(6,(.agg [(.str s),.emp,.emp,(.I 0),(.I 0)]))] ?_
 refine Bf (j:=4) hI J J J J Gl J fun g4=>Ar (A0 (v:=(.agg [(.str s),.emp,.emp,(.I 0),(.I 0)])) hI J J J J Gl J J J J J)<|Aa<|Al ?_
 refine Y<|O<|Ab 1 [0] [(7,(.q ids 1 g1))] ?_
 refine An [1] hI J J (C4 [61] s1_l s1_end _ (ix ids 1) v1 w w1 w2 w3 w4 w5 w6 g1 (by exact hI.sub' J J)) J J J J J J (fun v _=>Ao (K:=3) (N:=2) Tryz.func174 hI) ?_
 rintro _ _ _ _ ⟨rfl,rfl⟩
 refine Ax [1] hI J J J ?_
 refine Ap<|Aa<|Al ?_
 refine Y<|O<|Ab 3 [0,0] [(11,(.func (.func 177) [(.q ids 1 g1)] [])),(9,(.q ids 1 g1))] ?_
 refine An [1,2] hI J J (Ll 64 (s1_l.drop 1) s1_end l _ (ix ids 1) (ix ids 2) w w1 w2 w3 w4 w5 w6 g1 v1 g2 vH (by exact hI.sub' J J)) J J J J J J (fun v _=>Ao (K:=3) (N:=2) Tryz.func174 hI) ?_
 rintro r1 _ _ _ ⟨rfl,rfl⟩
 refine Ax [1,2] hI J J J ?_
 refine Ap<|Z (.ptr (ix ids 4) g4 0 1) J (Ca (B9 (c:=0) (off:=1) (i:=1) Gl J Dy J))<|Ar (A0 (v:=(.sl 1 (List.map rS r1.1))) hI J J J J Dy J J J J J)<|Aa<|Al ?_
 refine Y<|O<|Ab 1 [0] [(14,(.q ids 1 g1))] ?_
 refine An [1] hI J J (Dn [114,97,100,97,114] r1.2 s1_end _ (ix ids 1) v1 w w1 w2 w3 w4 w5 w6 g1 (by exact hI.sub' J J)) J J J J J J (fun v _=>Ao (K:=3) (N:=2) Tryz.func174 hI) ?_
 rintro _ _ _ _ ⟨rfl,rfl⟩
 refine Ax [1] hI J J J ?_
 refine Ap<|Aa<|Al ?_
 refine Y<|O<|Ab 1 [0] [(16,(.q ids 1 g1))] ?_
 refine An [1] hI J J (Ek 0 64 (r1.2.drop 1) s1_end _ (ix ids 1) v1 w w1 w2 w3 w4 w5 w6 g1 (by exact hI.sub' J J)) J J J J J J (fun v _=>Ao (K:=3) (N:=2) Tryz.func174 hI) ?_
 rintro r3 _ _ _ ⟨rfl,rfl⟩
 refine Ax [1] hI J J J ?_
 refine Ap<|Z (.ptr (ix ids 4) g4 0 3) J (Ca (B9 (c:=0) (off:=3) (i:=3) Gl J Dw J))<|Ar (A0 (v:=(.I r3)) hI J J J J Dw J J J J J)<|Aa<|Al ?_
 refine Y<|O<|Ab 1 [0] [(19,(.q ids 1 g1))] ?_
 refine An [1] hI J J (Dn [112,114,111,99,101,100,117,114,97,108] ((r1.2.drop 1).drop 1) s1_end _ (ix ids 1) v1 w w1 w2 w3 w4 w5 w6 g1 (by exact hI.sub' J J)) J J J J J J (fun v _=>Ao (K:=3) (N:=2) Tryz.func174 hI) ?_
 rintro _ _ _ _ ⟨rfl,rfl⟩
 refine Ax [1] hI J J J ?_
 refine Ap<|Aa<|Al ?_
 refine Y<|O<|Ab 3 [0,4] [(23,(.I r3)),(21,(.q ids 1 g1))] ?_
 refine An [1] hI J J (Ek 0 r3 (((r1.2.drop 1).drop 1).drop 1) s1_end _ (ix ids 1) v1 w w1 w2 w3 w4 w5 w6 g1 (by exact hI.sub' J J)) J J J J J J (fun v _=>Ao (K:=3) (N:=2) Tryz.func174 hI) ?_
 rintro r5 _ _ _ ⟨rfl,rfl⟩
 refine Ax [1] hI J J J ?_
 refine Ap<|Z (.ptr (ix ids 4) g4 0 4) J (Ca (B9 (c:=0) (off:=4) (i:=4) Gl J Dw J))<|Ar (A0 (v:=(.I r5)) hI J J J J Dw J J J J J)<|Aa<|Al ?_
 refine Y<|O<|Ab 1 [4] [(26,(.agg [(.str s),(.sl 1 (List.map rS r1.1)),.emp,(.I r3),(.I r5)]))] ?_
 refine Ar (A0 (v:=(.agg [(.str s),(.sl 1 (List.map rS r1.1)),.emp,(.I r3),(.I r5)])) hI J J J J Gl J J J J J)<|Aa<|Al ?_
 exact D5 (K:=3) (N:=2) (a:=(({ Name:=s,Names:=r1.1,Volumes:=[],Radar:=r3,Procedural:=r5 }:Sector),((((r1.2.drop 1).drop 1).drop 1).drop 1))) (vs:=[(.agg [(.str s),(.sl 1 (List.map rS r1.1)),.emp,(.I r3),(.I r5)])]) [some (.rows g 1 [[(.q ids 1 g1)]]),some (.rows g1 10 [[(.sl 4 (List.map Ac ((((r1.2.drop 1).drop 1).drop 1).drop 1))),(.I s1_end),v1,w,w1,w2,w3,w4,w5,w6]]),Ah v1 g2 2 (List.map As l)] Tryz.func174 hI J (Dx (Bh hI J J J Gl J) Fj) J (.keep (.keep (.keep (.drop (.drop .nil))))) (.aggL (.cons (.same _) (.cons (.same _) (.cons (.emp _) (.cons (.same _) (.cons (.same _) .nil)))))) ⟨J,J⟩
theorem Uj (most:Int)(s0_l:List Token)(s0_end:Int)(l:List Volume)(h0:Ae)(o0:Nat)(o1:Nat)(w:AV)(w1:AV)(w2:AV)(w3:AV)(w4:AV)(w5:AV)(w6:AV)(g:Nat)(v1:AV)(g1:Nat)(vH:A2 v1 o1 g1 l.length)(hI0:Ids h0 [o0,o1] 2):Fp most s0_l s0_end l≠.bad→Bl Tryz.prog 210 [(.ptr o0 g 0 0),(.int .i64 most),(.func (.func 200) [(.ptr o0 g 0 0)] [])] (hp h0 [o0,o1] [some (.rows g 10 [[(.sl 4 (List.map Ac s0_l)),(.int .i64 s0_end),v1,w,w1,w2,w3,w4,w5,w6]]),Ah v1 g1 2 (List.map As l)]) (Cu (fun a_ v h'=>v=(.sl 2 (List.map Cb a_.1))∧h'=hp h0 [o0,o1] [some (.rows g 10 [[(.sl 4 (List.map Ac a_.2)),(.int .i64 s0_end),v1,w,w1,w2,w3,w4,w5,w6]]),Ah v1 g1 2 (List.map As l)]) h0 (Fp most s0_l s0_end l)):=by
 refine Be (n:=24) 1 Tryz.func210 J (by decide) J J hI0 J fun ids he hI=>?_
 clear hI0
 obtain rfl:ix ids 0=o0:=he 0 rfl
 obtain rfl:ix ids 1=o1:=he 1 rfl
 clear he
 refine Bn (Ak (Fp.eq_1 _ _ _ _) ?_)
 refine Al ?_
 refine Y<|O<|Z .emp J Aj<|Aa<|A8<|Dt [(0,(.q ids 0 g)),(1,(.I most)),(2,(.func (.func 200) [(.q ids 0 g)] [])),(6,.emp)] (FI J)<|U6 (P:=Tryz.prog) (C3 fun fL l1=>G2 most s0_end fL l1) ((fun r=>.ok r):((List Span)×(List Token))→R ((List Span)×(List Token))) (C3 fun fL l1=>fun(fr:Nat→AV) (h:Ae) => ∃ (v2:AV),∃ (g2:Nat),A2 v2 (ix ids 2) g2 l1.length∧fr=A6 [(0,(.q ids 0 g)),(1,(.I most)),(2,(.func (.func 200) [(.q ids 0 g)] [])),(6,v2)]∧h=hp h0 ids [(some (.rows g 10 [[(.sl 4 (List.map Ac fL)),(.I s0_end),v1,w,w1,w2,w3,w4,w5,w6]])),(Ah v1 g1 2 (List.map As l)),(Ah v2 g2 2 (List.map Cb l1))]) (s0_l,[]) ?_ ?_
 ·exact⟨.emp,0,.nil,J,J⟩
 rintro vW hW ⟨fL,l1⟩ fr h ⟨v2,g2,vH1,rfl,rfl⟩
 refine Ak (m':=G2 most s0_end fL l1) J (Ak (G2.eq_1 _ _ _ _) ?_)
 refine A8<|Y<|O<|Ab 2 [] [(8,(.func (.func 200) [(.q ids 0 g)] [])),(7,v2)] ?_
 refine An [0] hI J J (Sg fL s0_end _ (ix ids 0) v1 w w1 w2 w3 w4 w5 w6 g (by exact hI.sub' J J)) J J J J J J (fun v _=>Ao (K:=2) (N:=1) Tryz.func210 hI) ?_
 rintro r _ _ _ ⟨rfl,rfl⟩
 refine Ax [0] hI J J J ?_
 refine Ap<|Df (e:=Cb) (L:=[r]) (st:=2) (rows:=[[(.I r.From),(.I r.To)]]) J Lv Lu J J J J J (.cons (RowSim.refl _) .nil) (fun x=>Afz x) J J<|Gj fun hl=>P7 (e:=Cb) (L:=l1) (L2:=[r]) (v:=v2) (g:=g2) (st:=2) (j:=2) hI J J J J vH1 J (Kn J) Lv Lv J Lu J J J hl fun v3 g3 vH2=>Z v3 J Aj<|Aa<|Al ?_
 refine Y<|Y<|O<|Z (.q ids 0 g) J Ad<|An [0] hI J J (Nh 3 [44] (((fL.drop 1).drop 1).drop 1) s0_end _ (ix ids 0) v1 w w1 w2 w3 w4 w5 w6 g (by exact hI.sub' J J)) J J J J J J (fun v _=>Ao (K:=2) (N:=1) Tryz.func210 hI) ?_
 rintro r1 _ _ _ ⟨rfl,rfl⟩
 refine Ax [0] hI J J J ?_
 refine Ap<|Z (.bool (!r1)) J (O3 J)<|Aa<|D2 J (fun hc=>?_) (fun hc=>?_)
 ·refine Az<|Y<|Y<|O<|Z v3 J Ad<|Z (.I ((l1++[r]).length:Int)) J (Ay (A2.len vH2 Lv))<|Ab 2 [] [(19,(.bool (((l1++[r]).length:Int)==most)))] ?_
  refine Aa<|Ei (π:=Unit) (fun _=>G1 s0_end fL l1 r) (fun _=>fun(fr:Nat→AV) (h:Ae)=>fr=A6 [(0,(.q ids 0 g)),(1,(.I most)),(2,(.func (.func 200) [(.q ids 0 g)] [])),(6,v3)]∧h=hp h0 ids [(some (.rows g 10 [[(.sl 4 (List.map Ac (((fL.drop 1).drop 1).drop 1))),(.I s0_end),v1,w,w1,w2,w3,w4,w5,w6]])),(Ah v1 g1 2 (List.map As l)),(Ah v3 g3 2 (List.map Cb (l1++[r])))]) ?_ fun hJ=>?_
  ·rintro _ fr h ⟨rfl,rfl⟩
   refine Ak (G1.eq_1 _ _ _ _)<|O<|Z (.q ids 0 g) J Ad<|An [0] hI J J (C4 [44] (((fL.drop 1).drop 1).drop 1) s0_end _ (ix ids 0) v1 w w1 w2 w3 w4 w5 w6 g (by exact hI.sub' J J)) J J J J J J (fun v _=>Ao (K:=2) (N:=1) Tryz.func210 hI) ?_
   rintro _ _ _ _ ⟨rfl,rfl⟩
   refine Ax [0] hI J J J ?_
   refine Ap<|Aa<|Al ?_
   refine Bj<|Bq (Pt (hW (((((fL.drop 1).drop 1).drop 1).drop 1),(l1++[r])) _ _ ⟨v3,g3,vH2,J,J⟩))
  refine Cf J (fun hc1=>?_) (fun hc1=>?_)
  ·refine O<|Z (.q ids 0 g) J Ad<|An [0] hI J J (Cj 2 (((fL.drop 1).drop 1).drop 1) s0_end _ (ix ids 0) v1 w w1 w2 w3 w4 w5 w6 g (by exact hI.sub' J J)) J J J J J J (fun v _=>Ao (K:=2) (N:=1) Tryz.func210 hI) ?_
   rintro _ _ _ _ ⟨rfl,rfl⟩
   refine Ax [0] hI J J J ?_
   refine Ap<|Aa<|Bq (hJ () _ _ ⟨J,J⟩)
  refine Az<|Bq (hJ () _ _ ⟨J,J⟩)
 refine Y<|O<|Ab 2 [] [(6,v3)] ?_
 refine Aa<|Xn<|D5 (K:=2) (N:=1) (a:=((l1++[r]),(((fL.drop 1).drop 1).drop 1))) (vs:=[v3]) [some (.rows g 10 [[(.sl 4 (List.map Ac (((fL.drop 1).drop 1).drop 1))),(.I s0_end),v1,w,w1,w2,w3,w4,w5,w6]]),Ah v1 g1 2 (List.map As l)] Tryz.func210 hI J J J (.keep (.keep (.drop .nil))) (Fx vH2 (hI.at J J) (hI.at J J) (fun x=>Afz x)) ⟨J,J⟩
theorem Ro (text:Aw)(s0_l:List Token)(s0_end:Int)(l:List Volume)(h0:Ae)(o0:Nat)(o1:Nat)(w:AV)(w1:AV)(w2:AV)(w3:AV)(w4:AV)(w5:AV)(w6:AV)(g:Nat)(v1:AV)(g1:Nat)(vH:A2 v1 o1 g1 l.length)(hI0:Ids h0 [o0,o1] 2):Hg text s0_l s0_end l≠.bad→Bl Tryz.prog 171 [(.ptr o0 g 0 0),(.str text)] (hp h0 [o0,o1] [some (.rows g 10 [[(.sl 4 (List.map Ac s0_l)),(.int .i64 s0_end),v1,w,w1,w2,w3,w4,w5,w6]]),Ah v1 g1 2 (List.map As l)]) (Cu (fun a_ v h'=>v=(.sl 2 (List.map Cb a_.1))∧h'=hp h0 [o0,o1] [some (.rows g 10 [[(.sl 4 (List.map Ac a_.2)),(.int .i64 s0_end),v1,w,w1,w2,w3,w4,w5,w6]]),Ah v1 g1 2 (List.map As l)]) h0 (Hg text s0_l s0_end l)):=by
 refine Be (n:=16) 0 Tryz.func171 J (by decide) J J hI0 J fun ids he hI=>?_
 clear hI0
 obtain rfl:ix ids 0=o0:=he 0 rfl
 obtain rfl:ix ids 1=o1:=he 1 rfl
 clear he
 refine Bn (Ak (Hg.eq_1 _ _ _ _) ?_)
 refine Y<|O<|Z .emp J Aj<|Aa<|Y<|Y<|O ?_
 refine Ab 2 [] [(6,(.str text)),(5,(.q ids 0 g))] ?_
 refine An [0] hI J J (Nh 1 text s0_l s0_end _ (ix ids 0) v1 w w1 w2 w3 w4 w5 w6 g (by exact hI.sub' J J)) J J J J J J (fun v _=>Ao (K:=2) (N:=0) Tryz.func171 hI) ?_
 rintro r _ _ _ ⟨rfl,rfl⟩
 refine Ax [0] hI J J J ?_
 refine Ap<|Z (.bool (!r)) J (O3 J)<|Aa<|D2 J (fun hc=>?_) (fun hc=>?_)
 ·refine Az<|Y<|O<|Ab 2 [] [(10,(.str text)),(9,(.q ids 0 g))] ?_
  refine An [0] hI J J (Dn text s0_l s0_end _ (ix ids 0) v1 w w1 w2 w3 w4 w5 w6 g (by exact hI.sub' J J)) J J J J J J (fun v _=>Ao (K:=2) (N:=0) Tryz.func171 hI) ?_
  rintro _ _ _ _ ⟨rfl,rfl⟩
  refine Ax [0] hI J J J ?_
  refine Ap<|Aa<|Al ?_
  refine Y<|O<|Ab 3 [] [(14,(.func (.func 200) [(.q ids 0 g)] [])),(12,(.q ids 0 g))] ?_
  refine An [0,1] hI J J (Uj 16 (s0_l.drop 1) s0_end l _ (ix ids 0) (ix ids 1) w w1 w2 w3 w4 w5 w6 g v1 g1 vH (by exact hI.sub' J J)) J J J J J J (fun v _=>Ao (K:=2) (N:=0) Tryz.func171 hI) ?_
  rintro r2 _ _ _ ⟨rfl,rfl⟩
  refine Ax [0,1] hI J J J ?_
  refine Ap<|Z (.sl 2 (List.map Cb r2.1)) J Aj<|Aa<|Al ?_
  exact D5 (K:=2) (N:=0) (a:=(r2.1,r2.2)) (vs:=[(.sl 2 (List.map Cb r2.1))]) [some (.rows g 10 [[(.sl 4 (List.map Ac r2.2)),(.I s0_end),v1,w,w1,w2,w3,w4,w5,w6]]),Ah v1 g1 2 (List.map As l)] Tryz.func171 hI J J J (.keep (.keep .nil)) (.same _) ⟨J,J⟩
 refine Y<|O<|Z .emp J Aj<|Aa<|D5 (K:=2) (N:=0) (a:=([],s0_l)) (vs:=[.emp]) [some (.rows g 10 [[(.sl 4 (List.map Ac s0_l)),(.I s0_end),v1,w,w1,w2,w3,w4,w5,w6]]),Ah v1 g1 2 (List.map As l)] Tryz.func171 hI J J J (.keep (.keep .nil)) (.emp _) ⟨J,J⟩
theorem Un (s:Aw)(s1_l:List Token)(s1_end:Int)(l:List Volume)(h0:Ae)(o0:Nat)(o1:Nat)(o2:Nat)(g:Nat)(w:AV)(w1:AV)(w2:AV)(w3:AV)(w4:AV)(w5:AV)(w6:AV)(g1:Nat)(v1:AV)(g2:Nat)(vH:A2 v1 o2 g2 l.length)(hI0:Ids h0 [o0,o1,o2] 3):Fs s s1_l s1_end l≠.bad→Bl Tryz.prog 185 [(.str s),(.ptr o0 g 0 0)] (hp h0 [o0,o1,o2] [some (.rows g 1 [[(.ptr o1 g1 0 0)]]),some (.rows g1 10 [[(.sl 4 (List.map Ac s1_l)),(.int .i64 s1_end),v1,w,w1,w2,w3,w4,w5,w6]]),Ah v1 g2 2 (List.map As l)]) (Cu (fun a_ v h'=>v=(.agg (Bb a_.1))∧h'=hp h0 [o0,o1,o2] [some (.rows g 1 [[(.ptr o1 g1 0 0)]]),some (.rows g1 10 [[(.sl 4 (List.map Ac a_.2)),(.int .i64 s1_end),v1,w,w1,w2,w3,w4,w5,w6]]),Ah v1 g2 2 (List.map As l)]) h0 (Fs s s1_l s1_end l)):=by
 refine Be (n:=21) 2 Tryz.func185 J (by decide) J J hI0 J fun ids he hI=>?_
 clear hI0
 obtain rfl:ix ids 0=o0:=he 0 rfl
 obtain rfl:ix ids 1=o1:=he 1 rfl
 obtain rfl:ix ids 2=o2:=he 2 rfl
 clear he
 refine Bn (Ak (Fs.eq_1 _ _ _ _) ?_)
 refine Al ?_
 refine Y<|O<|Bf (j:=3) hI J J J J Hk J fun g3=>Aa<|Al ?_
 refine Y<|O<|Ab 2 [] [(6,(.agg [(.str s),(.str []),(.I 0),(.I 0),.emp]))] ?_
 refine Bf (j:=4) hI J J J J Hk J fun g4=>Ar (A0 (v:=(.agg [(.str s),(.str []),(.I 0),(.I 0),.emp])) hI J J J J Hk J J J J J)<|Aa<|Al ?_
 refine Y<|O<|Ab 1 [0] [(7,(.q ids 1 g1))] ?_
 refine An [1] hI J J (Dn [105,110] s1_l s1_end _ (ix ids 1) v1 w w1 w2 w3 w4 w5 w6 g1 (by exact hI.sub' J J)) J J J J J J (fun v _=>Ao (K:=3) (N:=2) Tryz.func185 hI) ?_
 rintro _ _ _ _ ⟨rfl,rfl⟩
 refine Ax [1] hI J J J ?_
 refine Ap<|Aa<|Al ?_
 refine Y<|O<|Ab 1 [0] [(9,(.q ids 1 g1))] ?_
 refine An [1] hI J J (Cy (s1_l.drop 1) s1_end _ (ix ids 1) v1 w w1 w2 w3 w4 w5 w6 g1 (by exact hI.sub' J J)) J J J J J J (fun v _=>Ao (K:=3) (N:=2) Tryz.func185 hI) ?_
 rintro r1 _ _ _ ⟨rfl,rfl⟩
 refine Ax [1] hI J J J ?_
 refine Ap<|Z (.ptr (ix ids 4) g4 0 1) J (Ca (B9 (c:=0) (off:=1) (i:=1) Hk J Cz J))<|Ar (A0 (v:=(.str r1)) hI J J J J Cz J J J J J)<|Aa<|Al ?_
 refine Y<|O<|Ab 1 [0] [(12,(.q ids 1 g1))] ?_
 refine An [1] hI J J (Dn [108,101,110,103,116,104] ((s1_l.drop 1).drop 1) s1_end _ (ix ids 1) v1 w w1 w2 w3 w4 w5 w6 g1 (by exact hI.sub' J J)) J J J J J J (fun v _=>Ao (K:=3) (N:=2) Tryz.func185 hI) ?_
 rintro _ _ _ _ ⟨rfl,rfl⟩
 refine Ax [1] hI J J J ?_
 refine Ap<|Aa<|Al ?_
 refine Y<|O<|Ab 1 [0] [(14,(.q ids 1 g1))] ?_
 refine An [1] hI J J (Ek 1 4096 (((s1_l.drop 1).drop 1).drop 1) s1_end _ (ix ids 1) v1 w w1 w2 w3 w4 w5 w6 g1 (by exact hI.sub' J J)) J J J J J J (fun v _=>Ao (K:=3) (N:=2) Tryz.func185 hI) ?_
 rintro r3 _ _ _ ⟨rfl,rfl⟩
 refine Ax [1] hI J J J ?_
 refine Ap<|Z (.ptr (ix ids 4) g4 0 3) J (Ca (B9 (c:=0) (off:=3) (i:=3) Hk J Dw J))<|Ar (A0 (v:=(.I r3)) hI J J J J Dw J J J J J)<|Aa<|Al ?_
 refine Y<|O<|Ab 1 [0] [(17,(.q ids 1 g1))] ?_
 refine An [1,2] hI J J (Ro [111,112,101,110] ((((s1_l.drop 1).drop 1).drop 1).drop 1) s1_end l _ (ix ids 1) (ix ids 2) w w1 w2 w3 w4 w5 w6 g1 v1 g2 vH (by exact hI.sub' J J)) J J J J J J (fun v _=>Ao (K:=3) (N:=2) Tryz.func185 hI) ?_
 rintro r4 _ _ _ ⟨rfl,rfl⟩
 refine Ax [1,2] hI J J J ?_
 refine Ap<|Z (.ptr (ix ids 4) g4 0 4) J (Ca (B9 (c:=0) (off:=4) (i:=4) Hk J Lv J))<|Ar (A0 (v:=(.sl 2 (List.map Cb r4.1))) hI J J J J Lv J J J J J)<|Aa<|Al ?_
 refine Y<|O<|Ab 1 [4] [(20,(.agg [(.str s),(.str r1),(.I 0),(.I r3),(.sl 2 (List.map Cb r4.1))]))] ?_
 refine Ar (A0 (v:=(.agg [(.str s),(.str r1),(.I 0),(.I r3),(.sl 2 (List.map Cb r4.1))])) hI J J J J Hk J J J J J)<|Aa<|Al ?_
 exact D5 (K:=3) (N:=2) (a:=(({ Name:=s,In:=r1,Volume:=0,Length:=r3,Open:=r4.1 }:Segment),r4.2)) (vs:=[(.agg [(.str s),(.str r1),(.I 0),(.I r3),(.sl 2 (List.map Cb r4.1))])]) [some (.rows g 1 [[(.q ids 1 g1)]]),some (.rows g1 10 [[(.sl 4 (List.map Ac r4.2)),(.I s1_end),v1,w,w1,w2,w3,w4,w5,w6]]),Ah v1 g2 2 (List.map As l)] Tryz.func185 hI J (Dx (Bh hI J J J Hk J) Fj) J (.keep (.keep (.keep (.drop (.drop .nil))))) (.aggL (.cons (.same _) (.cons (.same _) (.cons (.same _) (.cons (.same _) (.cons (.same _) .nil)))))) ⟨J,J⟩
theorem Ul (s:Aw)(s1_l:List Token)(s1_end:Int)(l:List Volume)(h0:Ae)(o0:Nat)(o1:Nat)(o2:Nat)(g:Nat)(w:AV)(w1:AV)(w2:AV)(w3:AV)(w4:AV)(w5:AV)(w6:AV)(g1:Nat)(v1:AV)(g2:Nat)(vH:A2 v1 o2 g2 l.length)(hI0:Ids h0 [o0,o1,o2] 3):Fo s s1_l s1_end l≠.bad→Bl Tryz.prog 170 [(.str s),(.ptr o0 g 0 0)] (hp h0 [o0,o1,o2] [some (.rows g 1 [[(.ptr o1 g1 0 0)]]),some (.rows g1 10 [[(.sl 4 (List.map Ac s1_l)),(.int .i64 s1_end),v1,w,w1,w2,w3,w4,w5,w6]]),Ah v1 g2 2 (List.map As l)]) (Cu (fun a_ v h'=>v=(.agg (As a_.1))∧h'=hp h0 [o0,o1,o2] [some (.rows g 1 [[(.ptr o1 g1 0 0)]]),some (.rows g1 10 [[(.sl 4 (List.map Ac a_.2)),(.int .i64 s1_end),v1,w,w1,w2,w3,w4,w5,w6]]),Ah v1 g2 2 (List.map As l)]) h0 (Fo s s1_l s1_end l)):=by
 refine Be (n:=8) 1 Tryz.func170 J (by decide) J J hI0 J fun ids he hI=>?_
 clear hI0
 obtain rfl:ix ids 0=o0:=he 0 rfl
 obtain rfl:ix ids 1=o1:=he 1 rfl
 obtain rfl:ix ids 2=o2:=he 2 rfl
 clear he
 refine Bn (Ak (Fo.eq_1 _ _ _ _) ?_)
 refine Al ?_
 refine Y<|O<|Bf (j:=3) hI J J J J Km J fun g3=>Aa<|Al ?_
 refine Y<|O<|Ab 2 [0] [(5,(.q ids 1 g1)),(4,(.str s))] ?_
 refine An [1,2] hI J J (Ro [99,108,111,115,101,100] s1_l s1_end l _ (ix ids 1) (ix ids 2) w w1 w2 w3 w4 w5 w6 g1 v1 g2 vH (by exact hI.sub' J J)) J J J J J J (fun v _=>Ao (K:=3) (N:=1) Tryz.func170 hI) ?_
 rintro r _ _ _ ⟨rfl,rfl⟩
 refine Ax [1,2] hI J J J ?_
 refine Ap<|Z (.agg [(.str s),(.sl 2 (List.map Cb r.1))]) J (Ma (Ry Km Asi J))<|Ar (A0 (v:=(.agg [(.str s),(.sl 2 (List.map Cb r.1))])) hI J J J J Km J J J J J)<|Aa<|Al ?_
 exact D5 (K:=3) (N:=1) (a:=(({ Name:=s,Closed:=r.1 }:Volume),r.2)) (vs:=[(.agg [(.str s),(.sl 2 (List.map Cb r.1))])]) [some (.rows g 1 [[(.q ids 1 g1)]]),some (.rows g1 10 [[(.sl 4 (List.map Ac r.2)),(.I s1_end),v1,w,w1,w2,w3,w4,w5,w6]]),Ah v1 g2 2 (List.map As l)] Tryz.func170 hI J (Dx (Bh hI J J J Km J) Fj) J (.keep (.keep (.keep (.drop .nil)))) (.aggL (.cons (.same _) (.cons (.same _) .nil))) ⟨J,J⟩
theorem Xf (most:Int)(s0_l:List Token)(s0_end:Int)(l:List Volume)(h0:Ae)(o0:Nat)(o1:Nat)(o2:Nat)(w:AV)(w1:AV)(w2:AV)(w3:AV)(w4:AV)(w5:AV)(w6:AV)(g:Nat)(v1:AV)(g1:Nat)(g2:Nat)(vH:A2 v1 o1 g1 l.length)(hI0:Ids h0 [o0,o1,o2] 3):Ij most s0_l s0_end l≠.bad→Bl Tryz.prog 169 [(.ptr o0 g 0 0),(.ptr o0 g 0 2),(.int .i64 most),(.func (.func 170) [] [(.ptr o2 g2 0 0)])] (hp h0 [o0,o1,o2] [some (.rows g 10 [[(.sl 4 (List.map Ac s0_l)),(.int .i64 s0_end),v1,w,w1,w2,w3,w4,w5,w6]]),Ah v1 g1 2 (List.map As l),some (.rows g2 1 [[(.ptr o0 g 0 0)]])]) (Cu (fun a_ v h' => ∃ (v3:AV),∃ (g5:Nat),A2 v3 o1 g5 a_.2.length∧v=(.tup [])∧h'=hp h0 [o0,o1,o2] [some (.rows g 10 [[(.sl 4 (List.map Ac a_.1)),(.int .i64 s0_end),v3,w,w1,w2,w3,w4,w5,w6]]),Ah v3 g5 2 (List.map As a_.2),some (.rows g2 1 [[(.ptr o0 g 0 0)]])]) h0 (Ij most s0_l s0_end l)):=by
 refine Be (n:=39) 1 Tryz.func169 J (by decide) J J hI0 J fun ids he hI=>?_
 clear hI0
 obtain rfl:ix ids 0=o0:=he 0 rfl
 obtain rfl:ix ids 1=o1:=he 1 rfl
 obtain rfl:ix ids 2=o2:=he 2 rfl
 clear he
 refine Bn (Ak (Ij.eq_1 _ _ _ _) ?_)
 refine Al ?_
 refine Y<|Y<|O<|Ab 3 [0] [(11,v1)] ?_
 refine Z (.I (l.length:Int)) J (Ay (A2.len vH Io))<|Ab 2 [] [(14,(.bool ((l.length:Int)==most)))] ?_
 refine Aa<|Ei (π:=Unit) (fun _=>Ix s0_l s0_end l) (fun _=>fun(fr:Nat→AV) (h:Ae)=>fr=A6 [(0,(.q ids 0 g)),(1,(.ptr (ix ids 0) g 0 2)),(3,(.func (.func 170) [] [(.q ids 2 g2)]))]∧h=hp h0 ids [(some (.rows g 10 [[(.sl 4 (List.map Ac s0_l)),(.I s0_end),v1,w,w1,w2,w3,w4,w5,w6]])),(Ah v1 g1 2 (List.map As l)),(some (.rows g2 1 [[(.q ids 0 g)]])),none]) ?_ fun hJ=>?_
 ·rintro _ fr h ⟨rfl,rfl⟩
  refine Ak (Ix.eq_1 _ _ _)<|Y<|O<|Ab 5 [0] [(21,(.sl 4 (List.map Ac s0_l))),(17,(.q ids 0 g))] ?_
  refine Gj fun hs=>Z (.sl 4 (List.map Ac (s0_l.drop 1))) J (Gz (Ns C1 Db J hs))<|Ab 2 [] [(24,(.q ids 0 g))] ?_
  refine Ar (A0 (v:=(.sl 4 (List.map Ac (s0_l.drop 1)))) hI J J J J C1 J J J J J)<|Aa<|Al ?_
  refine Y<|O<|Ab 2 [] [(26,(.q ids 0 g)),(25,(.func (.func 170) [] [(.q ids 2 g2)]))] ?_
  refine An [0] hI J J (Cy (s0_l.drop 1) s0_end _ (ix ids 0) v1 w w1 w2 w3 w4 w5 w6 g (by exact hI.sub' J J)) J J J J J J (fun v _=>Ao (K:=3) (N:=1) Tryz.func169 hI) ?_
  rintro r1 _ _ _ ⟨rfl,rfl⟩
  refine Ax [0] hI J J J ?_
  refine Ap<|An [2,0,1] hI J J (Ul r1 ((s0_l.drop 1).drop 1) s0_end l _ (ix ids 2) (ix ids 0) (ix ids 1) g2 w w1 w2 w3 w4 w5 w6 g v1 g1 vH (by exact hI.sub' J J)) J J J J J J (fun v _=>Ao (K:=3) (N:=1) Tryz.func169 hI) ?_
  rintro r2 _ _ _ ⟨rfl,rfl⟩
  refine Ax [2,0,1] hI J J J ?_
  refine Ap<|Bf (j:=3) hI J J J J Km J fun g3=>Ar (A0 (v:=(.agg (As r2.1))) hI J J J J Km J J J J J)<|Aa<|Al ?_
  refine Y<|O<|Z (.q ids 0 g) J Ad<|An [0] hI J J (C4 [59] r2.2 s0_end _ (ix ids 0) v1 w w1 w2 w3 w4 w5 w6 g (by exact hI.sub' J J)) J J J J J J (fun v _=>Ao (K:=3) (N:=1) Tryz.func169 hI) ?_
  rintro _ _ _ _ ⟨rfl,rfl⟩
  refine Ax [0] hI J J J ?_
  refine Ap<|Aa<|Al ?_
  refine Dh Gk [[],[],[1],[1,2],[],[4],[1,2,3,4,5],[0,0,1,2,3,4,5,6],[0,1,2,3,4,5,6,6,6,7]] [(false,0),(false,1),(false,2),(false,3),(false,4),(true,5),(true,6),(false,7),(true,8)] (by kernel_rfl)<|Af (.ptr (ix ids 0) g 0 2) J J Ad<|Af (.ptr (ix ids 0) g 0 2) J J Ad<|Af (.ptr (ix ids 0) g 0 2) J J (Bk J)<|Af v1 J J (Au (Bh hI J J J Io J))<|Af (.agg (As r2.1)) J J (Au (Bh hI J J J Km J))<|Jp J J (fun _ _=>J) (fun K hK=>Mg (e:=As) (L:=[r2.1]) (st:=2) (rows:=[[(.str r2.1.Name),(.sl 2 (List.map Cb r2.1.Closed))]]) Io Km J J J J J (.cons (RowSim.refl _) .nil) (fun x=>V9 x) J J (hK _ _ (Ag J (Bv J (Au (Bh hI J J J Io J)) (Bv J (Bk J) (Bv J Ad (Bv J Ad B8))))) ?_))
  clear hK K
  refine K1 fun hl=>Jp J J (fun _ _=>J) (fun K hK=>Iu (e:=As) (L:=l) (L2:=[r2.1]) (v:=v1) (g:=g1) (st:=2) (j:=1) hI J J J vH J (Kn J) Io Io J Km J J J hl fun v2 g4 vH1=>hK _ _ (Ag J (Ag J (Ag J (Ag J (Bv J Ad B8))))) ?_)
  clear hK K
  refine Af (.ptr (ix ids 0) g 0 2) J J (Bk J)<|Gx J (fun _ _=>J) (fun K hK=>D8 (Jl vH1 hI J J J J Io J J J) (hK _ _ (Ag J (Ag J (Ag J (Ag J (Ag J (Ag J B8)))))) ?_))
  clear hK K
  refine Cw<|Al ?_
  exact Ce (K:=3) (N:=1) (a:=((r2.2.drop 1),(l++[r2.1]))) (vs:=[]) [some (.rows g 10 [[(.sl 4 (List.map Ac (r2.2.drop 1))),(.I s0_end),v2,w,w1,w2,w3,w4,w5,w6]]),Ah v2 g4 2 (List.map As (l++[r2.1])),some (.rows g2 1 [[(.q ids 0 g)]])] Tryz.func169 hI J J J (.keep (.keep (.keep (.drop .nil)))) (.same _) ⟨v2,g4,vH1,J,J⟩
 refine Cf J (fun hc=>?_) (fun hc=>?_)
 ·refine O<|Z (.q ids 0 g) J Ad<|An [0] hI J J (Cj 2 s0_l s0_end _ (ix ids 0) v1 w w1 w2 w3 w4 w5 w6 g (by exact hI.sub' J J)) J J J J J J (fun v _=>Ao (K:=3) (N:=1) Tryz.func169 hI) ?_
  rintro _ _ _ _ ⟨rfl,rfl⟩
  refine Ax [0] hI J J J ?_
  refine Ap<|Aa<|Bq (hJ () _ _ ⟨J,J⟩)
 refine Az<|Bq (hJ () _ _ ⟨J,J⟩)
theorem Wc (s0_l:List Token)(s0_end:Int)(l:List Volume)(h0:Ae)(o0:Nat)(o1:Nat)(w:AV)(w1:AV)(w2:AV)(w3:AV)(w4:AV)(w5:AV)(w6:AV)(g:Nat)(v1:AV)(g1:Nat)(vH:A2 v1 o1 g1 l.length)(hI0:Ids h0 [o0,o1] 2):Jz s0_l s0_end l≠.bad→Bl Tryz.prog 168 [(.ptr o0 g 0 0)] (hp h0 [o0,o1] [some (.rows g 10 [[(.sl 4 (List.map Ac s0_l)),(.int .i64 s0_end),v1,w,w1,w2,w3,w4,w5,w6]]),Ah v1 g1 2 (List.map As l)]) (Cu (fun a_ v h' => ∃ (v3:AV),∃ (g4:Nat),A2 v3 o1 g4 a_.2.length∧v=(.tup [])∧h'=hp h0 [o0,o1] [some (.rows g 10 [[(.sl 4 (List.map Ac a_.1)),(.int .i64 s0_end),v3,w,w1,w2,w3,w4,w5,w6]]),Ah v3 g4 2 (List.map As a_.2)]) h0 (Jz s0_l s0_end l)):=by
 refine Be (n:=9) 1 Tryz.func168 J (by decide) J J hI0 J fun ids he hI=>?_
 clear hI0
 obtain rfl:ix ids 0=o0:=he 0 rfl
 obtain rfl:ix ids 1=o1:=he 1 rfl
 clear he
 refine Bn (Ak (Jz.eq_1 _ _ _) ?_)
 refine Al ?_
 refine Y<|O<|Cx (v:=(.q ids 0 g)) (j:=2) hI J J J J J J J fun g2=>Aa<|Al ?_
 refine Dh Gk [[],[],[1],[1,2],[1,2,3],[],[0,1,2,3,4,5]] [(false,0),(false,1),(false,2),(false,3),(false,4),(false,5),(true,6)] (by kernel_rfl)<|Af (.q ids 0 g) J J (Au (Bh hI J J J T8 J))<|Af (.q ids 0 g) J J (Au (Bh hI J J J T8 J))<|Af (.q ids 0 g) J J (Bk J)<|Af (.ptr (ix ids 0) g 0 2) J J (Ca (B9 (c:=0) (off:=2) (i:=2) Aal J Ee J))<|Af (.ptr (ix ids 0) g 0 2) J J (Ca (B9 (c:=2) (off:=0) (i:=0) Ee J Io J))<|Af (.func (.func 170) [] [(.q ids 2 g2)]) J J R0 ?_
 refine Sx [0,1,2] hI J J (Xf 64 s0_l s0_end l _ (ix ids 0) (ix ids 1) (ix ids 2) w w1 w2 w3 w4 w5 w6 g v1 g1 g2 vH (by exact hI.sub' J J)) J J J J J J J (fun v _ _ _=>Ao (K:=2) (N:=1) Tryz.func168 hI) ?_
 rintro r _ _ _ ⟨v2,g3,vH1,rfl,rfl⟩
 refine Va [0,1,2] [some (.rows g 10 [[(.sl 4 (List.map Ac r.1)),(.I s0_end),v2,w,w1,w2,w3,w4,w5,w6]]),Ah v2 g3 2 (List.map As r.2),some (.rows g2 1 [[(.q ids 0 g)]])] hI J J J J ⟨(Ag J (Ag J (Ag J (Ag J (Ag J (Ag J B8)))))),?_⟩
 refine Vi<|Cw<|Al ?_
 exact Ce (K:=2) (N:=1) (a:=(r.1,r.2)) (vs:=[]) [some (.rows g 10 [[(.sl 4 (List.map Ac r.1)),(.I s0_end),v2,w,w1,w2,w3,w4,w5,w6]]),Ah v2 g3 2 (List.map As r.2)] Tryz.func168 hI J J J (.keep (.keep (.drop .nil))) (.same _) ⟨v2,g3,vH1,J,J⟩
end Go.Am

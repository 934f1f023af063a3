import Derived.Test.YtcpfebjhnbjfbaaGreatDoorRa
set_option linter.all false
set_option maxRecDepth 100000
namespace Go.Am
open Go
theorem Bha:Aot=4000000:=by unfold Aot;rfl
theorem Awm {α σ ε:Type}{b:Nat→α→σ→R (σ ⊕ ε)}{s:σ}:∀(l:List α) (k:Nat),(∀(j:Nat) a,l[j]?=some a→b (k+j) a s=.ok (.inl s))→each b k l s=.ok (.inl s)
 |[],k,_=>rfl
 |a::l,k,z=>by rw[Abg,show b k a s=.ok (.inl s)from z 0 a rfl];simp only[R.ok_bind];exact Awm l (k+1) λj x h=>by have:=z (j+1) x (by simpa using h);rwa[GP j 1,←CO]at this
theorem Bah:∀(n:Nat) (v:Value),Dp n v→∀m,n<m→Ol m v v=.ok true
 |n,v,h,0,A=>absurd A (by omega)
 |n,v,h,m+1,A=>by
  show Yp (Ol m) v v=.ok true;unfold Yp;rw[if_neg (by simp)];have key:each (λj a1=>λ_=>Aaz v (Ol m) j a1) 0 v.L ()=.ok (.inl ()):=by
   refine Awm (s:=()) v.L 0 λj x z=>?_;unfold Aaz;rw[AG,Zo z,R.ok_bind];have D:Ol m x x=.ok true:=by
    match n,h with
    |0,h=>rw[show v.L=[]from h]at z;cases z
    |n+1,h=>exact Bah n x (h x (AP z)) m (by omega)
   rw[D];rfl
  rw[key];rfl
theorem An1 (l:List Int)(h:l.length≤NN):As (J6 l) (Dp 1):=by unfold J6;exact(Mx (F:=λ_ a=>Fa a) (c:=56) (Dp 0) (λ_ _ _=>rfl) l (by decide) h λj a _=>.ok rfl).bind λy z=>.ok z.2
theorem Aur (l:List Span)(h:l.length≤NN):As (Q4 l) (Dp 2):=by unfold Q4;exact(Mx (F:=λ_ (a:Span)=>J6 [a.From,a.To]) (c:=56) (Dp 1) (λ_ _ _=>rfl) l (by decide) h λj a _=>An1 _ (by have:=Ab6;simp only[AF,DB];omega)).bind λy z=>.ok z.2
theorem U4 (n:Int)(k:Nat):Dp k ({Kind:=1,N:=n,S:=[],L:=[]}:Value):=by
 cases k with
 |zero=>rfl
 |succ k=>exact λx z=>absurd z (by simp)
theorem Bcj (w:Way)(h:w.Legs.length≤NN)(D:∀g∈w.Legs,g.Minutes.length≤NN):As (Abh w) (Dp 5):=by
 unfold Abh;refine(Mx (F:=λ_ (a:Leg)=>(Q4 a.Minutes).bind λA=>Iw [({Kind:=1,N:=a.Segment,S:=[],L:=[]}:Value),({Kind:=1,N:=a.Volume,S:=[],L:=[]}:Value),({Kind:=1,N:=a.Length,S:=[],L:=[]}:Value),A]) (c:=56) (Dp 3) (λj g y=>by simp only[Ai0,Fa,Iw,R.ok_bind,R.bind_assoc]) w.Legs (by decide) h λj g O=>(Aur _ (D g O)).bind λA T=>.ok λx z=>?_).bind λl U=>.ok λx z=>?_
 ·simp only[AM,BU,or_false]at z;rcases z with rfl|rfl|rfl|rfl
  ·exact U4 _ _
  ·exact U4 _ _
  ·exact U4 _ _
  ·exact T
 ·simp only[AM,BU,or_false]at z;rcases z with rfl|rfl|rfl
  ·exact U4 _ _
  ·exact U4 _ _
  ·exact U.2
theorem Azl (t:Tables)(h:TabOk t):As (Q9 t) (Dp 8):=by
 unfold Q9;refine(Mx (F:=λ_ (a:Sector)=>(J6 a.Volumes).bind λr=>Iw [r,({Kind:=1,N:=a.Radar,S:=[],L:=[]}:Value),({Kind:=1,N:=a.Procedural,S:=[],L:=[]}:Value)]) (c:=56) (Dp 2) (λj g y=>by simp only[Z3,Fa,Iw,R.ok_bind,R.bind_assoc]) t.Sectors (by decide) h.sec λj g A=>(An1 _ (h.secv g A)).bind λr hr=>.ok λx z=>?_).bind λl X=>?_
 ·simp only[AM,BU,or_false]at z;rcases z with rfl|rfl|rfl
  ·exact hr
  ·exact U4 _ _
  ·exact U4 _ _
 refine(Mx (F:=λ_ (a:Config)=>J6 a.Sectors) (c:=56) (Dp 1) (λj g y=>rfl) t.Configs (by decide) h.con λj g A=>An1 _ (h.cons g A)).bind λl1 O=>?_;refine(Mx (F:=λ_ (a:Way)=>Abh a) (c:=56) (Dp 5) (λj g y=>rfl) t.Ways (by decide) h.way λj g A=>Bcj _ (h.legs g A).1 (h.legs g A).2).bind λl2 T=>?_;refine(Mx (F:=λ_ (a:List Int)=>J6 a) (c:=56) (Dp 1) (λj g y=>rfl) t.Modes (by decide) h.mod λj g A=>An1 _ (h.mods g A)).bind λl3 U=>?_;refine(Mx (F:=λ_ (a:Kind)=>(eachS (λ_ Y=>λD=>Z8 Y D) 0 a.Curfews []).bind λD=>Iw [({Kind:=1,N:=a.Slow,S:=[],L:=[]}:Value),({Kind:=1,N:=a.Fast,S:=[],L:=[]}:Value),({Kind:=1,N:=a.Places,S:=[],L:=[]}:Value),({Kind:=1,N:=a.Weight,S:=[],L:=[]}:Value),({Kind:=1,N:=a.Longest,S:=[],L:=[]}:Value),({Kind:=3,N:=0,S:=[],L:=D}:Value)]) (c:=56) (Dp 4) (λj g y=>by simp only[Z1,Fa,Iw,R.ok_bind,R.bind_assoc]) t.Kinds (by decide) h.kin λj g A=>?_).bind λl4 V=>.ok λx z=>?_
 ·refine(Mx (F:=λ_ (a:List Span)=>Q4 a) (c:=56) (Dp 2) (λj g y=>rfl) g.Curfews (by decide) (h.cur g A).1 λj c Z=>Aur _ ((h.cur g A).2 c Z)).bind λD W=>.ok λx z=>?_;simp only[AM,BU,or_false]at z;rcases z with rfl|rfl|rfl|rfl|rfl|rfl
  ·exact U4 _ _
  ·exact U4 _ _
  ·exact U4 _ _
  ·exact U4 _ _
  ·exact U4 _ _
  ·exact W.2
 ·simp only[AM,BU,or_false]at z;rcases z with rfl|rfl|rfl|rfl|rfl|rfl
  ·exact U4 _ _
  ·exact λx z=>(X.2 x z).up.up.up.up
  ·exact λx z=>(O.2 x z).up.up.up.up.up
  ·exact λx z=>(T.2 x z).up
  ·exact λx z=>(U.2 x z).up.up.up.up.up
  ·exact λx z=>(V.2 x z).up.up
theorem Alg (t:Tables)(h:TabOk t):S7 t t=.ok true:=by obtain⟨v,z,A⟩:=Azl t h;unfold S7 Ant;rw[z];simp only[R.ok_bind];rw[Bah 8 v A Aot (by rw[Bha];omega)];rfl
end Go.Am

/- Written by shrink.py from texts of ours: comments struck, what is not reached left out, names short. -/
import Derived.WalkKit
import Derived.MapKept
import Derived.Lib.Strings
import Derived.Great.BuildSlice
import Derived.Laws.BytesString
import Derived.Laws.StructEq
import Derived.ChangeKeysEq
namespace Go.Am
open Go
structure Loc where
 b:Nat
 base:Nat
 st:Nat
 size:Nat
 cells:Bool
abbrev Mu:=Nat→Nat→Option Loc
structure Ext (w:World)(mu:Mu)(M:Nat→Prop)(w':World)(mu':Mu)(M':Nat→Prop):Prop where
 os:w'.os=w.os
 tape:w'.tape=w.tape
 output:w'.output=w.output
 size:w.heap.size≤w'.heap.size
 same : ∀ b,b<w.heap.size→¬ M b→w'.heap[b]? = w.heap[b]? ∧ ¬ M' b
 mu : ∀ o g l,mu o g=some l→mu' o g=some l
structure ExtG (n:Nat)(w:World)(mu:Mu)(M:Nat→Prop)(w':World)(mu':Mu)(M':Nat→Prop):Prop where
 os:w'.os=w.os
 tape:w'.tape=w.tape
 output:w'.output=w.output
 size:w.heap.size≤w'.heap.size
 same : ∀ b,b<w.heap.size→¬ M b→(w'.heap[b]? = w.heap[b]? ∨ (n≤b ∧ ∃ x y,w.heap[b]? = some (.deferred x)∧w'.heap[b]? = some (.deferred y)))∧¬ M' b
 mu : ∀ o g l,mu o g=some l→mu' o g=some l
theorem Ext.g {n:Nat}{w:World}{mu:Mu}{M:Nat→Prop}{w':World}{mu':Mu}{M':Nat→Prop}(e:Ext w mu M w' mu' M'):ExtG n w mu M w' mu' M':=
 ⟨e.os,e.tape,e.output,e.size,fun b hb hm=>⟨.inl (e.same b hb hm).1,(e.same b hb hm).2⟩,e.mu⟩
theorem ExtG.ext {w:World}{mu:Mu}{M:Nat→Prop}{w':World}{mu':Mu}{M':Nat→Prop}(e:ExtG w.heap.size w mu M w' mu' M'):Ext w mu M w' mu' M':=
 ⟨e.os,e.tape,e.output,e.size,fun b hb hm=>by
  obtain⟨h1,h2⟩:=e.same b hb hm
  rcases h1 with h1 | ⟨h1,_⟩
  ·exact⟨h1,h2⟩
  ·omega,e.mu⟩
structure YF where
 F:World→Mu→(Nat→Prop)→Nat→Prop
 mono : ∀ {n:Nat} {w:World} {mu:Mu} {M:Nat→Prop} {w':World} {mu':Mu} {M':Nat→Prop} {l:Nat},ExtG n w mu M w' mu' M'→F w mu M l→F w' mu' M' l
inductive AV where
 | bool (b:Bool)
 | int (k:IntKind) (n:Int)
 | str (s:List UInt8)
 | nilp
 | ptr (o g r c:Nat)
 | gptr (a:Addr)
 | cp (row:List AV) (c:Nat)
 | cp0 (row:List AV)
 | emp
 | snil
 | sl (st:Nat) (rows:List (List AV))
 | slx (st:Nat) (rows:List (List AV))
 | ref (o g off len:Nat)
 | refc (o g r c len cap:Nat)
 | mnil
 | map (o g:Nat)
 | mapc (es:List (List UInt8×AV))
 | mapi (es:List (AV×AV))
 | itm (o g b clock:Nat) (ens:Array MapEntry) (es:List (AV×AV))
 | func (fn:Fn) (first captured:List AV)
 | nilf
 | iface (t:TypeId) (v:AV)
 | nili
 | agg (cs:List AV)
 | tup (vs:List AV)
 | it (o g:Nat)
 | raw (v:Value)
 | any
 | yld (y:YF) (o g:Nat)
 deriving Inhabited
abbrev AV.und:AV:=.tup []
def AV.flat:AV→Bool
 | .agg _=>false
 | .tup _=>false
 | .raw _=>false
 | .any=>false
 | _=>true
def AV.ok:AV→Bool
 | .raw _=>false
 | .any=>false
 | _=>true
def AV.cells:AV→List AV
 | .agg cs=>cs
 | v=>[v]
def Bt:Nat:=140737488355328
inductive AO where
 | rows (g st:Nat) (rs:List (List AV))
 | mp (g:Nat) (es:List (AV×AV))
 | blk (g:Nat) (x:Obj)
def AO.gen:AO→Nat
 | .rows g _ _=>g
 | .mp g _=>g
 | .blk g _=>g
abbrev Ab:=Nat→Option AO
def upd {α:Type}(f:Nat→α)(a:Nat)(v:α):Nat→α:=fun b=>if b=a then v else f b
theorem Ad2 {α:Type}(f:Nat→α)(a:Nat)(v:α):upd f a v a=v:=by simp [upd]
theorem Af8 {α:Type}(f:Nat→α)(a:Nat)(v:α){b:Nat}(h:b≠a):upd f a v b=f b:=by simp [upd,h]
def C0 (mu:Mu)(o g:Nat)(l:Loc):Mu:=fun o' g'=>if o'=o∧g'=g then some l else mu o' g'
def cell (rs:List (List AV))(i j:Nat):AV:=(rs.getD i []).getD j .und
def Cm (st:Nat)(r:List AV):Prop:=r.length=st ∧ ∀ v ∈ r,v.flat=true
section
variable (w:World) (mu:Mu) (M:Nat→Prop)
inductive Rv:AV→Value→Prop
 | bool (b:Bool):Rv (.bool b) (.bool b)
 | int (k:IntKind) (n:Int):Rv (.int k n) (.int k n)
 | str (s:List UInt8):Rv (.str s) (.string ⟨s.toArray⟩)
 | nilp:Rv .nilp (.pointer none)
 | ptr (o g r c:Nat) (l:Loc) (h:mu o g=some l) (hc:l.cells=true):Rv (.ptr o g r c) (.pointer (some ⟨l.b,l.base+r * l.st+c,none⟩))
 | gptr (a:Addr):Rv (.gptr a) (.pointer (some a))
 | cp (row:List AV) (c b off:Nat) (vs:Nat→Value) (h1 : ∀ j,j<row.length→w.cell? ⟨b,off+j,none⟩=some (vs j))
   (h2 : ∀ j,j<row.length→Rv (row.getD j .und) (vs j)) (h3:¬ M b) (h4:b<w.heap.size):Rv (.cp row c) (.pointer (some ⟨b,off+c,none⟩))
 | cp0 (row:List AV) (b:Nat) (vs:Nat→Value) (h1 : ∀ j,j<row.length→w.cell? ⟨b,j,none⟩=some (vs j))
   (h2 : ∀ j,j<row.length→Rv (row.getD j .und) (vs j)) (h3:¬ M b) (h4:b<w.heap.size):Rv (.cp0 row) (.pointer (some ⟨b,0,none⟩))
 | emp (a:Option Addr):Rv .emp (.slice a 0 0)
 | snil:Rv .snil (.slice none 0 0)
 | sl0 (st:Nat) (a:Option Addr) (cap:Nat):Rv (.sl st []) (.slice a 0 cap)
 | sl (st:Nat) (rows:List (List AV)) (b off cap:Nat) (vs:Nat→Nat→Value) (hcap:rows.length≤cap) (hlim:rows.length≤Bt)
   (h1 : ∀ i j,i<rows.length→j<st→w.cell? ⟨b,off+i * st+j,none⟩=some (vs i j))
   (h2 : ∀ i j,i<rows.length→j<st→Rv (cell rows i j) (vs i j)) (hr : ∀ r ∈ rows,Cm st r) (h3:¬ M b) (h4:b<w.heap.size) :
   Rv (.sl st rows) (.slice (some ⟨b,off,none⟩) rows.length cap)
 | slx0 (st:Nat) (a:Option Addr):Rv (.slx st []) (.slice a 0 0)
 | slx (st:Nat) (rows:List (List AV)) (b off:Nat) (vs:Nat→Nat→Value) (hlim:rows.length≤Bt)
   (h1 : ∀ i j,i<rows.length→j<st→w.cell? ⟨b,off+i * st+j,none⟩=some (vs i j))
   (h2 : ∀ i j,i<rows.length→j<st→Rv (cell rows i j) (vs i j)) (hr : ∀ r ∈ rows,Cm st r) (h3:¬ M b) (h4:b<w.heap.size) :
   Rv (.slx st rows) (.slice (some ⟨b,off,none⟩) rows.length rows.length)
 | ref (o g off len cap:Nat) (l:Loc) (h:mu o g=some l) (hc:l.cells=true) (hcap:len≤cap) (hlim:len≤Bt) (hsz:l.base+(off+cap) * l.st≤l.size) :
   Rv (.ref o g off len) (.slice (some ⟨l.b,l.base+off * l.st,none⟩) len cap)
 | refc (o g r c len cap:Nat) (l:Loc) (h:mu o g=some l) (hc:l.cells=true) (hcap:len≤cap) (hlim:cap≤Bt) (hsz:l.base+r * l.st+c+cap≤l.size) :
   Rv (.refc o g r c len cap) (.slice (some ⟨l.b,l.base+r * l.st+c,none⟩) len cap)
 | mnil:Rv .mnil (.map none)
 | map (o g:Nat) (l:Loc) (h:mu o g=some l) (hc:l.cells=false):Rv (.map o g) (.map (some l.b))
 | mapc (es es2:List (List UInt8×AV)) (hp:es2.Perm es) (hnd:(es.map (·.1)).Nodup) (b:Nat) (ens:Array MapEntry) (clock:Nat) (hb:w.heap[b]? = some (.map ens clock)) (hl:es2.length=ens.size)
   (h1 : ∀ i,i<es2.length→(ens.getD i default).key=.string ⟨(es2.getD i ([],.und)).1.toArray⟩) (h2 : ∀ i,i<es2.length→Rv (es2.getD i ([],.und)).2 (ens.getD i default).val) (h3:¬ M b) (h4:b<w.heap.size):Rv (.mapc es) (.map (some b))
 | mapi0:Rv (.mapi []) (.map none)
 | mapi (es:List (AV×AV)) (b:Nat) (ens:Array MapEntry) (clock:Nat) (hb:w.heap[b]? = some (.map ens clock)) (hst:MapKept.Stamped ens clock) (hl:es.length=ens.size)
   (h1 : ∀ i,i<es.length→Rv (es.getD i (.und,.und)).1 (ens.getD i default).key) (h2 : ∀ i,i<es.length→Rv (es.getD i (.und,.und)).2 (ens.getD i default).val) (h3:¬ M b) (h4:b<w.heap.size):Rv (.mapi es) (.map (some b))
 | itm (o g:Nat) (l:Loc) (hm:mu o g=some l) (hc:l.cells=false) (es:List (AV×AV)) (b:Nat) (ens:Array MapEntry) (clock:Nat) (hb:w.heap[b]? = some (.map ens clock)) (hst:MapKept.Stamped ens clock) (hl:es.length=ens.size)
   (h1 : ∀ i,i<es.length→Rv (es.getD i (.und,.und)).1 (ens.getD i default).key) (h2 : ∀ i,i<es.length→Rv (es.getD i (.und,.und)).2 (ens.getD i default).val) (h3:¬ M b) (h4:b<w.heap.size):Rv (.itm o g b clock ens es) (.pointer (some ⟨l.b,0,none⟩))
 | func (fn:Fn) (f1 c1:List AV) (f2 c2:List Value) (hf:f1.length=f2.length) (hc:c1.length=c2.length)
   (h1 : ∀ i,i<f1.length→Rv (f1.getD i .und) (f2.getD i undef)) (h2 : ∀ i,i<c1.length→Rv (c1.getD i .und) (c2.getD i undef)) :
   Rv (.func fn f1 c1) (.func fn f2.toArray c2.toArray)
 | nilf:Rv .nilf .nilFunc
 | iface (t:TypeId) (v:AV) (c:Value) (h:Rv v c):Rv (.iface t v) (.iface t c)
 | nili:Rv .nili .nilIface
 | agg (cs:List AV) (vs:List Value) (hl:cs.length=vs.length) (h : ∀ i,i<cs.length→Rv (cs.getD i .und) (vs.getD i undef)):Rv (.agg cs) (.agg vs.toArray)
 | tup (cs:List AV) (vs:List Value) (hl:cs.length=vs.length) (h : ∀ i,i<cs.length→Rv (cs.getD i .und) (vs.getD i undef)):Rv (.tup cs) (.tuple vs.toArray)
 | it (o g:Nat) (l:Loc) (h:mu o g=some l) (hc:l.cells=false):Rv (.it o g) (.pointer (some ⟨l.b,0,none⟩))
 | raw (v:Value):Rv (.raw v) v
 | any (v:Value):Rv .any v
 | yld (y:YF) (o g:Nat) (l:Loc) (h:mu o g=some l) (hy:y.F w mu M l.b):Rv (.yld y o g) (.func (.yield l.b) #[] #[])
end
def Ci (h:Ab)(mu:Mu)(b:Nat):Prop := ∃ o x l,h o=some x∧mu o x.gen=some l∧l.b=b
theorem Ext.refl (w:World)(mu:Mu)(M:Nat→Prop):Ext w mu M w mu M:=⟨rfl,rfl,rfl,Nat.le_refl _,fun _ _ h=>⟨rfl,h⟩,fun _ _ _ h=>h⟩
theorem Ext.trans {w1 w2 w3:World}{m1 m2 m3:Mu}{M1 M2 M3:Nat→Prop}(h:Ext w1 m1 M1 w2 m2 M2)(k:Ext w2 m2 M2 w3 m3 M3):Ext w1 m1 M1 w3 m3 M3:=
  ⟨k.os.trans h.os,k.tape.trans h.tape,k.output.trans h.output,Nat.le_trans h.size k.size,
   fun b hb hm=>by
     have h1:=h.same b hb hm
     have h2:=k.same b (Nat.lt_of_lt_of_le hb h.size) h1.2
     exact⟨h2.1.trans h1.1,h2.2⟩,
   fun o g l hl=>k.mu o g l (h.mu o g l hl)⟩
theorem cell?_of_heap {w w':World}{a:Addr}(h:w'.heap[a.block]? = w.heap[a.block]?):w'.cell? a=w.cell? a:=by
 unfold World.cell?; rw [h]
theorem ExtG.cell {n:Nat}{w w':World}{mu mu':Mu}{M M':Nat→Prop}(e:ExtG n w mu M w' mu' M'){b o:Nat}{v:Value}(h4:b<w.heap.size)(h3:¬ M b)(h:w.cell? ⟨b,o,none⟩=some v):w'.cell? ⟨b,o,none⟩=some v:=by
 rcases(e.same b h4 h3).1 with hs | ⟨_,x,y,hx,_⟩
 ·rw [cell?_of_heap (w:=w) (w':=w') (a:=⟨b,o,none⟩) hs]; exact h
 ·unfold World.cell? at h; rw [hx] at h; cases h
theorem Rv.extG {n:Nat}{w w':World}{mu mu':Mu}{M M':Nat→Prop}(e:ExtG n w mu M w' mu' M'){v:AV}{c:Value}(h:Rv w mu M v c):Rv w' mu' M' v c:=by
 induction h with
 | bool b=>exact .bool b
 | int k n=>exact .int k n
 | str s=>exact .str s
 | nilp=>exact .nilp
 | ptr o g r c l h hc=>exact .ptr o g r c l (e.mu _ _ _ h) hc
 | gptr a=>exact .gptr a
 | cp row c b off vs h1 h2 h3 h4 ih=>
  have hs:=e.same b h4 h3
  exact .cp row c b off vs (fun j hj=>e.cell h4 h3 (h1 j hj)) ih hs.2 (Nat.lt_of_lt_of_le h4 e.size)
 | cp0 row b vs h1 h2 h3 h4 ih=>
  have hs:=e.same b h4 h3
  exact .cp0 row b vs (fun j hj=>e.cell h4 h3 (h1 j hj)) ih hs.2 (Nat.lt_of_lt_of_le h4 e.size)
 | emp a=>exact .emp a
 | snil=>exact .snil
 | sl0 st a cap=>exact .sl0 st a cap
 | sl st rows b off cap vs hcap hlim h1 h2 hr h3 h4 ih=>
  have hs:=e.same b h4 h3
  exact .sl st rows b off cap vs hcap hlim (fun i j hi hj=>e.cell h4 h3 (h1 i j hi hj)) ih hr hs.2 (Nat.lt_of_lt_of_le h4 e.size)
 | slx0 st a=>exact .slx0 st a
 | slx st rows b off vs hlim h1 h2 hr h3 h4 ih=>
  have hs:=e.same b h4 h3
  exact .slx st rows b off vs hlim (fun i j hi hj=>e.cell h4 h3 (h1 i j hi hj)) ih hr hs.2 (Nat.lt_of_lt_of_le h4 e.size)
 | ref o g off len cap l h hc hcap hlim hsz=>exact .ref o g off len cap l (e.mu _ _ _ h) hc hcap hlim hsz
 | refc o g r c len cap l h hc hcap hlim hsz=>exact .refc o g r c len cap l (e.mu _ _ _ h) hc hcap hlim hsz
 | mnil=>exact .mnil
 | map o g l h hc=>exact .map o g l (e.mu _ _ _ h) hc
 | mapc es es2 hp hnd b ens clock hb hl h1 h2 h3 h4 ih2=>
  have hs:=e.same b h4 h3
  refine .mapc es es2 hp hnd b ens clock ?_ hl h1 ih2 hs.2 (Nat.lt_of_lt_of_le h4 e.size)
  rcases hs.1 with hs | ⟨_,x,y,hx,_⟩
  ·rw [hs]; exact hb
  ·rw [hb] at hx; cases hx
 | mapi0=>exact .mapi0
 | mapi es b ens clock hb hst hl h1 h2 h3 h4 ih1 ih2=>
  have hs:=e.same b h4 h3
  refine .mapi es b ens clock ?_ hst hl ih1 ih2 hs.2 (Nat.lt_of_lt_of_le h4 e.size)
  rcases hs.1 with hs | ⟨_,x,y,hx,_⟩
  ·rw [hs]; exact hb
  ·rw [hb] at hx; cases hx
 | itm o g l hm hc es b ens clock hb hst hl h1 h2 h3 h4 ih1 ih2=>
  have hs:=e.same b h4 h3
  refine .itm o g l (e.mu _ _ _ hm) hc es b ens clock ?_ hst hl ih1 ih2 hs.2 (Nat.lt_of_lt_of_le h4 e.size)
  rcases hs.1 with hs | ⟨_,x,y,hx,_⟩
  ·rw [hs]; exact hb
  ·rw [hb] at hx; cases hx
 | func fn f1 c1 f2 c2 hf hc h1 h2 ih1 ih2=>exact .func fn f1 c1 f2 c2 hf hc ih1 ih2
 | nilf=>exact .nilf
 | iface t v c h ih=>exact .iface t v c ih
 | nili=>exact .nili
 | agg cs vs hl h ih=>exact .agg cs vs hl ih
 | tup cs vs hl h ih=>exact .tup cs vs hl ih
 | it o g l h hc=>exact .it o g l (e.mu _ _ _ h) hc
 | raw v=>exact .raw v
 | any v=>exact .any v
 | yld y o g l h hy=>exact .yld y o g l (e.mu _ _ _ h) (y.mono e hy)
theorem Rv.ext {w w':World}{mu mu':Mu}{M M':Nat→Prop}(e:Ext w mu M w' mu' M'){v:AV}{c:Value}(h:Rv w mu M v c):Rv w' mu' M' v c:=h.extG (n:=0) e.g
theorem Rv.less {w:World}{mu:Mu}{M M':Nat→Prop}(hM : ∀ b,M' b→M b){v:AV}{c:Value}(h:Rv w mu M v c):Rv w mu M' v c:=
 Rv.ext (w:=w) (w':=w) (mu:=mu) (mu':=mu) (M:=M) ⟨rfl,rfl,rfl,Nat.le_refl _,fun b _ hb=>⟨rfl,fun h=>hb (hM b h)⟩,fun _ _ _ h=>h⟩ h
def Ri (f:Nat×Nat)(n:Nat):Prop := ∀ i,i≤n→¬ (f.1≤i∧i<f.2)
class GW (P:Program) where
 n:Nat
 G:Nat→World→Prop
 keep : ∀ {m:Nat} {w w':World},n≤m→(∀ b,b<m→w'.heap[b]? = w.heap[b]?)→G m w→G m w'
 row:Nat→Option (List AV):=fun _=>none
 rowOk : ∀ {m:Nat} {w:World} {b:Nat} {r:List AV},n≤m→m≤w.heap.size→G m w→row b=some r→b<n ∧ ∀ (mu:Mu) (M:Nat→Prop),(∀ b,M b→m≤b) →
  ∀ j,j<r.length → ∃ x,w.cell? ⟨b,j,none⟩=some x∧Rv w mu M (r.getD j .und) x:=by intro _ _ _ _ _ _ _ h; cases h
structure Base (P:Program) where
 n:Nat
 fb:Nat:=n
structure Sim {P:Program}[GW P](B:Base P)(mu:Mu)(h:Ab)(w:World):Prop where
 base:B.n≤w.heap.size
 muOk : ∀ o g l,mu o g=some l→B.n≤l.b∧l.b<w.heap.size ∧
  (l.cells=true → ∃ cells e f,w.heap[l.b]? = some (.cells cells e f)∧cells.size=l.size∧Ri f l.size)
 fin : ∃ N,∀ o g,N≤g→mu o g=none
 finh : ∃ N,∀ o,N≤o→h o=none
 rows : ∀ o g st rs,h o=some (.rows g st rs) → ∃ l,mu o g=some l∧l.cells=true∧l.st=st∧l.base+rs.length * st≤l.size∧(∀ r ∈ rs,Cm st r) ∧
  ∀ i j,i<rs.length→j<st → ∃ c,w.cell? ⟨l.b,l.base+i * st+j,none⟩=some c∧Rv w mu (Ci h mu) (cell rs i j) c
 maps : ∀ o g es,h o=some (.mp g es) → ∃ l,mu o g=some l∧l.cells=false ∧ ∃ ens clock,(w.heap[l.b]? = some (.map ens clock)∧MapKept.Stamped ens clock)∧es.length=ens.size ∧
  ∀ i,i<es.length→Rv w mu (Ci h mu) (es.getD i (.und,.und)).1 (ens.getD i default).key∧Rv w mu (Ci h mu) (es.getD i (.und,.und)).2 (ens.getD i default).val
 inj : ∀ o o' x x' l l',h o=some x→h o'=some x'→mu o x.gen=some l→mu o' x'.gen=some l'→l.b=l'.b→o=o'
 glob:GW.n P≤B.n∧GW.G P B.n w
 blks : ∀ o g x,h o=some (.blk g x) → ∃ l,mu o g=some l∧l.cells=false∧w.heap[l.b]? = some x
theorem GW.step {P:Program}[GW P]{n:Nat}{w w':World}(k:GW.n P≤n∧GW.G P n w)(e : ∀ b,b<n→w'.heap[b]? = w.heap[b]?):GW.n P≤n∧GW.G P n w':=⟨k.1,GW.keep k.1 e k.2⟩
theorem Sim.rebase {P:Program}[GW P]{B B':Base P}{mu:Mu}{h:Ab}{w:World}(s:Sim B mu h w)(e:B'.n=B.n):Sim B' mu h w:=
 ⟨e ▸ s.base,fun o g l hl=>e ▸ s.muOk o g l hl,s.fin,s.finh,s.rows,s.maps,s.inj,e ▸ s.glob,s.blks⟩
abbrev Adz (n:Nat)(h:Ab)(mu:Mu)(w:World)(h':Ab)(mu':Mu)(w':World):Prop:=ExtG n w mu (Ci h mu) w' mu' (Ci h' mu')
abbrev Da (h:Ab)(mu:Mu)(w:World)(h':Ab)(mu':Mu)(w':World):Prop:=Ext w mu (Ci h mu) w' mu' (Ci h' mu')
abbrev RV (h:Ab)(mu:Mu)(w:World)(v:AV)(c:Value):Prop:=Rv w mu (Ci h mu) v c
theorem ExtG.trans {n:Nat}{w1 w2 w3:World}{m1 m2 m3:Mu}{M1 M2 M3:Nat→Prop}(h:ExtG n w1 m1 M1 w2 m2 M2)(k:ExtG n w2 m2 M2 w3 m3 M3):ExtG n w1 m1 M1 w3 m3 M3:=
  ⟨k.os.trans h.os,k.tape.trans h.tape,k.output.trans h.output,Nat.le_trans h.size k.size,
   fun b hb hm=>by
     obtain⟨h1,h1'⟩:=h.same b hb hm
     obtain⟨h2,h2'⟩:=k.same b (Nat.lt_of_lt_of_le hb h.size) h1'
     refine⟨?_,h2'⟩
     rcases h1 with h1 | ⟨hn,x,y,hx,hy⟩ <;> rcases h2 with h2 | ⟨hn2,x2,y2,hx2,hy2⟩
     · exact .inl (h2.trans h1)
     · exact .inr ⟨hn2,x2,y2,h1 ▸ hx2,hy2⟩
     · exact .inr ⟨hn,x,y,hx,h2.trans hy⟩
     · exact .inr ⟨hn,x,y2,hx,hy2⟩,
   fun o g l hl=>k.mu o g l (h.mu o g l hl)⟩
def G4 (h' h:Ab):Prop := ∀ o x,h' o=some x→h o=some x
theorem G4.refl (h:Ab):G4 h h:=fun _ _ e=>e
theorem Ci.sub {h h':Ab}{mu:Mu}(hs:G4 h' h)(b:Nat)(hm:Ci h' mu b):Ci h mu b:=
 let ⟨o,x,l,h1,h2,h3⟩:=hm; ⟨o,x,l,hs o x h1,h2,h3⟩
theorem Sim.sub {P:Program}[GW P]{B:Base P}{mu:Mu}{h h':Ab}{w:World}(s:Sim B mu h w)(hs:G4 h' h):Sim B mu h' w:=
  ⟨s.base,s.muOk,s.fin,
   let ⟨N,hN⟩:=s.finh; ⟨N,fun o ho=>by
     cases hq:h' o with
     | none=>rfl
     | some x=>have:=hs o x hq; rw [hN o ho] at this; cases this⟩,
   fun o g st rs e=>by
     obtain⟨l,h1,h2,h3,h4,h5,h6⟩:=s.rows o g st rs (hs _ _ e)
     exact⟨l,h1,h2,h3,h4,h5,fun i j hi hj=>let ⟨c,hc,hr⟩:=h6 i j hi hj; ⟨c,hc,hr.less (Ci.sub hs)⟩⟩,
   fun o g es e=>by
     obtain⟨l,h1,h2,ens,clock,h3,h4,h5⟩:=s.maps o g es (hs _ _ e)
     exact⟨l,h1,h2,ens,clock,h3,h4,fun i hi=>⟨(h5 i hi).1.less (Ci.sub hs),(h5 i hi).2.less (Ci.sub hs)⟩⟩,
   fun o o' x x' l l' e e' h1 h2 hb=>s.inj o o' x x' l l' (hs _ _ e) (hs _ _ e') h1 h2 hb,s.glob,fun o g x e=>s.blks o g x (hs _ _ e)⟩
theorem Da.sub {h h':Ab}{mu:Mu}{w:World}(hs:G4 h' h):Da h mu w h' mu w:=
 ⟨rfl,rfl,rfl,Nat.le_refl _,fun b _ hb=>⟨rfl,fun hm=>hb (Ci.sub hs b hm)⟩,fun _ _ _ h=>h⟩
theorem Sim.not_mut {P:Program}[GW P]{B:Base P}{mu:Mu}{h:Ab}{w:World}(s:Sim B mu h w){b:Nat}(hb:b<B.n):¬ Ci h mu b:=by
 rintro⟨o,x,l,_,hl,rfl⟩
 have:=(s.muOk _ _ _ hl).1
 omega
theorem Sim.globE {P:Program}[GW P]{B:Base P}{mu mu':Mu}{h h':Ab}{w w':World}(s:Sim B mu h w)(e:Da h mu w h' mu' w'):GW.n P≤B.n∧GW.G P B.n w':=
 GW.step s.glob fun b hb=>(e.same b (Nat.lt_of_lt_of_le hb s.base) (s.not_mut hb)).1
theorem Sim.grow {P:Program}[GW P]{B:Base P}{mu:Mu}{h:Ab}{w:World}(s:Sim B mu h w){b c:Nat}{row:List AV}(hr:GW.row P b=some row):RV h mu w (.cp row c) (.pointer (some ⟨b,c,none⟩)):=by
 obtain⟨hb,hc⟩:=GW.rowOk s.glob.1 s.base s.glob.2 hr
 have hM : ∀ b,Ci h mu b→B.n≤b:=fun b hm=>Nat.not_lt.1 fun hlt=>s.not_mut hlt hm
 have hb':b<B.n:=Nat.lt_of_lt_of_le hb s.glob.1
 have hex : ∃ f:Nat→Value,∀ j,j<row.length→w.cell? ⟨b,j,none⟩=some (f j)∧Rv w mu (Ci h mu) (row.getD j .und) (f j):=by
  refine⟨fun j=>(w.cell? ⟨b,j,none⟩).getD undef,fun j hj=>?_⟩
  obtain⟨x,h1,h2⟩:=hc mu _ hM j hj
  simp only [h1,Option.getD_some]
  exact⟨trivial,h2⟩
 obtain⟨f,hf⟩:=hex
 have:=Rv.cp (w:=w) (mu:=mu) (M:=Ci h mu) row c b 0 f (fun j hj=>by simpa using (hf j hj).1) (fun j hj=>(hf j hj).2) (s.not_mut hb') (Nat.lt_of_lt_of_le hb' s.base)
 simpa using this
theorem Ci.lt {P:Program}[GW P]{B:Base P}{mu:Mu}{h:Ab}{w:World}(s:Sim B mu h w){b:Nat}(hm:Ci h mu b):b<w.heap.size:=by
 obtain⟨o,x,l,_,hl,rfl⟩:=hm
 exact(s.muOk _ _ _ hl).2.1
theorem Cy {w:World}{x:Obj}{b:Nat}(h:b<w.heap.size):(w.alloc x).heap[b]? = w.heap[b]? := Go.RowKit.Below.heap_alloc w x b h
theorem My {w:World}{x:Obj}:(w.alloc x).heap[w.heap.size]? = some x:=by
 show(w.heap.push x)[w.heap.size]? = _
 simp
theorem Eb {w:World}{x:Obj}:(w.alloc x).heap.size=w.heap.size+1:=by
 show(w.heap.push x).size=_
 simp
theorem Sim.pushF {P:Program}[GW P]{B:Base P}{mu:Mu}{h:Ab}{w:World}(s:Sim B mu h w){o g st base:Nat}{rs:List (List AV)}{cells:Array Value}{e:TypeId}{f:Nat×Nat}(hf:Ri f cells.size)
  (hg:mu o g=none) (hb:base+rs.length * st≤cells.size) (hr : ∀ r ∈ rs,Cm st r)
  (hc : ∀ i j,i<rs.length→j<st → ∃ c,cells[base+i * st+j]? = some c∧RV h mu w (cell rs i j) c) :
  Sim B (C0 mu o g ⟨w.heap.size,base,st,cells.size,true⟩) (upd h o (some (.rows g st rs))) (w.alloc (.cells cells e f)) ∧
  Da h mu w (upd h o (some (.rows g st rs))) (C0 mu o g ⟨w.heap.size,base,st,cells.size,true⟩) (w.alloc (.cells cells e f)):=by
 have hmu : ∀ o' g' l,mu o' g'=some l→C0 mu o g ⟨w.heap.size,base,st,cells.size,true⟩ o' g'=some l:=by
  intro o' g' l hl
  unfold C0
  rw [if_neg]
  ·exact hl
  ·rintro⟨rfl,rfl⟩; rw [hg] at hl; cases hl
 have hinv : ∀ o' g' l,C0 mu o g ⟨w.heap.size,base,st,cells.size,true⟩ o' g'=some l→(o'=o∧g'=g∧l=⟨w.heap.size,base,st,cells.size,true⟩)∨mu o' g'=some l:=by
  intro o' g' l hl
  unfold C0 at hl
  split at hl
  ·rename_i hh; cases hl; exact .inl ⟨hh.1,hh.2,rfl⟩
  ·exact .inr hl
 have hlive : ∀ o' x,upd h o (some (.rows g st rs)) o'=some x→(o'=o∧x=.rows g st rs)∨(o'≠o∧h o'=some x):=by
  intro o' x hx
  unfold upd at hx
  split at hx
  ·cases hx; exact .inl ⟨‹_›,rfl⟩
  ·exact .inr ⟨‹_›,hx⟩
 have hlt : ∀ {o' g' l},mu o' g'=some l→l.b<w.heap.size:=fun hl=>(s.muOk _ _ _ hl).2.1
 have hM : ∀ b,b<w.heap.size→¬ Ci h mu b→¬ Ci (upd h o (some (.rows g st rs))) (C0 mu o g ⟨w.heap.size,base,st,cells.size,true⟩) b:=by
  rintro b hb hn ⟨o',x,l,hx,hl,rfl⟩
  rcases hinv _ _ _ hl with⟨_,_,rfl⟩ | hl'
  ·simp at hb
  ·rcases hlive _ _ hx with⟨rfl,rfl⟩ | ⟨_,hx'⟩
   ·simp only [AO.gen] at hl'; rw [hg] at hl'; cases hl'
   ·exact hn ⟨o',x,l,hx',hl',rfl⟩
 have ext:Da h mu w (upd h o (some (.rows g st rs))) (C0 mu o g ⟨w.heap.size,base,st,cells.size,true⟩) (w.alloc (.cells cells e f)):=
  ⟨rfl,rfl,rfl,by rw [Eb]; omega,fun b hb hn=>⟨Cy hb,hM b hb hn⟩,hmu⟩
 refine⟨⟨?_,?_,?_,?_,?_,?_,?_,s.globE ext,fun o' g' x hx=>by
  rcases hlive _ _ hx with⟨rfl,hx'⟩ | ⟨hne,hx'⟩
  ·cases hx'
  ·obtain⟨l,h1,h2,h3⟩:=s.blks _ _ _ hx'
   exact⟨l,hmu _ _ _ h1,h2,by rw [Cy (hlt h1)]; exact h3⟩⟩,ext⟩
 ·rw [Eb]; exact Nat.le_succ_of_le s.base
 ·intro o' g' l hl
  rcases hinv _ _ _ hl with⟨_,_,rfl⟩ | hl'
  ·refine⟨s.base,by rw [Eb]; simp,fun _=>⟨cells,e,f,My,rfl,hf⟩⟩
  ·obtain⟨h1,h2,h3⟩:=s.muOk _ _ _ hl'
   refine⟨h1,by rw [Eb]; omega,fun hcc=>?_⟩
   rw [Cy h2]; exact h3 hcc
 ·obtain⟨N,hN⟩:=s.fin
  refine⟨max N (g+1),fun o' g' hle=>?_⟩
  unfold C0
  rw [if_neg (by omega)]
  exact hN _ _ (by omega)
 ·obtain⟨N,hN⟩:=s.finh
  refine⟨max N (o+1),fun o' hle=>?_⟩
  unfold upd
  rw [if_neg (by omega)]
  exact hN _ (by omega)
 ·intro o' g' st' rs' hx
  rcases hlive _ _ hx with⟨rfl,hx'⟩ | ⟨hne,hx'⟩
  ·cases hx'
   refine⟨⟨w.heap.size,base,st,cells.size,true⟩,by simp [C0],rfl,rfl,hb,hr,fun i j hi hj=>?_⟩
   obtain⟨c,hc1,hc2⟩:=hc i j hi hj
   refine⟨c,?_,hc2.ext ext⟩
   unfold World.cell?
   rw [My]; simpa using hc1
  ·obtain⟨l,h1,h2,h3,h4,h5,h6⟩:=s.rows _ _ _ _ hx'
   refine⟨l,hmu _ _ _ h1,h2,h3,h4,h5,fun i j hi hj=>?_⟩
   obtain⟨c,hc1,hc2⟩:=h6 i j hi hj
   refine⟨c,?_,hc2.ext ext⟩
   rw [cell?_of_heap (w:=w) (a:=⟨l.b,l.base+i * st'+j,none⟩) (Cy (hlt h1))]; exact hc1
 ·intro o' g' es hx
  rcases hlive _ _ hx with⟨rfl,hx'⟩ | ⟨hne,hx'⟩
  ·cases hx'
  ·obtain⟨l,h1,h2,ens,clock,h3,h4,h5⟩:=s.maps _ _ _ hx'
   exact⟨l,hmu _ _ _ h1,h2,ens,clock,by rw [Cy (hlt h1)]; exact h3,h4,fun i hi=>⟨(h5 i hi).1.ext ext,(h5 i hi).2.ext ext⟩⟩
 ·intro o1 o2 x1 x2 l1 l2 hx1 hx2 hl1 hl2 hbb
  rcases hlive _ _ hx1 with⟨rfl,rfl⟩ | ⟨hne1,hx1'⟩ <;> rcases hlive _ _ hx2 with⟨rfl,rfl⟩ | ⟨hne2,hx2'⟩
  ·rfl
  ·rcases hinv _ _ _ hl1 with⟨_,_,rfl⟩ | hl1'
   ·rcases hinv _ _ _ hl2 with⟨e2,_,_⟩ | hl2'
    ·exact e2.symm
    ·have:=hlt hl2'; simp at hbb; omega
   ·simp only [AO.gen] at hl1'; rw [hg] at hl1'; cases hl1'
  ·rcases hinv _ _ _ hl2 with⟨_,_,rfl⟩ | hl2'
   ·rcases hinv _ _ _ hl1 with⟨e2,_,_⟩ | hl1'
    ·exact e2
    ·have:=hlt hl1'; simp at hbb; omega
   ·simp only [AO.gen] at hl2'; rw [hg] at hl2'; cases hl2'
  ·rcases hinv _ _ _ hl1 with⟨e1,_,_⟩ | hl1'
   ·exact absurd e1 hne1
   ·rcases hinv _ _ _ hl2 with⟨e2,_,_⟩ | hl2'
    ·exact absurd e2 hne2
    ·exact s.inj _ _ _ _ _ _ hx1' hx2' hl1' hl2' hbb
theorem Sim.push {P:Program}[GW P]{B:Base P}{mu:Mu}{h:Ab}{w:World}(s:Sim B mu h w){o g st base:Nat}{rs:List (List AV)}{cells:Array Value}{e:TypeId}
  (hg:mu o g=none) (hb:base+rs.length * st≤cells.size) (hr : ∀ r ∈ rs,Cm st r)
  (hc : ∀ i j,i<rs.length→j<st → ∃ c,cells[base+i * st+j]? = some c∧RV h mu w (cell rs i j) c) :
  Sim B (C0 mu o g ⟨w.heap.size,base,st,cells.size,true⟩) (upd h o (some (.rows g st rs))) (w.alloc (.cells cells e)) ∧
  Da h mu w (upd h o (some (.rows g st rs))) (C0 mu o g ⟨w.heap.size,base,st,cells.size,true⟩) (w.alloc (.cells cells e)):=
 Sim.pushF (f:=(0,0)) s (fun i _ hh=>by simp at hh) hg hb hr hc
theorem Sim.junk {P:Program}[GW P]{B:Base P}{mu:Mu}{h:Ab}{w:World}(s:Sim B mu h w)(x:Obj):Sim B mu h (w.alloc x)∧Da h mu w h mu (w.alloc x):=by
 have ext:Da h mu w h mu (w.alloc x):=⟨rfl,rfl,rfl,by rw [Eb]; omega,fun b hb hn=>⟨Cy hb,hn⟩,fun _ _ _ h=>h⟩
 have hlt : ∀ {o' g' l},mu o' g'=some l→l.b<w.heap.size:=fun hl=>(s.muOk _ _ _ hl).2.1
 refine⟨⟨by rw [Eb]; exact Nat.le_succ_of_le s.base,fun o g l hl=>?_,s.fin,s.finh,fun o g st rs hx=>?_,fun o g es hx=>?_,s.inj,s.globE ext,fun o g x hx=>let ⟨l,h1,h2,h3⟩:=s.blks _ _ _ hx; ⟨l,h1,h2,by rw [Cy (hlt h1)]; exact h3⟩⟩,ext⟩
 ·obtain⟨h1,h2,h3⟩:=s.muOk _ _ _ hl
  refine⟨h1,by rw [Eb]; omega,fun hcc=>?_⟩
  rw [Cy h2]; exact h3 hcc
 ·obtain⟨l,h1,h2,h3,h4,h5,h6⟩:=s.rows _ _ _ _ hx
  refine⟨l,h1,h2,h3,h4,h5,fun i j hi hj=>?_⟩
  obtain⟨c,hc1,hc2⟩:=h6 i j hi hj
  refine⟨c,?_,hc2.ext ext⟩
  rw [cell?_of_heap (w:=w) (a:=⟨l.b,l.base+i * st+j,none⟩) (Cy (hlt h1))]; exact hc1
 ·obtain⟨l,h1,h2,ens,clock,h3,h4,h5⟩:=s.maps _ _ _ hx
  exact⟨l,h1,h2,ens,clock,by rw [Cy (hlt h1)]; exact h3,h4,fun i hi=>⟨(h5 i hi).1.ext ext,(h5 i hi).2.ext ext⟩⟩
end Go.Am
namespace Go.Am
open Go
theorem Ahq {mu:Mu}{o g:Nat}{l:Loc}(h:mu o g=some l):C0 mu o g l=mu:=by
 funext o' g'
 unfold C0
 split
 ·rename_i hh; rw [hh.1,hh.2,h]
 ·rfl
theorem Sim.fresh {P:Program}[GW P]{B:Base P}{mu:Mu}{h:Ab}{w:World}(s:Sim B mu h w)(o:Nat) : ∃ g,mu o g=none:=
 let ⟨N,hN⟩:=s.fin; ⟨N,hN o N (Nat.le_refl _)⟩
theorem Sim.same_heap {P:Program}[GW P]{B:Base P}{mu:Mu}{h:Ab}{w w':World}(s:Sim B mu h w)(hh:w'.heap=w.heap)(h1:w'.os=w.os)(h2:w'.tape=w.tape)(h3:w'.output=w.output) :
  Sim B mu h w'∧Da h mu w h mu w':=by
 have ext:Da h mu w h mu w':=⟨h1,h2,h3,by rw [hh]; exact Nat.le_refl _,fun b _ hb=>⟨by rw [hh],hb⟩,fun _ _ _ h=>h⟩
 have hcell : ∀ a,w'.cell? a=w.cell? a:=fun a=>by unfold World.cell?; rw [hh]
 refine⟨⟨by rw [hh]; exact s.base,fun o g l hl=>by rw [hh]; exact s.muOk o g l hl,s.fin,s.finh,?_,?_,s.inj,s.globE ext,fun o g x hx=>let ⟨l,h1,h2,h3⟩:=s.blks o g x hx; ⟨l,h1,h2,by rw [hh]; exact h3⟩⟩,ext⟩
 ·intro o g st rs hx
  obtain⟨l,h1,h2,h3,h4,h5,h6⟩:=s.rows o g st rs hx
  exact⟨l,h1,h2,h3,h4,h5,fun i j hi hj=>let ⟨c,hc,hr⟩:=h6 i j hi hj; ⟨c,by rw [hcell]; exact hc,hr.ext ext⟩⟩
 ·intro o g es hx
  obtain⟨l,h1,h2,ens,clock,h3,h4,h5⟩:=s.maps o g es hx
  exact⟨l,h1,h2,ens,clock,by rw [hh]; exact h3,h4,fun i hi=>⟨(h5 i hi).1.ext ext,(h5 i hi).2.ext ext⟩⟩
theorem Sim.drew {P:Program}[GW P]{B:Base P}{mu:Mu}{h:Ab}{w:World}(s:Sim B mu h w):Sim B mu h w.drew∧Da h mu w h mu w.drew:=
 s.same_heap rfl rfl rfl rfl
theorem Sim.put {P:Program}[GW P]{B:Base P}{mu:Mu}{h:Ab}{w w':World}(s:Sim B mu h w){o g st:Nat}{rs rs':List (List AV)}{l l':Loc}{cells':Array Value}{e:TypeId}{f:Nat×Nat}{g':Nat}
  (hx:h o=some (.rows g st rs)) (hl:mu o g=some l)
  (hos:w'.os=w.os) (htape:w'.tape=w.tape) (hout:w'.output=w.output) (hsize:w'.heap.size=w.heap.size)
  (hother : ∀ b,b≠l.b→w'.heap[b]? = w.heap[b]?) (hblk:w'.heap[l.b]? = some (.cells cells' e f)) (hcs:cells'.size=l.size) (hunf:Ri f l.size)
  (hg':(g'=g∧l'=l)∨mu o g'=none) (hb':l'.b=l.b) (hs':l'.size=l.size) (hc':l'.cells=true)
  (hfit:l'.base+rs'.length * l'.st≤l.size) (hr' : ∀ r ∈ rs',Cm l'.st r)
  (hc : ∀ i j,i<rs'.length→j<l'.st → ∃ c,cells'[l'.base+i * l'.st+j]? = some c∧RV h mu w (cell rs' i j) c) :
  Sim B (C0 mu o g' l') (upd h o (some (.rows g' l'.st rs'))) w'∧Da h mu w (upd h o (some (.rows g' l'.st rs'))) (C0 mu o g' l') w':=by
 have hmu : ∀ o1 g1 l1,mu o1 g1=some l1→C0 mu o g' l' o1 g1=some l1:=by
  intro o1 g1 l1 h1
  unfold C0
  split
  ·rename_i hh
   obtain⟨rfl,rfl⟩:=hh
   rcases hg' with⟨rfl,rfl⟩ | hn
   ·rw [hl] at h1; exact h1
   ·rw [hn] at h1; cases h1
  ·exact h1
 have hinv : ∀ o1 g1 l1,C0 mu o g' l' o1 g1=some l1→(o1=o∧g1=g'∧l1=l')∨mu o1 g1=some l1:=by
  intro o1 g1 l1 h1
  unfold C0 at h1
  split at h1
  ·rename_i hh; cases h1; exact .inl ⟨hh.1,hh.2,rfl⟩
  ·exact .inr h1
 have hlive : ∀ o1 x,upd h o (some (.rows g' l'.st rs')) o1=some x→(o1=o∧x=.rows g' l'.st rs')∨(o1≠o∧h o1=some x):=by
  intro o1 x h1
  unfold upd at h1
  split at h1
  ·cases h1; exact .inl ⟨‹_›,rfl⟩
  ·exact .inr ⟨‹_›,h1⟩
 have hMl:Ci h mu l.b:=⟨o,_,l,hx,hl,rfl⟩
 have hM : ∀ b,¬ Ci h mu b→¬ Ci (upd h o (some (.rows g' l'.st rs'))) (C0 mu o g' l') b:=by
  rintro b hn ⟨o1,x,l1,h1,h2,rfl⟩
  rcases hinv _ _ _ h2 with⟨_,_,rfl⟩ | h2'
  ·rw [hb'] at hn; exact hn hMl
  ·rcases hlive _ _ h1 with⟨rfl,rfl⟩ | ⟨_,h1'⟩
   ·simp only [AO.gen] at h2'
    rcases hg' with⟨rfl,rfl⟩ | hn'
    ·exact hn ⟨_,_,_,hx,h2',rfl⟩
    ·rw [hn'] at h2'; cases h2'
   ·exact hn ⟨_,_,_,h1',h2',rfl⟩
 have ext:Da h mu w (upd h o (some (.rows g' l'.st rs'))) (C0 mu o g' l') w':=
  ⟨hos,htape,hout,by rw [hsize]; exact Nat.le_refl _,fun b _ hb=>⟨hother b (fun e=>hb (e ▸ hMl)),hM b hb⟩,hmu⟩
 have hnb : ∀ {o1 x l1},o1≠o→h o1=some x→mu o1 x.gen=some l1→l1.b≠l.b:=fun hne h1 h2 hb=>hne (s.inj _ _ _ _ _ _ h1 hx h2 hl hb)
 refine⟨⟨by rw [hsize]; exact s.base,?_,?_,?_,?_,?_,?_,s.globE ext,fun o1 g1 x h1=>by
  rcases hlive _ _ h1 with⟨rfl,h1'⟩ | ⟨hne,h1'⟩
  ·cases h1'
  ·obtain⟨l1,k1,k2,k3⟩:=s.blks _ _ _ h1'
   exact⟨l1,hmu _ _ _ k1,k2,by rw [hother _ (hnb hne h1' k1)]; exact k3⟩⟩,ext⟩
 ·have key : ∀ o1 g1 l1,mu o1 g1=some l1→B.n≤l1.b∧l1.b<w'.heap.size∧(l1.cells=true → ∃ cells e f,w'.heap[l1.b]? = some (.cells cells e f)∧cells.size=l1.size∧Ri f l1.size):=by
   intro o1 g1 l1 h1
   obtain⟨k1,k2,k3⟩:=s.muOk _ _ _ h1
   refine⟨k1,by rw [hsize]; exact k2,fun hcc=>?_⟩
   by_cases hbb:l1.b=l.b
   ·obtain⟨c1,e1,f1,q1,q2,q3⟩:=k3 hcc
    obtain⟨_,_,k3'⟩:=s.muOk _ _ _ hl
    have hlc:l.cells=true:=by
     obtain⟨l0,z1,z2,_⟩:=s.rows _ _ _ _ hx
     rw [hl] at z1; cases z1; exact z2
    obtain⟨c2,e2,f2,q1',q2',q3'⟩:=k3' hlc
    rw [hbb,q1'] at q1; cases q1
    have hss:l1.size=l.size:=by rw [← q2,← q2']
    rw [hbb]
    exact⟨cells',e,f,hblk,by rw [hss]; exact hcs,by rw [hss]; exact hunf⟩
   ·rw [hother _ hbb]; exact k3 hcc
  intro o1 g1 l1 h1
  rcases hinv _ _ _ h1 with⟨_,_,rfl⟩ | h1'
  ·obtain⟨k1,k2,_⟩:=s.muOk _ _ _ hl
   exact⟨by rw [hb']; exact k1,by rw [hb',hsize]; exact k2,fun _=>⟨cells',e,f,by rw [hb']; exact hblk,by rw [hs']; exact hcs,by rw [hs']; exact hunf⟩⟩
  ·exact key _ _ _ h1'
 ·obtain⟨N,hN⟩:=s.fin
  refine⟨max N (g'+1),fun o1 g1 hle=>?_⟩
  unfold C0
  rw [if_neg (by omega)]
  exact hN _ _ (by omega)
 ·obtain⟨N,hN⟩:=s.finh
  refine⟨max N (o+1),fun o' hle=>?_⟩
  unfold upd
  rw [if_neg (by omega)]
  exact hN _ (by omega)
 ·intro o1 g1 st1 rs1 h1
  rcases hlive _ _ h1 with⟨rfl,h1'⟩ | ⟨hne,h1'⟩
  ·cases h1'
   refine⟨l',by simp [C0],hc',rfl,by rw [hs']; exact hfit,hr',fun i j hi hj=>?_⟩
   obtain⟨c,hc1,hc2⟩:=hc i j hi hj
   refine⟨c,?_,hc2.ext ext⟩
   unfold World.cell?
   rw [hb',hblk]; simpa using hc1
  ·obtain⟨l1,k1,k2,k3,k4,k5,k6⟩:=s.rows _ _ _ _ h1'
   refine⟨l1,hmu _ _ _ k1,k2,k3,k4,k5,fun i j hi hj=>?_⟩
   obtain⟨c,hc1,hc2⟩:=k6 i j hi hj
   refine⟨c,?_,hc2.ext ext⟩
   rw [cell?_of_heap (w:=w) (w':=w') (a:=⟨l1.b,l1.base+i * st1+j,none⟩) (hother _ (hnb hne h1' k1))]; exact hc1
 ·intro o1 g1 es h1
  rcases hlive _ _ h1 with⟨rfl,h1'⟩ | ⟨hne,h1'⟩
  ·cases h1'
  ·obtain⟨l1,k1,k2,ens,clock,k3,k4,k5⟩:=s.maps _ _ _ h1'
   exact⟨l1,hmu _ _ _ k1,k2,ens,clock,by rw [hother _ (hnb hne h1' k1)]; exact k3,k4,fun i hi=>⟨(k5 i hi).1.ext ext,(k5 i hi).2.ext ext⟩⟩
 ·intro o1 o2 x1 x2 l1 l2 h1 h2 q1 q2 hbb
  have side : ∀ {o1 x1 l1},upd h o (some (.rows g' l'.st rs')) o1=some x1→C0 mu o g' l' o1 x1.gen=some l1→(o1=o∧l1.b=l.b)∨(o1≠o∧h o1=some x1∧mu o1 x1.gen=some l1):=by
   intro o1 x1 l1 h1 q1
   rcases hlive _ _ h1 with⟨rfl,rfl⟩ | ⟨hne,h1'⟩
   ·refine .inl ⟨rfl,?_⟩
    simp only [AO.gen,C0,and_self,if_true,Option.some.injEq] at q1
    rw [← q1,hb']
   ·rcases hinv _ _ _ q1 with⟨e1,_,_⟩ | q1'
    ·exact absurd e1 hne
    ·exact .inr ⟨hne,h1',q1'⟩
  rcases side h1 q1 with⟨rfl,e1⟩ | ⟨n1,a1,b1⟩ <;> rcases side h2 q2 with⟨rfl,e2⟩ | ⟨n2,a2,b2⟩
  ·rfl
  ·exact absurd (by rw [← hbb,e1]) (hnb n2 a2 b2)
  ·exact absurd (by rw [hbb,e2]) (hnb n1 a1 b1)
  ·exact s.inj _ _ _ _ _ _ a1 a2 b1 b2 hbb
theorem Rv.one {w:World}{mu:Mu}{M:Nat→Prop}{v:AV}{c:Value}(h:Rv w mu M v c)(hf:v.flat=true):c.oneCell'=true:=by
 cases h <;> first | rfl | (simp [AV.flat] at hf)
theorem Id (b o n:Nat):(⟨b,o,none⟩:Addr).add n=⟨b,o+n,none⟩:=by unfold Addr.add; split <;> simp_all
theorem Iu (b:Nat) : ∀ (vs:List Value) (o:Nat) (w:World) (cells:Array Value) (e:TypeId) (f:Nat×Nat),w.heap[b]? = some (.cells cells e f)→o+vs.length≤cells.size →
  ∃ cells',(w.setCells b o vs).heap[b]? = some (.cells cells' e f)∧cells'.size=cells.size∧(∀ j,j<vs.length→cells'[o+j]? = vs[j]?)∧(∀ k,(k<o∨o+vs.length≤k)→cells'[k]? = cells[k]?) ∧
   (∀ k,k≠b→(w.setCells b o vs).heap[k]? = w.heap[k]?)∧(w.setCells b o vs).heap.size=w.heap.size∧(w.setCells b o vs).os=w.os∧(w.setCells b o vs).tape=w.tape∧(w.setCells b o vs).output=w.output
 | [],o,w,cells,e,f,h,_=>⟨cells,h,rfl,fun _ h=>by simp at h,fun _ _=>rfl,fun _ _=>rfl,rfl,rfl,rfl,rfl⟩
 | v::r,o,w,cells,e,f,h,hle=>by
  have h1:(w.setCell ⟨b,o,none⟩ v).heap[b]? = some (.cells (cells.setIfInBounds o v) e f):=by
   simp [World.setCell,Array.getElem?_modify,h]
  simp only [List.length_cons] at hle
  obtain⟨cells',k1,k2,k3,k4,k5,k6,k7,k8,k9⟩:=Iu b r (o+1) (w.setCell ⟨b,o,none⟩ v) _ e f h1 (by simp; omega)
  refine⟨cells',k1,by simpa using k2,?_,?_,?_,by rw [World.setCells,k6]; simp,k7,k8,k9⟩
  ·intro j hj
   cases j with
   | zero=>rw [Nat.add_zero,k4 o (Or.inl (by omega))]; simp [show o<cells.size by omega]
   | succ j=>rw [show o+(j+1)=o+1+j by omega,k3 j (by simpa using hj)]; simp
  ·intro k hk
   simp only [List.length_cons] at hk
   rw [k4 k (by omega),Array.getElem?_setIfInBounds_ne (by omega)]
  ·intro k hk
   rw [World.setCells,k5 k hk]
   exact Go.RowKit.Below.heap_setCell _ _ _ _ hk
theorem Below.ext {P:Program}[GW P]{h:Ab}{mu:Mu}{w w':World}{B:Base P}(s:Sim B mu h w)(k:Go.RowKit.Below w.heap.size w w'):Sim B mu h w'∧Da h mu w h mu w':=by
 have ext:Da h mu w h mu w':=⟨k.os,k.tape,k.output,k.size,fun b hb hm=>⟨k.block b hb,hm⟩,fun _ _ _ h=>h⟩
 refine⟨⟨Nat.le_trans s.base k.size,fun o g l hl=>?_,s.fin,s.finh,fun o g st rs hx=>?_,fun o g es hx=>?_,s.inj,s.globE ext,fun o g x hx=>let ⟨l,h1,h2,h3⟩:=s.blks o g x hx; ⟨l,h1,h2,by rw [k.block _ (s.muOk _ _ _ h1).2.1]; exact h3⟩⟩,ext⟩
 ·obtain⟨h1,h2,h3⟩:=s.muOk _ _ _ hl
  exact⟨h1,Nat.lt_of_lt_of_le h2 k.size,fun hcc=>by rw [k.block _ h2]; exact h3 hcc⟩
 ·obtain⟨l,h1,h2,h3,h4,h5,h6⟩:=s.rows _ _ _ _ hx
  refine⟨l,h1,h2,h3,h4,h5,fun i j hi hj=>?_⟩
  obtain⟨c,hc1,hc2⟩:=h6 i j hi hj
  refine⟨c,?_,hc2.ext ext⟩
  rw [cell?_of_heap (w:=w) (w':=w') (a:=⟨l.b,l.base+i * st+j,none⟩) (k.block _ (s.muOk _ _ _ h1).2.1)]; exact hc1
 ·obtain⟨l,h1,h2,ens,clock,h3,h4,h5⟩:=s.maps _ _ _ hx
  exact⟨l,h1,h2,ens,clock,by rw [k.block _ (s.muOk _ _ _ h1).2.1]; exact h3,h4,fun i hi=>⟨(h5 i hi).1.ext ext,(h5 i hi).2.ext ext⟩⟩
end Go.Am
namespace Go.Am
open Go
set_option linter.unusedSimpArgs false
set_option linter.unusedVariables false
set_option linter.unusedSectionVars false
def Vi:Value→Option AV
 | .bool b=>some (.bool b)
 | .int k n=>some (.int k n)
 | .string s=>some (.str s.data.toList)
 | .pointer none=>some .nilp
 | .pointer (some a)=>some (.gptr a)
 | .slice none 0 0=>some .emp
 | .map none=>some .mnil
 | .nilFunc=>some .nilf
 | .nilIface=>some .nili
 | .func fn ⟨[]⟩ ⟨[]⟩=>some (.func fn [] [])
 | _=>none
def P9:List Value→Option (List AV)
 | []=>some []
 | v::r=>match Vi v,P9 r with
  | some x,some l=>some (x::l)
  | _,_=>none
def Arg:Value→AV
 | .agg ⟨cs⟩=>match P9 cs with | some l=>.agg l | none=>.raw (.agg ⟨cs⟩)
 | .tuple ⟨cs⟩=>match P9 cs with | some l=>.tup l | none=>.raw (.tuple ⟨cs⟩)
 | .iface t v=>match Vi v with | some x=>.iface t x | none=>.raw (.iface t v)
 | v=>(Vi v).getD (.raw v)
section
variable {w:World} {mu:Mu} {M:Nat→Prop}
theorem X3 {v:Value}{x:AV}(h:Vi v=some x):Rv w mu M x v:=by
 unfold Vi at h
 split at h <;> cases h
 ·exact .bool _
 ·exact .int _ _
 ·rename_i s
  have:=Rv.str (w:=w) (mu:=mu) (M:=M) s.data.toList
  rwa [Lib.mk_data] at this
 ·exact .nilp
 ·exact .gptr _
 ·exact .emp _
 ·exact .mnil
 ·exact .nilf
 ·exact .nili
 ·exact .func _ [] [] [] [] rfl rfl (fun i hi=>by simp at hi) (fun i hi=>by simp at hi)
theorem Oa : ∀ {vs:List Value} {l:List AV},P9 vs=some l→l.length=vs.length ∧ ∀ i,i<l.length→Rv w mu M (l.getD i .und) (vs.getD i undef)
 | [],l,h=>by cases h; exact⟨rfl,fun i hi=>by simp at hi⟩
 | v::r,l,h=>by
  unfold P9 at h
  split at h
  ·rename_i x l' hx hl
   cases h
   obtain⟨h1,h2⟩:=Oa hl
   refine⟨by simp [h1],fun i hi=>?_⟩
   cases i with
   | zero=>simpa using X3 hx
   | succ i=>simpa using h2 i (by simpa using hi)
  ·cases h
def AV.nilx:AV→AV
 | .emp=>.snil
 | v=>v
theorem Alf {v:Value}{x:AV}(h:Vi v=some x):Rv w mu M x.nilx v:=by
 have h':=h
 unfold Vi at h
 split at h <;> cases h
 all_goals first | exact X3 h' | exact .snil
theorem Adw : ∀ {vs:List Value} {l:List AV},P9 vs=some l→(l.map AV.nilx).length=vs.length ∧ ∀ i,i<(l.map AV.nilx).length→Rv w mu M ((l.map AV.nilx).getD i .und) (vs.getD i undef)
 | [],l,h=>by cases h; exact⟨rfl,fun i hi=>by simp at hi⟩
 | v::r,l,h=>by
  unfold P9 at h
  split at h
  ·rename_i x l' hx hl
   cases h
   obtain⟨h1,h2⟩:=Adw hl
   refine⟨by simpa using h1,fun i hi=>?_⟩
   cases i with
   | zero=>simpa using Alf hx
   | succ i=>simpa using h2 i (by simpa using hi)
  ·cases h
theorem Apc {l:List AV}(h:l.all AV.flat=true):(l.map AV.nilx).all AV.flat=true:=by
 rw [List.all_eq_true] at h ⊢
 intro x hx
 obtain⟨y,hy,rfl⟩:=List.mem_map.1 hx
 have:=h y hy
 cases y <;> first | exact this | rfl
theorem Ati (v:Value):Rv w mu M (Arg v) v:=by
 unfold Arg
 split
 ·split
  ·rename_i h
   obtain⟨h1,h2⟩:=Oa (w:=w) (mu:=mu) (M:=M) h
   exact .agg _ _ h1 h2
  ·exact .raw _
 ·split
  ·rename_i h
   obtain⟨h1,h2⟩:=Oa (w:=w) (mu:=mu) (M:=M) h
   exact .tup _ _ h1 h2
  ·exact .raw _
 ·split
  ·rename_i h; exact .iface _ _ _ (X3 h)
  ·exact .raw _
 ·cases h:Vi v with
  | none=>simpa [h] using Rv.raw v
  | some x=>simpa [h] using X3 h
theorem Dh {α:Type}{l:List α}{i:Nat}{d x:α}(h:l[i]? = some x):l.getD i d=x:=by simp [List.getD,h]
theorem Rv.und:Rv w mu M .und undef:=.tup [] [] rfl (fun i hi=>by simp at hi)
theorem Aao {v:AV}{c:Value}(h:Rv w mu M v c)(hok:v.ok=true):v.cells.length=c.cells.size ∧ ∀ i,i<v.cells.length→Rv w mu M (v.cells.getD i .und) (c.cells.toList.getD i undef):=by
 have one : ∀ {v:AV} {c:Value},v.cells=[v]→c.cells = #[c]→Rv w mu M v c→v.cells.length=c.cells.size ∧ ∀ i,i<v.cells.length→Rv w mu M (v.cells.getD i .und) (c.cells.toList.getD i undef):=by
  intro v c h1 h2 h
  rw [h1,h2]
  refine⟨rfl,fun i hi=>?_⟩
  have:i=0:=by simpa using hi
  subst this
  simpa using h
 cases h with
 | agg cs vs hl h1=>exact⟨by simpa [AV.cells,Value.cells] using hl,by simpa [AV.cells,Value.cells] using h1⟩
 | raw v=>simp [AV.ok] at hok
 | any v=>simp [AV.ok] at hok
 | _=>exact one rfl rfl (by constructor <;> assumption)
end
inductive TK where
 | bool
 | int (k:IntKind)
 | str
 | ptr (e:TypeId)
 | sl (e:TypeId)
 | arr (n:Nat) (e:TypeId)
 | map (k e:TypeId)
 | st (fs:List (Nat×TypeId))
 | ifc
 | fn
 | oth
 deriving DecidableEq
def TK.of:TypeDesc→TK
 | .bool=>.bool
 | .int k=>.int k
 | .string=>.str
 | .pointer e=>.ptr e
 | .slice e=>.sl e
 | .array n e=>.arr n e
 | .map k e=>.map k e
 | .struct fs=>.st (fs.toList.map fun f=>(f.offset,f.type))
 | .interface _=>.ifc
 | .func _ _ _=>.fn
 | _=>.oth
def TK.agg:TK→Bool
 | .arr _ _=>true
 | .st _=>true
 | _=>false
structure TI where
 k:TK
 size:Nat
 bytes:Nat
 z:List AV
def Aj5:Value→Bool
 | .agg _=>true
 | _=>false
theorem Ak9 {v:Value}(h:Aj5 v=true):v=.agg v.cells:=by cases v <;> simp [Aj5] at h; rfl
def ti (P:Program)(t:TypeId):Option TI:=
 match P.underlying t,P.info? t with
 | some d,some i=>
  match i.zero with
  | some z=>match P9 z.cells.toList with
   | some l=>if l.length==i.size&&(((TK.of d).agg&&Aj5 z)||(!(TK.of d).agg&&z.oneCell')) then some ⟨TK.of d,i.size,i.bytes,l⟩ else none
   | none=>none
  | none=>none
 | _,_=>none
theorem Mp {P:Program}[GW P]{t:TypeId}{T:TI}(h:ti P t=some T) : ∃ d i z,P.underlying t=some d∧P.info? t=some i∧i.zero=some z∧P9 z.cells.toList=some T.z∧T.z.length=T.size ∧
  T.k=TK.of d∧T.size=i.size∧T.bytes=i.bytes∧(T.k.agg=false→z.oneCell'=true)∧(T.k.agg=true→z=.agg z.cells):=by
 unfold ti at h
 split at h
 ·rename_i d i hd hi
  split at h
  ·rename_i z hz
   split at h
   ·rename_i l hl
    split at h
    ·rename_i hc
     cases h
     simp only [Bool.and_eq_true,Bool.or_eq_true,beq_iff_eq,Bool.not_eq_true'] at hc
     obtain⟨hc1,hc2⟩:=hc
     refine⟨d,i,z,hd,hi,hz,hl,hc1,rfl,rfl,rfl,fun ha=>?_,fun ha=>?_⟩
     ·rcases hc2 with hc2 | hc2
      ·exact absurd hc2.1 (by rw [ha]; simp)
      ·exact hc2.2
     ·rcases hc2 with hc2 | hc2
      ·exact Ak9 hc2.2
      ·exact absurd hc2.1 (by rw [ha]; simp)
    ·cases h
   ·cases h
  ·cases h
 ·cases h
section
variable {P:Program} [GW P] {t:TypeId} {T:TI}
theorem El (h:ti P t=some T)(w:World):(sizeOf t).run P w=.ok T.size w:=by
 obtain⟨d,i,z,h1,h2,h3,h4,h5,h6,h7,h8,_⟩:=Mp h
 simp [sizeOf,typeInfo,h2,h7]
theorem Af9 (h:ti P t=some T)(w:World):(isAgg t).run P w=.ok T.k.agg w:=by
 obtain⟨d,i,z,h1,h2,h3,h4,h5,h6,h7,h8,_⟩:=Mp h
 rw [h6]
 simp only [isAgg,Sem.run_bind,run_underlying h1,Result.andThen_ok]
 cases d <;> simp [TK.of,TK.agg]
theorem Amq (h:ti P t=some T) : ∃ z,(∀ w,(zeroValue t).run P w=.ok z w)∧P9 z.cells.toList=some T.z∧(T.k.agg=false→z.oneCell'=true)∧(T.k.agg=true→z=.agg z.cells)∧T.z.length=T.size:=by
 obtain⟨d,i,z,h1,h2,h3,h4,h5,h6,h7,h8,h9,h10⟩:=Mp h
 exact⟨z,fun w=>by simp [zeroValue,typeInfo,h2,h3],h4,h9,h10,h5⟩
theorem Eh (h:ti P t=some T) : ∃ d,P.underlying t=some d∧T.k=TK.of d:=by
 obtain⟨d,i,z,h1,h2,h3,h4,h5,h6,h7,h8,_⟩:=Mp h
 exact⟨d,h1,h6⟩
theorem Fo {d:TypeDesc}{e:TypeId}(h:TK.sl e=TK.of d):d=.slice e:=by cases d <;> simp [TK.of] at h; rw [h]
theorem W2 {d:TypeDesc}{n:Nat}{e:TypeId}(h:TK.arr n e=TK.of d):d=.array n e:=by cases d <;> simp [TK.of] at h; rw [h.1,h.2]
theorem Ant {d:TypeDesc}{fs:List (Nat×TypeId)}(h:TK.st fs=TK.of d) : ∃ a,d=.struct a∧fs=a.toList.map fun f=>(f.offset,f.type):=by cases d <;> simp [TK.of] at h; exact⟨_,rfl,h⟩
theorem Y8 {d:TypeDesc}{n:TypeId}{e:TypeId}(h:TK.map n e=TK.of d):d=.map n e:=by cases d <;> simp [TK.of] at h; rw [h.1,h.2]
theorem Sd {d:TypeDesc}{k:IntKind}(h:TK.int k=TK.of d):d=.int k:=by cases d <;> simp [TK.of] at h; rw [h]
theorem Agu {d:TypeDesc}(h:TK.bool=TK.of d):d=.bool:=by cases d <;> simp [TK.of] at h; rfl
theorem Qf {d:TypeDesc}(h:TK.str=TK.of d):d=.string:=by cases d <;> simp [TK.of] at h; rfl
end
def Hh (row:List AV)(c n:Nat)(agg:Bool):Option AV:=
 if agg then(if c+n≤row.length then some (.agg ((row.drop c).take n)) else none)
 else(if c<row.length then some (row.getD c .und) else none)
section
variable {P:Program} [GW P] {w:World} {mu:Mu} {M:Nat→Prop}
theorem Aep {row:List AV}{b off c:Nat}{t:TypeId}{T:TI}{v:AV}(hrow : ∀ j,j<row.length → ∃ x,w.cell? ⟨b,off+j,none⟩=some x∧Rv w mu M (row.getD j .und) x)
  (hT:ti P t=some T) (h:Hh row c T.size T.k.agg=some v) : ∃ x,(loadVar t ⟨b,off+c,none⟩).run P w=.ok x w∧Rv w mu M v x:=by
 unfold Hh at h
 split at h
 ·rename_i hagg
  split at h
  ·rename_i hle
   cases h
   have hex : ∃ f:Nat→Value,∀ j,j<T.size→w.cell? ⟨b,off+c+j,none⟩=some (f j)∧Rv w mu M (row.getD (c+j) .und) (f j):=by
    refine⟨fun j=>((w.cell? ⟨b,off+c+j,none⟩)).getD undef,fun j hj=>?_⟩
    obtain⟨x,hx1,hx2⟩:=hrow (c+j) (by omega)
    rw [← Nat.add_assoc] at hx1
    simp only [hx1,Option.getD_some]
    exact⟨trivial,hx2⟩
   obtain⟨f,hf⟩:=hex
   refine⟨.agg ((List.range T.size).map f).toArray,?_,?_⟩
   ·simp only [loadVar,Sem.run_bind,Af9 hT,Result.andThen_ok,hagg,if_true,El hT,Sem.run_pure]
    rw [run_loadCells w ⟨b,off+c,none⟩ T.size f (fun j hj=>by rw [Id]; exact(hf j hj).1)]
    rfl
   ·refine .agg _ _ (by simp; omega) (fun i hi=>?_)
    have hi':i<T.size:=by simp at hi; omega
    have:=(hf i hi').2
    rw [show(List.map f (List.range T.size)).getD i undef=f i by simp [List.getD,hi']]
    rw [show((row.drop c).take T.size).getD i .und=row.getD (c+i) .und by simp [List.getD,List.getElem?_take,hi',List.getElem?_drop]]
    exact this
  ·cases h
 ·rename_i hagg
  split at h
  ·rename_i hlt
   cases h
   obtain⟨x,hx1,hx2⟩:=hrow c hlt
   refine⟨x,?_,hx2⟩
   simp [loadVar,Af9 hT,hagg,hx1]
  ·cases h
theorem Ws {cs:List AV}{vs:List Value}{t:TypeId}{T:TI}{off:Nat}{v:AV}(hl:cs.length=vs.length)(hcs : ∀ i,i<cs.length→Rv w mu M (cs.getD i .und) (vs.getD i undef))
  (hT:ti P t=some T) (h:Hh cs off T.size T.k.agg=some v) : ∃ x,(part t vs.toArray off).run P w=.ok x w∧Rv w mu M v x:=by
 unfold Hh at h
 split at h
 ·rename_i hagg
  split at h
  ·rename_i hle
   cases h
   refine⟨.agg (vs.toArray.extract off (off+T.size)),?_,?_⟩
   ·simp [part,Af9 hT,hagg,El hT]
   ·have e:vs.toArray.extract off (off+T.size)=((vs.drop off).take T.size).toArray:=by
     apply Array.ext'
     simp [Array.toList_extract,List.extract_eq_take_drop]
    rw [e]
    refine .agg _ _ (by simp; omega) (fun i hi=>?_)
    have hi':i<T.size:=by simp at hi; omega
    rw [show((cs.drop off).take T.size).getD i .und=cs.getD (off+i) .und by simp [List.getD,List.getElem?_take,hi',List.getElem?_drop]]
    rw [show((vs.drop off).take T.size).getD i undef=vs.getD (off+i) undef by simp [List.getD,List.getElem?_take,hi',List.getElem?_drop]]
    exact hcs _ (by omega)
  ·cases h
 ·rename_i hagg
  split at h
  ·rename_i hlt
   cases h
   refine⟨vs.getD off undef,?_,hcs _ hlt⟩
   obtain⟨x,hx⟩ : ∃ x,vs[off]? = some x:=⟨_,List.getElem?_eq_getElem (show off<vs.length by omega)⟩
   rw [Dh hx]
   simp [part,Af9 hT,hagg,hx]
  ·cases h
end
end Go.Am
namespace Go.Am
open Go
set_option linter.unusedSimpArgs false
set_option linter.unusedVariables false
set_option linter.unusedSectionVars false
def Pq (P:Program)[GW P](h:Ab)(t:TypeId)(v:AV):Option AV:=
 match ti P t with
 | none=>none
 | some T=>match v with
  | .ptr o g r c=>match h o with
   | some (.rows g' _ rs)=>if g'=g∧r<rs.length then Hh (rs.getD r []) c T.size T.k.agg else none
   | _=>none
  | .cp row c=>Hh row c T.size T.k.agg
  | .gptr ⟨b,c,none⟩=>match GW.row P b with
   | some row=>Hh row c T.size T.k.agg
   | none=>none
  | _=>none
def Ld (P:Program)(s:TypeId)(v:AV)(f:Nat):Option AV:=
 match ti P s with
 | none=>none
 | some T=>match T.k with
  | .st fs=>match fs[f]? with
   | none=>none
   | some (off,ft)=>match ti P ft with
    | none=>none
    | some F=>if F.size=0 then none else match v with
     | .ptr o g r c=>some (.ptr o g r (c+off))
     | .cp row c=>some (.cp row (c+off))
     | _=>none
  | _=>none
def Af2 (P:Program)(s:TypeId)(v:AV)(f:Nat):Option AV:=
 match ti P s with
 | none=>none
 | some T=>match T.k with
  | .st fs=>match fs[f]? with
   | none=>none
   | some (off,ft)=>match ti P ft with
    | none=>none
    | some F=>match v with
     | .agg cs=>Hh cs off F.size F.k.agg
     | _=>none
  | _=>none
def Dl (P:Program)[GW P](h:Ab)(t:TypeId)(v i:AV):Option AV:=
 match ti P t with
 | none=>none
 | some T=>match i with
  | .int _ n=>match T.k with
   | .sl e=>match ti P e with
    | none=>none
    | some E=>match v with
     | .sl st rows=>if st=E.size∧0≤n∧n<rows.length then some (.cp (rows.getD n.toNat []) 0) else none
     | .ref o g off len=>match h o with
      | some (.rows g' st _)=>if g'=g∧st=E.size∧0≤n∧n<len then some (.ptr o g (off+n.toNat) 0) else none
      | _=>none
     | .refc o g r c len _=>if E.size=1∧0≤n∧n<len then some (.ptr o g r (c+n.toNat)) else none
     | _=>none
   | .arr m e=>match ti P e with
    | none=>none
    | some E=>if 0≤n∧n<m then(match v with
     | .ptr o g r c=>some (.ptr o g r (c+n.toNat * E.size))
     | .cp row c=>some (.cp row (c+n.toNat * E.size))
     | .gptr ⟨b,c,none⟩=>match GW.row P b with
      | some row=>some (.cp row (c+n.toNat * E.size))
      | none=>none
     | _=>none) else none
   | _=>none
  | _=>none
def Td (P:Program)(t:TypeId)(v i:AV):Option AV:=
 match ti P t with
 | none=>none
 | some T=>match i with
  | .int _ n=>match T.k,v with
   | .str,.str s=>if 0≤n∧n<s.length then some (.int .u8 ((s.getD n.toNat 0).toNat:Int)) else none
   | .arr m e,.agg cs=>match ti P e with
    | none=>none
    | some E=>if 0≤n∧n<m then Hh cs (n.toNat * E.size) E.size E.k.agg else none
   | _,_=>none
  | _=>none
def Jz (st:Nat):Nat→List AV→List (List AV)
 | 0,_=>[]
 | n+1,l=>l.take st::Jz st n (l.drop st)
def Ck (x:Option AV)(dflt y:Nat):Option Nat:=
 match x with
 | none=>some dflt
 | some (.int _ n)=>if 0≤n∧n≤y then some n.toNat else none
 | _=>none
def Et (P:Program)(h:Ab)(t:TypeId)(v:AV)(lo hi mx:Option AV):Option AV:=
 match ti P t with
 | none=>none
 | some T=>match T.k,v,mx with
  | .str,.str s,none=>match Ck hi s.length s.length with
   | none=>none
   | some b=>match Ck lo 0 b with
    | none=>none
    | some a=>some (.str ((s.drop a).take (b - a)))
  | .sl e,.sl st rows,none=>match ti P e with
   | none=>none
   | some E=>if st=E.size then(match Ck hi rows.length rows.length with
    | none=>none
    | some b=>match Ck lo 0 b with
     | none=>none
     | some a=>some (.sl st ((rows.drop a).take (b - a)))) else none
  | .sl e,.ref o g off len,none=>match ti P e with
   | none=>none
   | some E=>match Ck hi len len with
    | none=>none
    | some b=>match Ck lo 0 b with
     | none=>none
     | some a=>if a=b∧a≠0 then some (.sl E.size []) else match h o with
      | some (.rows g' st _)=>if g'=g∧st=E.size then some (.ref o g (off+a) (b - a)) else none
      | _=>none
  | .sl e,.emp,none=>match ti P e with
   | none=>none
   | some _=>match Ck hi 0 0 with
    | none=>none
    | some _=>match Ck lo 0 0 with
     | none=>none
     | some _=>some .emp
  | .sl e,.sl st rows,some m=>match ti P e,lo,hi,m with
   | some _,none,some (.int _ 0),.int _ 0=>some .emp
   | some _,some (.int _ 0),some (.int _ 0),.int _ 0=>some .emp
   | some E,lo,some (.int _ b),.int _ c=>if st=E.size∧0≤b∧b≤c∧c≤rows.length then(match Ck lo 0 b.toNat with
    | none=>none
    | some a=>some (if b=c then .slx st ((rows.drop a).take (b.toNat - a)) else .sl st ((rows.drop a).take (b.toNat - a)))) else none
   | _,_,_,_=>none
  | .sl e,.ref o g off len,some m=>match ti P e,lo,hi,m with
   | some _,none,some (.int _ 0),.int _ 0=>some .emp
   | some _,some (.int _ 0),some (.int _ 0),.int _ 0=>some .emp
   | _,_,_,_=>none
  | .sl e,.emp,some m=>match ti P e,lo,hi,m with
   | some _,none,some (.int _ 0),.int _ 0=>some .emp
   | some _,some (.int _ 0),some (.int _ 0),.int _ 0=>some .emp
   | _,_,_,_=>none
  | .arr n e,.cp row c,none=>match ti P e with
   | none=>none
   | some E=>if n≤Bt∧c+n * E.size≤row.length∧(row.all AV.flat)=true then(match Ck hi n n with
    | none=>none
    | some b=>match Ck lo 0 b with
     | none=>none
     | some a=>some (.sl E.size (Jz E.size (b - a) (row.drop (c+a * E.size))))) else none
  | .arr n e,.ptr o g r c,none=>match ti P e with
   | none=>none
   | some E=>match Ck hi n n with
    | none=>none
    | some b=>match Ck lo 0 b with
     | none=>none
     | some a=>match h o with
      | some (.rows g' st rs)=>if g'=g∧E.size=1∧n≤Bt∧r<rs.length∧c+n≤st∧(a=0∨a<n) then some (.refc o g r (c+a) (b - a) (n - a)) else none
      | _=>none
  | .sl e,.refc o g r c len cap,none=>match ti P e with
   | none=>none
   | some E=>match Ck hi len cap with
    | none=>none
    | some b=>match Ck lo 0 b with
     | none=>none
     | some a=>if E.size=1∧len≤cap∧(a=0∨a<cap) then some (.refc o g r (c+a) (b - a) (cap - a)) else none
  | _,_,_=>none
def Sl (P:Program)(h:Ab)(t:TypeId)(v:AV):Option AV:=
 match ti P t with
 | none=>none
 | some T=>match T.k,v with
  | .str,.str s=>some (.int .i64 s.length)
  | .arr n _,_=>some (.int .i64 n)
  | .sl _,.sl _ rows=>some (.int .i64 rows.length)
  | .sl _,.slx _ rows=>some (.int .i64 rows.length)
  | .sl _,.refc _ _ _ _ len _=>some (.int .i64 len)
  | .sl _,.emp=>some (.int .i64 0)
  | .sl _,.ref _ _ _ len=>some (.int .i64 len)
  | .map _ _,.mnil=>some (.int .i64 0)
  | .map _ _,.map o g=>match h o with
   | some (.mp g' es)=>if g'=g then some (.int .i64 es.length) else none
   | _=>none
  | _,_=>none
def Aed (P:Program)(t:TypeId)(v:AV):Option AV:=
 match ti P t with
 | none=>none
 | some T=>match T.k,v with
  | .sl _,.emp=>some (.int .i64 0)
  | .sl _,.slx _ rows=>some (.int .i64 rows.length)
  | .sl _,.refc _ _ _ _ _ cap=>some (.int .i64 cap)
  | _,_=>none
def Aaf (v:AV)(i:Nat):Option AV:=
 match v with
 | .tup vs=>if i<vs.length then some (vs.getD i .und) else none
 | _=>none
def aUn (op:UnOp)(v:AV):Option AV:=
 match op,v with
 | .not,.bool b=>some (.bool (!b))
 | .neg,.int k n=>some (.int k (k.wrap (0 - n)))
 | _,_=>none
def Od (P:Program)(rec:TypeId→AV→AV→Option Bool)(xs ys:List AV):List (Nat×TypeId)→Option Bool
 | []=>some true
 | (off,ft)::r=>match ti P ft with
  | none=>none
  | some F=>match Hh xs off F.size F.k.agg,Hh ys off F.size F.k.agg with
   | some a,some b=>match rec ft a b with
    | some true=>Od P rec xs ys r
    | some false=>some false
    | none=>none
   | _,_=>none
def Vt (P:Program)(t:TypeId)(x y:AV):Option Bool:=
 match ti P t with
 | none=>none
 | some T=>match T.k,x,y with
  | .bool,.bool a,.bool b=>some (a==b)
  | .int _,.int k a,.int k' b=>if k=k' then some (a==b) else none
  | .str,.str a,.str b=>some (a==b)
  | .ifc,.nili,.iface _ _=>some false
  | .ifc,.iface _ _,.nili=>some false
  | .ptr _,.nilp,.nilp=>some true
  | .fn,.func _ _ _,.nilf=>some false
  | .fn,.nilf,.func _ _ _=>some false
  | .fn,.nilf,.nilf=>some true
  | .ifc,.nili,.nili=>some true
  | .ptr _,.ptr _ _ _ _,.nilp=>some false
  | .ptr _,.cp _ _,.nilp=>some false
  | _,_,_=>none
def Abr (P : Program) (t : TypeId) : Bool := !P.stoodInHeld t && !P.eqGuardType P.depth t && (match P.underlying t with | some (.struct fs) => fs.all (fun f => f.name != "_") | some (.array _ _) => true | _ => false)
def Rc (P:Program)(rec:AV→AV→Option Bool)(c:Nat)(agg:Bool)(xs ys:List AV):List Nat→Option Bool
 | []=>some true
 | i::r=>match Hh xs (i * c) c agg,Hh ys (i * c) c agg with
  | some a,some b=>match rec a b with
   | some true=>Rc P rec c agg xs ys r
   | some false=>some false
   | none=>none
  | _,_=>none
def Rz (P:Program):Nat→TypeId→AV→AV→Option Bool
 | 0,_,_,_=>none
 | d+1,t,x,y=>match ti P t with
  | none=>none
  | some T=>match T.k,x,y with
   | .st fs,.agg xs,.agg ys=>if Abr P t then Od P (Rz P d) xs ys fs else none
   | .arr n e,.agg xs,.agg ys=>match ti P e with
    | none=>none
    | some E=>Rc P (Rz P d e) E.size E.k.agg xs ys (List.range n)
   | _,_,_=>Vt P t x y
def Ke (P:Program)(op:BinOp)(t:TypeId)(x y:AV):Option AV:=
 match op,x,y with
 | .add,.int k a,.int k' b=>if k=k' then some (.int k (k.wrap (a+b))) else none
 | .sub,.int k a,.int k' b=>if k=k' then some (.int k (k.wrap (a - b))) else none
 | .mul,.int k a,.int k' b=>if k=k' then some (.int k (k.wrap (a * b))) else none
 | .quo,.int k a,.int k' b=>if k=k'∧b≠0 then some (.int k (k.wrap (a.tdiv b))) else none
 | .rem,.int k a,.int k' b=>if k=k'∧b≠0 then some (.int k (a.tmod b)) else none
 | .shl,.int k a,.int _ b=>if 0≤b then some (.int k (k.wrap (a * 2 ^ (min b.toNat k.bits)))) else none
 | .shr,.int k a,.int _ b=>if 0≤b then some (.int k (a.fdiv (2 ^ (min b.toNat k.bits)))) else none
 | .and,.int k a,.int k' b=>if k=k' then some (.int k (k.wrap (BitVec.ofInt k.bits a &&& BitVec.ofInt k.bits b).toNat)) else none
 | .or,.int k a,.int k' b=>if k=k' then some (.int k (k.wrap (BitVec.ofInt k.bits a ||| BitVec.ofInt k.bits b).toNat)) else none
 | .xor,.int k a,.int k' b=>if k=k' then some (.int k (k.wrap (BitVec.ofInt k.bits a ^^^ BitVec.ofInt k.bits b).toNat)) else none
 | .lss,.int k a,.int k' b=>if k=k' then some (.bool (decide (a<b))) else none
 | .leq,.int k a,.int k' b=>if k=k' then some (.bool (decide (a≤b))) else none
 | .gtr,.int k a,.int k' b=>if k=k' then some (.bool (decide (a > b))) else none
 | .geq,.int k a,.int k' b=>if k=k' then some (.bool (decide (a≥b))) else none
 | .eql,.int k a,.int k' b=>if k=k' then some (.bool (a==b)) else none
 | .neq,.int k a,.int k' b=>if k=k' then some (.bool (a != b)) else none
 | .eql,.str a,.str b=>some (.bool (a==b))
 | .neq,.str a,.str b=>some (.bool (!(a==b)))
 | .lss,.str a,.str b=>some (.bool (Op.bytesLess a b))
 | .leq,.str a,.str b=>some (.bool (Op.bytesLess a b||a==b))
 | .gtr,.str a,.str b=>some (.bool (!(Op.bytesLess a b||a==b)))
 | .geq,.str a,.str b=>some (.bool (!(Op.bytesLess a b)))
 | .add,.str a,.str b=>if a.length+b.length≤9223372036854775807 then some (.str (a++b)) else none
 | .eql,.agg xs,.agg ys=>(Rz P 20 t (.agg xs) (.agg ys)).map .bool
 | .neq,.agg xs,.agg ys=>(Rz P 20 t (.agg xs) (.agg ys)).map fun b=>.bool (!b)
 | .eql,x,y=>(Vt P t x y).map .bool
 | .neq,x,y=>(Vt P t x y).map fun b=>.bool (!b)
 | _,_,_=>none
def S5:List (List AV)→Option (List UInt8)
 | []=>some []
 | [.int .u8 n]::r=>(S5 r).map (UInt8.ofNat n.toNat :: ·)
 | _::_=>none
def V7 (P:Program)(h:Ab)(src dst:TypeId)(x:AV):Option AV:=
 match ti P src,ti P dst with
 | some S,some D=>match S.k,D.k,x with
  | .int _,.int k,.int _ n=>some (.int k (k.wrap n))
  | .str,.str,.str s=>some (.str s)
  | .sl e,.str,.sl st rows=>match ti P e with
   | some E=>if E.k=.int .u8∧st=1 then(S5 rows).map .str else none
   | none=>none
  | .sl e,.str,.emp=>match ti P e with
   | some E=>if E.k=.int .u8 then some (.str []) else none
   | none=>none
  | .sl e,.str,.ref o g off len=>match ti P e,h o with
   | some E,some (.rows g' st rs)=>if E.k=.int .u8∧st=1∧g'=g∧off+len≤rs.length then(S5 ((rs.drop off).take len)).map .str else none
   | _,_=>none
  | _,_,_=>none
 | _,_=>none
def Afz (isMax:Bool)(k:IntKind):Int→List AV→Option AV
 | a,[]=>some (.int k a)
 | a,.int k' b::r=>if k'=k then Afz isMax k (if isMax then(if b > a then b else a) else(if b<a then b else a)) r else none
 | _,_=>none
def Acf (isMax:Bool):List AV→Option AV
 | .int k x::r=>Afz isMax k x r
 | _=>none
section
variable {P:Program} [GW P] {B:Base P} {h:Ab} {mu:Mu} {w:World}
theorem Sim.row {o g st r:Nat}{rs:List (List AV)}{l:Loc}(s:Sim B mu h w)(hx:h o=some (.rows g st rs))(hl:mu o g=some l)(hr:r<rs.length) :
  ∀ j,j<(rs.getD r []).length → ∃ x,w.cell? ⟨l.b,l.base+r * l.st+j,none⟩=some x∧RV h mu w ((rs.getD r []).getD j .und) x:=by
 obtain⟨l',h1,h2,h3,h4,h5,h6⟩:=s.rows _ _ _ _ hx
 rw [hl] at h1; cases h1
 intro j hj
 have hj':j<st:=by
  have:=(h5 _ (List.getElem_mem hr)).1
  simp only [List.getD,List.getElem?_eq_getElem hr,Option.getD_some] at hj
  omega
 rw [h3]
 exact h6 r j hr hj'
theorem Ae6 (s:Sim B mu h w){t:TypeId}{v x:AV}{c:Value}(hv:RV h mu w v c)(hx:Pq P h t v=some x) : ∃ y,(Instr.loadAt t c).run P w=.ok y w∧RV h mu w x y:=by
 unfold Pq at hx
 split at hx
 ·cases hx
 rename_i T hT
 split at hx
 ·rename_i o g r cc
  split at hx
  ·rename_i g' st rs hh
   split at hx
   ·rename_i hc
    obtain⟨rfl,hr⟩:=hc
    cases hv with
    | ptr _ _ _ _ l hl hcl=>
     obtain⟨y,hy1,hy2⟩:=Aep (b:=l.b) (off:=l.base+r * l.st) (s.row hh hl hr) hT hx
     exact⟨y,by simpa [Instr.loadAt,Instr.sureAddr] using hy1,hy2⟩
   ·cases hx
  ·cases hx
 ·rename_i row cc
  cases hv with
  | cp _ _ b off vs h1 h2 h3 h4=>
   obtain⟨y,hy1,hy2⟩:=Aep (b:=b) (off:=off) (fun j hj=>⟨vs j,h1 j hj,h2 j hj⟩) hT hx
   exact⟨y,by simpa [Instr.loadAt,Instr.sureAddr] using hy1,hy2⟩
 ·rename_i b cc
  split at hx
  ·rename_i row hrow
   cases hv with
   | gptr=>
    have hg:=s.grow (c:=cc) hrow
    generalize hq:(Value.pointer (some ⟨b,cc,none⟩))=q at hg
    cases hg with
    | cp _ _ b' off vs h1 h2 h3 h4=>
     obtain⟨y,hy1,hy2⟩:=Aep (b:=b') (off:=off) (fun j hj=>⟨vs j,h1 j hj,h2 j hj⟩) hT hx
     exact⟨y,by simpa [Instr.loadAt,Instr.sureAddr] using hy1,hy2⟩
  ·cases hx
 ·cases hx
theorem Ajh {P:Program}[GW P]{s:TypeId}{T:TI}{fs:List (Nat×TypeId)}{f off:Nat}{ft:TypeId}(hT:ti P s=some T)(hk:T.k=.st fs)(hf:fs[f]? = some (off,ft)) :
  ∃ a fd,P.underlying s=some (.struct a)∧a[f]? = some fd∧fd.offset=off∧fd.type=ft:=by
 obtain⟨d,h1,h2⟩:=Eh hT
 obtain⟨a,rfl,rfl⟩:=Ant (hk ▸ h2)
 rw [List.getElem?_map] at hf
 cases hq:a.toList[f]? with
 | none=>rw [hq] at hf; cases hf
 | some fd=>
  rw [hq] at hf
  simp only [Option.map_some,Option.some.injEq,Prod.mk.injEq] at hf
  exact⟨a,fd,h1,by simpa using hq,hf.1,hf.2⟩
theorem Af3 {t:TypeId}{v x:AV}{c:Value}{f:Nat}(hv:RV h mu w v c)(hx:Ld P t v f=some x) : ∃ y,(Instr.fieldAt t c f).run P w=.ok y w∧RV h mu w x y:=by
 unfold Ld at hx
 split at hx
 ·cases hx
 rename_i T hT
 split at hx
 ·rename_i fs hk
  split at hx
  ·cases hx
  rename_i off ft hf
  split at hx
  ·cases hx
  rename_i F hF
  obtain⟨a,fd,ha,hfd,rfl,rfl⟩:=Ajh hT hk hf
  split at hx
  ·cases hx
  rename_i hsz
  have run : ∀ b o,(Instr.fieldAt t (.pointer (some ⟨b,o,none⟩)) f).run P w=.ok (.pointer (some ⟨b,o+fd.offset,none⟩)) w:=by
   intro b o
   simp [Instr.fieldAt,run_underlying ha,hfd,Instr.sureAddr,fieldPlace,El hF,hsz,Id]
  split at hx
  ·cases hx
   cases hv with
   | ptr _ _ _ _ l hl hcl=>
    refine⟨_,run _ _,?_⟩
    rw [Nat.add_assoc]
    exact .ptr _ _ _ _ l hl hcl
  ·cases hx
   cases hv with
   | cp _ _ b off vs h1 h2 h3 h4=>
    refine⟨_,run _ _,?_⟩
    rw [Nat.add_assoc]
    exact .cp _ _ b off vs h1 h2 h3 h4
  ·cases hx
 ·cases hx
theorem Alg {t:TypeId}{v x:AV}{c:Value}{f:Nat}(hv:RV h mu w v c)(hx:Af2 P t v f=some x) : ∃ y,(Instr.field t c f).run P w=.ok y w∧RV h mu w x y:=by
 unfold Af2 at hx
 split at hx
 ·cases hx
 rename_i T hT
 split at hx
 ·rename_i fs hk
  split at hx
  ·cases hx
  rename_i off ft hf
  split at hx
  ·cases hx
  rename_i F hF
  obtain⟨a,fd,ha,hfd,rfl,rfl⟩:=Ajh hT hk hf
  split at hx
  ·cases hv with
   | agg cs vs hl h1=>
    obtain⟨y,hy1,hy2⟩:=Ws hl h1 hF hx
    exact⟨y,by simpa [Instr.field,run_underlying ha,hfd,asAgg] using hy1,hy2⟩
  ·cases hx
 ·cases hx
theorem Aez (s:Sim B mu h w){t:TypeId}{v i x:AV}{c ci:Value}(hv:RV h mu w v c)(hi:RV h mu w i ci)(hx:Dl P h t v i=some x) : ∃ y,(Instr.indexAt t c ci).run P w=.ok y w∧RV h mu w x y:=by
 unfold Dl at hx
 split at hx
 ·cases hx
 rename_i T hT
 split at hx
 ·rename_i k n
  cases hi
  obtain⟨d,hd,hk'⟩:=Eh hT
  split at hx
  ·rename_i e hk
   have:=Fo (hk ▸ hk'); subst this
   split at hx
   ·cases hx
   rename_i E hE
   split at hx
   ·rename_i st rows
    split at hx
    ·rename_i hc
     obtain⟨rfl,h0,h1⟩:=hc
     cases hx
     cases hv with
     | sl0 st a cap=>simp at h1; omega
     | sl _ _ b off cap vs hcap hlim g1 g2 hr g3 g4=>
      have hn:n.toNat<rows.length:=by omega
      have hlen:(rows.getD n.toNat []).length=E.size:=by
       simp only [List.getD,List.getElem?_eq_getElem hn,Option.getD_some]; exact(hr _ (List.getElem_mem hn)).1
      refine⟨.pointer (some ⟨b,off+n.toNat * E.size,none⟩),?_,?_⟩
      ·simp [Instr.indexAt,asIntOf,run_underlying hd,h0,h1,El hE,Id]
      ·have:=Rv.cp (w:=w) (mu:=mu) (M:=Ci h mu) (rows.getD n.toNat []) 0 b (off+n.toNat * E.size) (vs n.toNat)
        (fun j hj=>g1 _ j hn (by omega)) (fun j hj=>g2 _ j hn (by omega)) g3 g4
       simpa using this
    ·cases hx
   ·rename_i o g off len
    split at hx
    ·rename_i g' st rs hh
     split at hx
     ·rename_i hc
      obtain⟨rfl,rfl,h0,h1⟩:=hc
      cases hx
      cases hv with
      | ref _ _ _ _ cap l hl hcl hcap hlim hsz=>
       obtain⟨l',k1,k2,k3,_⟩:=s.rows _ _ _ _ hh
       rw [hl] at k1; cases k1
       refine⟨.pointer (some ⟨l.b,l.base+off * l.st+n.toNat * E.size,none⟩),?_,?_⟩
       ·simp [Instr.indexAt,asIntOf,run_underlying hd,h0,h1,El hE,Id]
       ·have:=Rv.ptr (w:=w) (M:=Ci h mu) o g' (off+n.toNat) 0 l hl hcl
        rw [Nat.add_mul,← Nat.add_assoc,k3] at this
        rw [k3]
        simpa using this
     ·cases hx
    ·cases hx
   ·rename_i o g r c len cap
    split at hx
    ·rename_i hc
     obtain⟨hs1,h0,h1⟩:=hc
     cases hx
     cases hv with
     | refc _ _ _ _ _ _ l hl hcl hcap hlim hsz=>
      refine⟨.pointer (some ⟨l.b,l.base+r * l.st+c+n.toNat,none⟩),?_,?_⟩
      ·simp [Instr.indexAt,asIntOf,run_underlying hd,h0,h1,El hE,Id,hs1]
      ·have:=Rv.ptr (w:=w) (M:=Ci h mu) o g r (c+n.toNat) l hl hcl
       rw [← Nat.add_assoc] at this
       exact this
    ·cases hx
   ·cases hx
  ·rename_i m e hk
   have:=W2 (hk ▸ hk'); subst this
   split at hx
   ·cases hx
   rename_i E hE
   split at hx
   ·rename_i hc
    obtain⟨h0,h1⟩:=hc
    have run : ∀ b o,(Instr.indexAt t (.pointer (some ⟨b,o,none⟩)) (.int k n)).run P w=.ok (.pointer (some ⟨b,o+n.toNat * E.size,none⟩)) w:=by
     intro b o
     simp [Instr.indexAt,asIntOf,run_underlying hd,h0,h1,El hE,Id,Instr.sureAddr]
    split at hx
    ·cases hx
     cases hv with
     | ptr _ _ _ _ l hl hcl=>
      refine⟨_,run _ _,?_⟩
      rw [Nat.add_assoc]
      exact .ptr _ _ _ _ l hl hcl
    ·cases hx
     cases hv with
     | cp _ _ b off vs h1 h2 h3 h4=>
      refine⟨_,run _ _,?_⟩
      rw [Nat.add_assoc]
      exact .cp _ _ b off vs h1 h2 h3 h4
    ·rename_i b cc
     split at hx
     ·rename_i row hrow
      cases hx
      cases hv with
      | gptr=>exact⟨_,run _ _,s.grow hrow⟩
     ·cases hx
    ·cases hx
   ·cases hx
  ·cases hx
 ·cases hx
theorem Ak0 {t:TypeId}{v i x:AV}{c ci:Value}(hv:RV h mu w v c)(hi:RV h mu w i ci)(hx:Td P t v i=some x) : ∃ y,(Instr.index t c ci).run P w=.ok y w∧RV h mu w x y:=by
 unfold Td at hx
 split at hx
 ·cases hx
 rename_i T hT
 split at hx
 ·rename_i k n
  cases hi
  obtain⟨d,hd,hk'⟩:=Eh hT
  split at hx
  ·rename_i s hk
   have:=Qf (hk ▸ hk'); subst this
   split at hx
   ·rename_i hc
    obtain⟨h0,h1⟩:=hc
    cases hx
    cases hv with
    | str _=>
     have hn:n.toNat<s.length:=by omega
     refine⟨.int .u8 ((s.getD n.toNat 0).toNat:Int),?_,.int _ _⟩
     have hb:(⟨s.toArray⟩:ByteArray)[n.toNat]? = some (s.getD n.toNat 0):=by
      rw [show(⟨s.toArray⟩:ByteArray)[n.toNat]? = s.toArray[n.toNat]? from rfl]
      simp [List.getD,List.getElem?_eq_getElem hn]
     simp [Instr.index,asIntOf,run_underlying hd,h0,hb]
   ·cases hx
  ·rename_i m e cs hk
   have:=W2 (hk ▸ hk'); subst this
   split at hx
   ·cases hx
   rename_i E hE
   split at hx
   ·rename_i hc
    obtain⟨h0,h1⟩:=hc
    cases hv with
    | agg _ vs hl g1=>
     obtain⟨y,hy1,hy2⟩:=Ws hl g1 hE hx
     exact⟨y,by simpa [Instr.index,asIntOf,run_underlying hd,h0,h1,El hE] using hy1,hy2⟩
   ·cases hx
  ·cases hx
 ·cases hx
theorem Aic {v x:AV}{c:Value}{i:Nat}(hv:RV h mu w v c)(hx:Aaf v i=some x) : ∃ y,(Instr.extract c i).run P w=.ok y w∧RV h mu w x y:=by
 unfold Aaf at hx
 split at hx
 ·split at hx
  ·rename_i hi
   cases hx
   cases hv with
   | tup cs vs hl h1=>
    refine⟨vs.getD i undef,?_,h1 i hi⟩
    obtain⟨y,hy⟩ : ∃ y,vs[i]? = some y:=⟨_,List.getElem?_eq_getElem (by omega)⟩
    rw [Dh hy]
    simp [Instr.extract,hy]
  ·cases hx
 ·cases hx
theorem Are {op:UnOp}{v x:AV}{c:Value}(hv:RV h mu w v c)(hx:aUn op v=some x) : ∃ y,(Op.unary op c).run P w=.ok y w∧RV h mu w x y:=by
 unfold aUn at hx
 split at hx
 ·cases hx; cases hv
  exact⟨_,rfl,.bool _⟩
 ·cases hx; cases hv
  exact⟨_,rfl,.int _ _⟩
 ·cases hx
theorem Ap1 {t ty:TypeId}{v x:AV}{c:Value}(hv:RV h mu w v c)(hx:Aed P t v=some x) : ∃ y,(Builtin.cap_ #[t] ty #[c]).run P w=.ok y w∧RV h mu w x y:=by
 unfold Aed at hx
 split at hx
 ·cases hx
 rename_i T hT
 obtain⟨d,hd,hk'⟩:=Eh hT
 split at hx
 ·rename_i e hk
  have:=Fo (hk ▸ hk'); subst this
  cases hx; cases hv
  exact⟨.int .i64 0,by simp [Builtin.cap_,run_underlying hd,goInt],.int _ _⟩
 ·rename_i e st rows hk
  have:=Fo (hk ▸ hk'); subst this
  cases hx
  cases hv with
  | slx0=>exact⟨.int .i64 0,by simp [Builtin.cap_,run_underlying hd,goInt],.int _ _⟩
  | slx=>exact⟨_,by simp [Builtin.cap_,run_underlying hd,goInt],.int _ _⟩
 ·rename_i e o g r c len cap hk
  have:=Fo (hk ▸ hk'); subst this
  cases hx; cases hv
  exact⟨.int .i64 cap,by simp [Builtin.cap_,run_underlying hd,goInt],.int _ _⟩
 ·cases hx
theorem Apz (s:Sim B mu h w){t ty:TypeId}{v x:AV}{c:Value}(hv:RV h mu w v c)(hx:Sl P h t v=some x) : ∃ y,(Builtin.len_ #[t] ty #[c]).run P w=.ok y w∧RV h mu w x y:=by
 unfold Sl at hx
 split at hx
 ·cases hx
 rename_i T hT
 obtain⟨d,hd,hk'⟩:=Eh hT
 split at hx
 ·rename_i s hk
  have:=Qf (hk ▸ hk'); subst this
  cases hx; cases hv
  refine⟨.int .i64 s.length,?_,.int _ _⟩
  have:(⟨s.toArray⟩:ByteArray).size=s.length:=by simp [Lib.size_eq]
  simp [Builtin.len_,run_underlying hd,goInt,this]
 ·rename_i n e hk
  have:=W2 (hk ▸ hk'); subst this
  cases hx
  exact⟨.int .i64 n,by simp [Builtin.len_,run_underlying hd,goInt],.int _ _⟩
 ·rename_i e st rows hk
  have:=Fo (hk ▸ hk'); subst this
  cases hx
  cases hv with
  | sl0=>exact⟨.int .i64 0,by simp [Builtin.len_,run_underlying hd,goInt],.int _ _⟩
  | sl=>exact⟨_,by simp [Builtin.len_,run_underlying hd,goInt],.int _ _⟩
 ·rename_i e st rows hk
  have:=Fo (hk ▸ hk'); subst this
  cases hx
  cases hv with
  | slx0=>exact⟨.int .i64 0,by simp [Builtin.len_,run_underlying hd,goInt],.int _ _⟩
  | slx=>exact⟨_,by simp [Builtin.len_,run_underlying hd,goInt],.int _ _⟩
 ·rename_i e o g r c len cap hk
  have:=Fo (hk ▸ hk'); subst this
  cases hx; cases hv
  exact⟨.int .i64 len,by simp [Builtin.len_,run_underlying hd,goInt],.int _ _⟩
 ·rename_i e hk
  have:=Fo (hk ▸ hk'); subst this
  cases hx; cases hv
  exact⟨.int .i64 0,by simp [Builtin.len_,run_underlying hd,goInt],.int _ _⟩
 ·rename_i e o g off len hk
  have:=Fo (hk ▸ hk'); subst this
  cases hx; cases hv
  exact⟨.int .i64 len,by simp [Builtin.len_,run_underlying hd,goInt],.int _ _⟩
 ·rename_i k e hk
  have:=Y8 (hk ▸ hk'); subst this
  cases hx; cases hv
  exact⟨.int .i64 0,by simp [Builtin.len_,run_underlying hd,goInt],.int _ _⟩
 ·rename_i k e o g hk
  have:=Y8 (hk ▸ hk'); subst this
  split at hx
  ·rename_i g' es hh
   split at hx
   ·rename_i hg
    subst hg
    cases hx
    cases hv with
    | map _ _ l hl hcl=>
     obtain⟨l',k1,k2,ens,clock,k3,k4,_⟩:=s.maps _ _ _ hh
     rw [hl] at k1; cases k1
     refine⟨.int .i64 es.length,?_,.int _ _⟩
     simp [Builtin.len_,run_underlying hd,goInt,getObj,Sem.run,k3,k4]
   ·cases hx
  ·cases hx
 ·cases hx
theorem Xg : ∀ {rows:List (List AV)} {l:List UInt8},S5 rows=some l → ∃ ns:List Int,rows=ns.map (fun n=>[AV.int .u8 n])∧l=ns.map fun n=>UInt8.ofNat n.toNat
 | [],l,hx=>by cases hx; exact⟨[],rfl,rfl⟩
 | r::rows,l,hx=>by
  unfold S5 at hx
  split at hx
  ·rename_i he; cases he
  ·rename_i n r' he
   cases he
   cases hq:S5 rows with
   | none=>rw [hq] at hx; cases hx
   | some l'=>
    rw [hq] at hx; cases hx
    obtain⟨ns,rfl,rfl⟩:=Xg hq
    exact⟨n::ns,rfl,rfl⟩
  ·cases hx
theorem Afk : ∀ (ns:List Int) (s:ByteArray),ns.foldl (fun r n=>r.push (UInt8.ofNat n.toNat)) s=⟨(s.data.toList++ns.map fun n=>UInt8.ofNat n.toNat).toArray⟩
 | [],s=>by cases s; simp
 | n::ns,s=>by
  rw [List.foldl_cons,Afk ns]
  cases s
  simp [ByteArray.push]
theorem V5 {src dst e:TypeId}{a:Option Addr}{l c:Nat}{ns:List Int}{d1:TypeDesc}(hs:P.underlying src=some (.slice e))(he:P.underlying e=some (.int .u8))(hd:P.underlying dst=some .string)
  (hn:ns.length=l) (hc : ∀ b off,a=some ⟨b,off,none⟩ → ∀ j,j<l→w.cell? ⟨b,off+j,none⟩=some (.int .u8 (ns.getD j 0))) (ha:l=0 ∨ ∃ b off,a=some ⟨b,off,none⟩) :
  (convert src dst (.slice a l c)).run P w=.ok (.string ⟨(ns.map fun n=>UInt8.ofNat n.toNat).toArray⟩) w:=by
 rw [run_convert_bytes_string w src dst e a l c hs he hd]
 cases a with
 | none=>
  rcases ha with rfl | ⟨b,off,h⟩
  ·have:ns=[]:=List.length_eq_zero_iff.1 hn
   subst this
   simp [Conv.bytesToString]; rfl
  ·cases h
 | some a=>
  have hl:(loadCells a l).run P w=.ok (ns.map (Value.int .u8)).toArray w:=by
   rw [run_loadCells w a l (fun j=>.int .u8 (ns.getD j 0)) (fun j hj=>?_)]
   ·congr 1
    apply Array.ext'
    simp only [List.toList_toArray]
    apply List.ext_getElem?
    intro j
    simp only [List.getElem?_map]
    by_cases hj:j<l
    ·have:j<ns.length:=by omega
     simp [hj,this,List.getD]
    ·have:¬ j<ns.length:=by omega
     rw [List.getElem?_eq_none (by simpa using hj),List.getElem?_eq_none (by omega)]; rfl
   ·rcases ha with rfl | ⟨b,off,h⟩
    ·omega
    ·cases h
     rw [Id]; exact hc b off rfl j hj
  rw [run_bytesToString w a l c ns hl,Afk]
  rfl
theorem Afc (s:Sim B mu h w){src dst:TypeId}{v x:AV}{c:Value}(hv:RV h mu w v c)(hx:V7 P h src dst v=some x) : ∃ y,(convert src dst c).run P w=.ok y w∧RV h mu w x y:=by
 unfold V7 at hx
 split at hx
 ·rename_i S D hS hD
  obtain⟨d1,hd1,hk1⟩:=Eh hS
  obtain⟨d2,hd2,hk2⟩:=Eh hD
  split at hx
  ·rename_i k1 k2 k n q1 q2
   have:=Sd (q1 ▸ hk1); subst this
   have:=Sd (q2 ▸ hk2); subst this
   cases hx; cases hv
   exact⟨_,by simp [convert,run_underlying hd1,run_underlying hd2,Conv.intToInt],.int _ _⟩
  ·rename_i s q1 q2
   have:=Qf (q1 ▸ hk1); subst this
   have:=Qf (q2 ▸ hk2); subst this
   cases hx; cases hv
   exact⟨_,by simp [convert,run_underlying hd1,run_underlying hd2],.str _⟩
  ·rename_i e st rows q1 q2
   have:=Fo (q1 ▸ hk1); subst this
   have:=Qf (q2 ▸ hk2); subst this
   split at hx
   ·rename_i E hE
    split at hx
    ·rename_i hc
     obtain⟨hc1,rfl⟩:=hc
     obtain⟨dE,hdE,hkE⟩:=Eh hE
     have:=Sd (hc1 ▸ hkE); subst this
     cases hq:S5 rows with
     | none=>rw [hq] at hx; cases hx
     | some l=>
      rw [hq] at hx; cases hx
      obtain⟨ns,rfl,rfl⟩:=Xg hq
      generalize hg:ns.map (fun n=>[AV.int .u8 n])=rows at hv
      cases hv with
      | sl0 _ a cap=>
       have:ns=[]:=by simpa using hg
       subst this
       exact⟨_,V5 (ns:=[]) (d1:=.bool) hd1 hdE hd2 rfl (fun _ _ _ j hj=>by omega) (.inl rfl),.str _⟩
      | sl _ _ b off cap vs hcap hlim h1 h2 hr h3 h4=>
       subst hg
       refine⟨_,V5 (ns:=ns) (d1:=.bool) hd1 hdE hd2 (by simp) (fun b' off' e j hj=>?_) (.inr ⟨b,off,rfl⟩),.str _⟩
       cases e
       have hj':j<ns.length:=by simpa using hj
       have e1:=h1 j 0 (by simpa using hj') (by omega)
       have e2:=h2 j 0 (by simpa using hj') (by omega)
       rw [Nat.mul_one,Nat.add_zero] at e1
       rw [e1]
       have:cell (ns.map fun n=>[AV.int .u8 n]) j 0=.int .u8 ns[j]:=by simp [cell,hj']
       rw [this] at e2
       cases hq2:vs j 0 <;> rw [hq2] at e2 <;> cases e2
       simp [List.getD,hj']
    ·cases hx
   ·cases hx
  ·rename_i e q1 q2
   have:=Fo (q1 ▸ hk1); subst this
   have:=Qf (q2 ▸ hk2); subst this
   split at hx
   ·rename_i E hE
    split at hx
    ·rename_i hc1
     obtain⟨dE,hdE,hkE⟩:=Eh hE
     have:=Sd (hc1 ▸ hkE); subst this
     cases hx
     cases hv
     exact⟨_,V5 (ns:=[]) (d1:=.bool) hd1 hdE hd2 rfl (fun _ _ _ j hj=>by omega) (.inl rfl),.str _⟩
    ·cases hx
   ·cases hx
  ·rename_i e o g off len q1 q2
   have:=Fo (q1 ▸ hk1); subst this
   have:=Qf (q2 ▸ hk2); subst this
   split at hx
   ·rename_i E g' st rs hE hh
    split at hx
    ·rename_i hc
     obtain⟨hc1,rfl,rfl,hle⟩:=hc
     obtain⟨dE,hdE,hkE⟩:=Eh hE
     have:=Sd (hc1 ▸ hkE); subst this
     cases hq:S5 ((rs.drop off).take len) with
     | none=>rw [hq] at hx; cases hx
     | some l=>
      rw [hq] at hx; cases hx
      obtain⟨ns,hn,rfl⟩:=Xg hq
      have hnl:ns.length=len:=by
       have:=congrArg List.length hn
       simp at this; omega
      cases hv with
      | ref _ _ _ _ cap l' hl hcl hcap hlim hsz=>
       obtain⟨l2,k1,k2,k3,k4,k5,k6⟩:=s.rows _ _ _ _ hh
       rw [hl] at k1; cases k1
       refine⟨_,V5 (ns:=ns) (d1:=.bool) hd1 hdE hd2 hnl (fun b' off' e j hj=>?_) (.inr ⟨_,_,rfl⟩),.str _⟩
       cases e
       obtain⟨c,c1,c2⟩:=k6 (off+j) 0 (by omega) (by omega)
       rw [k3]
       have ea:l'.base+off * 1+j=l'.base+(off+j) * 1+0:=by omega
       rw [ea,c1]
       have:cell rs (off+j) 0=.int .u8 (ns.getD j 0):=by
        have hj':j<ns.length:=by omega
        have:=congrArg (fun l=>l[j]?) hn
        simp only [List.getElem?_take,hj,if_true,List.getElem?_drop,List.getElem?_map,List.getElem?_eq_getElem hj',Option.map_some] at this
        simp [cell,List.getD,this,hj']
       rw [this] at c2
       cases c2
       rfl
    ·cases hx
   ·cases hx
  ·cases hx
 ·cases hx
theorem E3 {x:Option AV}{c:Option Value}{dflt y n:Nat}{code:BoundsCode}(hc:(x=none∧c=none) ∨ ∃ a b,x=some a∧c=some b∧RV h mu w a b)(hx:Ck x dflt y=some n)(hy:dflt≤y) :
  n≤y∧((x=none∧c=none∧n=dflt) ∨ ∃ b,c=some b∧(Instr.sliceBound b y code).run P w=.ok n w):=by
 rcases hc with⟨rfl,rfl⟩ | ⟨a,b,rfl,rfl,hab⟩
 ·simp [Ck] at hx
  subst hx
  exact⟨hy,.inl ⟨rfl,rfl,rfl⟩⟩
 ·unfold Ck at hx
  split at hx
  ·rename_i hq; cases hq
  ·rename_i k m hq
   cases hq
   split at hx
   ·rename_i hm
    cases hx
    cases hab
    refine⟨by omega,.inr ⟨_,rfl,?_⟩⟩
    simp [Instr.sliceBound,asIntOf,hm]
   ·cases hx
  ·cases hx
def Ts (h:Ab)(mu:Mu)(w:World)(x:Option AV)(c:Option Value):Prop:=(x=none∧c=none) ∨ ∃ a b,x=some a∧c=some b∧RV h mu w a b
theorem Aok {isS:Bool}{len cap a b:Nat}{lo hi:Option AV}{clo chi:Option Value}(h1:Ts h mu w lo clo)(h2:Ts h mu w hi chi)(hb:Ck hi len cap=some b)(ha:Ck lo 0 b=some a)(hle:len≤cap) :
  a≤b∧b≤cap∧(Instr.sliceBounds isS len cap clo chi none).run P w=.ok (a,b,cap) w:=by
 obtain⟨b1,b2⟩:=E3 (P:=P) (code:=if isS then .sliceAcap else .sliceAlen) h2 hb hle
 obtain⟨a1,a2⟩:=E3 (P:=P) (code:=.sliceB) h1 ha (Nat.zero_le _)
 refine⟨a1,b1,?_⟩
 rcases b2 with⟨_,rfl,q⟩ | ⟨cb,rfl,rb⟩ <;> rcases a2 with⟨_,rfl,q2⟩ | ⟨ca,rfl,ra⟩
 ·subst q; subst q2; simp [Instr.sliceBounds]
 ·subst q; simp [Instr.sliceBounds,ra]
 ·subst q2; simp [Instr.sliceBounds,rb]
 ·simp [Instr.sliceBounds,rb,ra]
theorem Ans {t e:TypeId}{E:TI}{o g r cc len cap a b:Nat}{c:Value}{lo hi:Option AV}{clo chi:Option Value}(hv:RV h mu w (.refc o g r cc len cap) c)(h1:Ts h mu w lo clo)(h2:Ts h mu w hi chi)
  (hd:P.underlying t=some (.slice e)) (hE:ti P e=some E) (hb:Ck hi len cap=some b) (ha:Ck lo 0 b=some a) (hs1:E.size=1) (hle:len≤cap) (ha0:a=0∨a<cap) :
  ∃ y,(Instr.sliceAt t c clo chi none).run P w=.ok y w∧RV h mu w (.refc o g r (cc+a) (b - a) (cap - a)) y:=by
 obtain⟨ab,bc,hrun⟩:=Aok (P:=P) (isS:=true) h1 h2 hb ha hle
 cases hv with
 | refc _ _ _ _ _ _ l hl hcl hcap hlim hsz=>
  refine⟨.slice (some (if cap=a then⟨l.b,l.base+r * l.st+cc,none⟩ else(⟨l.b,l.base+r * l.st+cc,none⟩:Addr).add (a * E.size))) (b - a) (cap - a),?_,?_⟩
  ·simp only [Instr.sliceAt,Sem.run_bind,run_underlying hd,Result.andThen_ok,Instr.slice,hrun,El hE,Sem.run_pure]
   split <;> rfl
  ·have:=Rv.refc (w:=w) (M:=Ci h mu) o g r (cc+a) (b - a) (cap - a) l hl hcl (by omega) (by omega) (by omega)
   have e1:(if cap=a then(⟨l.b,l.base+r * l.st+cc,none⟩:Addr) else(⟨l.b,l.base+r * l.st+cc,none⟩:Addr).add (a * E.size))=⟨l.b,l.base+r * l.st+(cc+a),none⟩:=by
    split
    ·have:a=0:=by omega
     subst this; rfl
    ·rw [Id,hs1,Nat.mul_one,Nat.add_assoc]
   rw [e1]; exact this
theorem Z6 (st:Nat) : ∀ (n:Nat) (l:List AV),(Jz st n l).length=n
 | 0,_=>rfl
 | n+1,l=>by simp [Jz,Z6 st n]
theorem Yo {st j:Nat}(hj:j<st) : ∀ {n i:Nat} {l:List AV},i<n→cell (Jz st n l) i j=l.getD (i * st+j) .und
 | 0,i,l,hi=>by omega
 | n+1,0,l,_=>by simp [cell,Jz,List.getD,List.getElem?_take,hj]
 | n+1,i+1,l,hi=>by
  have:=Yo hj (n:=n) (i:=i) (l:=l.drop st) (by omega)
  simp only [cell,Jz,List.getD_cons_succ] at this ⊢
  rw [this]
  simp only [List.getD,List.getElem?_drop]
  rw [show st+(i * st+j)=(i+1) * st+j by rw [Nat.add_mul]; omega]
theorem Abu {st:Nat} : ∀ {n:Nat} {l:List AV},n * st≤l.length→(∀ v ∈ l,v.flat=true) → ∀ r ∈ Jz st n l,Cm st r
 | 0,l,_,_,r,hr=>by cases hr
 | n+1,l,hl,hf,r,hr=>by
  rw [Nat.add_mul] at hl
  simp only [Jz,List.mem_cons] at hr
  rcases hr with rfl | hr
  ·exact⟨by simp; omega,fun v hv=>hf v (List.mem_of_mem_take hv)⟩
  ·exact Abu (by simp; omega) (fun v hv=>hf v (List.mem_of_mem_drop hv)) r hr
set_option maxHeartbeats 1000000 in
theorem Alr (s : Sim B mu h w) {t : TypeId} {v x : AV} {c : Value} {lo hi mx : Option AV} {clo chi cmx : Option Value} (hv : RV h mu w v c) (h1 : Ts h mu w lo clo) (h2 : Ts h mu w hi chi) (h3 : Ts h mu w mx cmx)
  (hx : Et P h t v lo hi mx = some x) : ∃ y, (Instr.sliceAt t c clo chi cmx).run P w = .ok y w ∧ RV h mu w x y := by
 unfold Et at hx
 split at hx
 ·cases hx
 rename_i T hT
 obtain ⟨d, hd, hk'⟩ := Eh hT
 have zero : ∀ {a : Option Addr} {len cap : Nat} {e : TypeId} {E : TI} {m : AV} {lo hi : Option AV} {clo chi cmx : Option Value}, TypeDesc.slice e = d → ti P e = some E → Ts h mu w lo clo → Ts h mu w hi chi → Ts h mu w (some m) cmx →
   (lo = none ∨ ∃ k, lo = some (.int k 0)) → (∃ k, hi = some (.int k 0)) → (∃ k, m = .int k 0) → ∃ y, (Instr.sliceAt t (.slice a len cap) clo chi cmx).run P w = .ok y w ∧ RV h mu w .emp y := by
  intro a len cap e E m lo hi clo chi cmx he hE h1 h2 h3 q1 q2 q3
  obtain ⟨k2, rfl⟩ := q2
  obtain ⟨k3, rfl⟩ := q3
  rcases h2 with ⟨hh, _⟩ | ⟨_, b2, hh, rfl, r2⟩
  ·cases hh
  cases hh; cases r2
  rcases h3 with ⟨hh, _⟩ | ⟨_, b3, hh, rfl, r3⟩
  ·cases hh
  cases hh; cases r3
  rcases q1 with rfl | ⟨k1, rfl⟩
  ·rcases h1 with ⟨_, rfl⟩ | ⟨_, _, hh, _, _⟩
   ·refine ⟨.slice a 0 0, ?_, .emp _⟩
    simp [Instr.sliceAt, run_underlying hd, ← he, Instr.slice, Instr.sliceBounds, Instr.sliceBound, asIntOf, El hE]
   ·cases hh
  ·rcases h1 with ⟨hh, _⟩ | ⟨_, b1, hh, rfl, r1⟩
   ·cases hh
   cases hh; cases r1
   refine ⟨.slice a 0 0, ?_, .emp _⟩
   simp [Instr.sliceAt, run_underlying hd, ← he, Instr.slice, Instr.sliceBounds, Instr.sliceBound, asIntOf, El hE]
 split at hx
 ·rename_i str hk
  have := Qf (hk ▸ hk'); subst this
  cases hv
  have hsz : (⟨str.toArray⟩ : ByteArray).size = str.length := by simp [Lib.size_eq]
  rcases h3 with ⟨_, rfl⟩ | ⟨_, _, hh, _, _⟩
  ·split at hx
   ·cases hx
   rename_i b hb
   split at hx
   ·cases hx
   rename_i a ha
   cases hx
   obtain ⟨b1, b2⟩ := E3 (P := P) (code := .sliceAlen) h2 hb (Nat.le_refl _)
   obtain ⟨a1, a2⟩ := E3 (P := P) (code := .sliceB) h1 ha (Nat.zero_le _)
   refine ⟨.string ((⟨str.toArray⟩ : ByteArray).extract a b), ?_, ?_⟩
   ·have hall : (⟨str.toArray⟩ : ByteArray).extract 0 str.length = ⟨str.toArray⟩ := by rw [Lib.extract_eq]; simp
    rcases b2 with ⟨_, rfl, rfl⟩ | ⟨cb, rfl, rb⟩ <;> rcases a2 with ⟨_, rfl, rfl⟩ | ⟨ca, rfl, ra⟩ <;>
     simp [Instr.sliceAt, run_underlying hd, Instr.slice, Instr.sliceBounds, hsz, hall, *]
   ·have e : ((⟨str.toArray⟩ : ByteArray).extract a b) = ⟨((str.drop a).take (b - a)).toArray⟩ := by
     rw [Lib.extract_eq]
    rw [e]
    exact .str _
  ·cases hh
 ·rename_i e st rows hk
  have := Fo (hk ▸ hk'); subst this
  split at hx
  ·cases hx
  rename_i E hE
  split at hx
  ·rename_i hst
   subst hst
   rcases h3 with ⟨_, rfl⟩ | ⟨_, _, hh, _, _⟩
   ·split at hx
    ·cases hx
    rename_i b hb
    split at hx
    ·cases hx
    rename_i a ha
    cases hx
    obtain ⟨a1, a2⟩ := E3 (P := P) (code := .sliceB) h1 ha (Nat.zero_le _)
    cases hv with
    | sl0 _ ad cap =>
     have hb' : Ck hi 0 cap = some b ∧ b = 0 := by
      unfold Ck at hb ⊢
      split at hb
      ·simp at hb; simp [hb]
      ·split at hb
       ·rename_i hq
        cases hb
        have : (0 : Int) ≤ _ ∧ _ ≤ ((([] : List (List AV)).length : Nat) : Int) := hq
        simp at this
        rw [if_pos (by omega)]
        exact ⟨rfl, by omega⟩
       ·cases hb
      ·cases hb
     obtain ⟨hb1, rfl⟩ := hb'
     obtain ⟨b1, b2⟩ := E3 (P := P) (code := .sliceAcap) h2 hb1 (Nat.zero_le _)
     have ha0 : a = 0 := by omega
     subst ha0
     have key : ∃ ad', (Instr.sliceAt t (.slice ad 0 cap) clo chi none).run P w = .ok (.slice ad' 0 cap) w := by
      rcases b2 with ⟨_, rfl, _⟩ | ⟨cb, rfl, rb⟩ <;> rcases a2 with ⟨_, rfl, _⟩ | ⟨ca, rfl, ra⟩ <;>
       simp [Instr.sliceAt, run_underlying hd, Instr.slice, Instr.sliceBounds, El hE, *]
     obtain ⟨ad', key⟩ := key
     exact ⟨_, key, by simpa using Rv.sl0 _ _ _⟩
    | sl _ _ bb off cap vs hcap hlim g1 g2 hr g3 g4 =>
     have hb' : Ck hi rows.length cap = some b ∧ b ≤ rows.length := by
      unfold Ck at hb ⊢
      split at hb
      ·simp at hb; simp [hb]
      ·split at hb
       ·rename_i hq
        cases hb
        rw [if_pos (by omega)]
        exact ⟨rfl, by omega⟩
       ·cases hb
      ·cases hb
     obtain ⟨hb1, hble⟩ := hb'
     obtain ⟨b1, b2⟩ := E3 (P := P) (code := .sliceAcap) h2 hb1 hcap
     by_cases hab : a = b
     ·subst hab
      have key : ∃ ad' cap', (Instr.sliceAt t (.slice (some ⟨bb, off, none⟩) rows.length cap) clo chi none).run P w = .ok (.slice ad' 0 cap') w := by
       rcases b2 with ⟨_, rfl, q⟩ | ⟨cb, rfl, rb⟩ <;> rcases a2 with ⟨_, rfl, _⟩ | ⟨ca, rfl, ra⟩ <;>
        first | (subst q; simp [Instr.sliceAt, run_underlying hd, Instr.slice, Instr.sliceBounds, El hE, *]) | simp [Instr.sliceAt, run_underlying hd, Instr.slice, Instr.sliceBounds, El hE, *]
      obtain ⟨ad', cap', key⟩ := key
      exact ⟨_, key, by simpa using Rv.sl0 _ _ _⟩
     ·have hlt : a < b := by omega
      refine ⟨.slice (some ⟨bb, off + a * E.size, none⟩) (b - a) (cap - a), ?_, ?_⟩
      ·have hne : ¬ cap = a := by omega
       rcases b2 with ⟨_, rfl, q⟩ | ⟨cb, rfl, rb⟩ <;> rcases a2 with ⟨_, rfl, _⟩ | ⟨ca, rfl, ra⟩ <;>
        first | (subst q; simp [Instr.sliceAt, run_underlying hd, Instr.slice, Instr.sliceBounds, El hE, Id, hne, *]) | simp [Instr.sliceAt, run_underlying hd, Instr.slice, Instr.sliceBounds, El hE, Id, hne, *]
      ·have hlen : ((rows.drop a).take (b - a)).length = b - a := by simp; omega
       have hcellr : ∀ i j, i < b - a → cell ((rows.drop a).take (b - a)) i j = cell rows (a + i) j := by
        intro i j hi
        simp [cell, List.getD, List.getElem?_take, hi, List.getElem?_drop]
       have := Rv.sl (w := w) (mu := mu) (M := Ci h mu) E.size ((rows.drop a).take (b - a)) bb (off + a * E.size) (cap - a) (fun i j => vs (a + i) j) (by omega) (by omega)
        (fun i j hi hj => by
         rw [hlen] at hi
         have := g1 (a + i) j (by omega) hj
         rw [Nat.add_mul] at this
         rw [← this]; congr 2; omega)
        (fun i j hi hj => by rw [hlen] at hi; rw [hcellr i j hi]; exact g2 (a + i) j (by omega) hj)
        (fun r hr' => hr r (List.mem_of_mem_drop (List.mem_of_mem_take hr'))) g3 g4
       rwa [hlen] at this
   ·cases hh
  ·cases hx
 ·rename_i e o g off len hk
  have := Fo (hk ▸ hk'); subst this
  split at hx
  ·cases hx
  rename_i E hE
  rcases h3 with ⟨_, rfl⟩ | ⟨_, _, hh, _, _⟩
  ·split at hx
   ·cases hx
   rename_i b hb
   split at hx
   ·cases hx
   rename_i a ha
   obtain ⟨a1, a2⟩ := E3 (P := P) (code := .sliceB) h1 ha (Nat.zero_le _)
   cases hv with
   | ref _ _ _ _ cap l hl hcl hcap hlim hsz =>
    have hb' : Ck hi len cap = some b ∧ b ≤ len := by
     unfold Ck at hb ⊢
     split at hb
     ·simp at hb; simp [hb]
     ·split at hb
      ·rename_i hq
       cases hb
       rw [if_pos (by omega)]
       exact ⟨rfl, by omega⟩
      ·cases hb
     ·cases hb
    obtain ⟨hb1, hble⟩ := hb'
    obtain ⟨b1, b2⟩ := E3 (P := P) (code := .sliceAcap) h2 hb1 hcap
    split at hx
    ·rename_i hab
     obtain ⟨hab, _⟩ := hab
     subst hab
     cases hx
     have key : ∃ ad' cap', (Instr.sliceAt t (.slice (some ⟨l.b, l.base + off * l.st, none⟩) len cap) clo chi none).run P w = .ok (.slice ad' 0 cap') w := by
      rcases b2 with ⟨_, rfl, q⟩ | ⟨cb, rfl, rb⟩ <;> rcases a2 with ⟨_, rfl, _⟩ | ⟨ca, rfl, ra⟩ <;>
       first | (subst q; simp [Instr.sliceAt, run_underlying hd, Instr.slice, Instr.sliceBounds, El hE, *]) | simp [Instr.sliceAt, run_underlying hd, Instr.slice, Instr.sliceBounds, El hE, *]
     obtain ⟨ad', cap', key⟩ := key
     exact ⟨_, key, .sl0 _ _ _⟩
    ·rename_i hab
     split at hx
     ·rename_i g' st rs hh
      split at hx
      ·rename_i hc
       obtain ⟨rfl, rfl⟩ := hc
       cases hx
       obtain ⟨l', k1, k2, k3, _⟩ := s.rows _ _ _ _ hh
       rw [hl] at k1; cases k1
       refine ⟨.slice (some ⟨l.b, l.base + off * l.st + a * E.size, none⟩) (b - a) (cap - a), ?_, ?_⟩
       ·by_cases ha0 : a = 0
        ·subst ha0
         rcases b2 with ⟨_, rfl, q⟩ | ⟨cb, rfl, rb⟩ <;> rcases a2 with ⟨_, rfl, _⟩ | ⟨ca, rfl, ra⟩ <;>
          first | (subst q; simp [Instr.sliceAt, run_underlying hd, Instr.slice, Instr.sliceBounds, El hE, Id, *]) | simp [Instr.sliceAt, run_underlying hd, Instr.slice, Instr.sliceBounds, El hE, Id, *]
        ·have hne : ¬ cap = a := by
          intro hca
          exact hab ⟨by omega, ha0⟩
         rcases b2 with ⟨_, rfl, q⟩ | ⟨cb, rfl, rb⟩ <;> rcases a2 with ⟨_, rfl, _⟩ | ⟨ca, rfl, ra⟩ <;>
          first | (subst q; simp [Instr.sliceAt, run_underlying hd, Instr.slice, Instr.sliceBounds, El hE, Id, hne, *]) | simp [Instr.sliceAt, run_underlying hd, Instr.slice, Instr.sliceBounds, El hE, Id, hne, *]
       ·have := Rv.ref (w := w) (M := Ci h mu) o g' (off + a) (b - a) (cap - a) l hl hcl (by omega) (by omega) (by rw [show off + a + (cap - a) = off + cap by omega]; exact hsz)
        rw [Nat.add_mul, ← Nat.add_assoc, k3] at this
        rw [k3]; exact this
      ·cases hx
     ·cases hx
  ·cases hh
 ·rename_i e hk
  have := Fo (hk ▸ hk'); subst this
  split at hx
  ·cases hx
  rename_i E hE
  rcases h3 with ⟨_, rfl⟩ | ⟨_, _, hh, _, _⟩
  ·split at hx
   ·cases hx
   rename_i b hb
   split at hx
   ·cases hx
   rename_i a ha
   cases hx
   cases hv with
   | emp ad =>
    obtain ⟨b1, b2⟩ := E3 (P := P) (code := .sliceAcap) h2 hb (Nat.zero_le _)
    obtain ⟨a1, a2⟩ := E3 (P := P) (code := .sliceB) h1 ha (Nat.zero_le _)
    have hb0 : b = 0 := by omega
    have ha0 : a = 0 := by omega
    subst hb0; subst ha0
    refine ⟨.slice ad 0 0, ?_, .emp _⟩
    rcases b2 with ⟨_, rfl, _⟩ | ⟨cb, rfl, rb⟩ <;> rcases a2 with ⟨_, rfl, _⟩ | ⟨ca, rfl, ra⟩ <;>
     simp [Instr.sliceAt, run_underlying hd, Instr.slice, Instr.sliceBounds, El hE, *]
  ·cases hh
 ·rename_i e st rows m hk
  have := Fo (hk ▸ hk'); subst this
  split at hx
  ·rename_i E k1 k2 q1
   cases hx
   cases hv with
   | sl0 _ ad cap => exact zero rfl q1 h1 h2 h3 (.inl rfl) ⟨_, rfl⟩ ⟨_, rfl⟩
   | sl _ _ bb off cap vs hcap hlim g1 g2 hr g3 g4 => exact zero rfl q1 h1 h2 h3 (.inl rfl) ⟨_, rfl⟩ ⟨_, rfl⟩
  ·rename_i E k0 k1 k2 q1
   cases hx
   cases hv with
   | sl0 _ ad cap => exact zero rfl q1 h1 h2 h3 (.inr ⟨_, rfl⟩) ⟨_, rfl⟩ ⟨_, rfl⟩
   | sl _ _ bb off cap vs hcap hlim g1 g2 hr g3 g4 => exact zero rfl q1 h1 h2 h3 (.inr ⟨_, rfl⟩) ⟨_, rfl⟩ ⟨_, rfl⟩
  ·rename_i E kb bi kc ci hE _ _
   split at hx
   ·rename_i hc
    obtain ⟨rfl, c1, c2, c3⟩ := hc
    split at hx
    ·cases hx
    rename_i a ha
    cases hx
    obtain ⟨a1, a2⟩ := E3 (P := P) (code := .slice3C) h1 ha (Nat.zero_le _)
    rcases h2 with ⟨hh, _⟩ | ⟨_, cb, hh, rfl, rb⟩
    ·cases hh
    cases hh; cases rb
    rcases h3 with ⟨hh, _⟩ | ⟨_, cc, hh, rfl, rc⟩
    ·cases hh
    cases hh; cases rc
    have key : ∀ (ad : Option Addr) (len cap : Nat), ci ≤ cap → (Instr.sliceAt t (.slice ad len cap) clo (some (.int kb bi)) (some (.int kc ci))).run P w = .ok (.slice (if ci.toNat = a then ad else ad.map (·.add (a * E.size))) (bi.toNat - a) (ci.toNat - a)) w := by
     intro ad len cap hcap
     have e1 : (Instr.sliceBound (.int kc ci) cap .slice3Acap).run P w = .ok ci.toNat w := by
      simp [Instr.sliceBound, asIntOf, show 0 ≤ ci ∧ ci ≤ (cap : Int) from ⟨by omega, hcap⟩]
     have e2 : (Instr.sliceBound (.int kb bi) ci.toNat .slice3B).run P w = .ok bi.toNat w := by
      simp only [Instr.sliceBound, asIntOf, Sem.run_bind, Sem.run_pure, Result.andThen_ok]
      rw [if_pos ⟨c1, by omega⟩]
      rfl
     rcases a2 with ⟨_, rfl, rfl⟩ | ⟨ca, rfl, ra⟩ <;>
      simp [Instr.sliceAt, run_underlying hd, Instr.slice, Instr.sliceBounds, El hE, e1, e2, *]
    cases hv with
    | sl0 _ ad cap =>
     have hc0 : ci = 0 := by simp at c3; omega
     subst hc0
     have hb0 : bi = 0 := by omega
     subst hb0
     refine ⟨_, key ad 0 cap (by omega), ?_⟩
     split
     ·simpa using Rv.slx0 _ _
     ·simpa using Rv.sl0 _ _ _
    | sl _ _ bb off cap vs hcap hlim g1 g2 hr g3 g4 =>
     refine ⟨_, key _ _ cap (by omega), ?_⟩
     by_cases hab : a = bi.toNat
     ·subst hab
      split
      ·rename_i hbc
       subst hbc
       simpa using Rv.slx0 _ _
      ·simpa using Rv.sl0 _ _ _
     ·have hlt : a < bi.toNat := by omega
      have hne : ¬ ci.toNat = a := by omega
      rw [if_neg hne]
      simp only [Option.map_some, Id]
      have hlen : ((rows.drop a).take (bi.toNat - a)).length = bi.toNat - a := by simp; omega
      have hcellr : ∀ i j, i < bi.toNat - a → cell ((rows.drop a).take (bi.toNat - a)) i j = cell rows (a + i) j := by
       intro i j hi
       simp [cell, List.getD, List.getElem?_take, hi, List.getElem?_drop]
      have hq1 : ∀ i j, i < ((rows.drop a).take (bi.toNat - a)).length → j < E.size → w.cell? ⟨bb, off + a * E.size + i * E.size + j, none⟩ = some (vs (a + i) j) := fun i j hi hj => by
        rw [hlen] at hi
        have := g1 (a + i) j (by omega) hj
        rw [Nat.add_mul] at this
        rw [← this]; congr 2; omega
      have hq2 : ∀ i j, i < ((rows.drop a).take (bi.toNat - a)).length → j < E.size → RV h mu w (cell ((rows.drop a).take (bi.toNat - a)) i j) (vs (a + i) j) := fun i j hi hj => by rw [hlen] at hi; rw [hcellr i j hi]; exact g2 (a + i) j (by omega) hj
      have hq3 : ∀ r ∈ (rows.drop a).take (bi.toNat - a), Cm E.size r := fun r hr' => hr r (List.mem_of_mem_drop (List.mem_of_mem_take hr'))
      split
      ·rename_i hbc
       subst hbc
       have := Rv.slx (w := w) (mu := mu) (M := Ci h mu) E.size ((rows.drop a).take (bi.toNat - a)) bb (off + a * E.size) (fun i j => vs (a + i) j) (by omega) hq1 hq2 hq3 g3 g4
       rwa [hlen] at this
      ·have := Rv.sl (w := w) (mu := mu) (M := Ci h mu) E.size ((rows.drop a).take (bi.toNat - a)) bb (off + a * E.size) (ci.toNat - a) (fun i j => vs (a + i) j) (by omega) (by omega) hq1 hq2 hq3 g3 g4
       rwa [hlen] at this
   ·cases hx
  ·cases hx
 ·rename_i e o g off len m hk
  have := Fo (hk ▸ hk'); subst this
  split at hx
  ·rename_i E k1 k2 q1
   cases hx
   cases hv with
   | ref _ _ _ _ cap l hl hcl hcap hlim hsz => exact zero rfl q1 h1 h2 h3 (.inl rfl) ⟨_, rfl⟩ ⟨_, rfl⟩
  ·rename_i E k0 k1 k2 q1
   cases hx
   cases hv with
   | ref _ _ _ _ cap l hl hcl hcap hlim hsz => exact zero rfl q1 h1 h2 h3 (.inr ⟨_, rfl⟩) ⟨_, rfl⟩ ⟨_, rfl⟩
  ·cases hx
 ·rename_i e m hk
  have := Fo (hk ▸ hk'); subst this
  split at hx
  ·rename_i E k1 k2 q1
   cases hx
   cases hv with
   | emp ad => exact zero rfl q1 h1 h2 h3 (.inl rfl) ⟨_, rfl⟩ ⟨_, rfl⟩
  ·rename_i E k0 k1 k2 q1
   cases hx
   cases hv with
   | emp ad => exact zero rfl q1 h1 h2 h3 (.inr ⟨_, rfl⟩) ⟨_, rfl⟩ ⟨_, rfl⟩
  ·cases hx
 ·rename_i n e row cc hk
  have := W2 (hk ▸ hk'); subst this
  split at hx
  ·cases hx
  rename_i E hE
  split at hx
  ·rename_i hc
   obtain ⟨hn, hfit, hfl⟩ := hc
   rcases h3 with ⟨_, rfl⟩ | ⟨_, _, hh, _, _⟩
   ·split at hx
    ·cases hx
    rename_i b hb
    split at hx
    ·cases hx
    rename_i a ha
    cases hx
    obtain ⟨b1, b2⟩ := E3 (P := P) (code := .sliceAlen) h2 hb (Nat.le_refl _)
    obtain ⟨a1, a2⟩ := E3 (P := P) (code := .sliceB) h1 ha (Nat.zero_le _)
    cases hv with
    | cp _ _ bb off vs g1 g2 g3 g4 =>
     have key : (Instr.sliceAt t (.pointer (some ⟨bb, off + cc, none⟩)) clo chi none).run P w = .ok (.slice (some (if n = a then ⟨bb, off + cc, none⟩ else (⟨bb, off + cc, none⟩ : Addr).add (a * E.size))) (b - a) (n - a)) w := by
      rcases b2 with ⟨_, rfl, rfl⟩ | ⟨cb, rfl, rb⟩ <;> rcases a2 with ⟨_, rfl, rfl⟩ | ⟨ca, rfl, ra⟩ <;>
       simp [Instr.sliceAt, run_underlying hd, Instr.sureAddr, Instr.sliceBounds, El hE, *]
     refine ⟨_, key, ?_⟩
     have hcl : (Jz E.size (b - a) (row.drop (cc + a * E.size))).length = b - a := Z6 _ _ _
     by_cases hab : a = b
     ·subst hab
      have hz : Jz E.size (a - a) (row.drop (cc + a * E.size)) = [] := by rw [Nat.sub_self]; rfl
      rw [hz, Nat.sub_self]
      exact .sl0 _ _ _
     ·have hne : ¬ n = a := by omega
      rw [if_neg hne]
      simp only [Id]
      have hmul : a * E.size + (b - a) * E.size ≤ n * E.size := by rw [← Nat.add_mul]; exact Nat.mul_le_mul_right _ (by omega)
      have hix : ∀ i j, i < b - a → j < E.size → cc + a * E.size + i * E.size + j < row.length := by
       intro i j hi hj
       have : (i + 1) * E.size ≤ (b - a) * E.size := Nat.mul_le_mul_right _ hi
       rw [Nat.add_mul] at this
       omega
      have hq1 : ∀ i j, i < b - a → j < E.size → w.cell? ⟨bb, off + cc + a * E.size + i * E.size + j, none⟩ = some (vs (cc + a * E.size + i * E.size + j)) := fun i j hi hj => by
       rw [← g1 _ (hix i j hi hj)]; congr 2; omega
      have hq2 : ∀ i j, i < b - a → j < E.size → RV h mu w (cell (Jz E.size (b - a) (row.drop (cc + a * E.size))) i j) (vs (cc + a * E.size + i * E.size + j)) := fun i j hi hj => by
       rw [Yo hj hi]
       have := g2 _ (hix i j hi hj)
       simpa [List.getD, List.getElem?_drop, Nat.add_assoc] using this
      have hq3 : ∀ r ∈ Jz E.size (b - a) (row.drop (cc + a * E.size)), Cm E.size r := Abu (by simp; omega) (fun v hv => List.all_eq_true.1 hfl v (List.mem_of_mem_drop hv))
      have := Rv.sl (w := w) (mu := mu) (M := Ci h mu) E.size _ bb (off + cc + a * E.size) (n - a) (fun i j => vs (cc + a * E.size + i * E.size + j)) (by rw [hcl]; omega) (by rw [hcl]; omega) (fun i j hi hj => hq1 i j (hcl ▸ hi) hj) (fun i j hi hj => hq2 i j (hcl ▸ hi) hj) hq3 g3 g4
      rwa [hcl] at this
   ·cases hh
  ·cases hx
 ·rename_i n e o g r cc hk
  have := W2 (hk ▸ hk'); subst this
  split at hx
  ·cases hx
  rename_i E hE
  rcases h3 with ⟨_, rfl⟩ | ⟨_, _, hh, _, _⟩
  ·split at hx
   ·cases hx
   rename_i b hb
   split at hx
   ·cases hx
   rename_i a ha
   obtain ⟨b1, b2⟩ := E3 (P := P) (code := .sliceAlen) h2 hb (Nat.le_refl _)
   obtain ⟨a1, a2⟩ := E3 (P := P) (code := .sliceB) h1 ha (Nat.zero_le _)
   split at hx
   ·rename_i g' st rs hh
    split at hx
    ·rename_i hc
     obtain ⟨rfl, hs1, hn, hr, hcn, ha0⟩ := hc
     cases hx
     cases hv with
     | ptr _ _ _ _ l hl hcl =>
      obtain ⟨l', k1, k2, k3, k4, _⟩ := s.rows _ _ _ _ hh
      rw [hl] at k1; cases k1
      have key : (Instr.sliceAt t (.pointer (some ⟨l.b, l.base + r * l.st + cc, none⟩)) clo chi none).run P w = .ok (.slice (some (if n = a then ⟨l.b, l.base + r * l.st + cc, none⟩ else (⟨l.b, l.base + r * l.st + cc, none⟩ : Addr).add (a * E.size))) (b - a) (n - a)) w := by
       rcases b2 with ⟨_, rfl, rfl⟩ | ⟨cb, rfl, rb⟩ <;> rcases a2 with ⟨_, rfl, rfl⟩ | ⟨ca, rfl, ra⟩ <;>
        simp [Instr.sliceAt, run_underlying hd, Instr.sureAddr, Instr.sliceBounds, El hE, *]
      refine ⟨_, key, ?_⟩
      have hmul : r * l.st + l.st ≤ rs.length * l.st := by rw [← Nat.succ_mul]; exact Nat.mul_le_mul_right _ hr
      have := Rv.refc (w := w) (M := Ci h mu) o g' r (cc + a) (b - a) (n - a) l hl hcl (by omega) (by omega) (by rw [k3] at hmul ⊢; omega)
      have e1 : (if n = a then (⟨l.b, l.base + r * l.st + cc, none⟩ : Addr) else (⟨l.b, l.base + r * l.st + cc, none⟩ : Addr).add (a * E.size)) = ⟨l.b, l.base + r * l.st + (cc + a), none⟩ := by
       split
       ·have : a = 0 := by omega
        subst this; rfl
       ·rw [Id, hs1, Nat.mul_one, Nat.add_assoc]
      rw [e1]; exact this
    ·cases hx
   ·cases hx
  ·cases hh
 ·rename_i e o g r cc len cap hk
  have := Fo (hk ▸ hk'); subst this
  split at hx
  ·cases hx
  rename_i E hE
  rcases h3 with ⟨_, rfl⟩ | ⟨_, _, hh, _, _⟩
  ·split at hx
   ·cases hx
   rename_i b hb
   split at hx
   ·cases hx
   rename_i a ha
   split at hx
   ·rename_i hc
    obtain ⟨hs1, hle, ha0⟩ := hc
    cases hx
    exact Ans hv h1 h2 hd hE hb ha hs1 hle ha0
   ·cases hx
  ·cases hh
 ·cases hx
end
end Go.Am
namespace Go.Am
open Go
set_option linter.unusedSimpArgs false
set_option linter.unusedVariables false
set_option linter.unusedSectionVars false
section
variable {P:Program} [GW P] {B:Base P} {h:Ab} {mu:Mu} {w:World}
theorem bytes_beq (a b:List UInt8):((⟨a.toArray⟩:ByteArray).toList==(⟨b.toArray⟩:ByteArray).toList)=(a==b):=by
 rw [Lib.toList_data,Lib.toList_data]
theorem Li (a:List UInt8):(⟨a.toArray⟩:ByteArray).toList=a:=by rw [Lib.toList_data]
theorem Zw (a:List UInt8):(⟨a.toArray⟩:ByteArray).size=a.length:=by simp [Lib.size_eq]
theorem Ahx {t:TypeId}{x y:AV}{cx cy:Value}{b:Bool}(hx:RV h mu w x cx)(hy:RV h mu w y cy)(hb:Vt P t x y=some b)(n:Nat):(Op.equalIn (n+1) t cx cy).run P w=.ok b w:=by
 unfold Vt at hb
 split at hb
 ·cases hb
 rename_i T hT
 obtain⟨d,hd,hk'⟩:=Eh hT
 split at hb
 ·rename_i a b hk
  have:=Agu (hk ▸ hk'); subst this
  cases hb; cases hx; cases hy
  simp [Op.equalIn,run_underlying hd]
 ·rename_i k0 k a k' b hk
  have:=Sd (hk ▸ hk'); subst this
  split at hb
  ·rename_i hkk
   subst hkk
   cases hb; cases hx; cases hy
   simp [Op.equalIn,run_underlying hd]
  ·cases hb
 ·rename_i a b hk
  have:=Qf (hk ▸ hk'); subst this
  cases hb; cases hx; cases hy
  rw [run_equalIn_string w n t _ _ hd,bytes_beq]
 ·rename_i hk
  have : ∃ ms,d=.interface ms:=by
   rw [hk] at hk'; cases d <;> simp [TK.of] at hk'; exact⟨_,rfl⟩
  obtain⟨ms,rfl⟩:=this
  cases hb; cases hx; cases hy
  simp [Op.equalIn,run_underlying hd]
 ·rename_i hk
  have : ∃ ms,d=.interface ms:=by
   rw [hk] at hk'; cases d <;> simp [TK.of] at hk'; exact⟨_,rfl⟩
  obtain⟨ms,rfl⟩:=this
  cases hb; cases hx; cases hy
  simp [Op.equalIn,run_underlying hd]
 ·rename_i e hk
  have : ∃ e,d=.pointer e:=by
   rw [hk] at hk'; cases d <;> simp [TK.of] at hk'; exact⟨_,rfl⟩
  obtain⟨e,rfl⟩:=this
  cases hb; cases hx; cases hy
  simp [Op.equalIn,run_underlying hd]
 ·rename_i hk
  have : ∃ a b c,d=.func a b c:=by
   rw [hk] at hk'; cases d <;> simp [TK.of] at hk'; exact⟨_,_,_,rfl⟩
  obtain⟨_,_,_,rfl⟩:=this
  cases hb; cases hx; cases hy
  simp [Op.equalIn,run_underlying hd]
 ·rename_i hk
  have : ∃ a b c,d=.func a b c:=by
   rw [hk] at hk'; cases d <;> simp [TK.of] at hk'; exact⟨_,_,_,rfl⟩
  obtain⟨_,_,_,rfl⟩:=this
  cases hb; cases hx; cases hy
  simp [Op.equalIn,run_underlying hd]
 ·rename_i hk
  have : ∃ a b c,d=.func a b c:=by
   rw [hk] at hk'; cases d <;> simp [TK.of] at hk'; exact⟨_,_,_,rfl⟩
  obtain⟨_,_,_,rfl⟩:=this
  cases hb; cases hx; cases hy
  simp [Op.equalIn,run_underlying hd]
 ·rename_i hk
  have : ∃ ms,d=.interface ms:=by
   rw [hk] at hk'; cases d <;> simp [TK.of] at hk'; exact⟨_,rfl⟩
  obtain⟨ms,rfl⟩:=this
  cases hb; cases hx; cases hy
  simp [Op.equalIn,run_underlying hd]
 ·rename_i e hk
  have : ∃ e,d=.pointer e:=by
   rw [hk] at hk'; cases d <;> simp [TK.of] at hk'; exact⟨_,rfl⟩
  obtain⟨e,rfl⟩:=this
  cases hb; cases hx; cases hy
  simp [Op.equalIn,run_underlying hd]
 ·rename_i e hk
  have : ∃ e,d=.pointer e:=by
   rw [hk] at hk'; cases d <;> simp [TK.of] at hk'; exact⟨_,rfl⟩
  obtain⟨e,rfl⟩:=this
  cases hb; cases hx; cases hy
  simp [Op.equalIn,run_underlying hd]
 ·cases hb
theorem Zf {rec : TypeId → AV → AV → Option Bool} {n : Nat} (hrec : ∀ {t : TypeId} {x y : AV} {cx cy : Value} {b : Bool}, RV h mu w x cx → RV h mu w y cy → rec t x y = some b → (Op.equalIn n t cx cy).run P w = .ok b w)
  {xs ys : List AV} {cx cy : List Value} (lx : xs.length = cx.length) (ly : ys.length = cy.length) (hx : ∀ i, i < xs.length → RV h mu w (xs.getD i .und) (cx.getD i undef)) (hy : ∀ i, i < ys.length → RV h mu w (ys.getD i .und) (cy.getD i undef)) :
  ∀ (fs : List Field) {b : Bool}, (∀ f ∈ fs, f.name ≠ "_") → Od P rec xs ys (fs.map fun f => (f.offset, f.type)) = some b → (Op.eqFields n cx.toArray cy.toArray fs).run P w = .ok b w
 | [], b, _, hb => by
  simp [Od] at hb; subst hb; simp [Op.eqFields]
 | f :: r, b, hn, hb => by
  simp only [List.map_cons, Od] at hb
  split at hb
  ·cases hb
  rename_i F hF
  split at hb
  ·rename_i a c ha hc
   obtain ⟨pa, qa, ra⟩ := Ws lx hx hF ha
   obtain ⟨pc, qc, rc⟩ := Ws ly hy hF hc
   split at hb
   ·rename_i hr
    have h1 := hrec ra rc hr
    have h2 := Zf hrec lx ly hx hy r (fun g hg => hn g (List.mem_cons_of_mem _ hg)) hb
    simp [Op.eqFields, hn f (List.mem_cons_self ..), qa, qc, h1, h2]
   ·rename_i hr
    have h1 := hrec ra rc hr
    cases hb
    simp [Op.eqFields, hn f (List.mem_cons_self ..), qa, qc, h1]
   ·cases hb
  ·cases hb
theorem Aar {rec:AV→AV→Option Bool}{n:Nat}{e:TypeId}{E:TI}(hE:ti P e=some E)(hrec : ∀ {x y:AV} {cx cy:Value} {b:Bool},RV h mu w x cx→RV h mu w y cy→rec x y=some b→(Op.equalIn n e cx cy).run P w=.ok b w)
  {xs ys:List AV} {cx cy:List Value} (lx:xs.length=cx.length) (ly:ys.length=cy.length) (hx : ∀ i,i<xs.length→RV h mu w (xs.getD i .und) (cx.getD i undef)) (hy : ∀ i,i<ys.length→RV h mu w (ys.getD i .und) (cy.getD i undef)) :
  ∀ (is:List Nat) {b:Bool},Rc P rec E.size E.k.agg xs ys is=some b→(Op.eqItems n e E.size cx.toArray cy.toArray is).run P w=.ok b w
 | [],b,hb=>by
  simp [Rc] at hb; subst hb; simp [Op.eqItems]
 | i::r,b,hb=>by
  simp only [Rc] at hb
  split at hb
  ·rename_i a c ha hc
   obtain⟨pa,qa,ra⟩:=Ws lx hx hE ha
   obtain⟨pc,qc,rc⟩:=Ws ly hy hE hc
   split at hb
   ·rename_i hr
    have h1:=hrec ra rc hr
    have h2:=Aar hE hrec lx ly hx hy r hb
    simp [Op.eqItems,qa,qc,h1,h2]
   ·rename_i hr
    have h1:=hrec ra rc hr
    cases hb
    simp [Op.eqItems,qa,qc,h1]
   ·cases hb
  ·cases hb
theorem Xx : ∀ (d : Nat) {t : TypeId} {x y : AV} {cx cy : Value} {b : Bool} (n : Nat), RV h mu w x cx → RV h mu w y cy → Rz P d t x y = some b → d ≤ n → (Op.equalIn n t cx cy).run P w = .ok b w
 | 0, t, x, y, cx, cy, b, n, hx, hy, hb, _ => by simp [Rz] at hb
 | d + 1, t, x, y, cx, cy, b, n, hx, hy, hb, hle => by
  obtain ⟨m, rfl⟩ : ∃ m, n = m + 1 := ⟨n - 1, by omega⟩
  unfold Rz at hb
  split at hb
  ·cases hb
  rename_i T hT
  split at hb
  ·rename_i fs xs ys hk
   split at hb
   ·rename_i hok
    simp only [Abr, Bool.and_eq_true, Bool.not_eq_true'] at hok
    obtain ⟨dd, hd, hk'⟩ := Eh hT
    obtain ⟨a, rfl, rfl⟩ := Ant (hk ▸ hk')
    cases hx with
    | agg _ vx lx px =>
     cases hy with
     | agg _ vy ly py =>
      have hf : P.fieldsOf t = a := by simp [Program.fieldsOf, hd]
      rw [run_equalIn_struct w m t _ _ (by rw [hf]; exact hd) hok.1.1, hf]
      have hnames : ∀ f ∈ a.toList, f.name ≠ "_" := by
       have := hok.2
       rw [hd] at this
       simp only [Array.all_eq_true] at this
       intro f hf
       obtain ⟨i, hi, rfl⟩ := List.mem_iff_getElem.1 hf
       have := this i (by simpa using hi)
       simpa using this
      exact Zf (n := m) (fun h1 h2 h3 => Xx d m h1 h2 h3 (by omega)) lx ly px py a.toList hnames hb
   ·cases hb
  ·rename_i n e xs ys hk
   split at hb
   ·cases hb
   rename_i E hE
   obtain ⟨dd, hd, hk'⟩ := Eh hT
   have := W2 (hk ▸ hk'); subst this
   cases hx with
   | agg _ vx lx px =>
    cases hy with
    | agg _ vy ly py =>
     obtain ⟨dE, iE, z, e1, e2, e3, e4, e5, e6, e7, e8, e9, e10⟩ := Mp hE
     rw [run_equalIn_array w m vx.toArray vy.toArray hd e2]
     have hc : P.cellsOf e = E.size := by rw [e7]; simp [Program.cellsOf, e2]
     rw [hc]
     exact Aar (n := m) hE (fun h1 h2 h3 => Xx d m h1 h2 h3 (by omega)) lx ly px py _ hb
  ·exact Ahx hx hy hb m
theorem Ajn (a b:List UInt8):(⟨a.toArray⟩:ByteArray)++(⟨b.toArray⟩:ByteArray)=⟨(a++b).toArray⟩:=by
 apply ByteArray.ext
 rw [ByteArray.data_append]
 simp
def Pc (P:Program)(op:BinOp)(t:TypeId)(x y:Operand)(a b:AV):Bool:=
 match op,a,b with
 | .eql,.nili,.nili=>(match x with | .const _=>true | _=>false)||(match y with | .const _=>true | _=>false)
 | .neq,.nili,.nili=>(match x with | .const _=>true | _=>false)||(match y with | .const _=>true | _=>false)
 | .eql,.agg _,.agg _=>Abr P t
 | .neq,.agg _,.agg _=>Abr P t
 | .eql,.raw _,_=>false
 | .neq,.raw _,_=>false
 | .eql,_,.raw _=>false
 | .neq,_,.raw _=>false
 | .eql,.any,_=>false
 | .neq,.any,_=>false
 | .eql,_,.any=>false
 | .neq,_,.any=>false
 | _,_,_=>true
theorem Ale {op:BinOp}{t:TypeId}{x y:Operand}{a b:AV}{ca cb:Value}(ha:RV h mu w a ca)(hb:RV h mu w b cb)(hg:Pc P op t x y a b=true):(eqGuard op t x y ca cb).run P w=.ok () w:=by
  have agg:Abr P t=true → ∀ c1 c2,(eqGuard op t x y (.agg c1) (.agg c2)).run P w=.ok () w:=by
    intro hq c1 c2
    simp only [Abr,Bool.and_eq_true,Bool.not_eq_true'] at hq
    exact run_eqGuard_agg w op t x y _ _ hq.1.2
  cases op <;> try (simp [eqGuard]; done)
  all_goals
    cases ha <;> cases hb <;> first
      | (simp [eqGuard]; done)
      | (simp [Pc] at hg; done)
      | exact agg (by simpa [Pc] using hg) _ _
      | (simp only [Pc, Bool.or_eq_true] at hg
         simp only [eqGuard]
         rcases hg with hg | hg
         · cases x <;> simp at hg; simp
         · cases y <;> simp at hg; simp)
theorem Amc {t:TypeId}{x y:AV}{cx cy:Value}{b:Bool}(hx:RV h mu w x cx)(hy:RV h mu w y cy)(hb:Vt P t x y=some b)(hni : ∀ k a k' b,x=.int k a→y=.int k' b→False)(hns : ∀ a b,x=.str a→y=.str b→False) :
  (binOp .eql t cx cy).run P w=.ok (.bool b) w∧(binOp .neq t cx cy).run P w=.ok (.bool (!b)) w:=by
 have hq:=Ahx hx hy hb 9999
 unfold Vt at hb
 split at hb
 ·cases hb
 split at hb
 case h_2=>exact(hni _ _ _ _ rfl rfl).elim
 case h_3=>exact(hns _ _ rfl rfl).elim
 case h_13=>cases hb
 all_goals
  cases hx; cases hy
  simp [binOp,Op.equal,Op.maxDepth,hq]
theorem Ao0 {op:BinOp}{t:TypeId}{x y r:AV}{cx cy:Value}(hx:RV h mu w x cx)(hy:RV h mu w y cy)(hr:Ke P op t x y=some r) : ∃ z,(binOp op t cx cy).run P w=.ok z w∧RV h mu w r z:=by
 unfold Ke at hr
 split at hr
 case h_24 xs ys=>
  cases hq:Rz P 20 t (.agg xs) (.agg ys) with
  | none=>simp [hq] at hr
  | some b=>
   simp [hq] at hr; subst hr
   have:=Xx 20 10000 hx hy hq (by omega)
   cases hx; cases hy
   exact⟨.bool b,by rw [run_eql_struct,this]; rfl,.bool _⟩
 case h_25 xs ys=>
  cases hq:Rz P 20 t (.agg xs) (.agg ys) with
  | none=>simp [hq] at hr
  | some b=>
   simp [hq] at hr; subst hr
   have:=Xx 20 10000 hx hy hq (by omega)
   cases hx; cases hy
   exact⟨.bool (!b),by rw [run_neq_struct,this]; rfl,.bool _⟩
 case h_26 h1 h2 h3=>
  cases hq:Vt P t x y with
  | none=>simp [hq] at hr
  | some b=>
   simp [hq] at hr; subst hr
   exact⟨.bool b,(Amc hx hy hq (fun k a k' b e1 e2=>h1 k a k' b e1 e2) (fun a b e1 e2=>h2 a b e1 e2)).1,.bool _⟩
 case h_27 h1 h2 h3=>
  cases hq:Vt P t x y with
  | none=>simp [hq] at hr
  | some b=>
   simp [hq] at hr; subst hr
   exact⟨.bool (!b),(Amc hx hy hq (fun k a k' b e1 e2=>h1 k a k' b e1 e2) (fun a b e1 e2=>h2 a b e1 e2)).2,.bool _⟩
 case h_28=>cases hr
 case h_23 a b=>
  split at hr
  ·rename_i hc
   cases hr; cases hx; cases hy
   refine⟨.string ⟨(a++b).toArray⟩,?_,.str _⟩
   have:¬ (((⟨a.toArray⟩:ByteArray).size+(⟨b.toArray⟩:ByteArray).size:Nat):Int) > IntKind.i64.max:=by
    rw [Zw,Zw]
    simp [IntKind.max,IntKind.bits,IntKind.signed]
    omega
   simp only [binOp,Op.stringOp,this,if_false,Ajn,Sem.run_pure]
  ·cases hr
 case h_17 a b=>cases hr; cases hx; cases hy; exact⟨_,rfl,by rw [bytes_beq]; exact .bool _⟩
 case h_18 a b=>cases hr; cases hx; cases hy; exact⟨_,rfl,by rw [bytes_beq]; exact .bool _⟩
 case h_19 a b=>cases hr; cases hx; cases hy; exact⟨_,rfl,by rw [Li,Li]; exact .bool _⟩
 case h_20 a b=>cases hr; cases hx; cases hy; exact⟨_,rfl,by rw [bytes_beq,Li,Li]; exact .bool _⟩
 case h_21 a b=>cases hr; cases hx; cases hy; exact⟨_,rfl,by rw [bytes_beq,Li,Li]; exact .bool _⟩
 case h_22 a b=>cases hr; cases hx; cases hy; exact⟨_,rfl,by rw [Li,Li]; exact .bool _⟩
 case h_4 | h_5=>
  split at hr
  ·rename_i hc
   obtain⟨rfl,hc⟩:=hc
   cases hr; cases hx; cases hy
   exact⟨_,by simp [binOp,Op.intDiv,hc],.int _ _⟩
  ·cases hr
 case h_6 | h_7=>
  split at hr
  ·rename_i hc
   have hc':¬ _<(0:Int):=Int.not_lt.2 hc
   cases hr; cases hx; cases hy
   exact⟨_,by simp [binOp,Op.shift,hc'],.int _ _⟩
  ·cases hr
 all_goals
  split at hr
  ·rename_i hc
   subst hc
   cases hr; cases hx; cases hy
   exact⟨_,by simp [binOp,Op.intArith,Op.intBits,Op.intCmp]; rfl,by constructor⟩
  ·cases hr
theorem Aey {isMax:Bool}{k:IntKind} : ∀ (l:List AV) (cs:List Value) (a:Int) {x:AV},l.length=cs.length→(∀ i,i<l.length→RV h mu w (l.getD i .und) (cs.getD i undef))→Afz isMax k a l=some x →
  ∃ y,(cs.foldlM (if isMax then Builtin.max2 else Builtin.min2) (.int k a)).run P w=.ok y w∧RV h mu w x y
 | [],cs,a,x,hl,hv,hx=>by
  have:cs=[]:=List.eq_nil_of_length_eq_zero hl.symm
  subst this
  simp [Afz] at hx; subst hx
  exact⟨_,rfl,.int _ _⟩
 | v::l,cs,a,x,hl,hv,hx=>by
  cases cs with
  | nil=>simp at hl
  | cons c cs=>
   have h0:=hv 0 (by simp)
   simp only [List.getD_cons_zero] at h0
   unfold Afz at hx
   split at hx
   ·rename_i heq; cases heq
   ·rename_i k' b r heq
    cases heq
    split at hx
    ·rename_i hk
     subst hk
     cases h0
     have ih:=Aey l cs _ (by simpa using hl) (fun i hi=>by simpa using hv (i+1) (by simp; omega)) hx
     obtain⟨y,hy1,hy2⟩:=ih
     refine⟨y,?_,hy2⟩
     cases isMax <;> simp [List.foldlM_cons,Builtin.max2,Builtin.min2] at hy1 ⊢ <;> exact hy1
    ·cases hx
   ·cases hx
theorem Ahz {isMax:Bool}{l:List AV}{cs:List Value}{x:AV}(hl:l.length=cs.length)(hv : ∀ i,i<l.length→RV h mu w (l.getD i .und) (cs.getD i undef))(hx:Acf isMax l=some x)(ts:Array TypeId)(ty:TypeId) :
  ∃ y,(if isMax then Builtin.max_ ts ty cs.toArray else Builtin.min_ ts ty cs.toArray).run P w=.ok y w∧RV h mu w x y:=by
 unfold Acf at hx
 split at hx
 ·rename_i k a r
  cases cs with
  | nil=>simp at hl
  | cons c cs=>
   have h0:=hv 0 (by simp)
   simp only [List.getD_cons_zero] at h0
   cases h0
   obtain⟨y,hy1,hy2⟩:=Aey (P:=P) r cs a (by simpa using hl) (fun i hi=>by simpa using hv (i+1) (by simp; omega)) hx
   refine⟨y,?_,hy2⟩
   cases isMax <;> simpa [Builtin.max_,Builtin.min_] using hy1
 ·cases hx
end
end Go.Am
namespace Go.Am
open Go
set_option linter.unusedSimpArgs false
set_option linter.unusedVariables false
set_option linter.unusedSectionVars false
def putCells (row:List AV)(c:Nat)(cs:List AV):List AV:=row.take c++(cs++row.drop (c+cs.length))
theorem Qw {row:List AV}{c:Nat}{cs:List AV}(h:c+cs.length≤row.length):(putCells row c cs).length=row.length:=by
 simp [putCells]; omega
theorem Vs {row:List AV}{c:Nat}{cs:List AV}(h:c+cs.length≤row.length)(j:Nat) :
  (putCells row c cs).getD j .und=if c≤j∧j<c+cs.length then cs.getD (j - c) .und else row.getD j .und:=by
 unfold putCells
 simp only [List.getD]
 split
 ·rename_i hj
  rw [List.getElem?_append_right (by simp; omega),List.getElem?_append_left (by simp; omega)]
  simp only [List.length_take]
  rw [show j - min c row.length=j - c by omega]
 ·rename_i hj
  by_cases h1:j<c
  ·rw [List.getElem?_append_left (by simp; omega),List.getElem?_take,if_pos h1]
  ·rw [List.getElem?_append_right (by simp; omega),List.getElem?_append_right (by simp; omega)]
   simp only [List.length_take,List.getElem?_drop]
   rw [show c+cs.length+(j - min c row.length - cs.length)=j by omega]
theorem Ace {row:List AV}{c:Nat}{cs:List AV}{v:AV}(h:v ∈ putCells row c cs):v ∈ row∨v ∈ cs:=by
 simp only [putCells,List.mem_append] at h
 rcases h with h | h | h
 ·exact .inl (List.mem_of_mem_take h)
 ·exact .inr h
 ·exact .inl (List.mem_of_mem_drop h)
theorem Aen {rs:List (List AV)}{r:Nat}{row:List AV}(hr:r<rs.length)(i j:Nat):cell (rs.set r row) i j=if i=r then row.getD j .und else cell rs i j:=by
 unfold cell
 by_cases h:i=r
 ·subst h; simp [List.getD,hr]
 ·simp [List.getD,List.getElem?_set_ne (Ne.symm h),h]
theorem Ab2 {rs:List (List AV)}{r st:Nat}{row:List AV}(h : ∀ x ∈ rs,Cm st x)(h1:Cm st row) : ∀ x ∈ rs.set r row,Cm st x:=by
 intro x hx
 rcases List.mem_or_eq_of_mem_set hx with hx | rfl
 ·exact h x hx
 ·exact h1
def O7 (P:Program)(h:Ab)(t:TypeId)(a v:AV):Option Ab:=
 match ti P t with
 | none=>none
 | some T=>match a with
  | .ptr o g r c=>match h o with
   | some (.rows g' st rs)=>
    if g'=g∧r<rs.length∧v.ok=true∧v.cells.length=T.size∧c+T.size≤st∧v.cells.all AV.flat=true then some (upd h o (some (.rows g st (rs.set r (putCells (rs.getD r []) c v.cells))))) else none
   | _=>none
  | _=>none
section
variable {P:Program} [GW P] {B:Base P} {h:Ab} {mu:Mu} {w:World}
theorem Aqt {rs:List (List AV)}{r st:Nat}(hr:r<rs.length)(h : ∀ x ∈ rs,Cm st x):Cm st (rs.getD r []):=by
 have:rs.getD r []=rs[r]:=by simp [List.getD,hr]
 rw [this]; exact h _ (List.getElem_mem hr)
theorem Ahb {i r st j c n:Nat}(hne:i≠r)(hj:j<st)(hc:c+n≤st):i * st+j<r * st+c∨r * st+c+n≤i * st+j:=by
 rcases Nat.lt_or_gt_of_ne hne with h | h
 ·left
  have:(i+1) * st≤r * st:=Nat.mul_le_mul_right _ h
  rw [Nat.add_mul] at this
  omega
 ·right
  have:(r+1) * st≤i * st:=Nat.mul_le_mul_right _ h
  rw [Nat.add_mul] at this
  omega
theorem Hz {r st j n:Nat}(hr:r<n)(hj:j<st):r * st+j<n * st:=by
 have:(r+1) * st≤n * st:=Nat.mul_le_mul_right _ hr
 rw [Nat.add_mul] at this
 omega
theorem Sim.obj {o g st:Nat}{rs:List (List AV)}(s:Sim B mu h w)(hx:h o=some (.rows g st rs)) : ∃ l cells e f,mu o g=some l∧l.cells=true∧l.st=st∧l.base+rs.length * st≤l.size∧(∀ r ∈ rs,Cm st r) ∧
  w.heap[l.b]? = some (.cells cells e f)∧cells.size=l.size∧Ri f l.size ∧ ∀ i j,i<rs.length→j<st → ∃ c,cells[l.base+i * st+j]? = some c∧RV h mu w (cell rs i j) c:=by
 obtain⟨l,h1,h2,h3,h4,h5,h6⟩:=s.rows _ _ _ _ hx
 obtain⟨_,_,k⟩:=s.muOk _ _ _ h1
 obtain⟨cells,e,f,k1,k2,k3⟩:=k h2
 refine⟨l,cells,e,f,h1,h2,h3,h4,h5,k1,k2,k3,fun i j hi hj=>?_⟩
 obtain⟨c,hc1,hc2⟩:=h6 i j hi hj
 refine⟨c,?_,hc2⟩
 unfold World.cell? at hc1
 rw [k1] at hc1
 simpa using hc1
theorem Ak1 (s:Sim B mu h w){t:TypeId}{a v:AV}{ca cv:Value}{h':Ab}(ha:RV h mu w a ca)(hv:RV h mu w v cv)(hx:O7 P h t a v=some h') :
  ∃ w',(Instr.storeAt t ca cv).run P w=.ok () w'∧Sim B mu h' w'∧Da h mu w h' mu w':=by
 unfold O7 at hx
 split at hx
 ·cases hx
 rename_i T hT
 split at hx
 ·rename_i o g r c
  split at hx
  ·rename_i g' st rs hh
   split at hx
   ·rename_i hc
    obtain⟨rfl,hr,hok,hlen,hfit,hflat⟩:=hc
    cases hx
    cases ha with
    | ptr _ _ _ _ l hl hcl=>
     obtain⟨l',cells,e,f,k1,k2,k3,k4,k5,k6,k7,k8,k9⟩:=s.obj hh
     rw [hl] at k1; cases k1
     subst k3
     obtain⟨z1,z2⟩:=Aao hv hok
     have hn:cv.cells.toList.length=T.size:=by rw [← hlen,z1]; simp
     have hin : ∀ j,j<T.size→l.base+r * l.st+c+j<l.size:=fun j hj=>by
      have:=Hz (r:=r) (st:=l.st) (j:=c+j) hr (by omega)
      omega
     have hrow:=Aqt hr k5
     have hone : ∀ u ∈ cv.cells.toList,u.oneCell'=true:=by
      intro u hu
      obtain⟨i,hi,rfl⟩:=List.mem_iff_getElem.1 hu
      have hi':i<v.cells.length:=by rw [z1]; simpa using hi
      have:=z2 i hi'
      rw [Dh (List.getElem?_eq_getElem hi)] at this
      refine this.one ?_
      rw [Dh (List.getElem?_eq_getElem hi')]
      exact List.all_eq_true.1 hflat _ (List.getElem_mem hi')
     have hrun:=run_storeCells_cells (P:=P) l.b (l.base+r * l.st+c) cv.cells.toList 0 w
      (fun j hj=>by
       rw [Nat.add_zero]
       unfold World.cell?
       rw [k6]
       simp [k7,hin j (by omega)])
      (fun j hj=>by
       rw [Nat.add_zero]
       unfold World.frozen?
       rw [k6]
       have:=k8 _ (Nat.le_of_lt (hin j (by omega)))
       cases hq:(decide (f.1≤l.base+r * l.st+c+j)&&decide (l.base+r * l.st+c+j<f.2)) with
       | false=>exact hq
       | true=>
        simp only [Bool.and_eq_true,decide_eq_true_eq] at hq
        exact absurd hq this) hone
     obtain⟨cells',q1,q2,q3,q4,q5,q6,q7,q8,q9⟩:=Iu l.b cv.cells.toList (l.base+r * l.st+c) w cells e f k6 (by
      rw [hn,k7]
      have:=Hz (r:=r) (st:=l.st) (j:=0) hr
      have:=Nat.mul_le_mul_right l.st (show r+1≤rs.length from hr)
      rw [Nat.add_mul] at this
      omega)
     refine⟨w.setCells l.b (l.base+r * l.st+c) cv.cells.toList,?_,?_⟩
     ·have hsz:cv.cells.size=T.size:=by simpa using hn
      simp only [Instr.storeAt,Instr.sureAddr,Sem.run_bind,Sem.run_pure,Result.andThen_ok,storeVar,El hT,hsz,ne_eq,not_true_eq_false,if_false]
      simpa using hrun
     ·have hput:=Sim.put (rs':=rs.set r (putCells (rs.getD r []) c v.cells)) (l':=l) (g':=g') s hh hl q7 q8 q9 q6 q5 q1 (by rw [q2,k7]) k8 (.inl ⟨rfl,rfl⟩) rfl rfl hcl
       (by simpa using k4)
       (by
        refine Ab2 k5 ⟨?_,?_⟩
        ·rw [Qw (by rw [hrow.1]; omega)]; exact hrow.1
        ·intro x hx
         rcases Ace hx with hx | hx
         ·exact hrow.2 x hx
         ·exact List.all_eq_true.1 hflat _ hx)
       (by
        intro i j hi hj
        rw [List.length_set] at hi
        rw [Aen hr]
        by_cases hir:i=r
        ·subst hir
         rw [if_pos rfl,Vs (by rw [hrow.1]; omega)]
         split
         ·rename_i hjc
          have e1:l.base+i * l.st+j=l.base+i * l.st+c+(j - c):=by omega
          rw [e1]
          have:=q3 (j - c) (by omega)
          rw [this]
          have hjn:j - c<cv.cells.toList.length:=by omega
          refine⟨cv.cells.toList[j - c],List.getElem?_eq_getElem hjn,?_⟩
          have:=z2 (j - c) (by omega)
          rwa [Dh (d:=undef) (List.getElem?_eq_getElem hjn)] at this
         ·rename_i hjc
          obtain⟨x,hx1,hx2⟩:=k9 i j hi hj
          refine⟨x,?_,hx2⟩
          rw [q4 _ (by omega)]; exact hx1
        ·rw [if_neg hir]
         obtain⟨x,hx1,hx2⟩:=k9 i j hi hj
         refine⟨x,?_,hx2⟩
         rw [q4 _ (by
          have:=Ahb (c:=c) (n:=T.size) hir hj (by omega)
          omega)]; exact hx1)
      rw [Ahq hl] at hput
      exact hput
   ·cases hx
  ·cases hx
 ·cases hx
def Q2 (h:Ab)(st:Nat)(rs:List (List AV))(K:Nat→Nat→Ab→Prop):Prop := ∃ o,h o=none ∧ ∀ g,K o g (upd h o (some (.rows g st rs)))
theorem Pf (s:Sim B mu h w){st base:Nat}{rs:List (List AV)}{cells:Array Value}{e:TypeId}{K:Nat→Nat→Ab→Prop}(hK:Q2 h st rs K)
  (hb:base+rs.length * st≤cells.size) (hr : ∀ r ∈ rs,Cm st r)
  (hc : ∀ i j,i<rs.length→j<st → ∃ c,cells[base+i * st+j]? = some c∧RV h mu w (cell rs i j) c) :
  ∃ o g mu',mu' o g=some ⟨w.heap.size,base,st,cells.size,true⟩∧K o g (upd h o (some (.rows g st rs)))∧Sim B mu' (upd h o (some (.rows g st rs))) (w.alloc (.cells cells e)) ∧
   Da h mu w (upd h o (some (.rows g st rs))) mu' (w.alloc (.cells cells e)):=by
 obtain⟨N,hN,hK⟩:=hK
 obtain⟨g,hg⟩:=s.fresh N
 have:=Sim.push (e:=e) s hg hb hr hc
 exact⟨N,g,_,by simp [C0],hK g,this.1,this.2⟩
theorem Xh (s:Sim B mu h w){cs:List AV}{c:Value}{e:TypeId}{K:Nat→Nat→Ab→Prop}(hK:Q2 h cs.length [cs] K)(hl:cs.length=c.cells.size)(hcs : ∀ i,i<cs.length→RV h mu w (cs.getD i .und) (c.cells.toList.getD i undef))
  (hflat:cs.all AV.flat=true) :
  ∃ o g mu' h' w',(newVar e c).run P w=.ok ⟨w.heap.size,0,none⟩ w'∧RV h' mu' w' (.ptr o g 0 0) (.pointer (some ⟨w.heap.size,0,none⟩))∧K o g h'∧Sim B mu' h' w'∧Da h mu w h' mu' w':=by
 obtain⟨o,g,mu',h1,h2,h3,h4⟩:=Pf (base:=0) (cells:=c.cells) (e:=e) s hK (by simp [hl]) (by
   intro r hr
   simp only [List.mem_singleton] at hr
   subst hr
   exact⟨rfl,fun v hv=>List.all_eq_true.1 hflat v hv⟩) (by
   intro i j hi hj
   have:i=0:=by simpa using hi
   subst this
   have hj':j<c.cells.toList.length:=by simpa [← hl] using hj
   refine⟨c.cells.toList[j],by simp only [Nat.zero_mul,Nat.zero_add]; rw [← Array.getElem?_toList]; exact List.getElem?_eq_getElem hj',?_⟩
   have:=hcs j hj
   rwa [Dh (d:=undef) (List.getElem?_eq_getElem hj')] at this)
 refine⟨o,g,mu',_,_,rfl,?_,h2,h3,h4⟩
 have:=Rv.ptr (w:=w.alloc (.cells c.cells e)) (M:=Ci (upd h o (some (.rows g cs.length [cs]))) mu') o g 0 0 _ h1 rfl
 simpa using this
end
end Go.Am
namespace Go.Am
open Go
set_option linter.unusedSimpArgs false
set_option linter.unusedVariables false
set_option linter.unusedSectionVars false
def Fx (P:Program)(h:Ab)(size:Nat)(u8:Bool)(x:AV):Option (List (List AV)):=
 match x with
 | .sl st rows=>if st=size then some rows else none
 | .emp=>some []
 | .ref o g off len=>match h o with
  | some (.rows g' st rs)=>if g'=g∧st=size∧off+len≤rs.length then some ((rs.drop off).take len) else none
  | _=>none
 | .refc o g r c len _=>match h o with
  | some (.rows g' st rs)=>if g'=g∧size=1∧r<rs.length∧c+len≤st then some (Jz 1 len ((rs.getD r []).drop c)) else none
  | _=>none
 | .str s=>if u8∧size=1 then some (s.map fun b=>[.int .u8 (b.toNat:Int)]) else none
 | _=>none
section
variable {P:Program} [GW P] {B:Base P} {h:Ab} {mu:Mu} {w:World}
theorem Wp {size k n:Nat}(h:k<n * size):k / size<n∧k % size<size∧k / size * size+k % size=k:=by
 have hs:0<size:=by
  rcases Nat.eq_zero_or_pos size with rfl | h'
  ·simp at h
  ·exact h'
 exact⟨Nat.div_lt_of_lt_mul (by rwa [Nat.mul_comm]),Nat.mod_lt _ hs,by rw [Nat.mul_comm]; exact Nat.div_add_mod k size⟩
theorem Zr {size i j:Nat}(hj:j<size):(i * size+j) / size=i∧(i * size+j) % size=j:=by
 constructor
 ·rw [Nat.mul_comm,Nat.mul_add_div (by omega),Nat.div_eq_of_lt hj,Nat.add_zero]
 ·rw [Nat.mul_comm,Nat.mul_add_mod,Nat.mod_eq_of_lt hj]
theorem Vj (s:Sim B mu h w){size:Nat}{u8:Bool}{x:AV}{c:Value}{rows:List (List AV)}(hv:RV h mu w x c)(hx:Fx P h size u8 x=some rows) :
  (∀ w',(Builtin.lenOf c).run P w'=.ok rows.length w') ∧ ∃ news:List Value,news.length=rows.length * size∧(∀ w',w'.heap=w.heap→(Builtin.firstCells size rows.length c).run P w'=.ok news.toArray w') ∧
   (∀ r ∈ rows,Cm size r) ∧ ∀ i j,i<rows.length→j<size→RV h mu w (cell rows i j) (news.getD (i * size+j) undef):=by
 have fromCells : ∀ (n b off cap:Nat) (f:Nat→Value),(∀ k,k<n * size→w.cell? ⟨b,off+k,none⟩=some (f k)) → ∀ w',w'.heap=w.heap →
   (Builtin.firstCells size n (.slice (some ⟨b,off,none⟩) n cap)).run P w'=.ok ((List.range (n * size)).map f).toArray w':=by
  intro n b off cap f hf w' hw'
  have:=run_firstCells_some (P:=P) w' size n ⟨b,off,none⟩ n cap ((List.range (n * size)).map f) (by simp) (by
   intro j v hj
   have hj':j<n * size:=by
    rcases Nat.lt_or_ge j (n * size) with h' | h'
    ·exact h'
    ·rw [List.getElem?_eq_none (by simpa using h')] at hj; cases hj
   rw [List.getElem?_map,List.getElem?_range hj'] at hj
   simp at hj; subst hj
   rw [Id,cell?_of_heap (w:=w) (a:=⟨b,off+j,none⟩) (by rw [hw'])]
   exact hf j hj')
  exact this
 unfold Fx at hx
 split at hx
 ·rename_i st rws
  split at hx
  ·rename_i hst
   subst hst
   cases hx
   cases hv with
   | sl0 _ a cap=>
    refine⟨fun w'=>by simp [Builtin.lenOf],[],by simp,fun w' _=>?_,fun r hr=>by simp at hr,fun i j hi=>by simp at hi⟩
    cases a <;> simp [Builtin.firstCells,loadCells,loadCellsFrom]
   | sl _ _ b off cap vs hcap hlim g1 g2 hr g3 g4=>
    refine⟨fun w'=>by simp [Builtin.lenOf],(List.range (rows.length * st)).map (fun k=>vs (k / st) (k % st)),by simp,fromCells _ _ _ _ _ ?_,hr,fun i j hi hj=>?_⟩
    ·intro k hk
     obtain⟨h1,h2,h3⟩:=Wp hk
     have:=g1 _ _ h1 h2
     rwa [Nat.add_assoc,h3] at this
    ·have hk:=Hz (st:=st) hi hj
     obtain⟨e1,e2⟩:=Zr (i:=i) hj
     rw [Dh (x:=vs i j) (by rw [List.getElem?_map,List.getElem?_range hk]; simp [e1,e2])]
     exact g2 i j hi hj
  ·cases hx
 ·cases hx
  cases hv with
  | emp a=>
   refine⟨fun w'=>by simp [Builtin.lenOf],[],by simp,fun w' _=>?_,fun r hr=>by simp at hr,fun i j hi=>by simp at hi⟩
   cases a <;> simp [Builtin.firstCells,loadCells,loadCellsFrom]
 ·rename_i o g off len
  split at hx
  ·rename_i g' st rs hh
   split at hx
   ·rename_i hc
    obtain⟨rfl,rfl,hle⟩:=hc
    cases hx
    cases hv with
    | ref _ _ _ _ cap l hl hcl hcap hlim hsz=>
     obtain⟨l',k1,k2,k3,k4,k5,k6⟩:=s.rows _ _ _ _ hh
     rw [hl] at k1; cases k1
     subst k3
     have hlen:((rs.drop off).take len).length=len:=by simp; omega
     have hcr : ∀ i j,i<len→cell ((rs.drop off).take len) i j=cell rs (off+i) j:=by
      intro i j hi
      simp [cell,List.getD,List.getElem?_take,hi,List.getElem?_drop]
     have hex : ∃ f:Nat→Nat→Value,∀ i j,i<len→j<l.st→w.cell? ⟨l.b,l.base+(off+i) * l.st+j,none⟩=some (f i j)∧RV h mu w (cell rs (off+i) j) (f i j):=by
      refine⟨fun i j=>(w.cell? ⟨l.b,l.base+(off+i) * l.st+j,none⟩).getD undef,fun i j hi hj=>?_⟩
      obtain⟨x,hx1,hx2⟩:=k6 (off+i) j (by omega) hj
      simp only [hx1,Option.getD_some]
      exact⟨trivial,hx2⟩
     obtain⟨f,hf⟩:=hex
     rw [hlen]
     refine⟨fun w'=>by simp [Builtin.lenOf],(List.range (len * l.st)).map (fun k=>f (k / l.st) (k % l.st)),by simp,fromCells _ _ _ _ _ ?_,?_,fun i j hi hj=>?_⟩
     ·intro k hk
      obtain⟨h1,h2,h3⟩:=Wp hk
      have:=(hf _ _ h1 h2).1
      rw [Nat.add_mul] at this
      rw [← this]
      congr 2
      omega
     ·intro r hr
      exact k5 r (List.mem_of_mem_drop (List.mem_of_mem_take hr))
     ·have hk:=Hz (st:=l.st) hi hj
      obtain⟨e1,e2⟩:=Zr (i:=i) hj
      rw [Dh (x:=f i j) (by rw [List.getElem?_map,List.getElem?_range hk]; simp [e1,e2]),hcr i j hi]
      exact(hf i j hi hj).2
   ·cases hx
  ·cases hx
 ·rename_i o g r c len cap
  split at hx
  ·rename_i g' st rs hh
   split at hx
   ·rename_i hc
    obtain⟨rfl,rfl,hr,hle⟩:=hc
    cases hx
    cases hv with
    | refc _ _ _ _ _ _ l hl hcl hcap hlim hsz=>
     obtain⟨l',k1,k2,k3,k4,k5,k6⟩:=s.rows _ _ _ _ hh
     rw [hl] at k1; cases k1
     subst k3
     have hlen:(Jz 1 len ((rs.getD r []).drop c)).length=len:=Z6 _ _ _
     have hrow:(rs.getD r []).length=l.st:=by
      simp only [List.getD,List.getElem?_eq_getElem hr,Option.getD_some]; exact(k5 _ (List.getElem_mem hr)).1
     have hex : ∃ f:Nat→Value,∀ j,j<len→w.cell? ⟨l.b,l.base+r * l.st+(c+j),none⟩=some (f j)∧RV h mu w (cell rs r (c+j)) (f j):=by
      refine⟨fun j=>(w.cell? ⟨l.b,l.base+r * l.st+(c+j),none⟩).getD undef,fun j hj=>?_⟩
      obtain⟨x,hx1,hx2⟩:=k6 r (c+j) hr (by omega)
      simp only [hx1,Option.getD_some]
      exact⟨trivial,hx2⟩
     obtain⟨f,hf⟩:=hex
     rw [hlen]
     refine⟨fun w'=>by simp [Builtin.lenOf],(List.range (len * 1)).map f,by simp,fun w' hw'=>?_,Abu (by rw [List.length_drop,hrow]; omega) (fun v hv=>(k5 _ (List.getElem_mem hr)).2 v (by
      have:=List.mem_of_mem_drop hv
      simpa [List.getD,List.getElem?_eq_getElem hr] using this)),fun i j hi hj=>?_⟩
     ·have:=run_firstCells_some (P:=P) w' 1 len ⟨l.b,l.base+r * l.st+c,none⟩ len cap ((List.range (len * 1)).map f) (by simp) (by
       intro j v hj
       have hj':j<len * 1:=by
        rcases Nat.lt_or_ge j (len * 1) with h' | h'
        ·exact h'
        ·rw [List.getElem?_eq_none (by simpa using h')] at hj; cases hj
       rw [List.getElem?_map,List.getElem?_range hj'] at hj
       simp at hj; subst hj
       rw [Id,cell?_of_heap (w:=w) (a:=⟨l.b,l.base+r * l.st+c+j,none⟩) (by rw [hw'])]
       have:=(hf j (by omega)).1
       rw [← Nat.add_assoc] at this
       exact this)
      exact this
     ·have hj0:j=0:=by omega
      subst hj0
      have hg:((List.range (len * 1)).map f).getD (i * 1+0) undef=f i:=by simp [List.getD,List.getElem?_range hi]
      rw [hg,Yo hj hi]
      have hc2:((rs.getD r []).drop c).getD (i * 1+0) .und=cell rs r (c+i):=by simp [cell,List.getD,List.getElem?_drop]
      rw [hc2]
      exact(hf i hi).2
   ·cases hx
  ·cases hx
 ·rename_i str
  split at hx
  ·rename_i hc
   obtain⟨_,rfl⟩:=hc
   cases hx
   cases hv with
   | str _=>
    have hn:(str.map fun b=>[AV.int .u8 (b.toNat:Int)]).length=str.length:=by simp
    rw [hn]
    refine⟨fun w'=>by simp [Builtin.lenOf,Zw],str.map (fun b=>Value.int .u8 (b.toNat:Int)),by simp,fun w' _=>?_,?_,fun i j hi hj=>?_⟩
    ·simp only [Builtin.firstCells,Sem.run_pure]
     congr 1
     have:(⟨str.toArray⟩:ByteArray).extract 0 str.length=⟨str.toArray⟩:=by rw [Lib.extract_eq]; simp
     rw [this]
     simp
    ·intro r hr
     simp only [List.mem_map] at hr
     obtain⟨b,_,rfl⟩:=hr
     exact⟨rfl,fun v hv=>by simp at hv; subst hv; rfl⟩
    ·have:j=0:=by omega
     subst this
     rw [Nat.mul_one,Nat.add_zero,Dh (x:=Value.int .u8 ((str[i].toNat:Nat):Int)) (by simp [hi])]
     have:cell (str.map fun b=>[AV.int .u8 (b.toNat:Int)]) i 0=.int .u8 ((str[i].toNat:Nat):Int):=by simp [cell,List.getD,hi]
     rw [this]
     exact .int _ _
  ·cases hx
 ·cases hx
end
end Go.Am

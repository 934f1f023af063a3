import Derived.WalkKit
import Derived.MapKept
import Derived.Lib.Strings
import Derived.Great.BuildSlice
import Derived.Laws.BytesString
import Derived.Laws.StructEq
import Derived.ChangeKeysEq
set_option linter.all false
set_option maxHeartbeats 1000000
namespace Go.Am
open Go
abbrev AA:=@List.getElem?_eq_getElem
abbrev AE:=@Nat.zero_add
abbrev AF:=@Nat.le_refl
abbrev AI:=@Nat.add_mul
abbrev AJ:=@List.all_eq_true
abbrev AK:=@Bool.and_eq_true
abbrev AM:=@List.mem_singleton
abbrev AN:=@List.mem_cons
abbrev AP:=@Prod.mk.injEq
abbrev AQ:=@Option.map_some
abbrev AW:=@Nat.lt_of_lt_of_le
abbrev AX:=@Option.some.injEq
abbrev AZ:=@Nat.mul_le_mul_right
abbrev BA:=@List.getElem?_eq_none
abbrev BB:=@decide_eq_true_eq
abbrev BF:=@List.length_drop
abbrev BG:=@List.mem_append
abbrev BH:=@Option.getD_some
abbrev BK:=@List.getElem_mem
abbrev BL:=@List.eq_nil_of_length_eq_zero
abbrev BQ:=@List.getElem?_take
abbrev BR:=@List.getElem?_drop
abbrev BS:=@List.length_take
abbrev BU:=@Bool.or_eq_true
abbrev BV:=@List.length_cons
abbrev CA:=@Array.getElem?_setIfInBounds_ne
abbrev CC:=@List.mem_map
abbrev CD:=@Nat.add_assoc
abbrev CI:=@Nat.lt_or_ge
abbrev CJ:=@List.getElem?_map
abbrev CK:=@List.mem_of_mem_drop
abbrev CL:=@Nat.add_zero
abbrev CO:=@List.getElem?_append_right
abbrev CQ:=@List.length_eq_zero_iff
abbrev CR:=@Nat.le_trans
abbrev CT:=@List.getElem?_append_left
abbrev CX:=@beq_iff_eq
abbrev CY:=@List.getD_cons_zero
abbrev CZ:=@Bool.not_eq_true'
abbrev DA:=@Nat.zero_le
abbrev DC:=@List.mem_of_mem_take
abbrev DG:=@Array.getElem?_toList
abbrev DK:=@List.mem_iff_getElem
abbrev EH:=@List.ext_getElem?
abbrev EY:=@List.getElem?_set_ne
abbrev FD:=@List.getElem?_range
abbrev FX:=@Nat.mul_one
abbrev FY:=@List.foldl_cons
abbrev FZ:=@List.length_set
abbrev GF:=@Nat.le_succ_of_le
abbrev GJ:=@Array.getElem?_modify
abbrev GU:=@List.getD_cons_succ
abbrev HF:=@Array.ext'
abbrev HO:=@Nat.mul_comm
structure Loc where
 b:Nat
 base:Nat
 st:Nat
 size:Nat
 cells:Bool
abbrev Mu:=Nat->Nat->Option Loc
structure Ext (w:World)(mu:Mu)(M:Nat->Prop)(w':World)(mu':Mu)(M':Nat->Prop):Prop where
 os:w'.os=w.os
 tape:w'.tape=w.tape
 output:w'.output=w.output
 size:w.heap.size<=w'.heap.size
 same:∀b,b<w.heap.size->¬M b->w'.heap[b]?=w.heap[b]?/\¬M' b
 mu:∀o g l,mu o g=some l->mu' o g=some l
structure ExtG (n:Nat)(w:World)(mu:Mu)(M:Nat->Prop)(w':World)(mu':Mu)(M':Nat->Prop):Prop where
 os:w'.os=w.os
 tape:w'.tape=w.tape
 output:w'.output=w.output
 size:w.heap.size<=w'.heap.size
 same:∀b,b<w.heap.size->¬M b->(w'.heap[b]?=w.heap[b]?\/(n<=b/\∃x y,w.heap[b]?=some (.deferred x)/\w'.heap[b]?=some (.deferred y)))/\¬M' b
 mu:∀o g l,mu o g=some l->mu' o g=some l
variable{n:Nat}{w:World}{mu:Mu}{w':World}{mu':Mu}{M':Nat→Prop}
def Ext.g{M:Nat->Prop}(e:Ext w mu M w' mu' M'):ExtG n w mu M w' mu' M':=⟨e.os,e.tape,e.output,e.size,λb z A=>⟨.inl (e.same b z A).1,(e.same b z A).2⟩,e.mu⟩
def ExtG.ext{M:Nat->Prop}(e:ExtG w.heap.size w mu M w' mu' M'):Ext w mu M w' mu' M':=
 ⟨e.os,e.tape,e.output,e.size,λb A D=>by
  obtain⟨z,G⟩:=e.same b A D;rcases z with z|⟨z,_⟩
  .exact⟨z,G⟩
  .omega,e.mu⟩
structure YF where
 F:World->Mu->(Nat->Prop)->Nat->Prop
 mono:∀{n:Nat} {w:World} {mu:Mu} {M:Nat->Prop} {w':World} {mu':Mu} {M':Nat->Prop} {l:Nat},ExtG n w mu M w' mu' M'->F w mu M l->F w' mu' M' l
inductive AV where
 |bool (b:Bool)
 |int (k:IntKind) (n:Int)
 |str (s:List UInt8)
 |nilp
 |ptr (o g r c:Nat)
 |gptr (a:Addr)
 |cp (row:List AV) (c:Nat)
 |cp0 (row:List AV)
 |emp
 |snil
 |sl (st:Nat) (rows:List (List AV))
 |slx (st:Nat) (rows:List (List AV))
 |ref (o g off len:Nat)
 |refc (o g r c len cap:Nat)
 |mnil
 |map (o g:Nat)
 |mapc (es:List (List UInt8×AV))
 |mapi (es:List (AV×AV))
 |itm (o g b clock:Nat) (ens:Array MapEntry) (es:List (AV×AV))
 |func (fn:Fn) (first captured:List AV)
 |nilf
 |iface (t:TypeId) (v:AV)
 |nili
 |agg (cs:List AV)
 |tup (vs:List AV)
 |it (o g:Nat)
 |raw (v:Value)
 |any
 |yld (y:YF) (o g:Nat)
 deriving Inhabited
abbrev AV.und:AV:=.tup []
def AV.flat:AV->Bool
 |.agg _=>false
 |.tup _=>false
 |.raw _=>false
 |.any=>false
 |_=>true
def AV.ok:AV->Bool
 |.raw _=>false
 |.any=>false
 |_=>true
def AV.cells:AV->List AV
 |.agg cs=>cs
 |v=>[v]
def Bj:Nat:=140737488355328
inductive AO where
 |rows (g st:Nat) (rs:List (List AV))
 |mp (g:Nat) (es:List (AV×AV))
 |blk (g:Nat) (x:Obj)
def AO.gen:AO->Nat
 |.rows g _ _=>g
 |.mp g _=>g
 |.blk g _=>g
abbrev Aa:=Nat->Option AO
variable{α:Type}
def upd(f:Nat->α)(a:Nat)(v:α):Nat->α:=λb=>if b=a then v else f b
def A09(f:Nat->α)(a:Nat)(v:α):upd f a v a=v:=by simp[upd]
variable{b:Nat}
def Auc(f:Nat->α)(a:Nat)(v:α)(h:b≠a):upd f a v b=f b:=by simp[upd,h]
def A4k(f:Nat->α)(a:Nat)(v:α)(b:Nat):upd f a v b=if b=a then v else f b:=rfl
def Dm (mu:Mu)(o g:Nat)(l:Loc):Mu:=λo' g'=>if o'=o/\g'=g then some l else mu o' g'
def cell (rs:List (List AV))(i j:Nat):AV:=(rs.getD i []).getD j .und
def Cy (st:Nat)(r:List AV):Prop:=r.length=st/\∀v∈r,v.flat=true
section
variable(w:World)(mu:Mu)(M:Nat→Prop)
inductive Rv:AV->Value->Prop
 |bool (b:Bool):Rv (.bool b) (.bool b)
 |int (k:IntKind) (n:Int):Rv (.int k n) (.int k n)
 |str (s:List UInt8):Rv (.str s) (.string ⟨s.toArray⟩)
 |nilp:Rv .nilp (.pointer none)
 |ptr (o g r c:Nat) (l:Loc) (h:mu o g=some l) (hc:l.cells=true):Rv (.ptr o g r c) (.pointer (some ⟨l.b,l.base+r*l.st+c,none⟩))
 |gptr (a:Addr):Rv (.gptr a) (.pointer (some a))
 |cp (row:List AV) (c b off:Nat) (vs:Nat->Value) (h1:∀j,j<row.length->w.cell? ⟨b,off+j,none⟩=some (vs j))
   (h2:∀j,j<row.length->Rv (row.getD j .und) (vs j)) (h3:¬M b) (h4:b<w.heap.size):Rv (.cp row c) (.pointer (some ⟨b,off+c,none⟩))
 |cp0 (row:List AV) (b:Nat) (vs:Nat->Value) (h1:∀j,j<row.length->w.cell? ⟨b,j,none⟩=some (vs j))
   (h2:∀j,j<row.length->Rv (row.getD j .und) (vs j)) (h3:¬M b) (h4:b<w.heap.size):Rv (.cp0 row) (.pointer (some ⟨b,0,none⟩))
 |emp (a:Option Addr):Rv .emp (.slice a 0 0)
 |snil:Rv .snil (.slice none 0 0)
 |sl0 (st:Nat) (a:Option Addr) (cap:Nat):Rv (.sl st []) (.slice a 0 cap)
 |sl (st:Nat) (rows:List (List AV)) (b off cap:Nat) (vs:Nat->Nat->Value) (hcap:rows.length<=cap) (hlim:rows.length<=Bj)
   (h1:∀i j,i<rows.length->j<st->w.cell? ⟨b,off+i*st+j,none⟩=some (vs i j))
   (h2:∀i j,i<rows.length->j<st->Rv (cell rows i j) (vs i j)) (hr:∀r∈rows,Cy st r) (h3:¬M b) (h4:b<w.heap.size):
   Rv (.sl st rows) (.slice (some ⟨b,off,none⟩) rows.length cap)
 |slx0 (st:Nat) (a:Option Addr):Rv (.slx st []) (.slice a 0 0)
 |slx (st:Nat) (rows:List (List AV)) (b off:Nat) (vs:Nat->Nat->Value) (hlim:rows.length<=Bj)
   (h1:∀i j,i<rows.length->j<st->w.cell? ⟨b,off+i*st+j,none⟩=some (vs i j))
   (h2:∀i j,i<rows.length->j<st->Rv (cell rows i j) (vs i j)) (hr:∀r∈rows,Cy st r) (h3:¬M b) (h4:b<w.heap.size):
   Rv (.slx st rows) (.slice (some ⟨b,off,none⟩) rows.length rows.length)
 |ref (o g off len cap:Nat) (l:Loc) (h:mu o g=some l) (hc:l.cells=true) (hcap:len<=cap) (hlim:len<=Bj) (hsz:l.base+(off+cap)*l.st<=l.size):
   Rv (.ref o g off len) (.slice (some ⟨l.b,l.base+off*l.st,none⟩) len cap)
 |refc (o g r c len cap:Nat) (l:Loc) (h:mu o g=some l) (hc:l.cells=true) (hcap:len<=cap) (hlim:cap<=Bj) (hsz:l.base+r*l.st+c+cap<=l.size):
   Rv (.refc o g r c len cap) (.slice (some ⟨l.b,l.base+r*l.st+c,none⟩) len cap)
 |mnil:Rv .mnil (.map none)
 |map (o g:Nat) (l:Loc) (h:mu o g=some l) (hc:l.cells=false):Rv (.map o g) (.map (some l.b))
 |mapc (es es2:List (List UInt8×AV)) (hp:es2.Perm es) (hnd:(es.map (·.1)).Nodup) (b:Nat) (ens:Array MapEntry) (clock:Nat) (hb:w.heap[b]?=some (.map ens clock)) (hl:es2.length=ens.size)
   (h1:∀i,i<es2.length->(ens.getD i default).key=.string ⟨(es2.getD i ([],.und)).1.toArray⟩) (h2:∀i,i<es2.length->Rv (es2.getD i ([],.und)).2 (ens.getD i default).val) (h3:¬M b) (h4:b<w.heap.size):Rv (.mapc es) (.map (some b))
 |mapi0:Rv (.mapi []) (.map none)
 |mapi (es:List (AV×AV)) (b:Nat) (ens:Array MapEntry) (clock:Nat) (hb:w.heap[b]?=some (.map ens clock)) (hst:MapKept.Stamped ens clock) (hl:es.length=ens.size)
   (h1:∀i,i<es.length->Rv (es.getD i (.und,.und)).1 (ens.getD i default).key) (h2:∀i,i<es.length->Rv (es.getD i (.und,.und)).2 (ens.getD i default).val) (h3:¬M b) (h4:b<w.heap.size):Rv (.mapi es) (.map (some b))
 |itm (o g:Nat) (l:Loc) (hm:mu o g=some l) (hc:l.cells=false) (es:List (AV×AV)) (b:Nat) (ens:Array MapEntry) (clock:Nat) (hb:w.heap[b]?=some (.map ens clock)) (hst:MapKept.Stamped ens clock) (hl:es.length=ens.size)
   (h1:∀i,i<es.length->Rv (es.getD i (.und,.und)).1 (ens.getD i default).key) (h2:∀i,i<es.length->Rv (es.getD i (.und,.und)).2 (ens.getD i default).val) (h3:¬M b) (h4:b<w.heap.size):Rv (.itm o g b clock ens es) (.pointer (some ⟨l.b,0,none⟩))
 |func (fn:Fn) (f1 c1:List AV) (f2 c2:List Value) (hf:f1.length=f2.length) (hc:c1.length=c2.length)
   (h1:∀i,i<f1.length->Rv (f1.getD i .und) (f2.getD i undef)) (h2:∀i,i<c1.length->Rv (c1.getD i .und) (c2.getD i undef)):
   Rv (.func fn f1 c1) (.func fn f2.toArray c2.toArray)
 |nilf:Rv .nilf .nilFunc
 |iface (t:TypeId) (v:AV) (c:Value) (h:Rv v c):Rv (.iface t v) (.iface t c)
 |nili:Rv .nili .nilIface
 |agg (cs:List AV) (vs:List Value) (hl:cs.length=vs.length) (h:∀i,i<cs.length->Rv (cs.getD i .und) (vs.getD i undef)):Rv (.agg cs) (.agg vs.toArray)
 |tup (cs:List AV) (vs:List Value) (hl:cs.length=vs.length) (h:∀i,i<cs.length->Rv (cs.getD i .und) (vs.getD i undef)):Rv (.tup cs) (.tuple vs.toArray)
 |it (o g:Nat) (l:Loc) (h:mu o g=some l) (hc:l.cells=false):Rv (.it o g) (.pointer (some ⟨l.b,0,none⟩))
 |raw (v:Value):Rv (.raw v) v
 |any (v:Value):Rv .any v
 |yld (y:YF) (o g:Nat) (l:Loc) (h:mu o g=some l) (hy:y.F w mu M l.b):Rv (.yld y o g) (.func (.yield l.b) #[] #[])
end
def C0 (h:Aa)(mu:Mu)(b:Nat):Prop:=∃o x l,h o=some x/\mu o x.gen=some l/\l.b=b
def Ext.refl (w:World)(mu:Mu)(M:Nat->Prop):Ext w mu M w mu M:=⟨rfl,rfl,rfl,AF _,λ_ _ h=>⟨rfl,h⟩,λ_ _ _ h=>h⟩
def Ext.trans {z A D:World}{G O S:Mu}{U V W:Nat->Prop}(h:Ext z G U A O V)(k:Ext A O V D S W):Ext z G U D S W:=
  ⟨k.os.trans h.os,k.tape.trans h.tape,k.output.trans h.output,CR h.size k.size,
   λb X hm=>by have Y:=h.same b X hm;have Z:=k.same b (AW X h.size) Y.2;exact⟨Z.1.trans Y.1,Z.2⟩,
   λo g l hl=>k.mu o g l (h.mu o g l hl)⟩
def cell?_of_heap{a:Addr}(h:w'.heap[a.block]?=w.heap[a.block]?):w'.cell? a=w.cell? a:=by unfold World.cell?;rw[h]
def ExtG.cell{M:Nat->Prop}(e:ExtG n w mu M w' mu' M'){o:Nat}{v:Value}(z:b<w.heap.size)(A:¬M b)(h:w.cell? ⟨b,o,none⟩=some v):w'.cell? ⟨b,o,none⟩=some v:=by
 rcases(e.same b z A).1 with hs|⟨_,x,y,hx,_⟩
 .rw[cell?_of_heap (w:=w) (w':=w') (a:=⟨b,o,none⟩) hs];exact h
 .unfold World.cell? at h;rw[hx]at h;cases h
variable{v:AV}{c:Value}
def Rv.extG{M:Nat->Prop}(e:ExtG n w mu M w' mu' M')(h:Rv w mu M v c):Rv w' mu' M' v c:=by
 induction h with
 |bool b=>exact .bool b
 |int k n=>exact .int k n
 |str s=>exact .str s
 |nilp=>exact .nilp
 |ptr o g r c l h W=>exact .ptr o g r c l (e.mu _ _ _ h) W
 |gptr a=>exact .gptr a
 |cp row c b off vs Y h2 O z X=>have G:=e.same b z O;exact .cp row c b off vs (λj hj=>e.cell z O (Y j hj)) X G.2 (AW z e.size)
 |cp0 row b vs Y h2 O z X=>have G:=e.same b z O;exact .cp0 row b vs (λj hj=>e.cell z O (Y j hj)) X G.2 (AW z e.size)
 |emp a=>exact .emp a
 |snil=>exact .snil
 |sl0 st a U=>exact .sl0 st a U
 |sl st rows b off U vs S A Y h2 hr O z X=>have G:=e.same b z O;exact .sl st rows b off U vs S A (λi j hi hj=>e.cell z O (Y i j hi hj)) X hr G.2 (AW z e.size)
 |slx0 st a=>exact .slx0 st a
 |slx st rows b off vs A Y h2 hr O z X=>have G:=e.same b z O;exact .slx st rows b off vs A (λi j hi hj=>e.cell z O (Y i j hi hj)) X hr G.2 (AW z e.size)
 |ref o g off len U l h W S A ab=>exact .ref o g off len U l (e.mu _ _ _ h) W S A ab
 |refc o g r c len U l h W S A ab=>exact .refc o g r c len U l (e.mu _ _ _ h) W S A ab
 |mnil=>exact .mnil
 |map o g l h W=>exact .map o g l (e.mu _ _ _ h) W
 |mapc es ad hp ae b Z D hb hl Y h2 O z V=>
  have G:=e.same b z O;refine .mapc es ad hp ae b Z D ?_ hl Y V G.2 (AW z e.size);rcases G.1 with G|⟨_,x,y,hx,_⟩
  .rw[G];exact hb
  .rw[hb]at hx;cases hx
 |mapi0=>exact .mapi0
 |mapi es b Z D hb ac hl Y h2 O z aa V=>
  have G:=e.same b z O;refine .mapi es b Z D ?_ ac hl aa V G.2 (AW z e.size);rcases G.1 with G|⟨_,x,y,hx,_⟩
  .rw[G];exact hb
  .rw[hb]at hx;cases hx
 |itm o g l hm W es b Z D hb ac hl Y h2 O z aa V=>
  have G:=e.same b z O;refine .itm o g l (e.mu _ _ _ hm) W es b Z D ?_ ac hl aa V G.2 (AW z e.size);rcases G.1 with G|⟨_,x,y,hx,_⟩
  .rw[G];exact hb
  .rw[hb]at hx;cases hx
 |func fn f1 c1 f2 c2 hf W Y h2 aa V=>exact .func fn f1 c1 f2 c2 hf W aa V
 |nilf=>exact .nilf
 |iface t v c h X=>exact .iface t v c X
 |nili=>exact .nili
 |agg cs vs hl h X=>exact .agg cs vs hl X
 |tup cs vs hl h X=>exact .tup cs vs hl X
 |it o g l h W=>exact .it o g l (e.mu _ _ _ h) W
 |raw v=>exact .raw v
 |any v=>exact .any v
 |yld y o g l h hy=>exact .yld y o g l (e.mu _ _ _ h) (y.mono e hy)
def Rv.ext{M:Nat->Prop}(e:Ext w mu M w' mu' M')(h:Rv w mu M v c):Rv w' mu' M' v c:=h.extG (n:=0) e.g
def Rv.less{M:Nat->Prop}(z:∀b,M' b->M b)(h:Rv w mu M v c):Rv w mu M' v c:=Rv.ext (w:=w) (w':=w) (mu:=mu) (mu':=mu) (M:=M) ⟨rfl,rfl,rfl,AF _,λb _ A=>⟨rfl,λh=>A (z b h)⟩,λ_ _ _ h=>h⟩ h
def Ajc (f:Nat×Nat)(n:Nat):Prop:=∀i,i<=n->¬(f.1<=i/\i<f.2)
class GW (P:Program) where
 n:Nat
 G:Nat->World->Prop
 keep:∀{m:Nat} {w w':World},n<=m->(∀b,b<m->w'.heap[b]?=w.heap[b]?)->G m w->G m w'
 row:Nat->Option (List AV):=λ_=>none
 rowOk:∀{m:Nat} {w:World} {b:Nat} {r:List AV},n<=m->m<=w.heap.size->G m w->row b=some r->b<n/\∀(mu:Mu) (M:Nat->Prop),(∀b,M b->m<=b)->
  ∀j,j<r.length->∃x,w.cell? ⟨b,j,none⟩=some x/\Rv w mu M (r.getD j .und) x:=by intro _ _ _ _ _ _ _ h;cases h
structure Base (P:Program) where
 n:Nat
 fb:Nat:=n
structure Sim {P:Program}[GW P](B:Base P)(mu:Mu)(h:Aa)(w:World):Prop where
 base:B.n<=w.heap.size
 muOk:∀o g l,mu o g=some l->B.n<=l.b/\l.b<w.heap.size/\
  (l.cells=true->∃cells e f,w.heap[l.b]?=some (.cells cells e f)/\cells.size=l.size/\Ajc f l.size)
 fin:∃N,∀o g,N<=g->mu o g=none
 finh:∃N,∀o,N<=o->h o=none
 rows:∀o g st rs,h o=some (.rows g st rs)->∃l,mu o g=some l/\l.cells=true/\l.st=st/\l.base+rs.length*st<=l.size/\(∀r∈rs,Cy st r)/\
  ∀i j,i<rs.length->j<st->∃c,w.cell? ⟨l.b,l.base+i*st+j,none⟩=some c/\Rv w mu (C0 h mu) (cell rs i j) c
 maps:∀o g es,h o=some (.mp g es)->∃l,mu o g=some l/\l.cells=false/\∃ens clock,(w.heap[l.b]?=some (.map ens clock)/\MapKept.Stamped ens clock)/\es.length=ens.size/\
  ∀i,i<es.length->Rv w mu (C0 h mu) (es.getD i (.und,.und)).1 (ens.getD i default).key/\Rv w mu (C0 h mu) (es.getD i (.und,.und)).2 (ens.getD i default).val
 inj:∀o o' x x' l l',h o=some x->h o'=some x'->mu o x.gen=some l->mu o' x'.gen=some l'->l.b=l'.b->o=o'
 glob:GW.n P<=B.n/\GW.G P B.n w
 blks:∀o g x,h o=some (.blk g x)->∃l,mu o g=some l/\l.cells=false/\w.heap[l.b]?=some x
variable{P:Program}
def GW.step[GW P](k:GW.n P<=n/\GW.G P n w)(e:∀b,b<n->w'.heap[b]?=w.heap[b]?):GW.n P<=n/\GW.G P n w':=⟨k.1,GW.keep k.1 e k.2⟩
variable{h:Aa}
def Sim.rebase[GW P]{B z:Base P}(s:Sim B mu h w)(e:z.n=B.n):Sim z mu h w:=⟨e▸s.base,λo g l A=>e▸s.muOk o g l A,s.fin,s.finh,s.rows,s.maps,s.inj,e▸s.glob,s.blks⟩
abbrev Asw (n:Nat)(h:Aa)(mu:Mu)(w:World)(h':Aa)(mu':Mu)(w':World):Prop:=ExtG n w mu (C0 h mu) w' mu' (C0 h' mu')
abbrev Ez (h:Aa)(mu:Mu)(w:World)(h':Aa)(mu':Mu)(w':World):Prop:=Ext w mu (C0 h mu) w' mu' (C0 h' mu')
abbrev RV (h:Aa)(mu:Mu)(w:World)(v:AV)(c:Value):Prop:=Rv w mu (C0 h mu) v c
def ExtG.trans{V W X:World}{Y Z m3:Mu}{M1 M2 M3:Nat->Prop}(h:ExtG n V Y M1 W Z M2)(k:ExtG n W Z M2 X m3 M3):ExtG n V Y M1 X m3 M3:=
  ⟨k.os.trans h.os,k.tape.trans h.tape,k.output.trans h.output,CR h.size k.size,
   λb hb hm=>by
     obtain⟨A,G⟩:=h.same b hb hm;obtain⟨D,O⟩:=k.same b (AW hb h.size) G;refine⟨?_,O⟩;rcases A with A|⟨hn,x,y,hx,hy⟩<;>rcases D with D|⟨S,x2,y2,U,z⟩
     . exact .inl (D.trans A)
     . exact .inr ⟨S,x2,y2,A▸U,z⟩
     . exact .inr ⟨hn,x,y,hx,D.trans hy⟩
     . exact .inr ⟨hn,x,y2,hx,z⟩,
   λo g l hl=>k.mu o g l (h.mu o g l hl)⟩
def Hv (h' h:Aa):Prop:=∀o x,h' o=some x->h o=some x
def Hv.refl (h:Aa):Hv h h:=λ_ _ e=>e
variable{h':Aa}
def C0.sub(z:Hv h' h)(b:Nat)(A:C0 h' mu b):C0 h mu b:=let ⟨o,x,l,D,G,O⟩:=A;⟨o,x,l,z o x D,G,O⟩
def Sim.sub[GW P]{B:Base P}(s:Sim B mu h w)(z:Hv h' h):Sim B mu h' w:=
  ⟨s.base,s.muOk,s.fin,
   let ⟨N,W⟩:=s.finh;⟨N,λo X=>by
     cases Y:h' o with
     |none=>rfl
     |some x=>have:=z o x Y;rw[W o X]at this;cases this⟩,
   λo g st rs e=>by obtain⟨l,D,G,S,U,O,Z⟩:=s.rows o g st rs (z _ _ e);exact⟨l,D,G,S,U,O,λi j hi hj=>let ⟨c,hc,hr⟩:=Z i j hi hj;⟨c,hc,hr.less (C0.sub z)⟩⟩,
   λo g es e=>by obtain⟨l,D,G,V,A,S,U,O⟩:=s.maps o g es (z _ _ e);exact⟨l,D,G,V,A,S,U,λi hi=>⟨(O i hi).1.less (C0.sub z),(O i hi).2.less (C0.sub z)⟩⟩,
   λo o' x x' l l' e e' D G hb=>s.inj o o' x x' l l' (z _ _ e) (z _ _ e') D G hb,s.glob,λo g x e=>s.blks o g x (z _ _ e)⟩
def Ez.sub(z:Hv h' h):Ez h mu w h' mu w:=⟨rfl,rfl,rfl,AF _,λb _ A=>⟨rfl,λD=>A (C0.sub z b D)⟩,λ_ _ _ h=>h⟩
def Sim.not_mut[GW P]{B:Base P}(s:Sim B mu h w)(A:b<B.n):¬C0 h mu b:=by rintro⟨o,x,l,_,z,rfl⟩;have:=(s.muOk _ _ _ z).1;omega
def Sim.globE[GW P]{B:Base P}(s:Sim B mu h w)(e:Ez h mu w h' mu' w'):GW.n P<=B.n/\GW.G P B.n w':=GW.step s.glob λb z=>(e.same b (AW z s.base) (s.not_mut z)).1
def Sim.grow[GW P]{B:Base P}(s:Sim B mu h w){c:Nat}{row:List AV}(hr:GW.row P b=some row):RV h mu w (.cp row c) (.pointer (some ⟨b,c,none⟩)):=by
 obtain⟨O,S⟩:=GW.rowOk s.glob.1 s.base s.glob.2 hr;have U:∀b,C0 h mu b->B.n<=b:=λb V=>Nat.not_lt.1 λD=>s.not_mut D V;have z:b<B.n:=AW O s.glob.1;have G:∃f:Nat->Value,∀j,j<row.length->w.cell? ⟨b,j,none⟩=some (f j)/\Rv w mu (C0 h mu) (row.getD j .und) (f j):=by refine⟨λj=>(w.cell? ⟨b,j,none⟩).getD undef,λj A=>?_⟩;obtain⟨x,W,X⟩:=S mu _ U j A;simp only[W,BH];exact⟨trivial,X⟩
 obtain⟨f,hf⟩:=G;have:=Rv.cp (w:=w) (mu:=mu) (M:=C0 h mu) row c b 0 f (λj A=>by simpa using(hf j A).1) (λj A=>(hf j A).2) (s.not_mut z) (AW z s.base);simpa using this
def C0.lt[GW P]{B:Base P}(s:Sim B mu h w)(z:C0 h mu b):b<w.heap.size:=by obtain⟨o,x,l,_,A,rfl⟩:=z;exact(s.muOk _ _ _ A).2.1
def Ds{x:Obj}(h:b<w.heap.size):(w.alloc x).heap[b]?=w.heap[b]?:=Go.RowKit.Below.heap_alloc w x b h
def Rc{x:Obj}:(w.alloc x).heap[w.heap.size]?=some x:=by show(w.heap.push x)[w.heap.size]?=_;simp
def Ey{x:Obj}:(w.alloc x).heap.size=w.heap.size+1:=by show(w.heap.push x).size=_;simp
variable{st:Nat}{base:Nat}{e:TypeId}{f:Nat×Nat}
def Sim.pushF[GW P]{B:Base P}(s:Sim B mu h w){o g:Nat}{rs:List (List AV)}{cells:Array Value}(hf:Ajc f cells.size)(hg:mu o g=none)(hb:base+rs.length*st<=cells.size)(hr:∀r∈rs,Cy st r)(hc:∀i j,i<rs.length->j<st->∃c,cells[base+i*st+j]?=some c/\RV h mu w (cell rs i j) c):
  Sim B (Dm mu o g ⟨w.heap.size,base,st,cells.size,true⟩) (upd h o (some (.rows g st rs))) (w.alloc (.cells cells e f))/\
  Ez h mu w (upd h o (some (.rows g st rs))) (Dm mu o g ⟨w.heap.size,base,st,cells.size,true⟩) (w.alloc (.cells cells e f)):=by
 have Y:∀o' g' l,mu o' g'=some l->Dm mu o g ⟨w.heap.size,base,st,cells.size,true⟩ o' g'=some l:=by
  intro o' g' l S;unfold Dm;rw[if_neg]
  .exact S
  .rintro⟨rfl,rfl⟩;rw[hg]at S;cases S
 have D:∀o' g' l,Dm mu o g ⟨w.heap.size,base,st,cells.size,true⟩ o' g'=some l->(o'=o/\g'=g/\l=⟨w.heap.size,base,st,cells.size,true⟩)\/mu o' g'=some l:=by
  intro o' g' l S;unfold Dm at S;split at S
  .rename_i hh;cases S;exact .inl ⟨hh.1,hh.2,rfl⟩
  .exact .inr S
 have z:∀o' x,upd h o (some (.rows g st rs)) o'=some x->(o'=o/\x=.rows g st rs)\/(o'≠o/\h o'=some x):=by
  intro o' x V;unfold upd at V;split at V
  .cases V;exact .inl ⟨‹_›,rfl⟩
  .exact .inr ⟨‹_›,V⟩
 have W:∀{o' g' l},mu o' g'=some l->l.b<w.heap.size:=λS=>(s.muOk _ _ _ S).2.1
 have hM:∀b,b<w.heap.size->¬C0 h mu b->¬C0 (upd h o (some (.rows g st rs))) (Dm mu o g ⟨w.heap.size,base,st,cells.size,true⟩) b:=by
  rintro b hb hn ⟨o',x,l,V,S,rfl⟩;rcases D _ _ _ S with⟨_,_,rfl⟩|U
  .simp at hb
  .rcases z _ _ V with⟨rfl,rfl⟩|⟨_,A⟩
   .simp only[AO.gen]at U;rw[hg]at U;cases U
   .exact hn ⟨o',x,l,A,U,rfl⟩
 have ext:Ez h mu w (upd h o (some (.rows g st rs))) (Dm mu o g ⟨w.heap.size,base,st,cells.size,true⟩) (w.alloc (.cells cells e f)):=⟨rfl,rfl,rfl,by rw[Ey];omega,λb hb hn=>⟨Ds hb,hM b hb hn⟩,Y⟩
 refine⟨⟨?_,?_,?_,?_,?_,?_,?_,s.globE ext,λo' g' x V=>by
  rcases z _ _ V with⟨rfl,A⟩|⟨ag,A⟩
  .cases A
  .obtain⟨l,X,Z,h3⟩:=s.blks _ _ _ A;exact⟨l,Y _ _ _ X,Z,by rw[Ds (W X)];exact h3⟩⟩,ext⟩
 .rw[Ey];exact GF s.base
 .intro o' g' l S;rcases D _ _ _ S with⟨_,_,rfl⟩|U
  .refine⟨s.base,by rw[Ey];simp,λ_=>⟨cells,e,f,Rc,rfl,hf⟩⟩
  .obtain⟨X,Z,h3⟩:=s.muOk _ _ _ U;refine⟨X,by rw[Ey];omega,λal=>?_⟩;rw[Ds Z];exact h3 al
 .obtain⟨N,hN⟩:=s.fin;refine⟨max N (g+1),λo' g' am=>?_⟩;unfold Dm;rw[if_neg (by omega)];exact hN _ _ (by omega)
 .obtain⟨N,hN⟩:=s.finh;refine⟨max N (o+1),λo' am=>?_⟩;unfold upd;rw[if_neg (by omega)];exact hN _ (by omega)
 .intro o' g' an rs' V;rcases z _ _ V with⟨rfl,A⟩|⟨ag,A⟩
  .cases A;refine⟨⟨w.heap.size,base,st,cells.size,true⟩,by simp[Dm],rfl,rfl,hb,hr,λi j hi hj=>?_⟩;obtain⟨c,aa,ab⟩:=hc i j hi hj;refine⟨c,?_,ab.ext ext⟩;unfold World.cell?;rw[Rc];simpa using aa
  .obtain⟨l,X,Z,h3,h4,h5,h6⟩:=s.rows _ _ _ _ A;refine⟨l,Y _ _ _ X,Z,h3,h4,h5,λi j hi hj=>?_⟩;obtain⟨c,aa,ab⟩:=h6 i j hi hj;refine⟨c,?_,ab.ext ext⟩;rw[cell?_of_heap (w:=w) (a:=⟨l.b,l.base+i*an+j,none⟩) (Ds (W X))];exact aa
 .intro o' g' es V;rcases z _ _ V with⟨rfl,A⟩|⟨ag,A⟩
  .cases A
  .obtain⟨l,X,Z,ao,ac,h3,h4,h5⟩:=s.maps _ _ _ A;exact⟨l,Y _ _ _ X,Z,ao,ac,by rw[Ds (W X)];exact h3,h4,λi hi=>⟨(h5 i hi).1.ext ext,(h5 i hi).2.ext ext⟩⟩
 .intro o1 o2 x1 x2 l1 l2 ap aq ad ae af;rcases z _ _ ap with⟨rfl,rfl⟩|⟨ah,ai⟩<;>rcases z _ _ aq with⟨rfl,rfl⟩|⟨aj,ak⟩
  .rfl
  .rcases D _ _ _ ad with⟨_,_,rfl⟩|G
   .rcases D _ _ _ ae with⟨e2,_,_⟩|O
    .exact e2.symm
    .have:=W O;simp at af;omega
   .simp only[AO.gen]at G;rw[hg]at G;cases G
  .rcases D _ _ _ ae with⟨_,_,rfl⟩|O
   .rcases D _ _ _ ad with⟨e2,_,_⟩|G
    .exact e2
    .have:=W G;simp at af;omega
   .simp only[AO.gen]at O;rw[hg]at O;cases O
  .rcases D _ _ _ ad with⟨e1,_,_⟩|G
   .exact absurd e1 ah
   .rcases D _ _ _ ae with⟨e2,_,_⟩|O
    .exact absurd e2 aj
    .exact s.inj _ _ _ _ _ _ ai ak G O af
def Sim.push[GW P]{B:Base P}(s:Sim B mu h w){o g:Nat}{rs:List (List AV)}{cells:Array Value}(z:mu o g=none)(A:base+rs.length*st<=cells.size)(hr:∀r∈rs,Cy st r)(D:∀i j,i<rs.length->j<st->∃c,cells[base+i*st+j]?=some c/\RV h mu w (cell rs i j) c): Sim B (Dm mu o g ⟨w.heap.size,base,st,cells.size,true⟩) (upd h o (some (.rows g st rs))) (w.alloc (.cells cells e))/\Ez h mu w (upd h o (some (.rows g st rs))) (Dm mu o g ⟨w.heap.size,base,st,cells.size,true⟩) (w.alloc (.cells cells e)):=Sim.pushF (f:=(0,0)) s (λi _ G=>by simp at G) z A hr D
def Sim.junk[GW P]{B:Base P}(s:Sim B mu h w)(x:Obj):Sim B mu h (w.alloc x)/\Ez h mu w h mu (w.alloc x):=by
 have ext:Ez h mu w h mu (w.alloc x):=⟨rfl,rfl,rfl,by rw[Ey];omega,λb hb hn=>⟨Ds hb,hn⟩,λ_ _ _ h=>h⟩;have A:∀{o' g' l},mu o' g'=some l->l.b<w.heap.size:=λV=>(s.muOk _ _ _ V).2.1;refine⟨⟨by rw[Ey];exact GF s.base,λo g l V=>?_,s.fin,s.finh,λo g st rs S=>?_,λo g es S=>?_,s.inj,s.globE ext,λo g x S=>let ⟨l,z,D,G⟩:=s.blks _ _ _ S;⟨l,z,D,by rw[Ds (A z)];exact G⟩⟩,ext⟩
 .obtain⟨z,D,G⟩:=s.muOk _ _ _ V;refine⟨z,by rw[Ey];omega,λW=>?_⟩;rw[Ds D];exact G W
 .obtain⟨l,z,D,G,X,U,h6⟩:=s.rows _ _ _ _ S;refine⟨l,z,D,G,X,U,λi j hi hj=>?_⟩;obtain⟨c,Y,Z⟩:=h6 i j hi hj;refine⟨c,?_,Z.ext ext⟩;rw[cell?_of_heap (w:=w) (a:=⟨l.b,l.base+i*st+j,none⟩) (Ds (A z))];exact Y
 .obtain⟨l,z,D,aa,O,G,X,U⟩:=s.maps _ _ _ S;exact⟨l,z,D,aa,O,by rw[Ds (A z)];exact G,X,λi hi=>⟨(U i hi).1.ext ext,(U i hi).2.ext ext⟩⟩
def Aqg{o g:Nat}{l:Loc}(h:mu o g=some l):Dm mu o g l=mu:=by
 funext o' g';unfold Dm;split
 .rename_i z;rw[z.1,z.2,h]
 .rfl
def Sim.fresh[GW P]{B:Base P}(s:Sim B mu h w)(o:Nat):∃g,mu o g=none:=let ⟨N,z⟩:=s.fin;⟨N,z o N (AF _)⟩
def Sim.same_heap[GW P]{B:Base P}(s:Sim B mu h w)(z:w'.heap=w.heap)(A:w'.os=w.os)(D:w'.tape=w.tape)(G:w'.output=w.output):
  Sim B mu h w'/\Ez h mu w h mu w':=by
 have ext:Ez h mu w h mu w':=⟨A,D,G,by rw[z];exact AF _,λb _ Y=>⟨by rw[z],Y⟩,λ_ _ _ h=>h⟩
 have O:∀a,w'.cell? a=w.cell? a:=λa=>by unfold World.cell?;rw[z]
 refine⟨⟨by rw[z];exact s.base,λo g l Z=>by rw[z];exact s.muOk o g l Z,s.fin,s.finh,?_,?_,s.inj,s.globE ext,λo g x U=>let ⟨l,A,D,G⟩:=s.blks o g x U;⟨l,A,D,by rw[z];exact G⟩⟩,ext⟩
 .intro o g st rs U;obtain⟨l,A,D,G,W,V,h6⟩:=s.rows o g st rs U;exact⟨l,A,D,G,W,V,λi j hi hj=>let ⟨c,hc,hr⟩:=h6 i j hi hj;⟨c,by rw[O];exact hc,hr.ext ext⟩⟩
 .intro o g es U;obtain⟨l,A,D,X,S,G,W,V⟩:=s.maps o g es U;exact⟨l,A,D,X,S,by rw[z];exact G,W,λi hi=>⟨(V i hi).1.ext ext,(V i hi).2.ext ext⟩⟩
def Sim.drew[GW P]{B:Base P}(s:Sim B mu h w):Sim B mu h w.drew/\Ez h mu w h mu w.drew:=s.same_heap rfl rfl rfl rfl
def Sim.put[GW P]{B:Base P}(s:Sim B mu h w){o g:Nat}{rs rs':List (List AV)}{l l':Loc}{O:Array Value}{g':Nat}(hx:h o=some (.rows g st rs))(hl:mu o g=some l)(aw:w'.os=w.os)(ah:w'.tape=w.tape)(an:w'.output=w.output)(W:w'.heap.size=w.heap.size)(S:∀b,b≠l.b->w'.heap[b]?=w.heap[b]?)(aa:w'.heap[l.b]?=some (.cells O e f))(ao:O.size=l.size)(af:Ajc f l.size)(ap:(g'=g/\l'=l)\/mu o g'=none)(Z:l'.b=l.b)(ai:l'.size=l.size)(ax:l'.cells=true)(aq:l'.base+rs'.length*l'.st<=l.size)(ay:∀r∈rs',Cy l'.st r)(hc:∀i j,i<rs'.length->j<l'.st->∃c,O[l'.base+i*l'.st+j]?=some c/\RV h mu w (cell rs' i j) c):
  Sim B (Dm mu o g' l') (upd h o (some (.rows g' l'.st rs'))) w'/\Ez h mu w (upd h o (some (.rows g' l'.st rs'))) (Dm mu o g' l') w':=by
 have ae:∀D X A,mu D X=some A->Dm mu o g' l' D X=some A:=by
  intro D X A G;unfold Dm;split
  .rename_i hh;obtain⟨rfl,rfl⟩:=hh;rcases ap with⟨rfl,rfl⟩|hn
   .rw[hl]at G;exact G
   .rw[hn]at G;cases G
  .exact G
 have ab:∀D X A,Dm mu o g' l' D X=some A->(D=o/\X=g'/\A=l')\/mu D X=some A:=by
  intro D X A G;unfold Dm at G;split at G
  .rename_i hh;cases G;exact .inl ⟨hh.1,hh.2,rfl⟩
  .exact .inr G
 have U:∀D x,upd h o (some (.rows g' l'.st rs')) D=some x->(D=o/\x=.rows g' l'.st rs')\/(D≠o/\h D=some x):=by
  intro D x G;unfold upd at G;split at G
  .cases G;exact .inl ⟨‹_›,rfl⟩
  .exact .inr ⟨‹_›,G⟩
 have ar:C0 h mu l.b:=⟨o,_,l,hx,hl,rfl⟩
 have hM:∀b,¬C0 h mu b->¬C0 (upd h o (some (.rows g' l'.st rs'))) (Dm mu o g' l') b:=by
  rintro b hn ⟨D,x,A,G,h2,rfl⟩;rcases ab _ _ _ h2 with⟨_,_,rfl⟩|ac
  .rw[Z]at hn;exact hn ar
  .rcases U _ _ G with⟨rfl,rfl⟩|⟨_,z⟩
   .simp only[AO.gen]at ac;rcases ap with⟨rfl,rfl⟩|az
    .exact hn ⟨_,_,_,hx,ac,rfl⟩
    .rw[az]at ac;cases ac
   .exact hn ⟨_,_,_,z,ac,rfl⟩
 have ext:Ez h mu w (upd h o (some (.rows g' l'.st rs'))) (Dm mu o g' l') w':=⟨aw,ah,an,by rw[W];exact AF _,λb _ hb=>⟨S b (λe=>hb (e▸ar)),hM b hb⟩,ae⟩
 have ad:∀{D x A},D≠o->h D=some x->mu D x.gen=some A->A.b≠l.b:=λV G h2 hb=>V (s.inj _ _ _ _ _ _ G hx h2 hl hb)
 refine⟨⟨by rw[W];exact s.base,?_,?_,?_,?_,?_,?_,s.globE ext,λD X x G=>by
  rcases U _ _ G with⟨rfl,z⟩|⟨V,z⟩
  .cases z
  .obtain⟨A,k1,k2,k3⟩:=s.blks _ _ _ z;exact⟨A,ae _ _ _ k1,k2,by rw[S _ (ad V z k1)];exact k3⟩⟩,ext⟩
 .have key:∀D X A,mu D X=some A->B.n<=A.b/\A.b<w'.heap.size/\(A.cells=true->∃cells e f,w'.heap[A.b]?=some (.cells cells e f)/\cells.size=A.size/\Ajc f A.size):=by
   intro D X A G
   obtain⟨k1,k2,k3⟩:=s.muOk _ _ _ G
   refine⟨k1,by rw[W];exact k2,λau=>?_⟩
   by_cases Y:A.b=l.b
   .obtain⟨c1,e1,f1,q1,q2,q3⟩:=k3 au;obtain⟨_,_,a0⟩:=s.muOk _ _ _ hl;have a3:l.cells=true:=by obtain⟨l0,z1,z2,_⟩:=s.rows _ _ _ _ hx;rw[hl]at z1;cases z1;exact z2
    obtain⟨c2,e2,f2,aj,a4,a8⟩:=a0 a3;rw[Y,aj]at q1;cases q1;have av:A.size=l.size:=by rw[<-q2,<-a4]
    rw[Y];exact⟨O,e,f,aa,by rw[av];exact ao,by rw[av];exact af⟩
   .rw[S _ Y];exact k3 au
  intro D X A G
  rcases ab _ _ _ G with⟨_,_,rfl⟩|z
  .obtain⟨k1,k2,_⟩:=s.muOk _ _ _ hl;exact⟨by rw[Z];exact k1,by rw[Z,W];exact k2,λ_=>⟨O,e,f,by rw[Z];exact aa,by rw[ai];exact ao,by rw[ai];exact af⟩⟩
  .exact key _ _ _ z
 .obtain⟨N,hN⟩:=s.fin;refine⟨max N (g'+1),λD X a5=>?_⟩;unfold Dm;rw[if_neg (by omega)];exact hN _ _ (by omega)
 .obtain⟨N,hN⟩:=s.finh;refine⟨max N (o+1),λo' a5=>?_⟩;unfold upd;rw[if_neg (by omega)];exact hN _ (by omega)
 .intro D X a6 a9 G;rcases U _ _ G with⟨rfl,z⟩|⟨V,z⟩
  .cases z;refine⟨l',by simp[Dm],ax,rfl,by rw[ai];exact aq,ay,λi j hi hj=>?_⟩;obtain⟨c,ak,al⟩:=hc i j hi hj;refine⟨c,?_,al.ext ext⟩;unfold World.cell?;rw[Z,aa];simpa using ak
  .obtain⟨A,k1,k2,k3,k4,k5,k6⟩:=s.rows _ _ _ _ z;refine⟨A,ae _ _ _ k1,k2,k3,k4,k5,λi j hi hj=>?_⟩;obtain⟨c,ak,al⟩:=k6 i j hi hj;refine⟨c,?_,al.ext ext⟩;rw[cell?_of_heap (w:=w) (w':=w') (a:=⟨A.b,A.base+i*a6+j,none⟩) (S _ (ad V z k1))];exact ak
 .intro D X es G;rcases U _ _ G with⟨rfl,z⟩|⟨V,z⟩
  .cases z
  .obtain⟨A,k1,k2,a7,am,k3,k4,k5⟩:=s.maps _ _ _ z;exact⟨A,ae _ _ _ k1,k2,a7,am,by rw[S _ (ad V z k1)];exact k3,k4,λi hi=>⟨(k5 i hi).1.ext ext,(k5 i hi).2.ext ext⟩⟩
 .intro D o2 x1 x2 A l2 G h2 q1 q2 Y;have ag:∀{D x1 A},upd h o (some (.rows g' l'.st rs')) D=some x1->Dm mu o g' l' D x1.gen=some A->(D=o/\A.b=l.b)\/(D≠o/\h D=some x1/\mu D x1.gen=some A):=by
   intro D x1 A G q1;rcases U _ _ G with⟨rfl,rfl⟩|⟨V,z⟩
   .refine .inl ⟨rfl,?_⟩;simp only[AO.gen,Dm,and_self,if_true,AX]at q1;rw[<-q1,Z]
   .rcases ab _ _ _ q1 with⟨e1,_,_⟩|aj
    .exact absurd e1 V
    .exact .inr ⟨V,z,aj⟩
  rcases ag G q1 with⟨rfl,e1⟩|⟨n1,a1,b1⟩<;>rcases ag h2 q2 with⟨rfl,e2⟩|⟨n2,a2,b2⟩
  .rfl
  .exact absurd (by rw[<-Y,e1]) (ad n2 a2 b2)
  .exact absurd (by rw[Y,e2]) (ad n1 a1 b1)
  .exact s.inj _ _ _ _ _ _ a1 a2 b1 b2 Y
def Rv.one{M:Nat->Prop}(h:Rv w mu M v c)(hf:v.flat=true):c.oneCell'=true:=by cases h<;>first|rfl|(simp[AV.flat]at hf)
def Jw (b o n:Nat):(⟨b,o,none⟩:Addr).add n=⟨b,o+n,none⟩:=by unfold Addr.add;split<;>simp_all
def Wi (b:Nat):∀(vs:List Value) (o:Nat) (w:World) (cells:Array Value) (e:TypeId) (f:Nat×Nat),w.heap[b]?=some (.cells cells e f)->o+vs.length<=cells.size->
  ∃z,(w.setCells b o vs).heap[b]?=some (.cells z e f)/\z.size=cells.size/\(∀j,j<vs.length->z[o+j]?=vs[j]?)/\(∀k,(k<o\/o+vs.length<=k)->z[k]?=cells[k]?)/\(∀k,k≠b->(w.setCells b o vs).heap[k]?=w.heap[k]?)/\(w.setCells b o vs).heap.size=w.heap.size/\(w.setCells b o vs).os=w.os/\(w.setCells b o vs).tape=w.tape/\(w.setCells b o vs).output=w.output
 |[],o,w,cells,e,f,h,_=>⟨cells,h,rfl,λ_ h=>by simp at h,λ_ _=>rfl,λ_ _=>rfl,rfl,rfl,rfl,rfl⟩
 |v::r,o,w,cells,e,f,h,A=>by
  have G:(w.setCell ⟨b,o,none⟩ v).heap[b]?=some (.cells (cells.setIfInBounds o v) e f):=by simp[World.setCell,GJ,h]
  simp only[BV]at A;obtain⟨z,O,S,U,D,V,W,X,Y,Z⟩:=Wi b r (o+1) (w.setCell ⟨b,o,none⟩ v) _ e f G (by simp;omega);refine⟨z,O,by simpa using S,?_,?_,?_,by rw[World.setCells,W];simp,X,Y,Z⟩
  .intro j hj;cases j with
   |zero=>rw[CL,D o (Or.inl (by omega))];simp[show o<cells.size by omega]
   |succ j=>rw[show o+(j+1)=o+1+j by omega,U j (by simpa using hj)];simp
  .intro k hk;simp only[BV]at hk;rw[D k (by omega),CA (by omega)]
  .intro k hk;rw[World.setCells,V k hk];exact Go.RowKit.Below.heap_setCell _ _ _ _ hk
def Below.ext[GW P]{B:Base P}(s:Sim B mu h w)(k:Go.RowKit.Below w.heap.size w w'):Sim B mu h w'/\Ez h mu w h mu w':=by
 have ext:Ez h mu w h mu w':=⟨k.os,k.tape,k.output,k.size,λb Z hm=>⟨k.block b Z,hm⟩,λ_ _ _ h=>h⟩;refine⟨⟨CR s.base k.size,λo g l hl=>?_,s.fin,s.finh,λo g st rs O=>?_,λo g es O=>?_,s.inj,s.globE ext,λo g x O=>let ⟨l,z,A,D⟩:=s.blks o g x O;⟨l,z,A,by rw[k.block _ (s.muOk _ _ _ z).2.1];exact D⟩⟩,ext⟩
 .obtain⟨z,A,D⟩:=s.muOk _ _ _ hl;exact⟨z,AW A k.size,λU=>by rw[k.block _ A];exact D U⟩
 .obtain⟨l,z,A,D,V,S,h6⟩:=s.rows _ _ _ _ O;refine⟨l,z,A,D,V,S,λi j hi hj=>?_⟩;obtain⟨c,W,X⟩:=h6 i j hi hj;refine⟨c,?_,X.ext ext⟩;rw[cell?_of_heap (w:=w) (w':=w') (a:=⟨l.b,l.base+i*st+j,none⟩) (k.block _ (s.muOk _ _ _ z).2.1)];exact W
 .obtain⟨l,z,A,Y,G,D,V,S⟩:=s.maps _ _ _ O;exact⟨l,z,A,Y,G,by rw[k.block _ (s.muOk _ _ _ z).2.1];exact D,V,λi hi=>⟨(S i hi).1.ext ext,(S i hi).2.ext ext⟩⟩
def Aga:Value->Option AV
 |.bool b=>some (.bool b)
 |.int k n=>some (.int k n)
 |.string s=>some (.str s.data.toList)
 |.pointer none=>some .nilp
 |.pointer (some a)=>some (.gptr a)
 |.slice none 0 0=>some .emp
 |.map none=>some .mnil
 |.nilFunc=>some .nilf
 |.nilIface=>some .nili
 |.func fn ⟨[]⟩ ⟨[]⟩=>some (.func fn [] [])
 |_=>none
def Wk:List Value->Option (List AV)
 |[]=>some []
 |v::r=>match Aga v,Wk r with
  |some x,some l=>some (x::l)
  |_,_=>none
def A6q:Value->AV
 |.agg ⟨cs⟩=>match Wk cs with|some l=>.agg l|none=>.raw (.agg ⟨cs⟩)
 |.tuple ⟨cs⟩=>match Wk cs with|some l=>.tup l|none=>.raw (.tuple ⟨cs⟩)
 |.iface t v=>match Aga v with|some x=>.iface t x|none=>.raw (.iface t v)
 |v=>(Aga v).getD (.raw v)
variable{x:AV}{l:List AV}{i:Nat}
section
variable{M:Nat→Prop}
def Ak7{v:Value}(h:Aga v=some x):Rv w mu M x v:=by
 unfold Aga at h;split at h<;>cases h
 .exact .bool _
 .exact .int _ _
 .rename_i s;have:=Rv.str (w:=w) (mu:=mu) (M:=M) s.data.toList;rwa[Lib.mk_data]at this
 .exact .nilp
 .exact .gptr _
 .exact .emp _
 .exact .mnil
 .exact .nilf
 .exact .nili
 .exact .func _ [] [] [] [] rfl rfl (λi hi=>by simp at hi) (λi hi=>by simp at hi)
def Td:∀{vs:List Value} {l:List AV},Wk vs=some l->l.length=vs.length/\∀i,i<l.length->Rv w mu M (l.getD i .und) (vs.getD i undef)
 |[],l,h=>by cases h;exact⟨rfl,λi hi=>by simp at hi⟩
 |v::r,l,h=>by
  unfold Wk at h;split at h
  .rename_i x l' z A;cases h;obtain⟨D,G⟩:=Td A;refine⟨by simp[D],λi hi=>?_⟩;cases i with
   |zero=>simpa using Ak7 z
   |succ i=>simpa using G i (by simpa using hi)
  .cases h
def AV.nilx:AV->AV
 |.emp=>.snil
 |v=>v
def A3v{v:Value}(h:Aga v=some x):Rv w mu M x.nilx v:=by have h':=h;unfold Aga at h;split at h<;>cases h;all_goals first|exact Ak7 h'|exact .snil
def Ar9:∀{vs:List Value} {l:List AV},Wk vs=some l->(l.map AV.nilx).length=vs.length/\∀i,i<(l.map AV.nilx).length->Rv w mu M ((l.map AV.nilx).getD i .und) (vs.getD i undef)
 |[],l,h=>by cases h;exact⟨rfl,λi hi=>by simp at hi⟩
 |v::r,l,h=>by
  unfold Wk at h;split at h
  .rename_i x l' z A;cases h;obtain⟨D,G⟩:=Ar9 A;refine⟨by simpa using D,λi hi=>?_⟩;cases i with
   |zero=>simpa using A3v z
   |succ i=>simpa using G i (by simpa using hi)
  .cases h
def Bbh(h:l.all AV.flat=true):(l.map AV.nilx).all AV.flat=true:=by rw[AJ]at h ⊢;intro x z;obtain⟨y,A,rfl⟩:=CC.1 z;have:=h y A;cases y<;>first|exact this|rfl
def Bgy (v:Value):Rv w mu M (A6q v) v:=by
 unfold A6q;split
 .split
  .rename_i h;obtain⟨z,A⟩:=Td (w:=w) (mu:=mu) (M:=M) h;exact .agg _ _ z A
  .exact .raw _
 .split
  .rename_i h;obtain⟨z,A⟩:=Td (w:=w) (mu:=mu) (M:=M) h;exact .tup _ _ z A
  .exact .raw _
 .split
  .rename_i h;exact .iface _ _ _ (Ak7 h)
  .exact .raw _
 .cases h:Aga v with
  |none=>simpa[h]using Rv.raw v
  |some x=>simpa[h]using Ak7 h
def Do{l:List α}{d x:α}(h:l[i]?=some x):l.getD i d=x:=by simp[List.getD,h]
def Rv.und:Rv w mu M .und undef:=.tup [] [] rfl (λi hi=>by simp at hi)
def An2(h:Rv w mu M v c)(z:v.ok=true):v.cells.length=c.cells.size/\∀i,i<v.cells.length->Rv w mu M (v.cells.getD i .und) (c.cells.toList.getD i undef):=by
 have one:∀{v:AV} {c:Value},v.cells=[v]->c.cells=#[c]->Rv w mu M v c->v.cells.length=c.cells.size/\∀i,i<v.cells.length->Rv w mu M (v.cells.getD i .und) (c.cells.toList.getD i undef):=by
  intro v c A D h;rw[A,D];refine⟨rfl,λi hi=>?_⟩;have:i=0:=by simpa using hi
  subst this;simpa using h
 cases h with
 |agg cs vs G A=>exact⟨by simpa[AV.cells,Value.cells]using G,by simpa[AV.cells,Value.cells]using A⟩
 |raw v=>simp[AV.ok]at z
 |any v=>simp[AV.ok]at z
 |_=>exact one rfl rfl (by constructor<;>assumption)
end
inductive TK where
 |bool
 |int (k:IntKind)
 |str
 |ptr (e:TypeId)
 |sl (e:TypeId)
 |arr (n:Nat) (e:TypeId)
 |map (k e:TypeId)
 |st (fs:List (Nat×TypeId))
 |ifc
 |fn
 |oth
 deriving DecidableEq
def TK.of:TypeDesc->TK
 |.bool=>.bool
 |.int k=>.int k
 |.string=>.str
 |.pointer e=>.ptr e
 |.slice e=>.sl e
 |.array n e=>.arr n e
 |.map k e=>.map k e
 |.struct fs=>.st (fs.toList.map λf=>(f.offset,f.type))
 |.interface _=>.ifc
 |.func _ _ _=>.fn
 |_=>.oth
def TK.agg:TK->Bool
 |.arr _ _=>true
 |.st _=>true
 |_=>false
structure TI where
 k:TK
 size:Nat
 bytes:Nat
 z:List AV
def A11:Value->Bool
 |.agg _=>true
 |_=>false
def A22 {v:Value}(h:A11 v=true):v=.agg v.cells:=by cases v<;>simp[A11]at h;rfl
def ti (P:Program)(t:TypeId):Option TI:=
 match P.underlying t,P.info? t with
 |some d,some i=>
  match i.zero with
  |some z=>match Wk z.cells.toList with
   |some l=>if l.length==i.size&&(((TK.of d).agg&&A11 z)||(!(TK.of d).agg&&z.oneCell'))then some ⟨TK.of d,i.size,i.bytes,l⟩else none
   |none=>none
  |none=>none
 |_,_=>none
variable{t:TypeId}{T:TI}
def Pj[GW P](h:ti P t=some T):∃d i z,P.underlying t=some d/\P.info? t=some i/\i.zero=some z/\Wk z.cells.toList=some T.z/\T.z.length=T.size/\
  T.k=TK.of d/\T.size=i.size/\T.bytes=i.bytes/\(T.k.agg=false->z.oneCell'=true)/\(T.k.agg=true->z=.agg z.cells):=by
 unfold ti at h
 split at h
 .rename_i d i S hi;split at h
  .rename_i z hz;split at h
   .rename_i l U;split at h
    .rename_i O;cases h;simp only[AK,BU,CX,CZ]at O;obtain⟨D,A⟩:=O;refine⟨d,i,z,S,hi,hz,U,D,rfl,rfl,rfl,λG=>?_,λG=>?_⟩
     .rcases A with A|A
      .exact absurd A.1 (by rw[G];simp)
      .exact A.2
     .rcases A with A|A
      .exact A22 A.2
      .exact absurd A.1 (by rw[G];simp)
    .cases h
   .cases h
  .cases h
 .cases h
variable{d:TypeDesc}{fs:List (Nat×TypeId)}
section
variable[GW P]
def Eh (h:ti P t=some T)(w:World):(sizeOf t).run P w=.ok T.size w:=by obtain⟨d,i,z,G,A,O,S,U,V,D,W,_⟩:=Pj h;simp[sizeOf,typeInfo,A,D]
def Aup (h:ti P t=some T)(w:World):(isAgg t).run P w=.ok T.k.agg w:=by obtain⟨d,i,z,A,G,O,S,U,D,V,W,_⟩:=Pj h;rw[D];simp only[isAgg,Sem.run_bind,run_underlying A,Result.andThen_ok];cases d<;>simp[TK.of,TK.agg]
def A4d (h:ti P t=some T):∃z,(∀w,(zeroValue t).run P w=.ok z w)/\Wk z.cells.toList=some T.z/\(T.k.agg=false->z.oneCell'=true)/\(T.k.agg=true->z=.agg z.cells)/\T.z.length=T.size:=by obtain⟨d,i,z,V,D,G,O,S,W,X,Y,U,A⟩:=Pj h;exact⟨z,λw=>by simp[zeroValue,typeInfo,D,G],O,U,A,S⟩
def Ek (h:ti P t=some T):∃d,P.underlying t=some d/\T.k=TK.of d:=by obtain⟨d,i,z,A,G,O,S,U,D,V,W,_⟩:=Pj h;exact⟨d,A,D⟩
def Fq(h:TK.sl e=TK.of d):d=.slice e:=by cases d<;>simp[TK.of]at h;rw[h]
def Aiu(h:TK.arr n e=TK.of d):d=.array n e:=by cases d<;>simp[TK.of]at h;rw[h.1,h.2]
def A61(h:TK.st fs=TK.of d):∃a,d=.struct a/\fs=a.toList.map λf=>(f.offset,f.type):=by cases d<;>simp[TK.of]at h;exact⟨_,rfl,h⟩
def Amm{n:TypeId}(h:TK.map n e=TK.of d):d=.map n e:=by cases d<;>simp[TK.of]at h;rw[h.1,h.2]
def Aae{k:IntKind}(h:TK.int k=TK.of d):d=.int k:=by cases d<;>simp[TK.of]at h;rw[h]
def Avy(h:TK.bool=TK.of d):d=.bool:=by cases d<;>simp[TK.of]at h;rfl
def Wp(h:TK.str=TK.of d):d=.string:=by cases d<;>simp[TK.of]at h;rfl
end
def Gm (row:List AV)(c n:Nat)(agg:Bool):Option AV:=
 if agg then(if c+n<=row.length then some (.agg ((row.drop c).take n))else none)
 else(if c<row.length then some (row.getD c .und)else none)
variable{off:Nat}
section
variable[GW P]{M:Nat→Prop}
def As3{row:List AV}{c:Nat}(D:∀j,j<row.length->∃x,w.cell? ⟨b,off+j,none⟩=some x/\Rv w mu M (row.getD j .und) x)(S:ti P t=some T)(h:Gm row c T.size T.k.agg=some v):∃x,(loadVar t ⟨b,off+c,none⟩).run P w=.ok x w/\Rv w mu M v x:=by
 unfold Gm at h;split at h
 .rename_i z;split at h
  .rename_i X;cases h;have U:∃f:Nat->Value,∀j,j<T.size->w.cell? ⟨b,off+c+j,none⟩=some (f j)/\Rv w mu M (row.getD (c+j) .und) (f j):=by refine⟨λj=>((w.cell? ⟨b,off+c+j,none⟩)).getD undef,λj W=>?_⟩;obtain⟨x,A,G⟩:=D (c+j) (by omega);rw[<-CD]at A;simp only[A,BH];exact⟨trivial,G⟩
   obtain⟨f,hf⟩:=U;refine⟨.agg ((List.range T.size).map f).toArray,?_,?_⟩
   .simp only[loadVar,Sem.run_bind,Aup S,Result.andThen_ok,z,if_true,Eh S,Sem.run_pure];rw[run_loadCells w ⟨b,off+c,none⟩ T.size f (λj W=>by rw[Jw];exact(hf j W).1)];rfl
   .refine .agg _ _ (by simp;omega) (λi hi=>?_);have O:i<T.size:=by simp at hi;omega
    have:=(hf i O).2;rw[show(List.map f (List.range T.size)).getD i undef=f i by simp[List.getD,O]];rw[show((row.drop c).take T.size).getD i .und=row.getD (c+i) .und by simp[List.getD,BQ,O,BR]];exact this
  .cases h
 .rename_i z;split at h
  .rename_i V;cases h;obtain⟨x,A,G⟩:=D c V;refine⟨x,?_,G⟩;simp[loadVar,Aup S,z,A]
  .cases h
def Aio{cs:List AV}{vs:List Value}(V:cs.length=vs.length)(A:∀i,i<cs.length->Rv w mu M (cs.getD i .und) (vs.getD i undef))(G:ti P t=some T)(h:Gm cs off T.size T.k.agg=some v):∃x,(part t vs.toArray off).run P w=.ok x w/\Rv w mu M v x:=by
 unfold Gm at h;split at h
 .rename_i z;split at h
  .rename_i U;cases h;refine⟨.agg (vs.toArray.extract off (off+T.size)),?_,?_⟩
   .simp[part,Aup G,z,Eh G]
   .have e:vs.toArray.extract off (off+T.size)=((vs.drop off).take T.size).toArray:=by
     apply HF
     simp[Array.toList_extract,List.extract_eq_take_drop]
    rw[e]
    refine .agg _ _ (by simp;omega) (λi hi=>?_)
    have D:i<T.size:=by simp at hi;omega
    rw[show((cs.drop off).take T.size).getD i .und=cs.getD (off+i) .und by simp[List.getD,BQ,D,BR]]
    rw[show((vs.drop off).take T.size).getD i undef=vs.getD (off+i) undef by simp[List.getD,BQ,D,BR]]
    exact A _ (by omega)
  .cases h
 .rename_i z;split at h
  .rename_i O;cases h;refine⟨vs.getD off undef,?_,A _ O⟩;obtain⟨x,S⟩:∃x,vs[off]?=some x:=⟨_,AA (show off<vs.length by omega)⟩;rw[Do S];simp[part,Aup G,z,S]
  .cases h
end
def O6 (P:Program)[GW P](h:Aa)(t:TypeId)(v:AV):Option AV:=
 match ti P t with
 |none=>none
 |some T=>match v with
  |.ptr o g r c=>match h o with
   |some (.rows g' _ rs)=>if g'=g/\r<rs.length then Gm (rs.getD r []) c T.size T.k.agg else none
   |_=>none
  |.cp row c=>Gm row c T.size T.k.agg
  |.gptr ⟨b,c,none⟩=>match GW.row P b with
   |some row=>Gm row c T.size T.k.agg
   |none=>none
  |_=>none
def J7 (P:Program)(s:TypeId)(v:AV)(f:Nat):Option AV:=
 match ti P s with
 |none=>none
 |some T=>match T.k with
  |.st fs=>match fs[f]? with
   |none=>none
   |some (off,z)=>match ti P z with
    |none=>none
    |some F=>if F.size=0 then none else match v with
     |.ptr o g r c=>some (.ptr o g r (c+off))
     |.cp row c=>some (.cp row (c+off))
     |_=>none
  |_=>none
def Aj3 (P:Program)(s:TypeId)(v:AV)(f:Nat):Option AV:=
 match ti P s with
 |none=>none
 |some T=>match T.k with
  |.st fs=>match fs[f]? with
   |none=>none
   |some (off,z)=>match ti P z with
    |none=>none
    |some F=>match v with
     |.agg cs=>Gm cs off F.size F.k.agg
     |_=>none
  |_=>none
def Dl (P:Program)[GW P](h:Aa)(t:TypeId)(v i:AV):Option AV:=
 match ti P t with
 |none=>none
 |some T=>match i with
  |.int _ n=>match T.k with
   |.sl e=>match ti P e with
    |none=>none
    |some E=>match v with
     |.sl st rows=>if st=E.size/\0<=n/\n<rows.length then some (.cp (rows.getD n.toNat []) 0)else none
     |.ref o g off len=>match h o with
      |some (.rows g' st _)=>if g'=g/\st=E.size/\0<=n/\n<len then some (.ptr o g (off+n.toNat) 0)else none
      |_=>none
     |.refc o g r c len _=>if E.size=1/\0<=n/\n<len then some (.ptr o g r (c+n.toNat))else none
     |_=>none
   |.arr m e=>match ti P e with
    |none=>none
    |some E=>if 0<=n/\n<m then(match v with
     |.ptr o g r c=>some (.ptr o g r (c+n.toNat*E.size))
     |.cp row c=>some (.cp row (c+n.toNat*E.size))
     |.gptr ⟨b,c,none⟩=>match GW.row P b with
      |some row=>some (.cp row (c+n.toNat*E.size))
      |none=>none
     |_=>none)else none
   |_=>none
  |_=>none
def Aam (P:Program)(t:TypeId)(v i:AV):Option AV:=
 match ti P t with
 |none=>none
 |some T=>match i with
  |.int _ n=>match T.k,v with
   |.str,.str s=>if 0<=n/\n<s.length then some (.int .u8 ((s.getD n.toNat 0).toNat:Int))else none
   |.arr m e,.agg cs=>match ti P e with
    |none=>none
    |some E=>if 0<=n/\n<m then Gm cs (n.toNat*E.size) E.size E.k.agg else none
   |_,_=>none
  |_=>none
def L5 (st:Nat):Nat->List AV->List (List AV)
 |0,_=>[]
 |n+1,l=>l.take st::L5 st n (l.drop st)
def Cq (x:Option AV)(z y:Nat):Option Nat:=
 match x with
 |none=>some z
 |some (.int _ n)=>if 0<=n/\n<=y then some n.toNat else none
 |_=>none
def Ec (P:Program)(h:Aa)(t:TypeId)(v:AV)(lo hi A:Option AV):Option AV:=
 match ti P t with
 |none=>none
 |some T=>match T.k,v,A with
  |.str,.str s,none=>match Cq hi s.length s.length with
   |none=>none
   |some b=>match Cq lo 0 b with
    |none=>none
    |some a=>some (.str ((s.drop a).take (b-a)))
  |.sl e,.sl st rows,none=>match ti P e with
   |none=>none
   |some E=>if st=E.size then(match Cq hi rows.length rows.length with
    |none=>none
    |some b=>match Cq lo 0 b with
     |none=>none
     |some a=>some (.sl st ((rows.drop a).take (b-a))))else none
  |.sl e,.ref o g off len,none=>match ti P e with
   |none=>none
   |some E=>match Cq hi len len with
    |none=>none
    |some b=>match Cq lo 0 b with
     |none=>none
     |some a=>if a=b/\a≠0 then some (.sl E.size [])else match h o with
      |some (.rows g' st _)=>if g'=g/\st=E.size then some (.ref o g (off+a) (b-a))else none
      |_=>none
  |.sl e,.emp,none=>match ti P e with
   |none=>none
   |some _=>match Cq hi 0 0 with
    |none=>none
    |some _=>match Cq lo 0 0 with
     |none=>none
     |some _=>some .emp
  |.sl e,.sl st rows,some m=>match ti P e,lo,hi,m with
   |some _,none,some (.int _ 0),.int _ 0=>some .emp
   |some _,some (.int _ 0),some (.int _ 0),.int _ 0=>some .emp
   |some E,lo,some (.int _ b),.int _ c=>if st=E.size/\0<=b/\b<=c/\c<=rows.length then(match Cq lo 0 b.toNat with
    |none=>none
    |some a=>some (if b=c then .slx st ((rows.drop a).take (b.toNat-a))else .sl st ((rows.drop a).take (b.toNat-a))))else none
   |_,_,_,_=>none
  |.sl e,.ref o g off len,some m=>match ti P e,lo,hi,m with
   |some _,none,some (.int _ 0),.int _ 0=>some .emp
   |some _,some (.int _ 0),some (.int _ 0),.int _ 0=>some .emp
   |_,_,_,_=>none
  |.sl e,.emp,some m=>match ti P e,lo,hi,m with
   |some _,none,some (.int _ 0),.int _ 0=>some .emp
   |some _,some (.int _ 0),some (.int _ 0),.int _ 0=>some .emp
   |_,_,_,_=>none
  |.arr n e,.cp row c,none=>match ti P e with
   |none=>none
   |some E=>if n<=Bj/\c+n*E.size<=row.length/\(row.all AV.flat)=true then(match Cq hi n n with
    |none=>none
    |some b=>match Cq lo 0 b with
     |none=>none
     |some a=>some (.sl E.size (L5 E.size (b-a) (row.drop (c+a*E.size)))))else none
  |.arr n e,.ptr o g r c,none=>match ti P e with
   |none=>none
   |some E=>match Cq hi n n with
    |none=>none
    |some b=>match Cq lo 0 b with
     |none=>none
     |some a=>match h o with
      |some (.rows g' st rs)=>if g'=g/\E.size=1/\n<=Bj/\r<rs.length/\c+n<=st/\(a=0\/a<n)then some (.refc o g r (c+a) (b-a) (n-a))else none
      |_=>none
  |.sl e,.refc o g r c len z,none=>match ti P e with
   |none=>none
   |some E=>match Cq hi len z with
    |none=>none
    |some b=>match Cq lo 0 b with
     |none=>none
     |some a=>if E.size=1/\len<=z/\(a=0\/a<z)then some (.refc o g r (c+a) (b-a) (z-a))else none
  |_,_,_=>none
def Xe (P:Program)(h:Aa)(t:TypeId)(v:AV):Option AV:=
 match ti P t with
 |none=>none
 |some T=>match T.k,v with
  |.str,.str s=>some (.int .i64 s.length)
  |.arr n _,_=>some (.int .i64 n)
  |.sl _,.sl _ rows=>some (.int .i64 rows.length)
  |.sl _,.slx _ rows=>some (.int .i64 rows.length)
  |.sl _,.refc _ _ _ _ len _=>some (.int .i64 len)
  |.sl _,.emp=>some (.int .i64 0)
  |.sl _,.ref _ _ _ len=>some (.int .i64 len)
  |.map _ _,.mnil=>some (.int .i64 0)
  |.map _ _,.map o g=>match h o with
   |some (.mp g' z)=>if g'=g then some (.int .i64 z.length)else none
   |_=>none
  |_,_=>none
def As2 (P:Program)(t:TypeId)(v:AV):Option AV:=
 match ti P t with
 |none=>none
 |some T=>match T.k,v with
  |.sl _,.emp=>some (.int .i64 0)
  |.sl _,.slx _ rows=>some (.int .i64 rows.length)
  |.sl _,.refc _ _ _ _ _ z=>some (.int .i64 z)
  |_,_=>none
def Ai9 (v:AV)(i:Nat):Option AV:=
 match v with
 |.tup vs=>if i<vs.length then some (vs.getD i .und)else none
 |_=>none
def aUn (op:UnOp)(v:AV):Option AV:=
 match op,v with
 |.not,.bool b=>some (.bool (!b))
 |.neg,.int k n=>some (.int k (k.wrap (0-n)))
 |.xor,.int k n=>some (.int k (k.wrap (BitVec.ofInt k.bits (if k.signed then -1 else k.max)^^^BitVec.ofInt k.bits n).toNat))
 |_,_=>none
def S4 (P:Program)(rec:TypeId->AV->AV->Option Bool)(xs ys:List AV):List (Nat×TypeId)->Option Bool
 |[]=>some true
 |(off,z)::r=>match ti P z with
  |none=>none
  |some F=>match Gm xs off F.size F.k.agg,Gm ys off F.size F.k.agg with
   |some a,some b=>match rec z a b with
    |some true=>S4 P rec xs ys r
    |some false=>some false
    |none=>none
   |_,_=>none
def X4 (P:Program)(t:TypeId)(x y:AV):Option Bool:=
 match ti P t with
 |none=>none
 |some T=>match T.k,x,y with
  |.bool,.bool a,.bool b=>some (a==b)
  |.int _,.int k a,.int z b=>if k=z then some (a==b)else none
  |.str,.str a,.str b=>some (a==b)
  |.ifc,.nili,.iface _ _=>some false
  |.ifc,.iface _ _,.nili=>some false
  |.ptr _,.nilp,.nilp=>some true
  |.fn,.func _ _ _,.nilf=>some false
  |.fn,.nilf,.func _ _ _=>some false
  |.fn,.nilf,.nilf=>some true
  |.ifc,.nili,.nili=>some true
  |.ptr _,.ptr _ _ _ _,.nilp=>some false
  |.ptr _,.cp _ _,.nilp=>some false
  |_,_,_=>none
def Aqq (P:Program) (t:TypeId):Bool:=!P.stoodInHeld t&&!P.eqGuardType P.depth t&&(match P.underlying t with|some (.struct fs)=>fs.all (fun f=>f.name !="_")|some (.array _ _)=>true|_=>false)
def Ym (P:Program)(rec:AV->AV->Option Bool)(c:Nat)(agg:Bool)(xs ys:List AV):List Nat->Option Bool
 |[]=>some true
 |i::r=>match Gm xs (i*c) c agg,Gm ys (i*c) c agg with
  |some a,some b=>match rec a b with
   |some true=>Ym P rec c agg xs ys r
   |some false=>some false
   |none=>none
  |_,_=>none
def Aa2 (P:Program):Nat->TypeId->AV->AV->Option Bool
 |0,_,_,_=>none
 |d+1,t,x,y=>match ti P t with
  |none=>none
  |some T=>match T.k,x,y with
   |.st fs,.agg xs,.agg ys=>if Aqq P t then S4 P (Aa2 P d) xs ys fs else none
   |.arr n e,.agg xs,.agg ys=>match ti P e with
    |none=>none
    |some E=>Ym P (Aa2 P d e) E.size E.k.agg xs ys (List.range n)
   |_,_,_=>X4 P t x y
def Ft (P:Program)(op:BinOp)(t:TypeId)(x y:AV):Option AV:=
 match op,x,y with
 |.add,.int k a,.int z b=>if k=z then some (.int k (k.wrap (a+b)))else none
 |.sub,.int k a,.int z b=>if k=z then some (.int k (k.wrap (a-b)))else none
 |.mul,.int k a,.int z b=>if k=z then some (.int k (k.wrap (a*b)))else none
 |.quo,.int k a,.int z b=>if k=z/\b≠0 then some (.int k (k.wrap (a.tdiv b)))else none
 |.rem,.int k a,.int z b=>if k=z/\b≠0 then some (.int k (a.tmod b))else none
 |.shl,.int k a,.int _ b=>if 0<=b then some (.int k (k.wrap (a*2^(min b.toNat k.bits))))else none
 |.shr,.int k a,.int _ b=>if 0<=b then some (.int k (a.fdiv (2^(min b.toNat k.bits))))else none
 |.and,.int k a,.int z b=>if k=z then some (.int k (k.wrap (BitVec.ofInt k.bits a&&& BitVec.ofInt k.bits b).toNat))else none
 |.or,.int k a,.int z b=>if k=z then some (.int k (k.wrap (BitVec.ofInt k.bits a|||BitVec.ofInt k.bits b).toNat))else none
 |.xor,.int k a,.int z b=>if k=z then some (.int k (k.wrap (BitVec.ofInt k.bits a^^^BitVec.ofInt k.bits b).toNat))else none
 |.lss,.int k a,.int z b=>if k=z then some (.bool (decide (a<b)))else none
 |.leq,.int k a,.int z b=>if k=z then some (.bool (decide (a<=b)))else none
 |.gtr,.int k a,.int z b=>if k=z then some (.bool (decide (a>b)))else none
 |.geq,.int k a,.int z b=>if k=z then some (.bool (decide (a>=b)))else none
 |.eql,.int k a,.int z b=>if k=z then some (.bool (a==b))else none
 |.neq,.int k a,.int z b=>if k=z then some (.bool (a !=b))else none
 |.eql,.str a,.str b=>some (.bool (a==b))
 |.neq,.str a,.str b=>some (.bool (!(a==b)))
 |.lss,.str a,.str b=>some (.bool (Op.bytesLess a b))
 |.leq,.str a,.str b=>some (.bool (Op.bytesLess a b||a==b))
 |.gtr,.str a,.str b=>some (.bool (!(Op.bytesLess a b||a==b)))
 |.geq,.str a,.str b=>some (.bool (!(Op.bytesLess a b)))
 |.add,.str a,.str b=>if a.length+b.length<=9223372036854775807 then some (.str (a++b))else none
 |.eql,.agg xs,.agg ys=>(Aa2 P 20 t (.agg xs) (.agg ys)).map .bool
 |.neq,.agg xs,.agg ys=>(Aa2 P 20 t (.agg xs) (.agg ys)).map λb=>.bool (!b)
 |.eql,x,y=>(X4 P t x y).map .bool
 |.neq,x,y=>(X4 P t x y).map λb=>.bool (!b)
 |_,_,_=>none
def Abx:List (List AV)->Option (List UInt8)
 |[]=>some []
 |[.int .u8 n]::r=>(Abx r).map (UInt8.ofNat n.toNat::·)
 |_::_=>none
def Ach (P:Program)(h:Aa)(src dst:TypeId)(x:AV):Option AV:=
 match ti P src,ti P dst with
 |some S,some D=>match S.k,D.k,x with
  |.int _,.int k,.int _ n=>some (.int k (k.wrap n))
  |.str,.str,.str s=>some (.str s)
  |.sl e,.str,.sl st rows=>match ti P e with
   |some E=>if E.k=.int .u8/\st=1 then(Abx rows).map .str else none
   |none=>none
  |.sl e,.str,.emp=>match ti P e with
   |some E=>if E.k=.int .u8 then some (.str [])else none
   |none=>none
  |.sl e,.str,.ref o g off len=>match ti P e,h o with
   |some E,some (.rows g' st rs)=>if E.k=.int .u8/\st=1/\g'=g/\off+len<=rs.length then(Abx ((rs.drop off).take len)).map .str else none
   |_,_=>none
  |_,_,_=>none
 |_,_=>none
def Auf (isMax:Bool)(k:IntKind):Int->List AV->Option AV
 |a,[]=>some (.int k a)
 |a,.int z b::r=>if z=k then Auf isMax k (if isMax then(if b>a then b else a)else(if b<a then b else a)) r else none
 |_,_=>none
def Aq7 (isMax:Bool):List AV->Option AV
 |.int k x::r=>Auf isMax k x r
 |_=>none
variable{ty:TypeId}{src:TypeId}{dst:TypeId}{clo:Option Value}{chi:Option Value}{j:Nat}
section
variable[GW P]{B:Base P}
def Sim.row{o g r:Nat}{rs:List (List AV)}{l:Loc}(s:Sim B mu h w)(D:h o=some (.rows g st rs))(G:mu o g=some l)(hr:r<rs.length):
  ∀j,j<(rs.getD r []).length->∃x,w.cell? ⟨l.b,l.base+r*l.st+j,none⟩=some x/\RV h mu w ((rs.getD r []).getD j .und) x:=by
 obtain⟨l',A,W,O,X,S,U⟩:=s.rows _ _ _ _ D
 rw[G]at A;cases A
 intro j V
 have z:j<st:=by have:=(S _ (BK hr)).1;simp only[List.getD,AA hr,BH]at V;omega
 rw[O]
 exact U r j hr z
def Au0(s:Sim B mu h w)(U:RV h mu w v c)(z:O6 P h t v=some x):∃y,(Instr.loadAt t c).run P w=.ok y w/\RV h mu w x y:=by
 unfold O6 at z;split at z
 .cases z
 rename_i T V;split at z
 .rename_i o g r S;split at z
  .rename_i g' st rs Z;split at z
   .rename_i hc;obtain⟨rfl,hr⟩:=hc;cases U with
    |ptr _ _ _ _ l hl aa=>obtain⟨y,A,D⟩:=As3 (b:=l.b) (off:=l.base+r*l.st) (s.row Z hl hr) V z;exact⟨y,by simpa[Instr.loadAt,Instr.sureAddr]using A,D⟩
   .cases z
  .cases z
 .rename_i row S;cases U with
  |cp _ _ b off vs W X h3 h4=>obtain⟨y,A,D⟩:=As3 (b:=b) (off:=off) (λj G=>⟨vs j,W j G,X j G⟩) V z;exact⟨y,by simpa[Instr.loadAt,Instr.sureAddr]using A,D⟩
 .rename_i b S;split at z
  .rename_i row O;cases U with
   |gptr=>
    have Y:=s.grow (c:=S) O;generalize hq:(Value.pointer (some ⟨b,S,none⟩))=q at Y;cases Y with
    |cp _ _ b' off vs W X h3 h4=>obtain⟨y,A,D⟩:=As3 (b:=b') (off:=off) (λj G=>⟨vs j,W j G,X j G⟩) V z;exact⟨y,by simpa[Instr.loadAt,Instr.sureAddr]using A,D⟩
  .cases z
 .cases z
def A1y[GW P]{s:TypeId}{f:Nat}{D:TypeId}(G:ti P s=some T)(hk:T.k=.st fs)(hf:fs[f]?=some (off,D)):
  ∃a z,P.underlying s=some (.struct a)/\a[f]?=some z/\z.offset=off/\z.type=D:=by
 obtain⟨d,O,S⟩:=Ek G
 obtain⟨a,rfl,rfl⟩:=A61 (hk▸S)
 rw[CJ]at hf
 cases A:a.toList[f]? with
 |none=>rw[A]at hf;cases hf
 |some z=>rw[A]at hf;simp only[AQ,AX,AP]at hf;exact⟨a,z,O,by simpa using A,hf.1,hf.2⟩
def At0{f:Nat}(O:RV h mu w v c)(z:J7 P t v f=some x):∃y,(Instr.fieldAt t c f).run P w=.ok y w/\RV h mu w x y:=by
 unfold J7 at z;split at z
 .cases z
 rename_i T S;split at z
 .rename_i fs hk;split at z
  .cases z
  rename_i off ft hf;split at z
  .cases z
  rename_i F U;obtain⟨a,V,W,A,rfl,rfl⟩:=A1y S hk hf;split at z
  .cases z
  rename_i D;have run:∀b o,(Instr.fieldAt t (.pointer (some ⟨b,o,none⟩)) f).run P w=.ok (.pointer (some ⟨b,o+V.offset,none⟩)) w:=by intro b o;simp[Instr.fieldAt,run_underlying W,A,Instr.sureAddr,fieldPlace,Eh U,D,Jw]
  split at z
  .cases z;cases O with
   |ptr _ _ _ _ l X G=>refine⟨_,run _ _,?_⟩;rw[CD];exact .ptr _ _ _ _ l X G
  .cases z;cases O with
   |cp _ _ b off vs Y Z h3 h4=>refine⟨_,run _ _,?_⟩;rw[CD];exact .cp _ _ b off vs Y Z h3 h4
  .cases z
 .cases z
def A20{f:Nat}(O:RV h mu w v c)(z:Aj3 P t v f=some x):∃y,(Instr.field t c f).run P w=.ok y w/\RV h mu w x y:=by
 unfold Aj3 at z;split at z
 .cases z
 rename_i T S;split at z
 .rename_i fs hk;split at z
  .cases z
  rename_i off Y hf;split at z
  .cases z
  rename_i F U;obtain⟨a,Z,V,A,rfl,rfl⟩:=A1y S hk hf;split at z
  .cases O with
   |agg cs vs W X=>obtain⟨y,D,G⟩:=Aio W X U z;exact⟨y,by simpa[Instr.field,run_underlying V,A,asAgg]using D,G⟩
  .cases z
 .cases z
def Au4(s:Sim B mu h w){i:AV}{ci:Value}(V:RV h mu w v c)(hi:RV h mu w i ci)(z:Dl P h t v i=some x):∃y,(Instr.indexAt t c ci).run P w=.ok y w/\RV h mu w x y:=by
 unfold Dl at z;split at z
 .cases z
 rename_i T hT;split at z
 .rename_i k n;cases hi;obtain⟨d,Z,X⟩:=Ek hT;split at z
  .rename_i e hk;have:=Fq (hk▸X);subst this;split at z
   .cases z
   rename_i E hE;split at z
   .rename_i st rows;split at z
    .rename_i S;obtain⟨rfl,h0,D⟩:=S;cases z;cases V with
     |sl0 st a U=>simp at D;omega
     |sl _ _ b off U vs G O g1 g2 hr g3 g4=>
      have hn:n.toNat<rows.length:=by omega
      have ac:(rows.getD n.toNat []).length=E.size:=by simp only[List.getD,AA hn,BH];exact(hr _ (BK hn)).1
      refine⟨.pointer (some ⟨b,off+n.toNat*E.size,none⟩),?_,?_⟩
      .simp[Instr.indexAt,asIntOf,run_underlying Z,h0,D,Eh hE,Jw]
      .have:=Rv.cp (w:=w) (mu:=mu) (M:=C0 h mu) (rows.getD n.toNat []) 0 b (off+n.toNat*E.size) (vs n.toNat)
        (λj hj=>g1 _ j hn (by omega)) (λj hj=>g2 _ j hn (by omega)) g3 g4
       simpa using this
    .cases z
   .rename_i o g off len;split at z
    .rename_i g' st rs hh;split at z
     .rename_i S;obtain⟨rfl,rfl,h0,D⟩:=S;cases z;cases V with
      |ref _ _ _ _ U l W A G O aa=>
       obtain⟨l',k1,k2,k3,_⟩:=s.rows _ _ _ _ hh;rw[W]at k1;cases k1;refine⟨.pointer (some ⟨l.b,l.base+off*l.st+n.toNat*E.size,none⟩),?_,?_⟩
       .simp[Instr.indexAt,asIntOf,run_underlying Z,h0,D,Eh hE,Jw]
       .have:=Rv.ptr (w:=w) (M:=C0 h mu) o g' (off+n.toNat) 0 l W A;rw[AI,<-CD,k3]at this;rw[k3];simpa using this
     .cases z
    .cases z
   .rename_i o g r c len U;split at z
    .rename_i S;obtain⟨ab,h0,D⟩:=S;cases z;cases V with
     |refc _ _ _ _ _ _ l W A G O aa=>
      refine⟨.pointer (some ⟨l.b,l.base+r*l.st+c+n.toNat,none⟩),?_,?_⟩
      .simp[Instr.indexAt,asIntOf,run_underlying Z,h0,D,Eh hE,Jw,ab]
      .have:=Rv.ptr (w:=w) (M:=C0 h mu) o g r (c+n.toNat) l W A;rw[<-CD]at this;exact this
    .cases z
   .cases z
  .rename_i m e hk;have:=Aiu (hk▸X);subst this;split at z
   .cases z
   rename_i E hE;split at z
   .rename_i S;obtain⟨h0,D⟩:=S;have run:∀b o,(Instr.indexAt t (.pointer (some ⟨b,o,none⟩)) (.int k n)).run P w=.ok (.pointer (some ⟨b,o+n.toNat*E.size,none⟩)) w:=by intro b o;simp[Instr.indexAt,asIntOf,run_underlying Z,h0,D,Eh hE,Jw,Instr.sureAddr]
    split at z
    .cases z;cases V with
     |ptr _ _ _ _ l W A=>refine⟨_,run _ _,?_⟩;rw[CD];exact .ptr _ _ _ _ l W A
    .cases z;cases V with
     |cp _ _ b off vs D h2 h3 h4=>refine⟨_,run _ _,?_⟩;rw[CD];exact .cp _ _ b off vs D h2 h3 h4
    .rename_i b cc;split at z
     .rename_i row Y;cases z;cases V with
      |gptr=>exact⟨_,run _ _,s.grow Y⟩
     .cases z
    .cases z
   .cases z
  .cases z
 .cases z
def A29{i:AV}{ci:Value}(S:RV h mu w v c)(hi:RV h mu w i ci)(z:Aam P t v i=some x):∃y,(Instr.index t c ci).run P w=.ok y w/\RV h mu w x y:=by
 unfold Aam at z;split at z
 .cases z
 rename_i T W;split at z
 .rename_i k n;cases hi;obtain⟨d,U,A⟩:=Ek W;split at z
  .rename_i s hk;have:=Wp (hk▸A);subst this;split at z
   .rename_i D;obtain⟨h0,V⟩:=D;cases z;cases S with
    |str _=>
     have X:n.toNat<s.length:=by omega
     refine⟨.int .u8 ((s.getD n.toNat 0).toNat:Int),?_,.int _ _⟩;have Y:(⟨s.toArray⟩:ByteArray)[n.toNat]?=some (s.getD n.toNat 0):=by rw[show(⟨s.toArray⟩:ByteArray)[n.toNat]?=s.toArray[n.toNat]? from rfl];simp[List.getD,AA X]
     simp[Instr.index,asIntOf,run_underlying U,h0,Y]
   .cases z
  .rename_i m e cs hk;have:=Aiu (hk▸A);subst this;split at z
   .cases z
   rename_i E hE;split at z
   .rename_i D;obtain⟨h0,V⟩:=D;cases S with
    |agg _ vs Z g1=>obtain⟨y,G,O⟩:=Aio Z g1 hE z;exact⟨y,by simpa[Instr.index,asIntOf,run_underlying U,h0,V,Eh hE]using G,O⟩
   .cases z
  .cases z
 .cases z
def Axr(D:RV h mu w v c)(z:Ai9 v i=some x):∃y,(Instr.extract c i).run P w=.ok y w/\RV h mu w x y:=by
 unfold Ai9 at z;split at z
 .split at z
  .rename_i hi;cases z;cases D with
   |tup cs vs O G=>refine⟨vs.getD i undef,?_,G i hi⟩;obtain⟨y,A⟩:∃y,vs[i]?=some y:=⟨_,AA (by omega)⟩;rw[Do A];simp[Instr.extract,A]
  .cases z
 .cases z
def Bc8{op:UnOp}(A:RV h mu w v c)(z:aUn op v=some x):∃y,(Op.unary op c).run P w=.ok y w/\RV h mu w x y:=by
 unfold aUn at z;split at z
 .cases z;cases A;exact⟨_,rfl,.bool _⟩
 .cases z;cases A;exact⟨_,rfl,.int _ _⟩
 .cases z;cases A;exact⟨_,rfl,.int _ _⟩
 .cases z
def A9z(G:RV h mu w v c)(z:As2 P t v=some x):∃y,(Builtin.cap_ #[t] ty #[c]).run P w=.ok y w/\RV h mu w x y:=by
 unfold As2 at z;split at z
 .cases z
 rename_i T S;obtain⟨d,D,A⟩:=Ek S;split at z
 .rename_i e hk;have:=Fq (hk▸A);subst this;cases z;cases G;exact⟨.int .i64 0,by simp[Builtin.cap_,run_underlying D,goInt],.int _ _⟩
 .rename_i e st rows hk;have:=Fq (hk▸A);subst this;cases z;cases G with
  |slx0=>exact⟨.int .i64 0,by simp[Builtin.cap_,run_underlying D,goInt],.int _ _⟩
  |slx=>exact⟨_,by simp[Builtin.cap_,run_underlying D,goInt],.int _ _⟩
 .rename_i e o g r c len O hk;have:=Fq (hk▸A);subst this;cases z;cases G;exact⟨.int .i64 O,by simp[Builtin.cap_,run_underlying D,goInt],.int _ _⟩
 .cases z
def Ba0(s:Sim B mu h w)(G:RV h mu w v c)(A:Xe P h t v=some x):∃y,(Builtin.len_ #[t] ty #[c]).run P w=.ok y w/\RV h mu w x y:=by
 unfold Xe at A;split at A
 .cases A
 rename_i T U;obtain⟨d,D,z⟩:=Ek U;split at A
 .rename_i s hk;have:=Wp (hk▸z);subst this;cases A;cases G;refine⟨.int .i64 s.length,?_,.int _ _⟩;have:(⟨s.toArray⟩:ByteArray).size=s.length:=by simp[Lib.size_eq]
  simp[Builtin.len_,run_underlying D,goInt,this]
 .rename_i n e hk;have:=Aiu (hk▸z);subst this;cases A;exact⟨.int .i64 n,by simp[Builtin.len_,run_underlying D,goInt],.int _ _⟩
 .rename_i e st rows hk;have:=Fq (hk▸z);subst this;cases A;cases G with
  |sl0=>exact⟨.int .i64 0,by simp[Builtin.len_,run_underlying D,goInt],.int _ _⟩
  |sl=>exact⟨_,by simp[Builtin.len_,run_underlying D,goInt],.int _ _⟩
 .rename_i e st rows hk;have:=Fq (hk▸z);subst this;cases A;cases G with
  |slx0=>exact⟨.int .i64 0,by simp[Builtin.len_,run_underlying D,goInt],.int _ _⟩
  |slx=>exact⟨_,by simp[Builtin.len_,run_underlying D,goInt],.int _ _⟩
 .rename_i e o g r c len V hk;have:=Fq (hk▸z);subst this;cases A;cases G;exact⟨.int .i64 len,by simp[Builtin.len_,run_underlying D,goInt],.int _ _⟩
 .rename_i e hk;have:=Fq (hk▸z);subst this;cases A;cases G;exact⟨.int .i64 0,by simp[Builtin.len_,run_underlying D,goInt],.int _ _⟩
 .rename_i e o g off len hk;have:=Fq (hk▸z);subst this;cases A;cases G;exact⟨.int .i64 len,by simp[Builtin.len_,run_underlying D,goInt],.int _ _⟩
 .rename_i k e hk;have:=Amm (hk▸z);subst this;cases A;cases G;exact⟨.int .i64 0,by simp[Builtin.len_,run_underlying D,goInt],.int _ _⟩
 .rename_i k e o g hk;have:=Amm (hk▸z);subst this;split at A
  .rename_i g' W X;split at A
   .rename_i Y;subst Y;cases A;cases G with
    |map _ _ l Z aa=>obtain⟨l',S,k2,ab,O,k3,k4,_⟩:=s.maps _ _ _ X;rw[Z]at S;cases S;refine⟨.int .i64 W.length,?_,.int _ _⟩;simp[Builtin.len_,run_underlying D,goInt,getObj,Sem.run,k3,k4]
   .cases A
  .cases A
 .cases A
def Ajs:∀{rows:List (List AV)} {l:List UInt8},Abx rows=some l->∃ns:List Int,rows=ns.map (λn=>[AV.int .u8 n])/\l=ns.map λn=>UInt8.ofNat n.toNat
 |[],l,z=>by cases z;exact⟨[],rfl,rfl⟩
 |r::rows,l,z=>by
  unfold Abx at z;split at z
  .rename_i A;cases A
  .rename_i n G A;cases A;cases D:Abx rows with
   |none=>rw[D]at z;cases z
   |some l'=>rw[D]at z;cases z;obtain⟨ns,rfl,rfl⟩:=Ajs D;exact⟨n::ns,rfl,rfl⟩
  .cases z
def Aut:∀(ns:List Int) (s:ByteArray),ns.foldl (λr n=>r.push (UInt8.ofNat n.toNat)) s=⟨(s.data.toList++ns.map λn=>UInt8.ofNat n.toNat).toArray⟩
 |[],s=>by cases s;simp
 |n::ns,s=>by rw[FY,Aut ns];cases s;simp[ByteArray.push]
def Aib{a:Option Addr}{l c:Nat}{ns:List Int}{d1:TypeDesc}(D:P.underlying src=some (.slice e))(G:P.underlying e=some (.int .u8))(O:P.underlying dst=some .string)(S:ns.length=l)(U:∀b off,a=some ⟨b,off,none⟩->∀j,j<l->w.cell? ⟨b,off+j,none⟩=some (.int .u8 (ns.getD j 0)))(A:l=0\/∃b off,a=some ⟨b,off,none⟩):
  (convert src dst (.slice a l c)).run P w=.ok (.string ⟨(ns.map λn=>UInt8.ofNat n.toNat).toArray⟩) w:=by
 rw[run_convert_bytes_string w src dst e a l c D G O]
 cases a with
 |none=>
  rcases A with rfl|⟨b,off,h⟩
  .have:ns=[]:=CQ.1 S;subst this;simp[Conv.bytesToString];rfl
  .cases h
 |some a=>
  have V:(loadCells a l).run P w=.ok (ns.map (Value.int .u8)).toArray w:=by
   rw[run_loadCells w a l (λj=>.int .u8 (ns.getD j 0)) (λj z=>?_)]
   .congr 1;apply HF;simp only[List.toList_toArray];apply EH;intro j;simp only[CJ];by_cases z:j<l
    .have:j<ns.length:=by omega
     simp[z,this,List.getD]
    .have:¬j<ns.length:=by omega
     rw[BA (by simpa using z),BA (by omega)];rfl
   .rcases A with rfl|⟨b,off,h⟩
    .omega
    .cases h;rw[Jw];exact U b off rfl j z
  rw[run_bytesToString w a l c ns V,Aut];rfl
def Aub(s:Sim B mu h w)(hv:RV h mu w v c)(z:Ach P h src dst v=some x):∃y,(convert src dst c).run P w=.ok y w/\RV h mu w x y:=by
 unfold Ach at z;split at z
 .rename_i S D hS hD;obtain⟨d1,G,V⟩:=Ek hS;obtain⟨d2,O,W⟩:=Ek hD;split at z
  .rename_i k1 k2 k n Z q2;have:=Aae (Z▸V);subst this;have:=Aae (q2▸W);subst this;cases z;cases hv;exact⟨_,by simp[convert,run_underlying G,run_underlying O,Conv.intToInt],.int _ _⟩
  .rename_i s Z q2;have:=Wp (Z▸V);subst this;have:=Wp (q2▸W);subst this;cases z;cases hv;exact⟨_,by simp[convert,run_underlying G,run_underlying O],.str _⟩
  .rename_i e st rows Z q2;have:=Fq (Z▸V);subst this;have:=Wp (q2▸W);subst this;split at z
   .rename_i E hE;split at z
    .rename_i hc;obtain⟨X,rfl⟩:=hc;obtain⟨dE,U,Y⟩:=Ek hE;have:=Aae (X▸Y);subst this;cases hq:Abx rows with
     |none=>rw[hq]at z;cases z
     |some l=>
      rw[hq]at z;cases z;obtain⟨ns,rfl,rfl⟩:=Ajs hq;generalize hg:ns.map (λn=>[AV.int .u8 n])=rows at hv;cases hv with
      |sl0 _ a aa=>
       have:ns=[]:=by simpa using hg
       subst this;exact⟨_,Aib (ns:=[]) (d1:=.bool) G U O rfl (λ_ _ _ j hj=>by omega) (.inl rfl),.str _⟩
      |sl _ _ b off aa vs ab ac h1 h2 hr h3 h4=>
       subst hg;refine⟨_,Aib (ns:=ns) (d1:=.bool) G U O (by simp) (λb' ad e j hj=>?_) (.inr ⟨b,off,rfl⟩),.str _⟩;cases e;have A:j<ns.length:=by simpa using hj
       have e1:=h1 j 0 (by simpa using A) (by omega);have e2:=h2 j 0 (by simpa using A) (by omega);rw[FX,CL]at e1;rw[e1];have:cell (ns.map λn=>[AV.int .u8 n]) j 0=.int .u8 ns[j]:=by simp[cell,A]
       rw[this]at e2;cases ae:vs j 0<;>rw[ae]at e2<;>cases e2;simp[List.getD,A]
    .cases z
   .cases z
  .rename_i e Z q2;have:=Fq (Z▸V);subst this;have:=Wp (q2▸W);subst this;split at z
   .rename_i E hE;split at z
    .rename_i X;obtain⟨dE,U,Y⟩:=Ek hE;have:=Aae (X▸Y);subst this;cases z;cases hv;exact⟨_,Aib (ns:=[]) (d1:=.bool) G U O rfl (λ_ _ _ j hj=>by omega) (.inl rfl),.str _⟩
    .cases z
   .cases z
  .rename_i e o g off len Z q2;have:=Fq (Z▸V);subst this;have:=Wp (q2▸W);subst this;split at z
   .rename_i E g' st rs hE hh;split at z
    .rename_i hc;obtain⟨X,rfl,rfl,ag⟩:=hc;obtain⟨dE,U,Y⟩:=Ek hE;have:=Aae (X▸Y);subst this;cases hq:Abx ((rs.drop off).take len)with
     |none=>rw[hq]at z;cases z
     |some l=>
      rw[hq]at z;cases z;obtain⟨ns,hn,rfl⟩:=Ajs hq;have af:ns.length=len:=by have:=congrArg List.length hn;simp at this;omega
      cases hv with
      |ref _ _ _ _ aa l' hl ah ab ac ai=>
       obtain⟨l2,k1,k2,k3,k4,k5,k6⟩:=s.rows _ _ _ _ hh;rw[hl]at k1;cases k1;refine⟨_,Aib (ns:=ns) (d1:=.bool) G U O af (λb' ad e j hj=>?_) (.inr ⟨_,_,rfl⟩),.str _⟩;cases e;obtain⟨c,c1,c2⟩:=k6 (off+j) 0 (by omega) (by omega);rw[k3];have ea:l'.base+off*1+j=l'.base+(off+j)*1+0:=by omega
       rw[ea,c1];have:cell rs (off+j) 0=.int .u8 (ns.getD j 0):=by
        have A:j<ns.length:=by omega
        have:=congrArg (λl=>l[j]?) hn;simp only[BQ,hj,if_true,BR,CJ,AA A,AQ]at this;simp[cell,List.getD,this,A]
       rw[this]at c2;cases c2;rfl
    .cases z
   .cases z
  .cases z
 .cases z
def E0{x:Option AV}{c:Option Value}{z y:Nat}{code:BoundsCode}(O:(x=none/\c=none)\/∃a b,x=some a/\c=some b/\RV h mu w a b)(A:Cq x z y=some n)(S:z<=y):
  n<=y/\((x=none/\c=none/\n=z)\/∃b,c=some b/\(Instr.sliceBound b y code).run P w=.ok n w):=by
 rcases O with⟨rfl,rfl⟩|⟨a,b,rfl,rfl,D⟩
 .simp[Cq]at A;subst A;exact⟨S,.inl ⟨rfl,rfl,rfl⟩⟩
 .unfold Cq at A;split at A
  .rename_i G;cases G
  .rename_i k m G;cases G;split at A
   .rename_i U;cases A;cases D;refine⟨by omega,.inr ⟨_,rfl,?_⟩⟩;simp[Instr.sliceBound,asIntOf,U]
   .cases A
  .cases A
def Xq (h:Aa)(mu:Mu)(w:World)(x:Option AV)(c:Option Value):Prop:=(x=none/\c=none)\/∃a b,x=some a/\c=some b/\RV h mu w a b
def A67{isS:Bool}{len z a:Nat}{lo hi:Option AV}(S:Xq h mu w lo clo)(U:Xq h mu w hi chi)(V:Cq hi len z=some b)(W:Cq lo 0 b=some a)(A:len<=z):
  a<=b/\b<=z/\(Instr.sliceBounds isS len z clo chi none).run P w=.ok (a,b,z) w:=by
 obtain⟨X,Y⟩:=E0 (P:=P) (code:=if isS then .sliceAcap else .sliceAlen) U V A
 obtain⟨a1,a2⟩:=E0 (P:=P) (code:=.sliceB) S W (DA _)
 refine⟨a1,X,?_⟩
 rcases Y with⟨_,rfl,q⟩|⟨cb,rfl,D⟩<;>rcases a2 with⟨_,rfl,G⟩|⟨ca,rfl,O⟩
 .subst q;subst G;simp[Instr.sliceBounds]
 .subst q;simp[Instr.sliceBounds,O]
 .subst G;simp[Instr.sliceBounds,D]
 .simp[Instr.sliceBounds,D,O]
def A7r{E:TI}{o g r A len z a:Nat}{lo hi:Option AV}(W:RV h mu w (.refc o g r A len z) c)(X:Xq h mu w lo clo)(Y:Xq h mu w hi chi)(Z:P.underlying t=some (.slice e))(hE:ti P e=some E)(hb:Cq hi len z=some b)(ha:Cq lo 0 b=some a)(G:E.size=1)(O:len<=z)(aa:a=0\/a<z):
  ∃y,(Instr.sliceAt t c clo chi none).run P w=.ok y w/\RV h mu w (.refc o g r (A+a) (b-a) (z-a)) y:=by
 obtain⟨ab,bc,D⟩:=A67 (P:=P) (isS:=true) X Y hb ha O
 cases W with
 |refc _ _ _ _ _ _ l hl S U V ac=>
  refine⟨.slice (some (if z=a then⟨l.b,l.base+r*l.st+A,none⟩else(⟨l.b,l.base+r*l.st+A,none⟩:Addr).add (a*E.size))) (b-a) (z-a),?_,?_⟩
  .simp only[Instr.sliceAt,Sem.run_bind,run_underlying Z,Result.andThen_ok,Instr.slice,D,Eh hE,Sem.run_pure];split<;>rfl
  .have:=Rv.refc (w:=w) (M:=C0 h mu) o g r (A+a) (b-a) (z-a) l hl S (by omega) (by omega) (by omega);have e1:(if z=a then(⟨l.b,l.base+r*l.st+A,none⟩:Addr)else(⟨l.b,l.base+r*l.st+A,none⟩:Addr).add (a*E.size))=⟨l.b,l.base+r*l.st+(A+a),none⟩:=by
    split
    .have:a=0:=by omega
     subst this;rfl
    .rw[Jw,G,FX,CD]
   rw[e1];exact this
def Aos (st:Nat):∀(n:Nat) (l:List AV),(L5 st n l).length=n
 |0,_=>rfl
 |n+1,l=>by simp[L5,Aos st n]
def Alt(z:j<st):∀{n i:Nat} {l:List AV},i<n->cell (L5 st n l) i j=l.getD (i*st+j) .und
 |0,i,l,hi=>by omega
 |n+1,0,l,_=>by simp[cell,L5,List.getD,BQ,z]
 |n+1,i+1,l,hi=>by have:=Alt z (n:=n) (i:=i) (l:=l.drop st) (by omega);simp only[cell,L5,GU]at this ⊢;rw[this];simp only[List.getD,BR];rw[show st+(i*st+j)=(i+1)*st+j by rw[AI];omega]
def Ap0:∀{n:Nat} {l:List AV},n*st<=l.length->(∀v∈l,v.flat=true)->∀r∈L5 st n l,Cy st r
 |0,l,_,_,r,hr=>by cases hr
 |n+1,l,A,hf,r,hr=>by
  rw[AI]at A;simp only[L5,AN]at hr;rcases hr with rfl|hr
  .exact⟨by simp;omega,λv z=>hf v (DC z)⟩
  .exact Ap0 (by simp;omega) (λv z=>hf v (CK z)) r hr
def A3q(s:Sim B mu h w){lo hi mx:Option AV}{ag:Option Value}(hv:RV h mu w v c)(Z:Xq h mu w lo clo)(h2:Xq h mu w hi chi)(h3:Xq h mu w mx ag)(z:Ec P h t v lo hi mx=some x):∃y,(Instr.sliceAt t c clo chi ag).run P w=.ok y w/\RV h mu w x y:=by
 unfold Ec at z;split at z
 .cases z
 rename_i T hT;obtain⟨d,hd,X⟩:=Ek hT;have zero:∀{a:Option Addr} {len A:Nat} {e:TypeId} {E:TI} {m:AV} {lo hi:Option AV} {clo chi ag:Option Value},TypeDesc.slice e=d->ti P e=some E->Xq h mu w lo clo->Xq h mu w hi chi->Xq h mu w (some m) ag->
   (lo=none\/∃k,lo=some (.int k 0))->(∃k,hi=some (.int k 0))->(∃k,m=.int k 0)->∃y,(Instr.sliceAt t (.slice a len A) clo chi ag).run P w=.ok y w/\RV h mu w .emp y:=by
  intro a len A e E m lo hi clo chi ag he hE Z h2 h3 q1 q2 q3
  obtain⟨k2,rfl⟩:=q2
  obtain⟨k3,rfl⟩:=q3
  rcases h2 with⟨D,_⟩|⟨_,b2,D,rfl,r2⟩
  .cases D
  cases D;cases r2
  rcases h3 with⟨D,_⟩|⟨_,b3,D,rfl,r3⟩
  .cases D
  cases D;cases r3
  rcases q1 with rfl|⟨k1,rfl⟩
  .rcases Z with⟨_,rfl⟩|⟨_,_,D,_,_⟩
   .refine⟨.slice a 0 0,?_,.emp _⟩;simp[Instr.sliceAt,run_underlying hd,<-he,Instr.slice,Instr.sliceBounds,Instr.sliceBound,asIntOf,Eh hE]
   .cases D
  .rcases Z with⟨D,_⟩|⟨_,b1,D,rfl,r1⟩
   .cases D
   cases D;cases r1
   refine⟨.slice a 0 0,?_,.emp _⟩
   simp[Instr.sliceAt,run_underlying hd,<-he,Instr.slice,Instr.sliceBounds,Instr.sliceBound,asIntOf,Eh hE]
 split at z
 .rename_i str hk;have:=Wp (hk▸X);subst this;cases hv;have ah:(⟨str.toArray⟩:ByteArray).size=str.length:=by simp[Lib.size_eq]
  rcases h3 with⟨_,rfl⟩|⟨_,_,D,_,_⟩
  .split at z
   .cases z
   rename_i b G
   split at z
   .cases z
   rename_i a ha
   cases z
   obtain⟨b1,b2⟩:=E0 (P:=P) (code:=.sliceAlen) h2 G (AF _)
   obtain⟨a1,a2⟩:=E0 (P:=P) (code:=.sliceB) Z ha (DA _)
   refine⟨.string ((⟨str.toArray⟩:ByteArray).extract a b),?_,?_⟩
   .have au:(⟨str.toArray⟩:ByteArray).extract 0 str.length=⟨str.toArray⟩:=by rw[Lib.extract_eq];simp
    rcases b2 with⟨_,rfl,rfl⟩|⟨cb,rfl,rb⟩<;>rcases a2 with⟨_,rfl,rfl⟩|⟨ca,rfl,ra⟩<;> simp[Instr.sliceAt,run_underlying hd,Instr.slice,Instr.sliceBounds,ah,au, *]
   .have e:((⟨str.toArray⟩:ByteArray).extract a b)=⟨((str.drop a).take (b-a)).toArray⟩:=by
     rw[Lib.extract_eq]
    rw[e]
    exact .str _
  .cases D
 .rename_i e st rows hk;have:=Fq (hk▸X);subst this;split at z
  .cases z
  rename_i E hE;split at z
  .rename_i ax;subst ax;rcases h3 with⟨_,rfl⟩|⟨_,_,D,_,_⟩
   .split at z
    .cases z
    rename_i b G
    split at z
    .cases z
    rename_i a ha
    cases z
    obtain⟨a1,a2⟩:=E0 (P:=P) (code:=.sliceB) Z ha (DA _)
    cases hv with
    |sl0 _ ad A=>
     have ai:Cq hi 0 A=some b/\b=0:=by
      unfold Cq at G ⊢;split at G
      .simp at G;simp[G]
      .split at G
       .rename_i hq;cases G;have:(0:Int)<=_/\_<=((([]:List (List AV)).length:Nat):Int):=hq;simp at this;rw[if_pos (by omega)];exact⟨rfl,by omega⟩
       .cases G
      .cases G
     obtain⟨aj,rfl⟩:=ai;obtain⟨b1,b2⟩:=E0 (P:=P) (code:=.sliceAcap) h2 aj (DA _);have aa:a=0:=by omega
     subst aa;have key:∃ae,(Instr.sliceAt t (.slice ad 0 A) clo chi none).run P w=.ok (.slice ae 0 A) w:=by rcases b2 with⟨_,rfl,_⟩|⟨cb,rfl,rb⟩<;>rcases a2 with⟨_,rfl,_⟩|⟨ca,rfl,ra⟩<;> simp[Instr.sliceAt,run_underlying hd,Instr.slice,Instr.sliceBounds,Eh hE, *]
     obtain⟨ae,key⟩:=key;exact⟨_,key,by simpa using Rv.sl0 _ _ _⟩
    |sl _ _ bb off A vs O Y g1 g2 hr g3 g4=>
     have ai:Cq hi rows.length A=some b/\b<=rows.length:=by
      unfold Cq at G ⊢;split at G
      .simp at G;simp[G]
      .split at G
       .rename_i hq;cases G;rw[if_pos (by omega)];exact⟨rfl,by omega⟩
       .cases G
      .cases G
     obtain⟨aj,av⟩:=ai;obtain⟨b1,b2⟩:=E0 (P:=P) (code:=.sliceAcap) h2 aj O;by_cases U:a=b
     .subst U;have key:∃ae af,(Instr.sliceAt t (.slice (some ⟨bb,off,none⟩) rows.length A) clo chi none).run P w=.ok (.slice ae 0 af) w:=by rcases b2 with⟨_,rfl,q⟩|⟨cb,rfl,rb⟩<;>rcases a2 with⟨_,rfl,_⟩|⟨ca,rfl,ra⟩<;> first|(subst q;simp[Instr.sliceAt,run_underlying hd,Instr.slice,Instr.sliceBounds,Eh hE, *])|simp[Instr.sliceAt,run_underlying hd,Instr.slice,Instr.sliceBounds,Eh hE, *]
      obtain⟨ae,af,key⟩:=key;exact⟨_,key,by simpa using Rv.sl0 _ _ _⟩
     .have ay:a<b:=by omega
      refine⟨.slice (some ⟨bb,off+a*E.size,none⟩) (b-a) (A-a),?_,?_⟩
      .have ab:¬A=a:=by omega
       rcases b2 with⟨_,rfl,q⟩|⟨cb,rfl,rb⟩<;>rcases a2 with⟨_,rfl,_⟩|⟨ca,rfl,ra⟩<;> first|(subst q;simp[Instr.sliceAt,run_underlying hd,Instr.slice,Instr.sliceBounds,Eh hE,Jw,ab, *])|simp[Instr.sliceAt,run_underlying hd,Instr.slice,Instr.sliceBounds,Eh hE,Jw,ab, *]
      .have S:((rows.drop a).take (b-a)).length=b-a:=by simp;omega
       have ac:∀i j,i<b-a->cell ((rows.drop a).take (b-a)) i j=cell rows (a+i) j:=by intro i j hi;simp[cell,List.getD,BQ,hi,BR]
       have:=Rv.sl (w:=w) (mu:=mu) (M:=C0 h mu) E.size ((rows.drop a).take (b-a)) bb (off+a*E.size) (A-a) (λi j=>vs (a+i) j) (by omega) (by omega)
        (λi j hi hj=>by rw[S]at hi;have:=g1 (a+i) j (by omega) hj;rw[AI]at this;rw[<-this];congr 2;omega)
        (λi j hi hj=>by rw[S]at hi;rw[ac i j hi];exact g2 (a+i) j (by omega) hj)
        (λr ao=>hr r (CK (DC ao))) g3 g4
       rwa[S]at this
   .cases D
  .cases z
 .rename_i e o g off len hk;have:=Fq (hk▸X);subst this;split at z
  .cases z
  rename_i E hE;rcases h3 with⟨_,rfl⟩|⟨_,_,D,_,_⟩
  .split at z
   .cases z
   rename_i b G
   split at z
   .cases z
   rename_i a ha
   obtain⟨a1,a2⟩:=E0 (P:=P) (code:=.sliceB) Z ha (DA _)
   cases hv with
   |ref _ _ _ _ A l hl V O Y ah=>
    have ai:Cq hi len A=some b/\b<=len:=by
     unfold Cq at G ⊢;split at G
     .simp at G;simp[G]
     .split at G
      .rename_i hq;cases G;rw[if_pos (by omega)];exact⟨rfl,by omega⟩
      .cases G
     .cases G
    obtain⟨aj,av⟩:=ai;obtain⟨b1,b2⟩:=E0 (P:=P) (code:=.sliceAcap) h2 aj O;split at z
    .rename_i U;obtain⟨U,_⟩:=U;subst U;cases z;have key:∃ae af,(Instr.sliceAt t (.slice (some ⟨l.b,l.base+off*l.st,none⟩) len A) clo chi none).run P w=.ok (.slice ae 0 af) w:=by rcases b2 with⟨_,rfl,q⟩|⟨cb,rfl,rb⟩<;>rcases a2 with⟨_,rfl,_⟩|⟨ca,rfl,ra⟩<;> first|(subst q;simp[Instr.sliceAt,run_underlying hd,Instr.slice,Instr.sliceBounds,Eh hE, *])|simp[Instr.sliceAt,run_underlying hd,Instr.slice,Instr.sliceBounds,Eh hE, *]
     obtain⟨ae,af,key⟩:=key;exact⟨_,key,.sl0 _ _ _⟩
    .rename_i U;split at z
     .rename_i g' st rs D;split at z
      .rename_i hc;obtain⟨rfl,rfl⟩:=hc;cases z;obtain⟨l',k1,k2,k3,_⟩:=s.rows _ _ _ _ D;rw[hl]at k1;cases k1;refine⟨.slice (some ⟨l.b,l.base+off*l.st+a*E.size,none⟩) (b-a) (A-a),?_,?_⟩
       .by_cases aa:a=0
        .subst aa;rcases b2 with⟨_,rfl,q⟩|⟨cb,rfl,rb⟩<;>rcases a2 with⟨_,rfl,_⟩|⟨ca,rfl,ra⟩<;> first|(subst q;simp[Instr.sliceAt,run_underlying hd,Instr.slice,Instr.sliceBounds,Eh hE,Jw, *])|simp[Instr.sliceAt,run_underlying hd,Instr.slice,Instr.sliceBounds,Eh hE,Jw, *]
        .have ab:¬A=a:=by
          intro a5
          exact U ⟨by omega,aa⟩
         rcases b2 with⟨_,rfl,q⟩|⟨cb,rfl,rb⟩<;>rcases a2 with⟨_,rfl,_⟩|⟨ca,rfl,ra⟩<;> first|(subst q;simp[Instr.sliceAt,run_underlying hd,Instr.slice,Instr.sliceBounds,Eh hE,Jw,ab, *])|simp[Instr.sliceAt,run_underlying hd,Instr.slice,Instr.sliceBounds,Eh hE,Jw,ab, *]
       .have:=Rv.ref (w:=w) (M:=C0 h mu) o g' (off+a) (b-a) (A-a) l hl V (by omega) (by omega) (by rw[show off+a+(A-a)=off+A by omega];exact ah);rw[AI,<-CD,k3]at this;rw[k3];exact this
      .cases z
     .cases z
  .cases D
 .rename_i e hk;have:=Fq (hk▸X);subst this;split at z
  .cases z
  rename_i E hE;rcases h3 with⟨_,rfl⟩|⟨_,_,D,_,_⟩
  .split at z
   .cases z
   rename_i b G
   split at z
   .cases z
   rename_i a ha
   cases z
   cases hv with
   |emp ad=>
    obtain⟨b1,b2⟩:=E0 (P:=P) (code:=.sliceAcap) h2 G (DA _);obtain⟨a1,a2⟩:=E0 (P:=P) (code:=.sliceB) Z ha (DA _);have ap:b=0:=by omega
    have aa:a=0:=by omega
    subst ap;subst aa;refine⟨.slice ad 0 0,?_,.emp _⟩;rcases b2 with⟨_,rfl,_⟩|⟨cb,rfl,rb⟩<;>rcases a2 with⟨_,rfl,_⟩|⟨ca,rfl,ra⟩<;> simp[Instr.sliceAt,run_underlying hd,Instr.slice,Instr.sliceBounds,Eh hE, *]
  .cases D
 .rename_i e st rows m hk;have:=Fq (hk▸X);subst this;split at z
  .rename_i E k1 k2 q1;cases z;cases hv with
   |sl0 _ ad A=>exact zero rfl q1 Z h2 h3 (.inl rfl) ⟨_,rfl⟩ ⟨_,rfl⟩
   |sl _ _ bb off A vs O Y g1 g2 hr g3 g4=>exact zero rfl q1 Z h2 h3 (.inl rfl) ⟨_,rfl⟩ ⟨_,rfl⟩
  .rename_i E k0 k1 k2 q1;cases z;cases hv with
   |sl0 _ ad A=>exact zero rfl q1 Z h2 h3 (.inr ⟨_,rfl⟩) ⟨_,rfl⟩ ⟨_,rfl⟩
   |sl _ _ bb off A vs O Y g1 g2 hr g3 g4=>exact zero rfl q1 Z h2 h3 (.inr ⟨_,rfl⟩) ⟨_,rfl⟩ ⟨_,rfl⟩
  .rename_i E kb bi kc ci hE _ _;split at z
   .rename_i hc;obtain⟨rfl,c1,c2,c3⟩:=hc;split at z
    .cases z
    rename_i a ha;cases z;obtain⟨a1,a2⟩:=E0 (P:=P) (code:=.slice3C) Z ha (DA _);rcases h2 with⟨D,_⟩|⟨_,cb,D,rfl,rb⟩
    .cases D
    cases D;cases rb;rcases h3 with⟨D,_⟩|⟨_,W,D,rfl,rc⟩
    .cases D
    cases D;cases rc;have key:∀(ad:Option Addr) (len A:Nat),ci<=A->(Instr.sliceAt t (.slice ad len A) clo (some (.int kb bi)) (some (.int kc ci))).run P w=.ok (.slice (if ci.toNat=a then ad else ad.map (·.add (a*E.size))) (bi.toNat-a) (ci.toNat-a)) w:=by
     intro ad len A O;have e1:(Instr.sliceBound (.int kc ci) A .slice3Acap).run P w=.ok ci.toNat w:=by simp[Instr.sliceBound,asIntOf,show 0<=ci/\ci<=(A:Int)from⟨by omega,O⟩]
     have e2:(Instr.sliceBound (.int kb bi) ci.toNat .slice3B).run P w=.ok bi.toNat w:=by simp only[Instr.sliceBound,asIntOf,Sem.run_bind,Sem.run_pure,Result.andThen_ok];rw[if_pos ⟨c1,by omega⟩];rfl
     rcases a2 with⟨_,rfl,rfl⟩|⟨ca,rfl,ra⟩<;> simp[Instr.sliceAt,run_underlying hd,Instr.slice,Instr.sliceBounds,Eh hE,e1,e2, *]
    cases hv with
    |sl0 _ ad A=>
     have az:ci=0:=by simp at c3;omega
     subst az;have ap:bi=0:=by omega
     subst ap;refine⟨_,key ad 0 A (by omega),?_⟩;split
     .simpa using Rv.slx0 _ _
     .simpa using Rv.sl0 _ _ _
    |sl _ _ bb off A vs O Y g1 g2 hr g3 g4=>
     refine⟨_,key _ _ A (by omega),?_⟩;by_cases U:a=bi.toNat
     .subst U;split
      .rename_i aq;subst aq;simpa using Rv.slx0 _ _
      .simpa using Rv.sl0 _ _ _
     .have ay:a<bi.toNat:=by omega
      have ab:¬ci.toNat=a:=by omega
      rw[if_neg ab]
      simp only[AQ,Jw]
      have S:((rows.drop a).take (bi.toNat-a)).length=bi.toNat-a:=by simp;omega
      have ac:∀i j,i<bi.toNat-a->cell ((rows.drop a).take (bi.toNat-a)) i j=cell rows (a+i) j:=by intro i j hi;simp[cell,List.getD,BQ,hi,BR]
      have ak:∀i j,i<((rows.drop a).take (bi.toNat-a)).length->j<E.size->w.cell? ⟨bb,off+a*E.size+i*E.size+j,none⟩=some (vs (a+i) j):=λi j hi hj=>by rw[S]at hi;have:=g1 (a+i) j (by omega) hj;rw[AI]at this;rw[<-this];congr 2;omega
      have al:∀i j,i<((rows.drop a).take (bi.toNat-a)).length->j<E.size->RV h mu w (cell ((rows.drop a).take (bi.toNat-a)) i j) (vs (a+i) j):=λi j hi hj=>by rw[S]at hi;rw[ac i j hi];exact g2 (a+i) j (by omega) hj
      have am:∀r∈(rows.drop a).take (bi.toNat-a),Cy E.size r:=λr ao=>hr r (CK (DC ao))
      split
      .rename_i aq;subst aq;have:=Rv.slx (w:=w) (mu:=mu) (M:=C0 h mu) E.size ((rows.drop a).take (bi.toNat-a)) bb (off+a*E.size) (λi j=>vs (a+i) j) (by omega) ak al am g3 g4;rwa[S]at this
      .have:=Rv.sl (w:=w) (mu:=mu) (M:=C0 h mu) E.size ((rows.drop a).take (bi.toNat-a)) bb (off+a*E.size) (ci.toNat-a) (λi j=>vs (a+i) j) (by omega) (by omega) ak al am g3 g4;rwa[S]at this
   .cases z
  .cases z
 .rename_i e o g off len m hk;have:=Fq (hk▸X);subst this;split at z
  .rename_i E k1 k2 q1;cases z;cases hv with
   |ref _ _ _ _ A l hl V O Y ah=>exact zero rfl q1 Z h2 h3 (.inl rfl) ⟨_,rfl⟩ ⟨_,rfl⟩
  .rename_i E k0 k1 k2 q1;cases z;cases hv with
   |ref _ _ _ _ A l hl V O Y ah=>exact zero rfl q1 Z h2 h3 (.inr ⟨_,rfl⟩) ⟨_,rfl⟩ ⟨_,rfl⟩
  .cases z
 .rename_i e m hk;have:=Fq (hk▸X);subst this;split at z
  .rename_i E k1 k2 q1;cases z;cases hv with
   |emp ad=>exact zero rfl q1 Z h2 h3 (.inl rfl) ⟨_,rfl⟩ ⟨_,rfl⟩
  .rename_i E k0 k1 k2 q1;cases z;cases hv with
   |emp ad=>exact zero rfl q1 Z h2 h3 (.inr ⟨_,rfl⟩) ⟨_,rfl⟩ ⟨_,rfl⟩
  .cases z
 .rename_i n e row W hk;have:=Aiu (hk▸X);subst this;split at z
  .cases z
  rename_i E hE;split at z
  .rename_i hc;obtain⟨hn,a4,a0⟩:=hc;rcases h3 with⟨_,rfl⟩|⟨_,_,D,_,_⟩
   .split at z
    .cases z
    rename_i b G
    split at z
    .cases z
    rename_i a ha
    cases z
    obtain⟨b1,b2⟩:=E0 (P:=P) (code:=.sliceAlen) h2 G (AF _)
    obtain⟨a1,a2⟩:=E0 (P:=P) (code:=.sliceB) Z ha (DA _)
    cases hv with
    |cp _ _ bb off vs g1 g2 g3 g4=>
     have key:(Instr.sliceAt t (.pointer (some ⟨bb,off+W,none⟩)) clo chi none).run P w=.ok (.slice (some (if n=a then⟨bb,off+W,none⟩else(⟨bb,off+W,none⟩:Addr).add (a*E.size))) (b-a) (n-a)) w:=by rcases b2 with⟨_,rfl,rfl⟩|⟨cb,rfl,rb⟩<;>rcases a2 with⟨_,rfl,rfl⟩|⟨ca,rfl,ra⟩<;> simp[Instr.sliceAt,run_underlying hd,Instr.sureAddr,Instr.sliceBounds,Eh hE, *]
     refine⟨_,key,?_⟩;have V:(L5 E.size (b-a) (row.drop (W+a*E.size))).length=b-a:=Aos _ _ _;by_cases U:a=b
     .subst U;have hz:L5 E.size (a-a) (row.drop (W+a*E.size))=[]:=by rw[Nat.sub_self];rfl
      rw[hz,Nat.sub_self];exact .sl0 _ _ _
     .have ab:¬n=a:=by omega
      rw[if_neg ab]
      simp only[Jw]
      have an:a*E.size+(b-a)*E.size<=n*E.size:=by rw[<-AI];exact AZ _ (by omega)
      have aw:∀i j,i<b-a->j<E.size->W+a*E.size+i*E.size+j<row.length:=by intro i j hi hj;have:(i+1)*E.size<=(b-a)*E.size:=AZ _ hi;rw[AI]at this;omega
      have ak:∀i j,i<b-a->j<E.size->w.cell? ⟨bb,off+W+a*E.size+i*E.size+j,none⟩=some (vs (W+a*E.size+i*E.size+j)):=λi j hi hj=>by rw[<-g1 _ (aw i j hi hj)];congr 2;omega
      have al:∀i j,i<b-a->j<E.size->RV h mu w (cell (L5 E.size (b-a) (row.drop (W+a*E.size))) i j) (vs (W+a*E.size+i*E.size+j)):=λi j hi hj=>by rw[Alt hj hi];have:=g2 _ (aw i j hi hj);simpa[List.getD,BR,CD]using this
      have am:∀r∈L5 E.size (b-a) (row.drop (W+a*E.size)),Cy E.size r:=Ap0 (by simp;omega) (λv hv=>AJ.1 a0 v (CK hv))
      have:=Rv.sl (w:=w) (mu:=mu) (M:=C0 h mu) E.size _ bb (off+W+a*E.size) (n-a) (λi j=>vs (W+a*E.size+i*E.size+j)) (by rw[V];omega) (by rw[V];omega) (λi j hi hj=>ak i j (V▸hi) hj) (λi j hi hj=>al i j (V▸hi) hj) am g3 g4
      rwa[V]at this
   .cases D
  .cases z
 .rename_i n e o g r W hk;have:=Aiu (hk▸X);subst this;split at z
  .cases z
  rename_i E hE;rcases h3 with⟨_,rfl⟩|⟨_,_,D,_,_⟩
  .split at z
   .cases z
   rename_i b G
   split at z
   .cases z
   rename_i a ha
   obtain⟨b1,b2⟩:=E0 (P:=P) (code:=.sliceAlen) h2 G (AF _)
   obtain⟨a1,a2⟩:=E0 (P:=P) (code:=.sliceB) Z ha (DA _)
   split at z
   .rename_i g' st rs D;split at z
    .rename_i hc;obtain⟨rfl,ar,hn,hr,a6,aa⟩:=hc;cases z;cases hv with
     |ptr _ _ _ _ l hl V=>
      obtain⟨l',k1,k2,k3,k4,_⟩:=s.rows _ _ _ _ D;rw[hl]at k1;cases k1;have key:(Instr.sliceAt t (.pointer (some ⟨l.b,l.base+r*l.st+W,none⟩)) clo chi none).run P w=.ok (.slice (some (if n=a then⟨l.b,l.base+r*l.st+W,none⟩else(⟨l.b,l.base+r*l.st+W,none⟩:Addr).add (a*E.size))) (b-a) (n-a)) w:=by rcases b2 with⟨_,rfl,rfl⟩|⟨cb,rfl,rb⟩<;>rcases a2 with⟨_,rfl,rfl⟩|⟨ca,rfl,ra⟩<;> simp[Instr.sliceAt,run_underlying hd,Instr.sureAddr,Instr.sliceBounds,Eh hE, *]
      refine⟨_,key,?_⟩;have an:r*l.st+l.st<=rs.length*l.st:=by rw[<-Nat.succ_mul];exact AZ _ hr
      have:=Rv.refc (w:=w) (M:=C0 h mu) o g' r (W+a) (b-a) (n-a) l hl V (by omega) (by omega) (by rw[k3]at an ⊢;omega);have e1:(if n=a then(⟨l.b,l.base+r*l.st+W,none⟩:Addr)else(⟨l.b,l.base+r*l.st+W,none⟩:Addr).add (a*E.size))=⟨l.b,l.base+r*l.st+(W+a),none⟩:=by
       split
       .have:a=0:=by omega
        subst this;rfl
       .rw[Jw,ar,FX,CD]
      rw[e1];exact this
    .cases z
   .cases z
  .cases D
 .rename_i e o g r W len A hk;have:=Fq (hk▸X);subst this;split at z
  .cases z
  rename_i E hE;rcases h3 with⟨_,rfl⟩|⟨_,_,D,_,_⟩
  .split at z
   .cases z
   rename_i b G
   split at z
   .cases z
   rename_i a ha
   split at z
   .rename_i hc;obtain⟨ar,a3,aa⟩:=hc;cases z;exact A7r hv Z h2 hd hE G ha ar a3 aa
   .cases z
  .cases D
 .cases z
end
variable{y:AV}{cx:Value}{cy:Value}{xs:List AV}{ys:List AV}{op:BinOp}{ca:Value}
section
variable[GW P]{B:Base P}
def bytes_beq (a b:List UInt8):((⟨a.toArray⟩:ByteArray).toList==(⟨b.toArray⟩:ByteArray).toList)=(a==b):=by rw[Lib.toList_data,Lib.toList_data]
def Og (a:List UInt8):(⟨a.toArray⟩:ByteArray).toList=a:=by rw[Lib.toList_data]
def Anj (a:List UInt8):(⟨a.toArray⟩:ByteArray).size=a.length:=by simp[Lib.size_eq]
def Axi{b:Bool}(D:RV h mu w x cx)(G:RV h mu w y cy)(A:X4 P t x y=some b)(n:Nat):(Op.equalIn (n+1) t cx cy).run P w=.ok b w:=by
 unfold X4 at A;split at A
 .cases A
 rename_i T V;obtain⟨d,O,z⟩:=Ek V;split at A
 .rename_i a b hk;have:=Avy (hk▸z);subst this;cases A;cases D;cases G;simp[Op.equalIn,run_underlying O]
 .rename_i W k a X b hk;have:=Aae (hk▸z);subst this;split at A
  .rename_i U;subst U;cases A;cases D;cases G;simp[Op.equalIn,run_underlying O]
  .cases A
 .rename_i a b hk;have:=Wp (hk▸z);subst this;cases A;cases D;cases G;rw[run_equalIn_string w n t _ _ O,bytes_beq]
 .rename_i hk;have:∃S,d=.interface S:=by rw[hk]at z;cases d<;>simp[TK.of]at z;exact⟨_,rfl⟩
  obtain⟨S,rfl⟩:=this;cases A;cases D;cases G;simp[Op.equalIn,run_underlying O]
 .rename_i hk;have:∃S,d=.interface S:=by rw[hk]at z;cases d<;>simp[TK.of]at z;exact⟨_,rfl⟩
  obtain⟨S,rfl⟩:=this;cases A;cases D;cases G;simp[Op.equalIn,run_underlying O]
 .rename_i e hk;have:∃e,d=.pointer e:=by rw[hk]at z;cases d<;>simp[TK.of]at z;exact⟨_,rfl⟩
  obtain⟨e,rfl⟩:=this;cases A;cases D;cases G;simp[Op.equalIn,run_underlying O]
 .rename_i hk;have:∃a b c,d=.func a b c:=by rw[hk]at z;cases d<;>simp[TK.of]at z;exact⟨_,_,_,rfl⟩
  obtain⟨_,_,_,rfl⟩:=this;cases A;cases D;cases G;simp[Op.equalIn,run_underlying O]
 .rename_i hk;have:∃a b c,d=.func a b c:=by rw[hk]at z;cases d<;>simp[TK.of]at z;exact⟨_,_,_,rfl⟩
  obtain⟨_,_,_,rfl⟩:=this;cases A;cases D;cases G;simp[Op.equalIn,run_underlying O]
 .rename_i hk;have:∃a b c,d=.func a b c:=by rw[hk]at z;cases d<;>simp[TK.of]at z;exact⟨_,_,_,rfl⟩
  obtain⟨_,_,_,rfl⟩:=this;cases A;cases D;cases G;simp[Op.equalIn,run_underlying O]
 .rename_i hk;have:∃S,d=.interface S:=by rw[hk]at z;cases d<;>simp[TK.of]at z;exact⟨_,rfl⟩
  obtain⟨S,rfl⟩:=this;cases A;cases D;cases G;simp[Op.equalIn,run_underlying O]
 .rename_i e hk;have:∃e,d=.pointer e:=by rw[hk]at z;cases d<;>simp[TK.of]at z;exact⟨_,rfl⟩
  obtain⟨e,rfl⟩:=this;cases A;cases D;cases G;simp[Op.equalIn,run_underlying O]
 .rename_i e hk;have:∃e,d=.pointer e:=by rw[hk]at z;cases d<;>simp[TK.of]at z;exact⟨_,rfl⟩
  obtain⟨e,rfl⟩:=this;cases A;cases D;cases G;simp[Op.equalIn,run_underlying O]
 .cases A
def Amn{rec:TypeId→AV→AV→Option Bool}(hrec:∀{t:TypeId} {x y:AV} {cx cy:Value} {b:Bool},RV h mu w x cx→RV h mu w y cy→rec t x y=some b→(Op.equalIn n t cx cy).run P w=.ok b w){cx cy:List Value}(lx:xs.length=cx.length)(ly:ys.length=cy.length)(hx:∀i,i<xs.length→RV h mu w (xs.getD i .und) (cx.getD i undef))(hy:∀i,i<ys.length→RV h mu w (ys.getD i .und) (cy.getD i undef)):
  ∀(fs:List Field) {b:Bool},(∀f∈fs,f.name≠"_")→S4 P rec xs ys (fs.map fun f=>(f.offset,f.type))=some b→(Op.eqFields n cx.toArray cy.toArray fs).run P w=.ok b w
 |[],b,_,hb=>by simp[S4]at hb;subst hb;simp[Op.eqFields]
 |f::r,b,hn,hb=>by
  simp only[List.map_cons,S4]at hb;split at hb
  ·cases hb
  rename_i F hF;split at hb
  ·rename_i a c ha hc;obtain⟨pa,qa,ra⟩:=Aio lx hx hF ha;obtain⟨pc,qc,rc⟩:=Aio ly hy hF hc;split at hb
   ·rename_i hr;have h1:=hrec ra rc hr;have h2:=Amn hrec lx ly hx hy r (fun g hg=>hn g (List.mem_cons_of_mem _ hg)) hb;simp[Op.eqFields,hn f (List.mem_cons_self ..),qa,qc,h1,h2]
   ·rename_i hr;have h1:=hrec ra rc hr;cases hb;simp[Op.eqFields,hn f (List.mem_cons_self ..),qa,qc,h1]
   ·cases hb
  ·cases hb
def Aow{rec:AV->AV->Option Bool}{E:TI}(hE:ti P e=some E)(z:∀{x y:AV} {cx cy:Value} {b:Bool},RV h mu w x cx->RV h mu w y cy->rec x y=some b->(Op.equalIn n e cx cy).run P w=.ok b w){cx cy:List Value}(G:xs.length=cx.length)(O:ys.length=cy.length)(S:∀i,i<xs.length->RV h mu w (xs.getD i .und) (cx.getD i undef))(U:∀i,i<ys.length->RV h mu w (ys.getD i .und) (cy.getD i undef)):
  ∀(is:List Nat) {b:Bool},Ym P rec E.size E.k.agg xs ys is=some b->(Op.eqItems n e E.size cx.toArray cy.toArray is).run P w=.ok b w
 |[],b,A=>by simp[Ym]at A;subst A;simp[Op.eqItems]
 |i::r,b,A=>by
  simp only[Ym]at A;split at A
  .rename_i a c Y Z;obtain⟨pa,V,W⟩:=Aio G S hE Y;obtain⟨pc,X,rc⟩:=Aio O U hE Z;split at A
   .rename_i hr;have D:=z W rc hr;have h2:=Aow hE z G O S U r A;simp[Op.eqItems,V,X,D,h2]
   .rename_i hr;have D:=z W rc hr;cases A;simp[Op.eqItems,V,X,D]
   .cases A
  .cases A
def Ak8:∀(d:Nat) {t:TypeId} {x y:AV} {cx cy:Value} {b:Bool} (n:Nat),RV h mu w x cx→RV h mu w y cy→Aa2 P d t x y=some b→d≤n→(Op.equalIn n t cx cy).run P w=.ok b w
 |0,t,x,y,cx,cy,b,n,hx,hy,hb,_=>by simp[Aa2]at hb
 |d+1,t,x,y,cx,cy,b,n,hx,hy,hb,hle=>by
  obtain⟨m,rfl⟩:∃m,n=m+1:=⟨n-1,by omega⟩;unfold Aa2 at hb;split at hb
  ·cases hb
  rename_i T hT;split at hb
  ·rename_i fs xs ys hk;split at hb
   ·rename_i hok;simp only[Aqq,Bool.and_eq_true,Bool.not_eq_true']at hok;obtain⟨dd,hd,hk'⟩:=Ek hT;obtain⟨a,rfl,rfl⟩:=A61 (hk▸hk');cases hx with
    |agg _ vx lx px=>
     cases hy with
     |agg _ vy ly py=>
      have hf:P.fieldsOf t=a:=by simp[Program.fieldsOf,hd]
      rw[run_equalIn_struct w m t _ _ (by rw[hf];exact hd) hok.1.1,hf];have hnames:∀f∈a.toList,f.name≠"_":=by have:=hok.2;rw[hd]at this;simp only[Array.all_eq_true]at this;intro f hf;obtain⟨i,hi,rfl⟩:=List.mem_iff_getElem.1 hf;have:=this i (by simpa using hi);simpa using this
      exact Amn (n:=m) (fun h1 h2 h3=>Ak8 d m h1 h2 h3 (by omega)) lx ly px py a.toList hnames hb
   ·cases hb
  ·rename_i n e xs ys hk;split at hb
   ·cases hb
   rename_i E hE;obtain⟨dd,hd,hk'⟩:=Ek hT;have:=Aiu (hk▸hk');subst this;cases hx with
   |agg _ vx lx px=>
    cases hy with
    |agg _ vy ly py=>
     obtain⟨dE,iE,z,e1,e2,e3,e4,e5,e6,e7,e8,e9,e10⟩:=Pj hE;rw[run_equalIn_array w m vx.toArray vy.toArray hd e2];have hc:P.cellsOf e=E.size:=by rw[e7];simp[Program.cellsOf,e2]
     rw[hc];exact Aow (n:=m) hE (fun h1 h2 h3=>Ak8 d m h1 h2 h3 (by omega)) lx ly px py _ hb
  ·exact Axi hx hy hb m
def A1o (a b:List UInt8):(⟨a.toArray⟩:ByteArray)++(⟨b.toArray⟩:ByteArray)=⟨(a++b).toArray⟩:=by apply ByteArray.ext;rw[ByteArray.data_append];simp
def Pa (P:Program)(op:BinOp)(t:TypeId)(x y:Operand)(a b:AV):Bool:=
 match op,a,b with
 |.eql,.nili,.nili=>(match x with|.const _=>true|_=>false)||(match y with|.const _=>true|_=>false)
 |.neq,.nili,.nili=>(match x with|.const _=>true|_=>false)||(match y with|.const _=>true|_=>false)
 |.eql,.agg _,.agg _=>Aqq P t
 |.neq,.agg _,.agg _=>Aqq P t
 |.eql,.raw _,_=>false
 |.neq,.raw _,_=>false
 |.eql,_,.raw _=>false
 |.neq,_,.raw _=>false
 |.eql,.any,_=>false
 |.neq,.any,_=>false
 |.eql,_,.any=>false
 |.neq,_,.any=>false
 |_,_,_=>true
def A34{x y:Operand}{a b:AV}{cb:Value}(ha:RV h mu w a ca)(hb:RV h mu w b cb)(hg:Pa P op t x y a b=true):(eqGuard op t x y ca cb).run P w=.ok () w:=by
  have agg:Aqq P t=true -> ∀ c1 c2,(eqGuard op t x y (.agg c1) (.agg c2)).run P w=.ok () w:=by
    intro hq c1 c2
    simp only [Aqq,AK,CZ] at hq
    exact run_eqGuard_agg w op t x y _ _ hq.1.2
  cases op <;> try (simp [eqGuard]; done)
  all_goals
    cases ha <;> cases hb <;> first
      | (simp [eqGuard]; done)
      | (simp [Pa] at hg; done)
      | exact agg (by simpa [Pa] using hg) _ _
      | (simp only [Pa, BU] at hg
         simp only [eqGuard]
         rcases hg with hg | hg
         . cases x <;> simp at hg; simp
         . cases y <;> simp at hg; simp)
def A5p{b:Bool}(G:RV h mu w x cx)(O:RV h mu w y cy)(z:X4 P t x y=some b)(A:∀k a S b,x=.int k a->y=.int S b->False)(D:∀a b,x=.str a->y=.str b->False):
  (binOp .eql t cx cy).run P w=.ok (.bool b) w/\(binOp .neq t cx cy).run P w=.ok (.bool (!b)) w:=by
 have U:=Axi G O z 9999
 unfold X4 at z
 split at z
 .cases z
 split at z
 case h_2=>exact(A _ _ _ _ rfl rfl).elim
 case h_3=>exact(D _ _ rfl rfl).elim
 case h_13=>cases z
 all_goals
  cases G;cases O
  simp[binOp,Op.equal,Op.maxDepth,U]
def Bbb{r:AV}(A:RV h mu w x cx)(D:RV h mu w y cy)(hr:Ft P op t x y=some r):∃z,(binOp op t cx cy).run P w=.ok z w/\RV h mu w r z:=by
 unfold Ft at hr;split at hr;case h_24 xs ys=>
  cases G:Aa2 P 20 t (.agg xs) (.agg ys)with
  |none=>simp[G]at hr
  |some b=>simp[G]at hr;subst hr;have:=Ak8 20 10000 A D G (by omega);cases A;cases D;exact⟨.bool b,by rw[run_eql_struct,this];rfl,.bool _⟩
 case h_25 xs ys=>
  cases G:Aa2 P 20 t (.agg xs) (.agg ys)with
  |none=>simp[G]at hr
  |some b=>simp[G]at hr;subst hr;have:=Ak8 20 10000 A D G (by omega);cases A;cases D;exact⟨.bool (!b),by rw[run_neq_struct,this];rfl,.bool _⟩
 case h_26 h1 h2 h3=>
  cases G:X4 P t x y with
  |none=>simp[G]at hr
  |some b=>simp[G]at hr;subst hr;exact⟨.bool b,(A5p A D G (λk a V b S U=>h1 k a V b S U) (λa b S U=>h2 a b S U)).1,.bool _⟩
 case h_27 h1 h2 h3=>
  cases G:X4 P t x y with
  |none=>simp[G]at hr
  |some b=>simp[G]at hr;subst hr;exact⟨.bool (!b),(A5p A D G (λk a V b S U=>h1 k a V b S U) (λa b S U=>h2 a b S U)).2,.bool _⟩
 case h_28=>cases hr
 case h_23 a b=>
  split at hr
  .rename_i O;cases hr;cases A;cases D;refine⟨.string ⟨(a++b).toArray⟩,?_,.str _⟩;have:¬(((⟨a.toArray⟩:ByteArray).size+(⟨b.toArray⟩:ByteArray).size:Nat):Int)>IntKind.i64.max:=by rw[Anj,Anj];simp[IntKind.max,IntKind.bits,IntKind.signed];omega
   simp only[binOp,Op.stringOp,this,if_false,A1o,Sem.run_pure]
  .cases hr
 case h_17 a b=>cases hr;cases A;cases D;exact⟨_,rfl,by rw[bytes_beq];exact .bool _⟩
 case h_18 a b=>cases hr;cases A;cases D;exact⟨_,rfl,by rw[bytes_beq];exact .bool _⟩
 case h_19 a b=>cases hr;cases A;cases D;exact⟨_,rfl,by rw[Og,Og];exact .bool _⟩
 case h_20 a b=>cases hr;cases A;cases D;exact⟨_,rfl,by rw[bytes_beq,Og,Og];exact .bool _⟩
 case h_21 a b=>cases hr;cases A;cases D;exact⟨_,rfl,by rw[bytes_beq,Og,Og];exact .bool _⟩
 case h_22 a b=>cases hr;cases A;cases D;exact⟨_,rfl,by rw[Og,Og];exact .bool _⟩
 case h_4|h_5=>
  split at hr
  .rename_i O;obtain⟨rfl,O⟩:=O;cases hr;cases A;cases D;exact⟨_,by simp[binOp,Op.intDiv,O],.int _ _⟩
  .cases hr
 case h_6|h_7=>
  split at hr
  .rename_i O;have W:¬_<(0:Int):=Int.not_lt.2 O;cases hr;cases A;cases D;exact⟨_,by simp[binOp,Op.shift,W],.int _ _⟩
  .cases hr
 all_goals
  split at hr
  .rename_i O;subst O;cases hr;cases A;cases D;exact⟨_,by simp[binOp,Op.intArith,Op.intBits,Op.intCmp];rfl,by constructor⟩
  .cases hr
def At2 {isMax:Bool}{k:IntKind} : ∀ (l:List AV) (cs:List Value) (a:Int) {x:AV},l.length=cs.length->(∀ i,i<l.length->RV h mu w (l.getD i .und) (cs.getD i undef))->Auf isMax k a l=some x ->
  ∃ y,(cs.foldlM (if isMax then Builtin.max2 else Builtin.min2) (.int k a)).run P w=.ok y w/\RV h mu w x y
 | [],cs,a,x,hl,hv,hx=>by
  have:cs=[]:=BL hl.symm
  subst this
  simp [Auf] at hx; subst hx
  exact⟨_,rfl,.int _ _⟩
 | v::l,cs,a,x,hl,hv,hx=>by
  cases cs with
  | nil=>simp at hl
  | cons c cs=>
   have h0:=hv 0 (by simp)
   simp only [CY] at h0
   unfold Auf at hx
   split at hx
   .rename_i heq; cases heq
   .rename_i k' b r heq
    cases heq
    split at hx
    .rename_i hk
     subst hk
     cases h0
     have ih:=At2 l cs _ (by simpa using hl) (λi hi=>by simpa using hv (i+1) (by simp; omega)) hx
     obtain⟨y,hy1,hy2⟩:=ih
     refine⟨y,?_,hy2⟩
     cases isMax <;> simp [List.foldlM_cons,Builtin.max2,Builtin.min2] at hy1 ⊢ <;> exact hy1
    .cases hx
   .cases hx
def Axl{isMax:Bool}{cs:List Value}(G:l.length=cs.length)(O:∀i,i<l.length->RV h mu w (l.getD i .und) (cs.getD i undef))(z:Aq7 isMax l=some x)(ts:Array TypeId)(ty:TypeId):
  ∃y,(if isMax then Builtin.max_ ts ty cs.toArray else Builtin.min_ ts ty cs.toArray).run P w=.ok y w/\RV h mu w x y:=by
 unfold Aq7 at z
 split at z
 .rename_i k a r;cases cs with
  |nil=>simp at G
  |cons c cs=>have h0:=O 0 (by simp);simp only[CY]at h0;cases h0;obtain⟨y,A,D⟩:=At2 (P:=P) r cs a (by simpa using G) (λi hi=>by simpa using O (i+1) (by simp;omega)) z;refine⟨y,?_,D⟩;cases isMax<;>simpa[Builtin.max_,Builtin.min_]using A
 .cases z
end
def Fd (row:List AV)(c:Nat)(cs:List AV):List AV:=row.take c++(cs++row.drop (c+cs.length))
def Xj {row:List AV}{c:Nat}{cs:List AV}(h:c+cs.length<=row.length):(Fd row c cs).length=row.length:=by simp[Fd];omega
def Agv {row:List AV}{c:Nat}{cs:List AV}(h:c+cs.length<=row.length)(j:Nat):
  (Fd row c cs).getD j .und=if c<=j/\j<c+cs.length then cs.getD (j-c) .und else row.getD j .und:=by
 unfold Fd
 simp only[List.getD]
 split
 .rename_i z;rw[CO (by simp;omega),CT (by simp;omega)];simp only[BS];rw[show j-min c row.length=j-c by omega]
 .rename_i z;by_cases A:j<c
  .rw[CT (by simp;omega),BQ,if_pos A]
  .rw[CO (by simp;omega),CO (by simp;omega)];simp only[BS,BR];rw[show c+cs.length+(j-min c row.length-cs.length)=j by omega]
def Apt{row:List AV}{c:Nat}{cs:List AV}(h:v∈Fd row c cs):v∈row\/v∈cs:=by
 simp only[Fd,BG]at h;rcases h with h|h|h
 .exact .inl (DC h)
 .exact .inr h
 .exact .inl (CK h)
def Asx {rs:List (List AV)}{r:Nat}{row:List AV}(hr:r<rs.length)(i j:Nat):cell (rs.set r row) i j=if i=r then row.getD j .und else cell rs i j:=by
 unfold cell;by_cases h:i=r
 .subst h;simp[List.getD,hr]
 .simp[List.getD,EY (Ne.symm h),h]
def Aq9{rs:List (List AV)}{r:Nat}{row:List AV}(h:∀x∈rs,Cy st x)(h1:Cy st row):∀x∈rs.set r row,Cy st x:=by
 intro x hx;rcases List.mem_or_eq_of_mem_set hx with hx|rfl
 .exact h x hx
 .exact h1
def Wv (P:Program)(h:Aa)(t:TypeId)(a v:AV):Option Aa:=
 match ti P t with
 |none=>none
 |some T=>match a with
  |.ptr o g r c=>match h o with
   |some (.rows g' st rs)=>if g'=g/\r<rs.length/\v.ok=true/\v.cells.length=T.size/\c+T.size<=st/\v.cells.all AV.flat=true then some (upd h o (some (.rows g st (rs.set r (Fd (rs.getD r []) c v.cells)))))else none
   |_=>none
  |_=>none
section
variable[GW P]{B:Base P}
def A8o{rs:List (List AV)}{r:Nat}(hr:r<rs.length)(h:∀x∈rs,Cy st x):Cy st (rs.getD r []):=by
 have:rs.getD r []=rs[r]:=by simp[List.getD,hr]
 rw[this];exact h _ (BK hr)
def Av4{r c:Nat}(z:i≠r)(A:j<st)(D:c+n<=st):i*st+j<r*st+c\/r*st+c+n<=i*st+j:=by
 rcases Nat.lt_or_gt_of_ne z with h|h
 .left;have:(i+1)*st<=r*st:=AZ _ h;rw[AI]at this;omega
 .right;have:(r+1)*st<=i*st:=AZ _ h;rw[AI]at this;omega
def Jz{r:Nat}(hr:r<n)(z:j<st):r*st+j<n*st:=by have:(r+1)*st<=n*st:=AZ _ hr;rw[AI]at this;omega
def Sim.obj{o g:Nat}{rs:List (List AV)}(s:Sim B mu h w)(S:h o=some (.rows g st rs)):∃l cells e f,mu o g=some l/\l.cells=true/\l.st=st/\l.base+rs.length*st<=l.size/\(∀r∈rs,Cy st r)/\
  w.heap[l.b]?=some (.cells cells e f)/\cells.size=l.size/\Ajc f l.size/\∀i j,i<rs.length->j<st->∃c,cells[l.base+i*st+j]?=some c/\RV h mu w (cell rs i j) c:=by
 obtain⟨l,D,G,U,V,W,X⟩:=s.rows _ _ _ _ S
 obtain⟨_,_,k⟩:=s.muOk _ _ _ D
 obtain⟨cells,e,f,O,Y,Z⟩:=k G
 refine⟨l,cells,e,f,D,G,U,V,W,O,Y,Z,λi j hi hj=>?_⟩
 obtain⟨c,z,A⟩:=X i j hi hj
 refine⟨c,?_,A⟩
 unfold World.cell? at z
 rw[O]at z
 simpa using z
def A2y(s:Sim B mu h w){a:AV}{cv:Value}(ha:RV h mu w a ca)(hv:RV h mu w v cv)(z:Wv P h t a v=some h'):
  ∃w',(Instr.storeAt t ca cv).run P w=.ok () w'/\Sim B mu h' w'/\Ez h mu w h' mu w':=by
 unfold Wv at z
 split at z
 .cases z
 rename_i T hT
 split at z
 .rename_i o g r c;split at z
  .rename_i g' st rs hh;split at z
   .rename_i hc;obtain⟨rfl,hr,ad,X,ah,D⟩:=hc;cases z;cases ha with
    |ptr _ _ _ _ l hl ae=>
     obtain⟨l',cells,e,f,k1,k2,k3,k4,k5,k6,k7,k8,k9⟩:=s.obj hh;rw[hl]at k1;cases k1;subst k3;obtain⟨z1,z2⟩:=An2 hv ad;have hn:cv.cells.toList.length=T.size:=by rw[<-X,z1];simp
     have Y:∀j,j<T.size->l.base+r*l.st+c+j<l.size:=λj W=>by have:=Jz (r:=r) (st:=l.st) (j:=c+j) hr (by omega);omega
     have A:=A8o hr k5;have Z:∀u∈cv.cells.toList,u.oneCell'=true:=by
      intro u hu;obtain⟨i,hi,rfl⟩:=DK.1 hu;have O:i<v.cells.length:=by rw[z1];simpa using hi
      have:=z2 i O;rw[Do (AA hi)]at this;refine this.one ?_;rw[Do (AA O)];exact AJ.1 D _ (BK O)
     have aa:=run_storeCells_cells (P:=P) l.b (l.base+r*l.st+c) cv.cells.toList 0 w
      (λj W=>by rw[CL];unfold World.cell?;rw[k6];simp[k7,Y j (by omega)])
      (λj W=>by
       rw[CL];unfold World.frozen?;rw[k6];have:=k8 _ (Nat.le_of_lt (Y j (by omega)));cases hq:(decide (f.1<=l.base+r*l.st+c+j)&&decide (l.base+r*l.st+c+j<f.2))with
       |false=>exact hq
       |true=>simp only[AK,BB]at hq;exact absurd hq this) Z
     obtain⟨ac,q1,q2,q3,q4,q5,q6,q7,q8,q9⟩:=Wi l.b cv.cells.toList (l.base+r*l.st+c) w cells e f k6 (by rw[hn,k7];have:=Jz (r:=r) (st:=l.st) (j:=0) hr;have:=AZ l.st (show r+1<=rs.length from hr);rw[AI]at this;omega);refine⟨w.setCells l.b (l.base+r*l.st+c) cv.cells.toList,?_,?_⟩
     .have af:cv.cells.size=T.size:=by simpa using hn
      simp only[Instr.storeAt,Instr.sureAddr,Sem.run_bind,Sem.run_pure,Result.andThen_ok,storeVar,Eh hT,af,ne_eq,not_true_eq_false,if_false]
      simpa using aa
     .have G:=Sim.put (rs':=rs.set r (Fd (rs.getD r []) c v.cells)) (l':=l) (g':=g') s hh hl q7 q8 q9 q6 q5 q1 (by rw[q2,k7]) k8 (.inl ⟨rfl,rfl⟩) rfl rfl ae
       (by simpa using k4)
       (by
        refine Aq9 k5 ⟨?_,?_⟩
        .rw[Xj (by rw[A.1];omega)];exact A.1
        .intro x z;rcases Apt z with z|z
         .exact A.2 x z
         .exact AJ.1 D _ z)
       (by
        intro i j hi W;rw[FZ]at hi;rw[Asx hr];by_cases S:i=r
        .subst S;rw[if_pos rfl,Agv (by rw[A.1];omega)];split
         .rename_i ag;have e1:l.base+i*l.st+j=l.base+i*l.st+c+(j-c):=by omega
          rw[e1];have:=q3 (j-c) (by omega);rw[this];have ab:j-c<cv.cells.toList.length:=by omega
          refine⟨cv.cells.toList[j-c],AA ab,?_⟩;have:=z2 (j-c) (by omega);rwa[Do (d:=undef) (AA ab)]at this
         .rename_i ag;obtain⟨x,U,V⟩:=k9 i j hi W;refine⟨x,?_,V⟩;rw[q4 _ (by omega)];exact U
        .rw[if_neg S];obtain⟨x,U,V⟩:=k9 i j hi W;refine⟨x,?_,V⟩;rw[q4 _ (by have:=Av4 (c:=c) (n:=T.size) S W (by omega);omega)];exact U)
      rw[Aqg hl]at G
      exact G
   .cases z
  .cases z
 .cases z
def Xx (h:Aa)(st:Nat)(rs:List (List AV))(K:Nat->Nat->Aa->Prop):Prop:=∃o,h o=none/\∀g,K o g (upd h o (some (.rows g st rs)))
def Vr(s:Sim B mu h w){rs:List (List AV)}{cells:Array Value}{K:Nat->Nat->Aa->Prop}(z:Xx h st rs K)(A:base+rs.length*st<=cells.size)(hr:∀r∈rs,Cy st r)(D:∀i j,i<rs.length->j<st->∃c,cells[base+i*st+j]?=some c/\RV h mu w (cell rs i j) c):
  ∃o g mu',mu' o g=some ⟨w.heap.size,base,st,cells.size,true⟩/\K o g (upd h o (some (.rows g st rs)))/\Sim B mu' (upd h o (some (.rows g st rs))) (w.alloc (.cells cells e))/\
   Ez h mu w (upd h o (some (.rows g st rs))) mu' (w.alloc (.cells cells e)):=by
 obtain⟨N,O,z⟩:=z
 obtain⟨g,G⟩:=s.fresh N
 have:=Sim.push (e:=e) s G A hr D
 exact⟨N,g,_,by simp[Dm],z g,this.1,this.2⟩
def Ajl(s:Sim B mu h w){cs:List AV}{K:Nat->Nat->Aa->Prop}(S:Xx h cs.length [cs] K)(G:cs.length=c.cells.size)(D:∀i,i<cs.length->RV h mu w (cs.getD i .und) (c.cells.toList.getD i undef))(z:cs.all AV.flat=true):
  ∃o g mu' h' w',(newVar e c).run P w=.ok ⟨w.heap.size,0,none⟩ w'/\RV h' mu' w' (.ptr o g 0 0) (.pointer (some ⟨w.heap.size,0,none⟩))/\K o g h'/\Sim B mu' h' w'/\Ez h mu w h' mu' w':=by
 obtain⟨o,g,mu',U,V,W,X⟩:=Vr (base:=0) (cells:=c.cells) (e:=e) s S (by simp[G]) (by
   intro r hr;simp only[AM]at hr;subst hr;exact⟨rfl,λv Y=>AJ.1 z v Y⟩) (by
   intro i j hi O;have:i=0:=by simpa using hi
   subst this;have A:j<c.cells.toList.length:=by simpa[<-G]using O
   refine⟨c.cells.toList[j],by simp only[Nat.zero_mul,AE];rw[<-DG];exact AA A,?_⟩;have:=D j O;rwa[Do (d:=undef) (AA A)]at this)
 refine⟨o,g,mu',_,_,rfl,?_,V,W,X⟩
 have:=Rv.ptr (w:=w.alloc (.cells c.cells e)) (M:=C0 (upd h o (some (.rows g cs.length [cs]))) mu') o g 0 0 _ U rfl
 simpa using this
end
def F6 (P:Program)(h:Aa)(size:Nat)(z:Bool)(x:AV):Option (List (List AV)):=
 match x with
 |.sl st rows=>if st=size then some rows else none
 |.emp=>some []
 |.ref o g off len=>match h o with
  |some (.rows g' st rs)=>if g'=g/\st=size/\off+len<=rs.length then some ((rs.drop off).take len)else none
  |_=>none
 |.refc o g r c len _=>match h o with
  |some (.rows g' st rs)=>if g'=g/\size=1/\r<rs.length/\c+len<=st then some (L5 1 len ((rs.getD r []).drop c))else none
  |_=>none
 |.str s=>if z/\size=1 then some (s.map λb=>[.int .u8 (b.toNat:Int)])else none
 |_=>none
variable{size:Nat}
section
variable[GW P]{B:Base P}
def Ah0{k:Nat}(h:k<n*size):k/size<n/\k%size<size/\k/size*size+k%size=k:=by
 have z:0<size:=by
  rcases Nat.eq_zero_or_pos size with rfl|h'
  .simp at h
  .exact h'
 exact⟨Nat.div_lt_of_lt_mul (by rwa[HO]),Nat.mod_lt _ z,by rw[HO];exact Nat.div_add_mod k size⟩
def Aoc(z:j<size):(i*size+j)/size=i/\(i*size+j)%size=j:=by
 constructor
 .rw[HO,Nat.mul_add_div (by omega),Nat.div_eq_of_lt z,CL]
 .rw[HO,Nat.mul_add_mod,Nat.mod_eq_of_lt z]
def X8(s:Sim B mu h w){u8:Bool}{rows:List (List AV)}(S:RV h mu w x c)(D:F6 P h size u8 x=some rows):
  (∀w',(Builtin.lenOf c).run P w'=.ok rows.length w')/\∃news:List Value,news.length=rows.length*size/\(∀w',w'.heap=w.heap->(Builtin.firstCells size rows.length c).run P w'=.ok news.toArray w')/\
   (∀r∈rows,Cy size r)/\∀i j,i<rows.length->j<size->RV h mu w (cell rows i j) (news.getD (i*size+j) undef):=by
 have A:∀(n b off G:Nat) (f:Nat->Value),(∀k,k<n*size->w.cell? ⟨b,off+k,none⟩=some (f k))->∀w',w'.heap=w.heap->
   (Builtin.firstCells size n (.slice (some ⟨b,off,none⟩) n G)).run P w'=.ok ((List.range (n*size)).map f).toArray w':=by
  intro n b off G f hf w' X
  have:=run_firstCells_some (P:=P) w' size n ⟨b,off,none⟩ n G ((List.range (n*size)).map f) (by simp) (by
   intro j v z;have U:j<n*size:=by
    rcases CI j (n*size)with h'|h'
    .exact h'
    .rw[BA (by simpa using h')]at z;cases z
   rw[CJ,FD U]at z;simp at z;subst z;rw[Jw,cell?_of_heap (w:=w) (a:=⟨b,off+j,none⟩) (by rw[X])];exact hf j U)
  exact this
 unfold F6 at D
 split at D
 .rename_i st aj;split at D
  .rename_i ac;subst ac;cases D;cases S with
   |sl0 _ a G=>refine⟨λw'=>by simp[Builtin.lenOf],[],by simp,λw' _=>?_,λr hr=>by simp at hr,λi j hi=>by simp at hi⟩;cases a<;>simp[Builtin.firstCells,loadCells,loadCellsFrom]
   |sl _ _ b off G vs V W g1 g2 hr g3 g4=>
    refine⟨λw'=>by simp[Builtin.lenOf],(List.range (rows.length*st)).map (λk=>vs (k/st) (k%st)),by simp,A _ _ _ _ _ ?_,hr,λi j hi z=>?_⟩
    .intro k hk;obtain⟨h1,h2,h3⟩:=Ah0 hk;have:=g1 _ _ h1 h2;rwa[CD,h3]at this
    .have hk:=Jz (st:=st) hi z;obtain⟨e1,e2⟩:=Aoc (i:=i) z;rw[Do (x:=vs i j) (by rw[CJ,FD hk];simp[e1,e2])];exact g2 i j hi z
  .cases D
 .cases D;cases S with
  |emp a=>refine⟨λw'=>by simp[Builtin.lenOf],[],by simp,λw' _=>?_,λr hr=>by simp at hr,λi j hi=>by simp at hi⟩;cases a<;>simp[Builtin.firstCells,loadCells,loadCellsFrom]
 .rename_i o g off len;split at D
  .rename_i g' st rs hh;split at D
   .rename_i hc;obtain⟨rfl,rfl,ad⟩:=hc;cases D;cases S with
    |ref _ _ _ _ G l hl ae V W af=>
     obtain⟨l',k1,k2,k3,k4,k5,k6⟩:=s.rows _ _ _ _ hh;rw[hl]at k1;cases k1;subst k3;have O:((rs.drop off).take len).length=len:=by simp;omega
     have ag:∀i j,i<len->cell ((rs.drop off).take len) i j=cell rs (off+i) j:=by intro i j hi;simp[cell,List.getD,BQ,hi,BR]
     have Y:∃f:Nat->Nat->Value,∀i j,i<len->j<l.st->w.cell? ⟨l.b,l.base+(off+i)*l.st+j,none⟩=some (f i j)/\RV h mu w (cell rs (off+i) j) (f i j):=by refine⟨λi j=>(w.cell? ⟨l.b,l.base+(off+i)*l.st+j,none⟩).getD undef,λi j hi z=>?_⟩;obtain⟨x,Z,aa⟩:=k6 (off+i) j (by omega) z;simp only[Z,BH];exact⟨trivial,aa⟩
     obtain⟨f,hf⟩:=Y;rw[O];refine⟨λw'=>by simp[Builtin.lenOf],(List.range (len*l.st)).map (λk=>f (k/l.st) (k%l.st)),by simp,A _ _ _ _ _ ?_,?_,λi j hi z=>?_⟩
     .intro k hk;obtain⟨h1,h2,h3⟩:=Ah0 hk;have:=(hf _ _ h1 h2).1;rw[AI]at this;rw[<-this];congr 2;omega
     .intro r hr;exact k5 r (CK (DC hr))
     .have hk:=Jz (st:=l.st) hi z;obtain⟨e1,e2⟩:=Aoc (i:=i) z;rw[Do (x:=f i j) (by rw[CJ,FD hk];simp[e1,e2]),ag i j hi];exact(hf i j hi z).2
   .cases D
  .cases D
 .rename_i o g r c len G;split at D
  .rename_i g' st rs hh;split at D
   .rename_i hc;obtain⟨rfl,rfl,hr,ad⟩:=hc;cases D;cases S with
    |refc _ _ _ _ _ _ l hl ae V W af=>
     obtain⟨l',k1,k2,k3,k4,k5,k6⟩:=s.rows _ _ _ _ hh;rw[hl]at k1;cases k1;subst k3;have O:(L5 1 len ((rs.getD r []).drop c)).length=len:=Aos _ _ _;have ab:(rs.getD r []).length=l.st:=by simp only[List.getD,AA hr,BH];exact(k5 _ (BK hr)).1
     have Y:∃f:Nat->Value,∀j,j<len->w.cell? ⟨l.b,l.base+r*l.st+(c+j),none⟩=some (f j)/\RV h mu w (cell rs r (c+j)) (f j):=by refine⟨λj=>(w.cell? ⟨l.b,l.base+r*l.st+(c+j),none⟩).getD undef,λj z=>?_⟩;obtain⟨x,Z,aa⟩:=k6 r (c+j) hr (by omega);simp only[Z,BH];exact⟨trivial,aa⟩
     obtain⟨f,hf⟩:=Y;rw[O];refine⟨λw'=>by simp[Builtin.lenOf],(List.range (len*1)).map f,by simp,λw' X=>?_,Ap0 (by rw[BF,ab];omega) (λv S=>(k5 _ (BK hr)).2 v (by have:=CK S;simpa[List.getD,AA hr]using this)),λi j hi z=>?_⟩
     .have:=run_firstCells_some (P:=P) w' 1 len ⟨l.b,l.base+r*l.st+c,none⟩ len G ((List.range (len*1)).map f) (by simp) (by
       intro j v z
       have U:j<len*1:=by
        rcases CI j (len*1)with h'|h'
        .exact h'
        .rw[BA (by simpa using h')]at z;cases z
       rw[CJ,FD U]at z
       simp at z;subst z
       rw[Jw,cell?_of_heap (w:=w) (a:=⟨l.b,l.base+r*l.st+c+j,none⟩) (by rw[X])]
       have:=(hf j (by omega)).1
       rw[<-CD]at this
       exact this)
      exact this
     .have ah:j=0:=by omega
      subst ah
      have hg:((List.range (len*1)).map f).getD (i*1+0) undef=f i:=by simp[List.getD,FD hi]
      rw[hg,Alt z hi]
      have ai:((rs.getD r []).drop c).getD (i*1+0) .und=cell rs r (c+i):=by simp[cell,List.getD,BR]
      rw[ai]
      exact(hf i hi).2
   .cases D
  .cases D
 .rename_i str;split at D
  .rename_i hc;obtain⟨_,rfl⟩:=hc;cases D;cases S with
   |str _=>
    have hn:(str.map λb=>[AV.int .u8 (b.toNat:Int)]).length=str.length:=by simp
    rw[hn];refine⟨λw'=>by simp[Builtin.lenOf,Anj],str.map (λb=>Value.int .u8 (b.toNat:Int)),by simp,λw' _=>?_,?_,λi j hi z=>?_⟩
    .simp only[Builtin.firstCells,Sem.run_pure];congr 1;have:(⟨str.toArray⟩:ByteArray).extract 0 str.length=⟨str.toArray⟩:=by rw[Lib.extract_eq];simp
     rw[this];simp
    .intro r hr;simp only[CC]at hr;obtain⟨b,_,rfl⟩:=hr;exact⟨rfl,λv S=>by simp at S;subst S;rfl⟩
    .have:j=0:=by omega
     subst this
     rw[FX,CL,Do (x:=Value.int .u8 ((str[i].toNat:Nat):Int)) (by simp[hi])]
     have:cell (str.map λb=>[AV.int .u8 (b.toNat:Int)]) i 0=.int .u8 ((str[i].toNat:Nat):Int):=by simp[cell,List.getD,hi]
     rw[this]
     exact .int _ _
  .cases D
 .cases D
end
end Go.Am

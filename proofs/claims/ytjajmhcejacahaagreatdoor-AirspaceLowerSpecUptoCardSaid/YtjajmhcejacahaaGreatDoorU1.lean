import Derived.Test.YtjajmhcejacahaaGreatDoorU0
import Derived.Maps.RangeRun
import Derived.Lib.ConvBytes
import Derived.Lib.AtoiErrMem
set_option linter.all false
namespace Go.Am
open Go
abbrev AG:=@List.length_append
abbrev AL:=@List.length_map
abbrev AS:=@Option.some.inj
abbrev BD:=@Bool.false_eq_true
abbrev BI:=@Int.toNat_natCast
abbrev BJ:=@Array.getElem?_append_left
abbrev BM:=@List.map_cons
abbrev BT:=@Nat.le_mul_of_pos_right
abbrev BX:=@List.append_assoc
abbrev BY:=@Int.eq_ofNat_of_zero_le
abbrev CB:=@Array.getD_eq_getD_getElem?
abbrev CE:=@List.getD_eq_getElem?_getD
abbrev CM:=@List.nil_append
abbrev CN:=@List.cons.injEq
abbrev CS:=@List.size_toArray
abbrev CU:=@Array.getElem?_eq_none
abbrev CW:=@List.length_nil
abbrev DJ:=@decide_eq_false_iff_not
abbrev DM:=@Array.size_append
abbrev DO:=@List.length_replicate
abbrev DQ:=@Ext.refl
abbrev DY:=@List.nodup_cons
abbrev ED:=@Ez.sub
abbrev EQ:=@Array.getElem?_append_right
abbrev EZ:=@Classical.byContradiction
abbrev FP:=@List.find?_cons
abbrev GA:=@Nat.min_eq_left
abbrev GC:=@Nat.le_of_eq
abbrev GD:=@List.eq_of_mem_replicate
abbrev GH:=@Nat.le_of_not_lt
abbrev GK:=@List.getElem?_toArray
abbrev GN:=@List.mem_filter
abbrev GV:=@Int.toNat_of_nonneg
abbrev HA:=@Array.foldl_toList
abbrev HG:=@List.mem_of_find?_eq_some
abbrev HY:=@Nat.mul_eq_zero
abbrev IA:=@List.mapM_cons
def TK.many:TK->Bool
 |.sl _=>true
 |.str=>true
 |_=>false
def W4 (P:Program)(h:Aa)(sT xT:TypeId)(s x:AV)(K:AV->Aa->Prop):Prop:=
 match ti P sT,ti P xT with
 |some S,some X=>match S.k with
  |.sl e=>match ti P e with
   |some E=>X.k.many=true/\0<E.size/\0<E.bytes/\match F6 P h E.size (decide (E.k=.int .u8)) x with
    |some src=>match s with
     |.emp=>if src.length=0 then K .emp h else src.length*E.bytes<=Bj/\Xx h E.size src (λo g h'=>K (.ref o g 0 src.length) h')
     |.ref o g off len=>match h o with
      |some (.rows g' st rs)=>g'=g/\st=E.size/\off+len<=rs.length/\(len+src.length)*E.bytes<=Bj/\∀D,K (.ref o D 0 (len+src.length)) (upd h o (some (.rows D st ((rs.drop off).take len++src))))
      |_=>False
     |.refc o g r c len z=>match F6 P h E.size false (.refc o g r c len z)with
      |some A=>z<len+src.length/\(len+src.length)*E.bytes<=Bj/\Xx h E.size (A++src) (λo g h'=>K (.ref o g 0 (len+src.length)) h')
      |none=>False
     |.slx st rows=>st=E.size/\src.length≠0/\(rows.length+src.length)*E.bytes<=Bj/\Xx h E.size (rows++src) (λo g h'=>K (.ref o g 0 (rows.length+src.length)) h')
     |_=>False
    |none=>False
   |none=>False
  |_=>False
 |_,_=>False
variable{P:Program}{h:Aa}{mu:Mu}{w:World}{xT:TypeId}{sT:TypeId}{ty:TypeId}{e:TypeId}{dX:TypeDesc}{i:TypeInfo}{base:Option Addr}{sLen:Nat}{sCap:Nat}{n:Nat}{c:Value}{news:List Value}{z:Value}{x:AV}{cx:Value}
section
variable[GW P]{B:Base P}
def Bbo{X:TI}(A:ti P xT=some X)(z:X.k.many=true):∃d,P.underlying xT=some d/\((∃e,d=.slice e)\/d=.string):=by
 obtain⟨d,D,G⟩:=Ek A;refine⟨d,D,?_⟩;rw[G]at z;cases d<;>simp[TK.of,TK.many]at z
 .exact .inr rfl
 .exact .inl ⟨_,rfl⟩
def Aqn(O:P.underlying sT=some (.slice e))(G:P.underlying xT=some dX)(S:(∃e,dX=.slice e)\/dX=.string)(hi:P.info? e=some i)(A:∀w',(Builtin.lenOf c).run P w'=.ok n w')(D:(Builtin.firstCells i.size n c).run P w=.ok news.toArray w)(z:sLen+n<=sCap):
  (Builtin.append_ #[sT,xT] ty #[.slice base sLen sCap,c]).run P w=
   ((match base with|some a=>storeCells (a.add (sLen*i.size)) news|none=>pure ())>>=λ_=>(pure (.slice base (sLen+n) sCap):Sem Value)).run P w:=by
 rcases S with⟨U,rfl⟩|rfl
 .cases base<;>simp[Builtin.append_,run_underlying O,run_underlying G,sizeOf,typeInfo,hi,A,D,z]
 .cases base<;>simp[Builtin.append_,run_underlying O,run_underlying G,sizeOf,typeInfo,hi,A,D,z]
def Aau{A:List Value}(Y:P.underlying sT=some (.slice e))(S:P.underlying xT=some dX)(hX:(∃e,dX=.slice e)\/dX=.string)(hi:P.info? e=some i)(hz:i.zero=some z)(D:∀w',(Builtin.lenOf c).run P w'=.ok n w')(U:∀w',w'.heap=w.heap->(Builtin.firstCells i.size n c).run P w'=.ok news.toArray w')(V:∀w',w'.heap=w.heap->(Builtin.firstCells i.size sLen (.slice base sLen sCap)).run P w'=.ok A.toArray w')(hg:sCap<sLen+n)(hb:(sLen+n)*i.bytes<=140737488355328)(X:0<i.bytes):
  (Builtin.append_ #[sT,xT] ty #[.slice base sLen sCap,c]).run P w=
   .ok (.slice (some ⟨w.heap.size,0,none⟩) (sLen+n) (grownCap w (sLen+n) sCap e))
    (w.drew.alloc (.cells (A.toArray++news.toArray++Builtin.zeroCells z.cells (grownCap w (sLen+n) sCap e-(sLen+n))) e)):=by
 have Z:¬(sLen+n<=sCap):=by omega
 have aa:sLen+n<=(sLen+n)*i.bytes:=BT _ X
 have G:¬(9223372036854775807<((sLen:Int)+(n:Int))):=by omega
 have ab:=growslice_fits hg hb
 have O:¬(281474976710656<Builtin.nextslicecap (sLen+n) sCap*i.bytes):=by omega
 have hf:=U w.drew rfl
 have W:=V w.drew rfl
 rcases hX with⟨e2,rfl⟩|rfl
 .simp[Builtin.append_,run_underlying Y,run_underlying S,sizeOf,typeInfo,zeroValue,hi,hz,D,Z,G,O,Question.forced,hf,W,newRow,grownCap];congr 2;apply HF;simp[BX]
 .simp[Builtin.append_,run_underlying Y,run_underlying S,sizeOf,typeInfo,zeroValue,hi,hz,D,Z,G,O,Question.forced,hf,W,newRow,grownCap];congr 2;apply HF;simp[BX]
def W7 {a b:List (List AV)}(i j:Nat):cell (a++b) i j=if i<a.length then cell a i j else cell b (i-a.length) j:=by
 unfold cell;split
 .rename_i hi;simp[List.getD,CT hi]
 .rename_i hi;simp[List.getD,CO (GH hi)]
def Air (z:Array Value)(n:Nat):(Builtin.zeroCells z n).size=n*z.size:=by simp[Builtin.zeroCells]
def Ap3(s:Sim B mu h w){sv:AV}{cs:Value}{K:AV->Aa->Prop}(hs:RV h mu w sv cs)(hx:RV h mu w x cx)(hK:W4 P h sT xT sv x K):
  ∃v c h' mu' w',(Builtin.append_ #[sT,xT] ty #[cs,cx]).run P w=.ok c w'/\RV h' mu' w' v c/\K v h'/\Sim B mu' h' w'/\Ez h mu w h' mu' w':=by
 unfold W4 at hK
 split at hK
 .rename_i S X hS hX;split at hK
  .rename_i e hk;split at hK
   .rename_i E hE;obtain⟨hm,hsz,hby,hK⟩:=hK;obtain⟨dX,hdX,hX'⟩:=Bbo hX hm;obtain⟨dS,hdS,hkS⟩:=Ek hS;have:=Fq (hk▸hkS);subst this;obtain⟨dE,iE,z,e1,e2,e3,e4,e5,e6,e7,e8,e9,e10⟩:=Pj hE;obtain⟨zl,_⟩:=Td (w:=w) (mu:=mu) (M:=C0 h mu) e4;have hzs:z.cells.size=iE.size:=by rw[<-e7,<-e5,zl];simp
    split at hK
    .rename_i src hsrc;obtain⟨hlen,news,n1,n2,n3,n4⟩:=X8 (P:=P) s hx hsrc;rw[e7]at hsz n1 n2 n3 n4;rw[e8]at hby;split at hK
     .cases hs with
      |emp a=>
       split at hK
       .rename_i h0;have hnil:src=[]:=BL h0;have hnn:news=[]:=BL (by rw[n1,h0];simp);refine⟨.emp,.slice a 0 0,h,mu,w,?_,.emp _,hK,s,DQ _ _ _⟩;rw[Aqn hdS hdX hX' e2 hlen (n2 w rfl) (by omega),h0,hnn];cases a<;>simp[storeCells]
       .rename_i h0;obtain⟨hlim,hnew⟩:=hK;rw[e8]at hlim;rw[e7]at hnew;have hfo:∀w',w'.heap=w.heap->(Builtin.firstCells iE.size 0 (.slice a 0 0)).run P w'=.ok (([]:List Value)).toArray w':=by intro w' _;cases a<;>simp[Builtin.firstCells,loadCells,loadCellsFrom]
        have hrun:=Aau (P:=P) (ty:=ty) (w:=w) hdS hdX hX' e2 e3 hlen n2 hfo (by omega) (by simpa[Bj]using hlim) hby;have hd:=s.drew;obtain⟨o,g,mu',m1,m2,m3,m4⟩:=Vr (base:=0) (e:=e) (cells:=(([]:List Value).toArray++news.toArray++Builtin.zeroCells z.cells (grownCap w (0+src.length) 0 e-(0+src.length)))) hd.1 hnew
         (by simp[n1]) n3
         (by
          intro i j hi hj;have hk:=Jz (st:=iE.size) hi hj;refine⟨news.getD (i*iE.size+j) undef,?_,(n4 i j hi hj).ext hd.2⟩;have hk':i*iE.size+j<news.length:=by rw[n1];exact hk
          obtain⟨y,hy⟩:∃y,news[i*iE.size+j]?=some y:=⟨_,AA hk'⟩;rw[Do hy,AE];simp only[List.append_toArray,CM];rw[BJ (by simpa using hk')];simpa using hy)
        refine⟨_,_,_,mu',_,hrun,?_,m2,m3,hd.2.trans m4⟩;have hcap:src.length<=grownCap w (0+src.length) 0 e:=by have:=grownCap_ge w (0+src.length) 0 e;omega
        have:=Rv.ref (w:=w.drew.alloc (.cells (([]:List Value).toArray++news.toArray++Builtin.zeroCells z.cells (grownCap w (0+src.length) 0 e-(0+src.length))) e)) (M:=C0 (upd h o (some (.rows g iE.size src))) mu') o g 0 src.length (grownCap w (0+src.length) 0 e) _ m1 rfl hcap (CR (BT _ hby) hlim) (by simp only[DM,CS,CW,Air,hzs,n1,AE]at hcap ⊢;rw[<-AI];exact GC (by congr 1;omega));simpa using this
     .rename_i o g off len;split at hK
      .rename_i g' st rs hh;obtain⟨rfl,rfl,hle,hlim,hK⟩:=hK;rw[e8]at hlim;cases hs with
       |ref _ _ _ _ cap l hl hcl hcap hcl0 hcsz=>
        obtain⟨l',cells,e',f,k1,k2,k3,k4,k5,k6,k7,k8,k9⟩:=s.obj hh;rw[hl]at k1;cases k1;rw[e7]at k3 k4 k5 k9;have hrl:((rs.drop off).take len).length=len:=by simp;omega
        have hcr:∀i j,i<len->cell ((rs.drop off).take len) i j=cell rs (off+i) j:=by intro i j hi;simp[cell,List.getD,BQ,hi,BR]
        have hok:∀r∈(rs.drop off).take len++src,Cy iE.size r:=by
         intro r hr;rcases BG.1 hr with hr|hr
         .exact k5 r (CK (DC hr))
         .exact n3 r hr
        obtain⟨g2,hg2⟩:=s.fresh o;by_cases hroom:len+src.length<=cap
        .
         have hone:∀u∈news,u.oneCell'=true:=by
          intro u hu;obtain⟨k,hk,rfl⟩:=DK.1 hu;rw[n1]at hk;obtain⟨d1,d2,d3⟩:=Ah0 hk;have hr:=n4 _ _ d1 d2;rw[d3,Do (AA (by rw[n1];exact hk))]at hr;refine hr.one ?_;have hrow:=n3 _ (BK d1);have hcell:cell src (k/iE.size) (k%iE.size)=(src[k/iE.size])[k%iE.size]'(by rw[hrow.1];exact d2):=by simp[cell,List.getD,d1,hrow.1,d2]
          rw[hcell];exact hrow.2 _ (BK _)
         have hbound:l.base+off*iE.size+len*iE.size+news.length<=l.size:=by rw[n1];rw[k3]at hcsz;have:=AZ iE.size (show off+(len+src.length)<=off+cap by omega);rw[AI,AI,<-CD]at this;omega
         have hrunS:=run_storeCells_cells (P:=P) l.b (l.base+off*iE.size+len*iE.size) news 0 w
          (λj hj=>by rw[CL];unfold World.cell?;rw[k6];simp[k7,show l.base+off*iE.size+len*iE.size+j<l.size by omega])
          (λj hj=>by
           rw[CL];unfold World.frozen?;rw[k6];have:=k8 (l.base+off*iE.size+len*iE.size+j) (by omega);cases hq:(decide (f.1<=l.base+off*iE.size+len*iE.size+j)&&decide (l.base+off*iE.size+len*iE.size+j<f.2))with
           |false=>exact hq
           |true=>simp only[AK,BB]at hq;exact absurd hq this) hone
         obtain⟨cells',q1,q2,q3,q4,q5,q6,q7,q8,q9⟩:=Wi l.b news (l.base+off*iE.size+len*iE.size) w cells e' f k6 (by rw[k7];exact hbound)
         have hput:=Sim.put (rs':=(rs.drop off).take len++src) (l':=⟨l.b,l.base+off*iE.size,iE.size,l.size,true⟩) (g':=g2) s hh hl q7 q8 q9 q6 q5 q1 (by rw[q2,k7]) k8 (.inr hg2) rfl rfl rfl
          (by simp only[AG,hrl];rw[AI];rw[n1]at hbound;omega)
          hok
          (by
           intro i j hi hj;simp only[AG,hrl]at hi hj ⊢;rw[W7,hrl];split
           .rename_i hil;rw[hcr i j hil];obtain⟨y,hy1,hy2⟩:=k9 (off+i) j (by omega) hj;refine⟨y,?_,hy2⟩;have:=Jz (st:=iE.size) hil hj;rw[q4 _ (by omega),<-hy1];congr 1;rw[AI];omega
           .rename_i hil;have hi2:i-len<src.length:=by omega
            have hk:=Jz (st:=iE.size) hi2 hj;refine⟨news.getD ((i-len)*iE.size+j) undef,?_,n4 _ _ hi2 hj⟩;have hk':(i-len)*iE.size+j<news.length:=by rw[n1];exact hk
            obtain⟨y,hy⟩:∃y,news[(i-len)*iE.size+j]?=some y:=⟨_,AA hk'⟩;rw[Do hy,<-hy,<-q3 _ hk'];congr 1;have:i*iE.size=len*iE.size+(i-len)*iE.size:=by rw[<-AI];congr 1;omega
            omega)
         have hKg:=hK g2
         rw[e7]at hKg
         refine⟨_,.slice (some ⟨l.b,l.base+off*l.st,none⟩) (len+src.length) cap,_,_,w.setCells l.b (l.base+off*iE.size+len*iE.size) news,?_,?_,hKg,hput.1,hput.2⟩
         .rw[Aqn hdS hdX hX' e2 hlen (n2 w rfl) hroom];simp only[Sem.run_bind,Jw,k3,hrunS,CL,Result.andThen_ok,Sem.run_pure]
         .have:=Rv.ref (w:=w.setCells l.b (l.base+off*iE.size+len*iE.size) news) (mu:=Dm mu o g2 ⟨l.b,l.base+off*iE.size,iE.size,l.size,true⟩)
           (M:=C0 (upd h o (some (.rows g2 iE.size ((rs.drop off).take len++src)))) (Dm mu o g2 ⟨l.b,l.base+off*iE.size,iE.size,l.size,true⟩)) o g2 0 (len+src.length) cap ⟨l.b,l.base+off*iE.size,iE.size,l.size,true⟩ (by simp[Dm]) rfl hroom (CR (BT _ hby) hlim) (by simp only;rw[k3,AI]at hcsz;rw[AE];omega)
          rw[k3]
          simpa using this
        .
         have holds:∃olds:List Value,olds.length=len*iE.size/\(∀w',w'.heap=w.heap->(Builtin.firstCells iE.size len (.slice (some ⟨l.b,l.base+off*l.st,none⟩) len cap)).run P w'=.ok olds.toArray w')/\
           ∀i j,i<len->j<iE.size->RV h mu w (cell rs (off+i) j) (olds.getD (i*iE.size+j) undef):=by
          have hsrc':F6 P h iE.size false (.ref o g' off len)=some ((rs.drop off).take len):=by unfold F6;simp only[hh,e7,true_and,hle,if_true]
          obtain⟨_,olds,o1,o2,o3,o4⟩:=X8 (P:=P) s (Rv.ref (w:=w) (M:=C0 h mu) o g' off len cap l hl hcl hcap hcl0 hcsz) hsrc'
          rw[hrl]at o1 o2 o4
          refine⟨olds,o1,o2,λi j hi hj=>?_⟩
          rw[<-hcr i j hi]
          exact o4 i j hi hj
         obtain⟨olds,o1,o2,o4⟩:=holds
         have hrun:=Aau (P:=P) (ty:=ty) (w:=w) hdS hdX hX' e2 e3 hlen n2 o2 (by omega) (by simpa[Bj]using hlim) hby
         have hd:=s.drew
         have hpush:=Sim.push (o:=o) (g:=g2) (st:=iE.size) (base:=0) (rs:=(rs.drop off).take len++src) (e:=e)
          (cells:=olds.toArray++news.toArray++Builtin.zeroCells z.cells (grownCap w (len+src.length) cap e-(len+src.length))) hd.1 hg2
          (by simp only[AG,hrl,DM,CS,o1,n1];rw[AI];omega) hok
          (by
           intro i j hi hj;simp only[AG,hrl]at hi;rw[W7,hrl,AE];split
           .rename_i hil;rw[hcr i j hil];have hk:=Jz (st:=iE.size) hil hj;refine⟨olds.getD (i*iE.size+j) undef,?_,(o4 i j hil hj).ext hd.2⟩;have hk':i*iE.size+j<olds.length:=by rw[o1];exact hk
            obtain⟨y,hy⟩:∃y,olds[i*iE.size+j]?=some y:=⟨_,AA hk'⟩;rw[Do hy,BJ (by simp;omega),BJ (by simpa using hk')];simpa using hy
           .rename_i hil;have hi2:i-len<src.length:=by omega
            have hk:=Jz (st:=iE.size) hi2 hj;refine⟨news.getD ((i-len)*iE.size+j) undef,?_,(n4 _ _ hi2 hj).ext hd.2⟩;have hk':(i-len)*iE.size+j<news.length:=by rw[n1];exact hk
            obtain⟨y,hy⟩:∃y,news[(i-len)*iE.size+j]?=some y:=⟨_,AA hk'⟩;have:i*iE.size=len*iE.size+(i-len)*iE.size:=by rw[<-AI];congr 1;omega
            rw[Do hy,BJ (by simp;omega),EQ (by simp;omega)];simp only[CS,GK,o1];rw[<-hy];congr 1;omega)
         have hKg:=hK g2
         rw[e7]at hKg
         refine⟨_,_,_,_,_,hrun,?_,hKg,hpush.1,hd.2.trans hpush.2⟩
         have hcap2:len+src.length<=grownCap w (len+src.length) cap e:=grownCap_ge w _ _ e
         have:=Rv.ref (w:=w.drew.alloc (.cells (olds.toArray++news.toArray++Builtin.zeroCells z.cells (grownCap w (len+src.length) cap e-(len+src.length))) e))
          (mu:=Dm mu o g2 ⟨w.drew.heap.size,0,iE.size,(olds.toArray++news.toArray++Builtin.zeroCells z.cells (grownCap w (len+src.length) cap e-(len+src.length))).size,true⟩)
          (M:=C0 (upd h o (some (.rows g2 iE.size ((rs.drop off).take len++src)))) (Dm mu o g2 ⟨w.drew.heap.size,0,iE.size,(olds.toArray++news.toArray++Builtin.zeroCells z.cells (grownCap w (len+src.length) cap e-(len+src.length))).size,true⟩))
          o g2 0 (len+src.length) (grownCap w (len+src.length) cap e) _ (by simp[Dm];rfl) rfl hcap2 (CR (BT _ hby) hlim) (by simp only[DM,CS,Air,hzs,n1,o1,AE];rw[<-AI,<-AI];exact GC (by congr 1;omega))
         simpa using this
      .exact hK.elim
     .rename_i o0 g0 r0 c0 len cap;split at hK
      .rename_i rows hsrcO;obtain⟨hne,hlim,hnew⟩:=hK;rw[e8]at hlim;rw[e7]at hsrcO;obtain⟨hlenO,olds,o1,o2,o3,o4⟩:=X8 (P:=P) s hs hsrcO;have hrl:rows.length=len:=by
        have:=hlenO w;cases hs with
        |refc=>simpa[Builtin.lenOf]using this.symm
       subst hrl;obtain⟨base,rfl⟩:∃base,cs=.slice base rows.length cap:=by cases hs;exact⟨_,rfl⟩
       have hrun:=Aau (P:=P) (ty:=ty) (w:=w) hdS hdX hX' e2 e3 hlen n2 o2 (by omega) (by simpa[Bj]using hlim) hby;have hd:=s.drew;rw[e7]at hnew;obtain⟨o,g,mu',m1,m2,m3,m4⟩:=Vr (base:=0) (e:=e) (cells:=olds.toArray++news.toArray++Builtin.zeroCells z.cells (grownCap w (rows.length+src.length) cap e-(rows.length+src.length))) hd.1 hnew
        (by simp only[AG,DM,CS,o1,n1];rw[AI];omega)
        (λr hr=>by
         rcases BG.1 hr with hr|hr
         .exact o3 r hr
         .exact n3 r hr)
        (by
         intro i j hi hj;simp only[AG]at hi;rw[W7,AE];split
         .rename_i hil;have hk:=Jz (st:=iE.size) hil hj;refine⟨olds.getD (i*iE.size+j) undef,?_,(o4 i j hil hj).ext hd.2⟩;have hk':i*iE.size+j<olds.length:=by rw[o1];exact hk
          obtain⟨y,hy⟩:∃y,olds[i*iE.size+j]?=some y:=⟨_,AA hk'⟩;rw[Do hy,BJ (by simp;omega),BJ (by simpa using hk')];simpa using hy
         .rename_i hil;have hi2:i-rows.length<src.length:=by omega
          have hk:=Jz (st:=iE.size) hi2 hj;refine⟨news.getD ((i-rows.length)*iE.size+j) undef,?_,(n4 _ _ hi2 hj).ext hd.2⟩;have hk':(i-rows.length)*iE.size+j<news.length:=by rw[n1];exact hk
          obtain⟨y,hy⟩:∃y,news[(i-rows.length)*iE.size+j]?=some y:=⟨_,AA hk'⟩;have:i*iE.size=rows.length*iE.size+(i-rows.length)*iE.size:=by rw[<-AI];congr 1;omega
          rw[Do hy,BJ (by simp;omega),EQ (by simp;omega)];simp only[CS,GK,o1];rw[<-hy];congr 1;omega)
       refine⟨_,_,_,mu',_,hrun,?_,m2,m3,hd.2.trans m4⟩;have hcap2:rows.length+src.length<=grownCap w (rows.length+src.length) cap e:=grownCap_ge w _ _ e;have:=Rv.ref (w:=w.drew.alloc (.cells (olds.toArray++news.toArray++Builtin.zeroCells z.cells (grownCap w (rows.length+src.length) cap e-(rows.length+src.length))) e)) (M:=C0 (upd h o (some (.rows g iE.size (rows++src)))) mu') o g 0 (rows.length+src.length) (grownCap w (rows.length+src.length) cap e) _ m1 rfl hcap2 (CR (BT _ hby) hlim) (by simp only[DM,CS,Air,hzs,n1,o1,AE];rw[<-AI,<-AI];exact GC (by congr 1;omega));simpa using this
      .exact hK.elim
     .rename_i st rows;obtain⟨rfl,hne,hlim,hnew⟩:=hK;rw[e8]at hlim;obtain⟨base,rfl,hrows,hsl⟩:∃base,cs=.slice base rows.length rows.length/\(∀r∈rows,Cy E.size r)/\RV h mu w (.sl E.size rows) (.slice base rows.length rows.length):=by
       cases hs with
       |slx0 _ a=>exact⟨a,rfl,λr hr=>(by cases hr),.sl0 _ _ _⟩
       |slx _ _ b off vs q0 q1 q2 q3 q4 q5=>exact⟨_,rfl,q3,.sl _ _ b off _ vs (AF _) q0 q1 q2 q3 q4 q5⟩
      have hsrc':F6 P h iE.size false (.sl E.size rows)=some rows:=by unfold F6;simp only[e7,if_true]
      obtain⟨_,olds,o1,o2,o3,o4⟩:=X8 (P:=P) s hsl hsrc';have hrun:=Aau (P:=P) (ty:=ty) (w:=w) hdS hdX hX' e2 e3 hlen n2 o2 (by omega) (by simpa[Bj]using hlim) hby;have hd:=s.drew;rw[e7]at hnew;obtain⟨o,g,mu',m1,m2,m3,m4⟩:=Vr (base:=0) (e:=e) (cells:=olds.toArray++news.toArray++Builtin.zeroCells z.cells (grownCap w (rows.length+src.length) rows.length e-(rows.length+src.length))) hd.1 hnew
       (by simp only[AG,DM,CS,o1,n1];rw[AI];omega)
       (λr hr=>by
        rcases BG.1 hr with hr|hr
        .rw[<-e7];exact hrows r hr
        .exact n3 r hr)
       (by
        intro i j hi hj;simp only[AG]at hi;rw[W7,AE];split
        .rename_i hil;have hk:=Jz (st:=iE.size) hil hj;refine⟨olds.getD (i*iE.size+j) undef,?_,(o4 i j hil hj).ext hd.2⟩;have hk':i*iE.size+j<olds.length:=by rw[o1];exact hk
         obtain⟨y,hy⟩:∃y,olds[i*iE.size+j]?=some y:=⟨_,AA hk'⟩;rw[Do hy,BJ (by simp;omega),BJ (by simpa using hk')];simpa using hy
        .rename_i hil;have hi2:i-rows.length<src.length:=by omega
         have hk:=Jz (st:=iE.size) hi2 hj;refine⟨news.getD ((i-rows.length)*iE.size+j) undef,?_,(n4 _ _ hi2 hj).ext hd.2⟩;have hk':(i-rows.length)*iE.size+j<news.length:=by rw[n1];exact hk
         obtain⟨y,hy⟩:∃y,news[(i-rows.length)*iE.size+j]?=some y:=⟨_,AA hk'⟩;have:i*iE.size=rows.length*iE.size+(i-rows.length)*iE.size:=by rw[<-AI];congr 1;omega
         rw[Do hy,BJ (by simp;omega),EQ (by simp;omega)];simp only[CS,GK,o1];rw[<-hy];congr 1;omega)
      refine⟨_,_,_,mu',_,hrun,?_,m2,m3,hd.2.trans m4⟩;have hcap2:rows.length+src.length<=grownCap w (rows.length+src.length) rows.length e:=grownCap_ge w _ _ e;have:=Rv.ref (w:=w.drew.alloc (.cells (olds.toArray++news.toArray++Builtin.zeroCells z.cells (grownCap w (rows.length+src.length) rows.length e-(rows.length+src.length))) e)) (M:=C0 (upd h o (some (.rows g iE.size (rows++src)))) mu') o g 0 (rows.length+src.length) (grownCap w (rows.length+src.length) rows.length e) _ m1 rfl hcap2 (CR (BT _ hby) hlim) (by simp only[DM,CS,Air,hzs,n1,o1,AE];rw[<-AI,<-AI];exact GC (by congr 1;omega));simpa using this
     .exact hK.elim
    .exact hK.elim
   .exact hK.elim
  .exact hK.elim
 .exact hK.elim
end
def Aex (P:Program):List (Nat×TypeId)->Option (List (Nat×Nat))
 |[]=>some []
 |(off,t)::r=>match ti P t,Aex P r with
  |some T,some l=>some ((off,T.size)::l)
  |_,_=>none
def Ta (z:Nat->Option (Nat×Nat)):List AV->List (Nat×AV)->Option (List AV)
 |cells,[]=>some cells
 |cells,(i,v)::rest=>match z i with
  |none=>none
  |some (off,size)=>if v.ok=true/\v.cells.length=size/\off+size<=cells.length then Ta z (Fd cells off v.cells) rest else none
def Adg (P:Program)(t:TypeId)(parts:List (Nat×AV)):Option AV:=
 match ti P t with
 |none=>none
 |some T=>match T.k with
  |.st fs=>match Aex P fs with
   |some z=>(Ta (z[·]?) T.z parts).map .agg
   |none=>none
  |.arr _ e=>match ti P e with
   |some E=>(Ta (λi=>some (i*E.size,E.size)) T.z parts).map .agg
   |none=>none
  |_=>none
def Vy (size:Nat):List (List AV)->List (Nat×AV)->Option (List (List AV))
 |rows,[]=>some rows
 |rows,(i,v)::rest=>if v.ok=true/\v.cells.length=size/\i<rows.length/\v.cells.all AV.flat=true then Vy size (rows.set i v.cells) rest else none
inductive CellSim:AV->AV->Prop
 |same (v:AV):CellSim v v
 |emp (st:Nat):CellSim .emp (.sl st [])
def CellSim.rv{M:Nat->Prop}{a b:AV}(k:CellSim a b)(h:Rv w mu M a c):Rv w mu M b c:=by
 cases k with
 |same=>exact h
 |emp st=>cases h with|emp a=>exact .sl0 st a 0
inductive ValSim:AV->AV->Prop
 |cell {a b:AV} (h:CellSim a b):ValSim a b
 |agg {l l':List AV} (hl:l.length=l'.length) (h:∀i,i<l.length->CellSim (l.getD i .und) (l'.getD i .und)):ValSim (.agg l) (.agg l')
def ValSim.rv{M:Nat->Prop}{a b:AV}(k:ValSim a b)(h:Rv w mu M a c):Rv w mu M b c:=by
 cases k with
 |cell k=>exact k.rv h
 |agg z k=>
  cases h with
  |agg cs vs A D=>exact .agg _ vs (z▸A) λi hi=>(k i (z▸hi)).rv (D i (z▸hi))
structure RowsSim (st:Nat)(rows rows':List (List AV)):Prop where
 len:rows'.length=rows.length
 ok:∀r∈rows',Cy st r
 cells:∀i j,i<rows.length->j<st->CellSim (cell rows i j) (cell rows' i j)
def J3 (P:Program)(h:Aa)(t:TypeId)(len:Nat)(parts:List (Nat×AV))(K:AV->Aa->Prop):Prop:=
 match ti P t with
 |some T=>match T.k with
  |.sl e=>match ti P e with
   |some E=>if len=0 then parts=[]/\(K .emp h\/K (.sl E.size []) h)else 0<E.size/\len*E.size<=2^24/\E.z.all AV.flat=true/\match Vy E.size (List.replicate len E.z) parts with
    |some rows=>∃z,RowsSim E.size rows z/\(K (.sl E.size z) h\/Xx h E.size z (λo g h'=>K (.ref o g 0 len) h'))
    |none=>False
   |none=>False
  |_=>False
 |none=>False
def Ae2 (P:Program)(h:Aa)(t:TypeId)(len A:AV)(K:AV->Aa->Prop):Prop:=
 match ti P t with
 |some T=>match T.k,len,A with
  |.sl e,.int _ n,.int _ c=>match ti P e with
   |some E=>0<E.size/\0<E.bytes/\E.z.all AV.flat=true/\0<=n/\n<=c/\c.toNat*E.bytes<=Bj/\((∃z,Cy E.size z/\(∀j,j<E.size->CellSim (E.z.getD j .und) (z.getD j .und))/\Xx h E.size (List.replicate n.toNat z) (λo g h'=>K (.ref o g 0 n.toNat) h'))\/
    (E.size=1/\Xx h c.toNat [List.replicate c.toNat (E.z.getD 0 .und)] (λo g h'=>K (.refc o g 0 0 n.toNat c.toNat) h')))
   |none=>False
  |_,_,_=>False
 |none=>False
def Hk (P:Program)(x:AV)(z:TypeId)(ok:Bool):Option AV:=
 match ti P z with
 |none=>none
 |some T=>if T.k=.ifc then none else match x with
  |.iface t v=>if t=z then some (if ok then .tup [v,.bool true]else v)else if ok then some (.tup [(if T.k.agg then .agg T.z else T.z.getD 0 .und),.bool false])else none
  |.nili=>if ok then some (.tup [(if T.k.agg then .agg T.z else T.z.getD 0 .und),.bool false])else none
  |_=>none
variable{T:TI}{t:TypeId}{parts:List (Nat×AV)}{cparts:List (Nat×Value)}
section
variable[GW P]{B:Base P}{M:Nat→Prop}
def Asz:∀(l:List Value) (m off:Nat) (arr:Array Value),((l.zipIdx m).foldl (λcs (p:Value×Nat)=>cs.setIfInBounds (off+p.2) p.1) arr).size=arr.size/\
  ∀k,((l.zipIdx m).foldl (λcs (p:Value×Nat)=>cs.setIfInBounds (off+p.2) p.1) arr)[k]?=if off+m<=k/\k<off+m+l.length/\k<arr.size then l[k-(off+m)]? else arr[k]?
 |[],m,off,arr=>⟨rfl,λk=>by simp;omega⟩
 |v::r,m,off,arr=>by
  obtain⟨D,G⟩:=Asz r (m+1) off (arr.setIfInBounds (off+m) v);simp only[List.zipIdx_cons,FY];refine⟨by rw[D];simp,λk=>?_⟩;rw[G k];simp only[Array.size_setIfInBounds,BV];by_cases hk:k=off+m
  .subst hk;rw[if_neg (by omega)];by_cases z:off+m<arr.size
   .rw[if_pos ⟨by omega,by omega,z⟩];simp[z]
   .rw[if_neg (by omega),CU (by simp;omega),CU (by omega)]
  .by_cases A:off+(m+1)<=k/\k<off+(m+1)+r.length/\k<arr.size
   .rw[if_pos A,if_pos (by omega)];rw[show k-(off+m)=(k-(off+(m+1)))+1 by omega];simp
   .rw[if_neg A,if_neg (by omega),CA (by omega)]
def Au6 (w:World)(mu:Mu)(M:Nat->Prop)(cs:List AV)(arr:Array Value):Prop:=cs.length=arr.size/\∀i,i<cs.length->∃c,arr[i]?=some c/\Rv w mu M (cs.getD i .und) c
def Aog {A:Nat->Option (Nat×Nat)}:∀(parts:List (Nat×AV)) (cparts:List (Nat×Value)) (cs:List AV) (arr:Array Value) {G:List AV},
  parts.length=cparts.length->(∀k,k<parts.length->(parts.getD k (0,.und)).1=(cparts.getD k (0,undef)).1/\Rv w mu M (parts.getD k (0,.und)).2 (cparts.getD k (0,undef)).2)->
  Au6 w mu M cs arr->Ta A cs parts=some G->∃z,Instr.fill A arr cparts=some z/\Au6 w mu M G z
 |[],cparts,cs,arr,G,W,hp,S,hf=>by have:cparts=[]:=BL W.symm;subst this;simp[Ta]at hf;subst hf;exact⟨arr,rfl,S⟩
 |(i,v)::rest,cparts,cs,arr,G,W,hp,S,hf=>by
  cases cparts with
  |nil=>simp at W
  |cons q O=>
   obtain⟨ci,cv⟩:=q;obtain⟨e1,e2⟩:=hp 0 (by simp);simp only[CY]at e1 e2;subst e1;unfold Ta at hf;split at hf
   .cases hf
   rename_i off size X;split at hf
   .rename_i hc;obtain⟨Y,ab,ac⟩:=hc;obtain⟨z1,z2⟩:=An2 e2 Y;have Z:cv.cells.size=size:=by omega
    obtain⟨f1,f2⟩:=Asz cv.cells.toList 0 off arr;have D:cv.cells.zipIdx.foldl (λcs (p:Value×Nat)=>cs.setIfInBounds (off+p.2) p.1) arr=(cv.cells.toList.zipIdx 0).foldl (λcs (p:Value×Nat)=>cs.setIfInBounds (off+p.2) p.1) arr:=by rw[<-HA,Array.toList_zipIdx]
    have aa:Au6 w mu M (Fd cs off v.cells) (cv.cells.zipIdx.foldl (λcs (p:Value×Nat)=>cs.setIfInBounds (off+p.2) p.1) arr):=by
     refine⟨?_,λk hk=>?_⟩
     .rw[Xj (by omega),D,f1];exact S.1
     .rw[Xj (by omega)]at hk;rw[D,f2 k,Agv (by omega)];simp only[CL,Array.length_toList];by_cases U:off<=k/\k<off+v.cells.length
      .rw[if_pos U,if_pos (by have:=S.1;omega)];have V:k-off<cv.cells.toList.length:=by simp;omega
       refine⟨cv.cells.toList[k-off],AA V,?_⟩;have:=z2 (k-off) (by omega);rwa[Do (d:=undef) (AA V)]at this
      .rw[if_neg U,if_neg (by omega)];exact S.2 k hk
    obtain⟨z,g1,g2⟩:=Aog rest O _ _ (by simpa using W) (λk hk=>by simpa using hp (k+1) (by simp;omega)) aa hf;refine⟨z,?_,g2⟩;simp only[Instr.fill,X];rw[if_neg]
    .exact g1
    .have:=S.1;simp[Z];omega
   .cases hf
def Asg:∀(fs:List Field) {A:List (Nat×Nat)},Aex P (fs.map λf=>(f.offset,f.type))=some A->fs.mapM (λf=>(P.info? f.type).map λi=>(f.offset,i.size))=some A
 |[],A,h=>by simp[Aex]at h;subst h;rfl
 |f::r,A,h=>by
  simp only[BM,Aex]at h;split at h
  .rename_i T l D G;cases h;obtain⟨d,i,z,U,O,V,W,X,Y,S,Z,_⟩:=Pj D;rw[IA,O,Asg r G,S];rfl
  .cases h
def As1(h:Wk z.cells.toList=some T.z):Au6 w mu M T.z z.cells:=by
 obtain⟨D,G⟩:=Td (w:=w) (mu:=mu) (M:=M) h;refine⟨by simpa using D,λi hi=>?_⟩;have A:i<z.cells.toList.length:=by rw[<-D];exact hi
 refine⟨z.cells.toList[i],by rw[<-DG];exact AA A,?_⟩;have:=G i hi;rwa[Do (d:=undef) (AA A)]at this
def Avw {cs:List AV}{arr:Array Value}(h:Au6 w mu M cs arr):Rv w mu M (.agg cs) (.agg arr):=by have:=Rv.agg (w:=w) (mu:=mu) (M:=M) cs arr.toList (by simpa using h.1) (λi hi=>by obtain⟨c,z,A⟩:=h.2 i hi;rw[<-DG]at z;rw[Do z];exact A);simpa using this
def A3n(S:parts.length=cparts.length)(hp:∀k,k<parts.length->(parts.getD k (0,.und)).1=(cparts.getD k (0,undef)).1/\RV h mu w (parts.getD k (0,.und)).2 (cparts.getD k (0,undef)).2)(A:Adg P t parts=some x):
  ∃y,(Instr.build t cparts.toArray).run P w=.ok y w/\RV h mu w x y:=by
 unfold Adg at A
 split at A
 .cases A
 rename_i T Z
 obtain⟨d,i,z,U,V,W,X,h5,Y,h7,h8,h9,aa⟩:=Pj Z
 split at A
 .rename_i fs hk;obtain⟨a,rfl,rfl⟩:=A61 (hk▸Y);split at A
  .rename_i pl G;cases hf:Ta (pl[·]?) T.z parts with
   |none=>simp[hf]at A
   |some cs=>simp[hf]at A;subst A;obtain⟨arr,D,O⟩:=Aog parts cparts T.z z.cells S hp (As1 X) hf;refine⟨.agg arr,run_build w t cparts.toArray arr ?_,Avw O⟩;simp only[Program.built,U,V,W,Asg a.toList G];simpa using D
  .cases A
 .rename_i n e hk;have:=Aiu (hk▸Y);subst this;split at A
  .rename_i E hE;cases hf:Ta (λi=>some (i*E.size,E.size)) T.z parts with
   |none=>simp[hf]at A
   |some cs=>simp[hf]at A;subst A;obtain⟨arr,D,O⟩:=Aog parts cparts T.z z.cells S hp (As1 X) hf;obtain⟨d',i',z',k1,k2,k3,k4,k5,k6,k7,_⟩:=Pj hE;refine⟨.agg arr,run_build w t cparts.toArray arr ?_,Avw O⟩;simp only[Program.built,U,V,W,k2];rw[k7]at D;simpa using D
  .cases A
 .cases A
end
variable{size:Nat}{h':Aa}{w':World}{st:Nat}
section
variable[GW P]{B:Base P}{M:Nat→Prop}
def At8 (w:World)(mu:Mu)(M:Nat->Prop)(size:Nat)(rows:List (List AV))(arr:Array Value):Prop:=arr.size=rows.length*size/\(∀r∈rows,Cy size r)/\∀i j,i<rows.length->j<size->∃c,arr[i*size+j]?=some c/\Rv w mu M (cell rows i j) c
def An7{i:TypeInfo}(h:Wk z.cells.toList=some T.z)(G:T.z.length=T.size)(hf:T.z.all AV.flat=true)(n:Nat):
  At8 w mu M T.size (List.replicate n T.z) ((Array.range (n*T.size)).map (z.cells[·%z.cells.size]!)):=by
 obtain⟨S,U⟩:=Td (w:=w) (mu:=mu) (M:=M) h
 refine⟨by simp,λr hr=>?_,λi j hi D=>?_⟩
 .rw[GD hr];exact⟨G,λv V=>AJ.1 hf v V⟩
 .rw[DO]at hi;have hk:=Jz (st:=T.size) hi D;obtain⟨Y,W⟩:=Aoc (i:=i) D;have O:z.cells.size=T.size:=by rw[<-G,S];simp
  have A:j<z.cells.toList.length:=by simp[O];exact D
  refine⟨z.cells.toList[j],?_,?_⟩
  .rw[Array.getElem?_map];simp only[Array.getElem?_range,hk,if_true,AQ,O,W];simp at A;simp[A]
  .have:=U j (by omega);rw[Do (d:=undef) (AA A)]at this;have X:cell (List.replicate n T.z) i j=T.z.getD j .und:=by simp[cell,List.getD,hi]
   rw[X];exact this
def Amp:∀(parts:List (Nat×AV)) (cparts:List (Nat×Value)) (rows:List (List AV)) (arr:Array Value) {z:List (List AV)},
  parts.length=cparts.length->(∀k,k<parts.length->(parts.getD k (0,.und)).1=(cparts.getD k (0,undef)).1/\Rv w mu M (parts.getD k (0,.und)).2 (cparts.getD k (0,undef)).2)->
  At8 w mu M size rows arr->Vy size rows parts=some z->∃A,Instr.fill (λi=>some (i*size,size)) arr cparts=some A/\At8 w mu M size z A/\z.length=rows.length
 |[],cparts,rows,arr,z,W,hp,X,hf=>by have:cparts=[]:=BL W.symm;subst this;simp[Vy]at hf;subst hf;exact⟨arr,rfl,X,rfl⟩
 |(i,v)::rest,cparts,rows,arr,z,W,hp,X,hf=>by
  cases cparts with
  |nil=>simp at W
  |cons q G=>
   obtain⟨ci,cv⟩:=q;obtain⟨e1,e2⟩:=hp 0 (by simp);simp only[CY]at e1 e2;subst e1;unfold Vy at hf;split at hf
   .rename_i hc;obtain⟨Y,U,hi,O⟩:=hc;obtain⟨z1,z2⟩:=An2 e2 Y;have Z:cv.cells.size=size:=by omega
    obtain⟨a1,a2,a3⟩:=X;obtain⟨f1,f2⟩:=Asz cv.cells.toList 0 (i*size) arr;have D:cv.cells.zipIdx.foldl (λcs (p:Value×Nat)=>cs.setIfInBounds (i*size+p.2) p.1) arr=(cv.cells.toList.zipIdx 0).foldl (λcs (p:Value×Nat)=>cs.setIfInBounds (i*size+p.2) p.1) arr:=by rw[<-HA,Array.toList_zipIdx]
    have aa:At8 w mu M size (rows.set i v.cells) (cv.cells.zipIdx.foldl (λcs (p:Value×Nat)=>cs.setIfInBounds (i*size+p.2) p.1) arr):=by
     refine⟨by rw[D,f1,a1];simp,Aq9 a2 ⟨U,λx hx=>AJ.1 O x hx⟩,λr j hr hj=>?_⟩;rw[FZ]at hr;have hk:=Jz (st:=size) hr hj;rw[Asx hi,D,f2];simp only[CL,Array.length_toList];by_cases S:r=i
     .subst S;rw[if_pos rfl,if_pos (by omega)];have V:r*size+j-r*size<cv.cells.toList.length:=by simp;omega
      refine⟨cv.cells.toList[r*size+j-r*size],AA V,?_⟩;have:=z2 (r*size+j-r*size) (by omega);rw[Do (d:=undef) (AA V)]at this;simp only[show r*size+j-r*size=j by omega]at this ⊢;exact this
     .rw[if_neg S,if_neg (by have:=Av4 (c:=0) (n:=size) S hj (by omega);omega)];exact a3 r j hr hj
    obtain⟨A,g1,g2,g3⟩:=Amp rest G _ _ (by simpa using W) (λk hk=>by simpa using hp (k+1) (by simp;omega)) aa hf;refine⟨A,?_,g2,by rw[g3];simp⟩;simp only[Instr.fill];rw[if_neg]
    .exact g1
    .have:=AZ size (show i+1<=rows.length from hi);rw[AI]at this;simp[Z];omega
   .cases hf
def RV.newRef{mu':Mu}{o g b z:Nat}(D:mu' o g=some ⟨b,0,st,size,true⟩)(G:n<=z)(A:n<=Bj)(O:z*st<=size):RV h' mu' w' (.ref o g 0 n) (.slice (some ⟨b,0,none⟩) n z):=by have:=Rv.ref (w:=w') (M:=C0 h' mu') o g 0 n z _ D rfl G A (by simpa using O);simpa using this
def Am8 (f:Nat->Value):(Array.range 0).map f=#[]:=by apply HF;simp
def Asm(s:Sim B mu h w){len:Nat}{K:AV->Aa->Prop}(hl:parts.length=cparts.length)(hp:∀k,k<parts.length->(parts.getD k (0,.und)).1=(cparts.getD k (0,undef)).1/\RV h mu w (parts.getD k (0,.und)).2 (cparts.getD k (0,undef)).2)(A:J3 P h t len parts K):
  ∃v c h' mu' w',(Instr.buildSlice t len cparts.toArray).run P w=.ok c w'/\RV h' mu' w' v c/\K v h'/\Sim B mu' h' w'/\Ez h mu w h' mu' w':=by
 unfold J3 at A
 split at A
 .rename_i T hT;split at A
  .rename_i e hk;obtain⟨dS,W,ad⟩:=Ek hT;have:=Fq (hk▸ad);subst this;split at A
   .rename_i E hE;obtain⟨d,i,z,e1,e2,e3,e4,e5,e6,e7,e8,_⟩:=Pj hE;split at A
    .rename_i h0;subst h0;obtain⟨rfl,A⟩:=A;have:cparts=[]:=BL hl.symm;subst this;have S:=s.junk (.cells #[] e);have O:(Instr.buildSlice t 0 ([]:List (Nat×Value)).toArray).run P w=.ok (.slice (some ⟨w.heap.size,0,none⟩) 0 0) (w.alloc (.cells #[] e)):=by simp[Instr.buildSlice,run_underlying W,sizeOf,typeInfo,zeroValue,e2,newRow,Instr.fill];rw[Am8]
     rcases A with A|A
     .exact⟨.emp,.slice (some ⟨w.heap.size,0,none⟩) 0 0,h,mu,w.alloc (.cells #[] e),O,.emp _,A,S.1,S.2⟩
     .exact⟨.sl E.size [],.slice (some ⟨w.heap.size,0,none⟩) 0 0,h,mu,w.alloc (.cells #[] e),O,.sl0 _ _ _,A,S.1,S.2⟩
    .rename_i h0;obtain⟨X,Y,ae,A⟩:=A;split at A
     .rename_i rows V;obtain⟨arr,f1,⟨r1,r2,r3⟩,Z⟩:=Amp parts cparts _ _ hl hp (An7 (i:=i) e4 e5 ae len) V;rw[DO]at Z;have O:(Instr.buildSlice t len cparts.toArray).run P w=.ok (.slice (some ⟨w.heap.size,0,none⟩) len len) (w.alloc (.cells arr e)):=by rw[e7]at f1 Y X;exact run_buildSlice w t e len cparts.toArray arr i z W e2 e3 (by omega) (by intro hq;rcases HY.1 hq with hq|hq<;>omega) (by simpa using f1)
      have aa:len<=Bj:=by have:=BT len X;unfold Bj;omega
      obtain⟨D,G,A⟩:=A;rcases A with A|A
      .have S:=s.junk (.cells arr e);have U:D.length=len:=G.len.trans Z;refine⟨.sl E.size D,.slice (some ⟨w.heap.size,0,none⟩) len len,h,mu,w.alloc (.cells arr e),O,?_,A,S.1,S.2⟩;have key:∃vs:Nat->Nat->Value,∀i j,i<D.length->j<E.size->(w.alloc (.cells arr e)).cell? ⟨w.heap.size,0+i*E.size+j,none⟩=some (vs i j)/\RV h mu (w.alloc (.cells arr e)) (cell D i j) (vs i j):=by
        refine⟨λi j=>((w.alloc (.cells arr e)).cell? ⟨w.heap.size,0+i*E.size+j,none⟩).getD undef,λi j hi ab=>?_⟩;obtain⟨c,af,ag⟩:=r3 i j (by rw[Z,<-U];exact hi) ab;have hx:(w.alloc (.cells arr e)).cell? ⟨w.heap.size,0+i*E.size+j,none⟩=some c:=by unfold World.cell?;rw[Rc,AE];simpa using af
        have hg:((w.alloc (.cells arr e)).cell? ⟨w.heap.size,0+i*E.size+j,none⟩).getD undef=c:=by rw[hx];rfl
        refine⟨by show _=some (((w.alloc (.cells arr e)).cell? ⟨w.heap.size,0+i*E.size+j,none⟩).getD undef);rw[hg];exact hx,?_⟩;show RV h mu _ _ (((w.alloc (.cells arr e)).cell? ⟨w.heap.size,0+i*E.size+j,none⟩).getD undef);rw[hg];exact(G.cells i j (by rw[Z,<-U];exact hi) ab).rv (ag.ext S.2)
       obtain⟨vs,ac⟩:=key;have:=Rv.sl (w:=w.alloc (.cells arr e)) (mu:=mu) (M:=C0 h mu) E.size D w.heap.size 0 len vs (by omega) (by omega) (λi j hi S=>(ac i j hi S).1) (λi j hi S=>(ac i j hi S).2) G.ok (λhm=>by have:=C0.lt s hm;omega) (by rw[Ey];omega);rw[U]at this;exact this
      obtain⟨o,g,mu',m1,m2,m3,m4⟩:=Vr (base:=0) (cells:=arr) (e:=e) s A (by rw[r1,G.len];omega) G.ok (by intro i j hi S;rw[AE];rw[G.len]at hi;obtain⟨c,k1,k2⟩:=r3 i j hi S;exact⟨c,k1,(G.cells i j hi S).rv k2⟩);refine⟨_,.slice (some ⟨w.heap.size,0,none⟩) len len,_,mu',w.alloc (.cells arr e),O,RV.newRef m1 (AF _) aa (by rw[r1,Z];exact AF _),m2,m3,m4⟩
     .exact A.elim
   .exact A.elim
  .exact A.elim
 .exact A.elim
def Aoh {n:Int}(h0:0<=n)(h:n<=140737488355328):IntKind.i64.wrap n=n:=by simp[IntKind.wrap,IntKind.bits,IntKind.signed];omega
def A6s(s:Sim B mu h w){len cap:AV}{cl cc:Value}{K:AV->Aa->Prop}(h1:RV h mu w len cl)(h2:RV h mu w cap cc)(hK:Ae2 P h t len cap K):
    ∃ v c h' mu' w',(Instr.makeSlice t cl cc).run P w=.ok c w'/\RV h' mu' w' v c/\K v h'/\Sim B mu' h' w'/\Ez h mu w h' mu' w':=by
  unfold Ae2 at hK
  split at hK
  . rename_i T hT
    split at hK
    . rename_i e k n k' c hk
      obtain⟨dS,hdS,hkS⟩:=Ek hT
      have:=Fq (hk ▸ hkS); subst this
      cases h1; cases h2
      split at hK
      . rename_i E hE
        obtain⟨d,i,z,e1,e2,e3,e4,e5,e6,e7,e8,_⟩:=Pj hE
        obtain⟨hsz,hby,hfl,h0,hnc,hlim,hK⟩:=hK
        obtain⟨r1,r2,r3⟩:=An7 (w:=w) (mu:=mu) (M:=C0 h mu) (i:=i) e4 e5 hfl c.toNat
        have hrun:(Instr.makeSlice t (.int k n) (.int k' c)).run P w=.ok (.slice (some ⟨w.heap.size,0,none⟩) n.toNat c.toNat) (w.alloc (.cells ((Array.range (c.toNat * E.size)).map (z.cells[· % z.cells.size]!)) e)):=by
          have hcc:(c.toNat:Int)=c:=GV (by omega)
          have hle:c.toNat<=c.toNat * E.bytes:=BT _ hby
          have hlim':c.toNat * E.bytes<=140737488355328:=hlim
          have wc:IntKind.i64.wrap c=c:=Aoh (by omega) (by omega)
          have wn:IntKind.i64.wrap n=n:=Aoh (by omega) (by omega)
          have hbytes:¬ (281474976710656<(i.bytes:Int) * c):=by
            rw [<- e8,<- hcc,Int.mul_comm,<- Int.natCast_mul]
            omega
          have hbytes2:¬ (281474976710656<(i.bytes:Int) * n):=by
            have:(i.bytes:Int) * n<=(i.bytes:Int) * c:=Int.mul_le_mul_of_nonneg_left hnc (by omega)
            omega
          by_cases hz:c.toNat * E.size=0
          . have hc0:c.toNat=0:=by
              rcases HY.1 hz with hz | hz <;> omega
            have hc0':c=0:=by omega
            have hn0':n=0:=by omega
            subst hc0'; subst hn0'
            simp only [hz,Am8]
            simp [Instr.makeSlice,run_underlying hdS,asInt,asIntOf,sizeOf,typeInfo,zeroValue,e2,newRow,IntKind.wrap,IntKind.bits,IntKind.signed,Am8]
          . rw [e7] at hz ⊢
            simp [Instr.makeSlice,run_underlying hdS,asInt,asIntOf,sizeOf,typeInfo,zeroValue,e2,e3,newRow,wc,wn,hbytes,hbytes2,h0,hnc,hz,show ¬ c<0 by omega,show ¬ n<0 by omega,show ¬ c<n by omega]
        rcases hK with⟨z',hz1,hz2,hK⟩ | ⟨hs1,hK⟩
        . obtain ⟨o, g, mu', m1, m2, m3, m4⟩ := Vr (base := 0) (cells := (Array.range (c.toNat * E.size)).map (z.cells[· % z.cells.size]!)) (e := e) s hK (by
              rw [r1]; simp only [DO,AE]
              exact AZ _ (by omega)) (by
              intro r hr
              rw [GD hr]
              exact hz1) (by
              intro i j hi hj
              rw [DO] at hi
              rw [AE]
              obtain⟨x,hx1,hx2⟩:=r3 i j (by simp; omega) hj
              refine⟨x,hx1,?_⟩
              rw [show cell (List.replicate n.toNat z') i j=z'.getD j .und by simp [cell,List.getD,hi]]
              refine(hz2 j hj).rv ?_
              rw [show E.z.getD j .und=cell (List.replicate c.toNat E.z) i j by simp [cell,List.getD,show i<c.toNat by omega]]
              exact hx2)
          exact⟨_,_,_,mu',_,hrun,RV.newRef m1 (by omega) (by have:=BT c.toNat hby; omega) (by rw [r1]; simp),m2,m3,m4⟩
        . have hz1:E.z.length=1:=by rw [e5,hs1]
          obtain⟨z0,hz0⟩ : ∃ z0,E.z=[z0]:=by
            match hq:E.z,hz1 with
            | [z0],_=>exact⟨z0,rfl⟩
          have hz0f:z0.flat=true:=by rw [hz0] at hfl; simpa using hfl
          have hg:E.z.getD 0 .und=z0:=by rw [hz0]; rfl
          rw [hg] at hK
          obtain⟨o,g,mu',m1,m2,m3,m4⟩:=Vr (base:=0) (cells:=(Array.range (c.toNat * E.size)).map (z.cells[· % z.cells.size]!)) (e:=e) s hK (by
              rw [r1]; simp [hs1]) (by
              intro r hr
              simp only [AM] at hr
              subst hr
              exact⟨by simp,λv hv=>by rw [GD hv]; exact hz0f⟩) (by
              intro i j hi hj
              have hi0:i=0:=by simpa using hi
              subst hi0
              obtain⟨x,hx1,hx2⟩:=r3 j 0 (by simpa using hj) (by omega)
              rw [show j * E.size+0=j by rw [hs1]; omega] at hx1
              refine⟨x,by simp only [Nat.zero_mul,AE]; exact hx1,?_⟩
              have:cell [List.replicate c.toNat z0] 0 j=cell (List.replicate c.toNat E.z) j 0:=by simp [cell,List.getD,hj,hz0]
              rw [this]; exact hx2)
          refine⟨_,_,_,mu',_,hrun,?_,m2,m3,m4⟩
          have hcl:=BT c.toNat hby
          have:=Rv.refc (w:=w.alloc (.cells ((Array.range (c.toNat * E.size)).map (z.cells[· % z.cells.size]!)) e)) (M:=C0 (upd h o (some (.rows g c.toNat [List.replicate c.toNat z0]))) mu') o g 0 0 n.toNat c.toNat _ m1 rfl (by omega) (by omega) (by rw [r1]; simp [hs1])
          simpa using this
      . exact hK.elim
    . exact hK.elim
  . exact hK.elim
def Az4{r:AV}{A:TypeId}{ok:Bool}(hv:RV h mu w x c)(D:Hk P x A ok=some r):∃y,(Instr.typeAssert c xT A ok).run P w=.ok y w/\RV h mu w r y:=by
 unfold Hk at D;split at D
 .cases D
 rename_i T hT;obtain⟨d,i,z,X,e2,e3,e4,e5,e6,e7,e8,e9,Y⟩:=Pj hT;have V:Rv w mu (C0 h mu) (if T.k.agg then .agg T.z else T.z.getD 0 .und) z:=by
  have hz:=As1 (w:=w) (mu:=mu) (M:=C0 h mu) e4;split
  .rename_i Z;rw[Y Z];exact Avw hz
  .rename_i Z;have h1:=e9 (by simpa using Z);have hc:z.cells=#[z]:=by cases z<;>simp[Value.oneCell']at h1<;>rfl
   have hl:T.z.length=1:=by rw[hz.1,hc];rfl
   obtain⟨y,S,aa⟩:=hz.2 0 (by omega);rw[hc]at S;simp at S;subst S;exact aa
 have G:(zeroValue A).run P w=.ok z w:=by simp[zeroValue,typeInfo,e2,e3]
 have O:∀ms,d≠.interface ms:=by
  intro ms hq;subst hq;rename_i hh;split at D
  .cases D
  .rename_i ab;exact ab (by rw[e6];rfl)
 have tup2:∀{a:AV} {b:Value} {q:Bool},Rv w mu (C0 h mu) a b->Rv w mu (C0 h mu) (.tup [a,.bool q]) (.tuple #[b,.bool q]):=by
  intro a b q ac;refine .tup [a,.bool q] [b,.bool q] rfl (λi hi=>?_);match i,hi with
  |0,_=>exact ac
  |1,_=>exact .bool q
 split at D
 .cases D
 split at D
 .rename_i t v;cases hv with
  |iface _ _ cv W=>
   split at D
   .rename_i ht;cases D;cases ok
    .refine⟨cv,?_,W⟩;cases d<;>first|exact absurd rfl (O _)|simp[Instr.typeAssert,run_underlying X,ht]
    .refine⟨.tuple #[cv,.bool true],?_,tup2 W⟩;cases d<;>first|exact absurd rfl (O _)|simp[Instr.typeAssert,run_underlying X,ht]
   .rename_i ht;split at D
    .rename_i U;cases D;subst U;refine⟨.tuple #[z,.bool false],?_,tup2 V⟩;cases d<;>first|exact absurd rfl (O _)|simp[Instr.typeAssert,run_underlying X,ht,G]
    .cases D
 .split at D
  .rename_i U;cases D;subst U;cases hv;refine⟨.tuple #[z,.bool false],?_,tup2 V⟩;cases d<;>first|exact absurd rfl (O _)|simp[Instr.typeAssert,run_underlying X,G]
  .cases D
 .cases D
end
def Aag:TK->AV->AV->Option Bool
 |.int _,.int k a,.int z b=>if k=z then some (a==b)else none
 |.str,.str a,.str b=>some (a==b)
 |.bool,.bool a,.bool b=>some (a==b)
 |_,_,_=>none
def S1 (t:TK)(k:AV):List (AV×AV)->Nat->Option (Option (Nat×AV))
 |[],_=>some none
 |e::es,i=>match Aag t k e.1 with
  |some true=>some (some (i,e.2))
  |some false=>S1 t k es (i+1)
  |none=>none
def Aic:TK->AV->Bool
 |.int k,.int z _=>decide (z=k)
 |.str,.str _=>true
 |.bool,.bool _=>true
 |_,_=>false
def Afp (h:Aa):AV->Option (List (AV×AV))
 |.mnil=>some []
 |.map o g=>match h o with
  |some (.mp g' es)=>if g'=g then some es else none
  |_=>none
 |.mapc es=>some (es.map λp=>(.str p.1,p.2))
 |.mapi es=>some es
 |_=>none
def Sq (P:Program)(h:Aa)(t:TypeId)(m k:AV)(ok:Bool):Option AV:=
 match ti P t with
 |some T=>match T.k with
  |.map A D=>match ti P A,ti P D,Afp h m with
   |some KT,some z,some es=>
    if Aic KT.k k=true then match S1 KT.k k es 0 with
     |some (some (_,v))=>some (if ok then .tup [v,.bool true]else v)
     |some none=>match Gm z.z 0 z.size z.k.agg with
      |some v=>some (if ok then .tup [v,.bool false]else v)
      |none=>none
     |none=>none
    else none
   |_,_,_=>none
  |_=>none
 |none=>none
def Zg (P:Program)(h:Aa)(t:TypeId)(m k v:AV):Option Aa:=
 match ti P t with
 |some T=>match T.k with
  |.map z _=>match ti P z,m with
   |some KT,.map o g=>match h o with
    |some (.mp g' es)=>if g'=g/\Aic KT.k k=true then match S1 KT.k k es 0 with
      |some (some (i,_))=>some (upd h o (some (.mp g (es.set i (k,v)))))
      |some none=>some (upd h o (some (.mp g (es++[(k,v)]))))
      |none=>none
     else none
    |_=>none
   |_,_=>none
  |_=>none
 |none=>none
def Amr (h:Aa)(K:AV->Aa->Prop):Prop:=∃o,h o=none/\∀g,K (.map o g) (upd h o (some (.mp g [])))
variable{d:TypeDesc}{ck:Value}{k:List UInt8}{l:List (List UInt8×AV)}{es:List (AV×AV)}{es':List (AV×AV)}{v:AV}{m:AV}{ens:Array MapEntry}
section
variable[GW P]{B:Base P}
def A3r{T:TK}(G:T=TK.of d){k e:AV}{A:Value}{b:Bool}(hk:RV h mu w k ck)(O:RV h mu w e A)(z:Aag T k e=some b):
  Instr.sameNow d ck A=some b/\(b=true->Instr.sameBits 10000 A ck=true)/\(b=true↔A=ck):=by
 unfold Aag at z
 split at z
 .rename_i _ a a1 _ a2;obtain rfl:=Aae G;cases hk;cases O;split at z
  .rename_i S;subst S;cases z;refine⟨by simp[Instr.sameNow],λD=>?_,⟨λe=>by simp only[CX]at e;rw[e],λe=>by injection e with _ e;simp[e]⟩⟩
   simp only[CX]at D;subst D;simp[Instr.sameBits]
  .cases z
 .rename_i a1 a2;obtain rfl:=Wp G;cases hk;cases O;cases z;have D:((⟨a1.toArray⟩:ByteArray)==(⟨a2.toArray⟩:ByteArray))=(a1==a2):=by
   cases U:(a1==a2)with
   |true=>rw[CX]at U;subst U;exact(MapKept.bytes_beq _ _).2 rfl
   |false=>
    cases V:((⟨a1.toArray⟩:ByteArray)==(⟨a2.toArray⟩:ByteArray))with
    |false=>rfl
    |true=>
     have:=(MapKept.bytes_beq _ _).1 V;injection this with this;have:a1=a2:=by simpa using this
     subst this;simp at U
  refine⟨by simp[Instr.sameNow,D],λh=>?_,⟨λe=>by simp only[CX]at e;rw[e],λe=>by have W:a2.toArray=a1.toArray:=congrArg ByteArray.data (Value.string.inj e);rw[show a2=a1 by simpa using W];simp⟩⟩;simp only[CX]at h;subst h;simp only[Instr.sameBits];exact(MapKept.bytes_beq _ _).2 rfl
 .rename_i a1 a2;obtain rfl:=Avy G;cases hk;cases O;cases z;refine⟨by simp[Instr.sameNow],λh=>?_,⟨λe=>by simp only[CX]at e;rw[e],λe=>by injection e with e;simp[e]⟩⟩
  simp only[CX]at h;subst h;simp[Instr.sameBits]
 .cases z
def Av6 (h:Aa)(mu:Mu)(w:World)(es:List (AV×AV))(ens:List MapEntry):Prop:=es.length=ens.length/\∀i,i<es.length->RV h mu w (es.getD i (.und,.und)).1 (ens.getD i default).key/\RV h mu w (es.getD i (.und,.und)).2 (ens.getD i default).val
def Av6.cons {x:AV×AV}{es:List (AV×AV)}{ens:List MapEntry}(D:Av6 h mu w (x::es) ens):∃y ys,ens=y::ys/\RV h mu w x.1 y.key/\RV h mu w x.2 y.val/\Av6 h mu w es ys:=by
 obtain⟨z,A⟩:=D;cases ens with
 |nil=>simp at z
 |cons y ys=>have h0:=A 0 (by simp);refine⟨y,ys,rfl,by simpa using h0.1,by simpa using h0.2,by simpa using z,λi hi=>?_⟩;have:=A (i+1) (by simpa using hi);simpa using this
def Acr{T:TK}(O:T=TK.of d){k:AV}(hk:RV h mu w k ck):∀(es:List (AV×AV)) (ens:List MapEntry) (i:Nat) {r:Option (Nat×AV)},Av6 h mu w es ens->S1 T k es i=some r->
  match r with
  |none=>Instr.findNow d ck ens i=some none/\∀x∈ens,x.key≠ck
  |some (j,v)=>∃e n,j=i+n/\ens[n]?=some e/\Instr.findNow d ck ens i=some (some (j,e.val))/\RV h mu w v e.val/\n<es.length/\Instr.sameBits 10000 e.key ck=true/\e.key=ck
 |[],ens,i,r,A,z=>by
  have:ens=[]:=by have:=A.1;cases ens<;>simp_all
  subst this;simp[S1]at z;subst z;exact⟨rfl,λx z=>by cases z⟩
 |x::es,ens,i,r,A,z=>by
  obtain⟨y,ys,rfl,U,V,W⟩:=A.cons;unfold S1 at z;cases D:Aag T k x.1 with
  |none=>rw[D]at z;cases z
  |some b=>
   rw[D]at z;obtain⟨G,X,S⟩:=A3r O hk U D;cases b with
   |true=>cases z;exact⟨y,0,rfl,rfl,by simp[Instr.findNow,G],V,by simp,X rfl,S.1 rfl⟩
   |false=>
    have:=Acr O hk es ys (i+1) W z;cases r with
    |none=>
     simp only at this ⊢;refine⟨by simp[Instr.findNow,G,this.1],λx z=>?_⟩;rcases AN.1 z with rfl|z
     .intro e;have:=S.2 e;cases this
     .exact this.2 x z
    |some p=>obtain⟨j,v⟩:=p;obtain⟨e,n,q1,Y,Z,q4,q5,q6,q7⟩:=this;exact⟨e,n+1,by omega,by simpa using Y,by simp[Instr.findNow,G,Z],q4,by simpa using q5,q6,q7⟩
def A4y (es es':List (AV×AV)):Prop:=es'=es\/∃l z:List (List UInt8×AV),z.Perm l/\(l.map (·.1)).Nodup/\es=(l.map λp=>(.str p.1,p.2))/\es'=(z.map λp=>(.str p.1,p.2))
def Bcy{t:TK}:∀(l:List (List UInt8×AV)) (i:Nat) {r:Option (Nat×AV)},S1 t (.str k) (l.map λp=>(.str p.1,p.2)) i=some r->l=[]\/t=.str
 |[],_,_,_=>.inl rfl
 |p::l,i,r,z=>by simp only[BM,S1]at z;cases t<;>first|exact .inr rfl|(simp[Aag]at z)
def Aj1:∀(l:List (List UInt8×AV)) (i:Nat),∃r,S1 .str (.str k) (l.map λp=>(.str p.1,p.2)) i=some r/\r.map (·.2)=(l.find? λp=>k==p.1).map (·.2)
 |[],_=>⟨none,rfl,rfl⟩
 |p::l,i=>by
  simp only[BM,S1,Aag,FP];cases z:(k==p.1)with
  |true=>exact⟨_,rfl,rfl⟩
  |false=>exact Aj1 l (i+1)
def A7n(z:(l.map (·.1)).Nodup){p:List UInt8×AV}(hp:p∈l)(hk:k=p.1):l.find? (λq=>k==q.1)=some p:=by
 induction l with
 |nil=>cases hp
 |cons a l D=>
  rw[FP];simp only[BM,DY]at z;rcases AN.1 hp with rfl|hp
  .simp[hk]
  .have:(k==a.1)=false:=by
    cases A:(k==a.1)with
    |false=>rfl
    |true=>rw[CX]at A;exact absurd (CC.2 ⟨p,hp,hk.symm.trans A⟩) z.1
   rw[this]
   exact D z.2 hp
def A8m{A:List (List UInt8×AV)}(hp:A.Perm l)(D:(l.map (·.1)).Nodup):A.find? (λq=>k==q.1)=l.find? (λq=>k==q.1):=by
 have z:(A.map (·.1)).Nodup:=(hp.map _).nodup_iff.2 D;cases h:l.find? (λq=>k==q.1)with
 |some p=>have G:=HG h;have O:=List.find?_some h;exact A7n z (hp.mem_iff.2 G) (by simpa using O)
 |none=>rw[List.find?_eq_none]at h ⊢;exact λx S=>h x (hp.mem_iff.1 S)
def Aps{t:TK}{k:AV}(O:A4y es es')(hk:Aic t k=true){r:Option (Nat×AV)}(z:S1 t k es 0=some r):∃G,S1 t k es' 0=some G/\G.map (·.2)=r.map (·.2):=by
 rcases O with rfl|⟨l,S,hp,A,rfl,rfl⟩
 .exact⟨r,z,rfl⟩
 .by_cases D:l=[]
  .subst D;obtain rfl:=hp.eq_nil;exact⟨r,z,rfl⟩
  .cases k with
   |str k=>
    rcases Bcy l 0 z with h|rfl
    .exact absurd h D
    .obtain⟨Y,U,V⟩:=Aj1 (k:=k) l 0;rw[U]at z;cases z;obtain⟨r2,W,X⟩:=Aj1 (k:=k) S 0;exact⟨r2,W,by rw[X,V,A8m hp A]⟩
   |_=>
    obtain⟨p,l,rfl⟩:∃p l',l=p::l':=by cases l with|nil=>exact absurd rfl D|cons p l=>exact⟨p,l,rfl⟩
    simp only[BM,S1]at z;cases t<;>simp[Aag]at z
def Al2{G:TypeId}{KT:TI}(O:ti P G=some KT){k:AV}(hk:RV h mu w k ck)(D:Aic KT.k k=true)(e:Bool):(Instr.checkKey e 10000 G ck).run P w=.ok () w:=by
 obtain⟨d,S,z⟩:=Ek O;unfold Aic at D;have:MapKept.IsKey d ck:=by
  split at D<;>(try cases D)
  .rename_i A;rw[A]at z;obtain rfl:=Aae z;cases hk;simpa[MapKept.IsKey]using D
  .rename_i A;rw[A]at z;obtain rfl:=Wp z;cases hk;simp[MapKept.IsKey]
  .rename_i A;rw[A]at z;obtain rfl:=Avy z;cases hk;simp[MapKept.IsKey]
 exact MapKept.run_checkKey S this e 9999
def A6h{S:TypeId}{G:TI}(V:ti P S=some G)(D:Gm G.z 0 G.size G.k.agg=some v):∃c,(zeroValue S).run P w=.ok c w/\RV h mu w v c:=by
 obtain⟨z,W,X,Y,Z,h5⟩:=A4d V;obtain⟨a1,a2⟩:=Td (w:=w) (mu:=mu) (M:=C0 h mu) X;refine⟨z,W w,?_⟩;unfold Gm at D;cases A:G.k.agg with
 |true=>
  rw[A]at D;simp only[if_true,AE]at D;split at D
  .cases D;rw[Z A];have:(G.z.drop 0).take G.size=G.z:=by simp[<-h5]
   rw[this];have:=Rv.agg (w:=w) (mu:=mu) (M:=C0 h mu) G.z z.cells.toList a1 a2;simpa using this
  .cases D
 |false=>
  rw[A]at D;simp only[BD,if_false]at D;split at D
  .rename_i O;cases D;have U:=Y A;have hc:z.cells.toList=[z]:=by cases z<;>simp_all[Value.oneCell',Value.cells]
   have:=a2 0 O;rw[hc]at this;simpa using this
  .cases D
def Aal {es:Array MapEntry}(i:Nat):es.toList.getD i default=es.getD i default:=by simp[CB,List.getD]
def A3d(s:Sim B mu h w)(S:RV h mu w m c)(A:Afp h m=some es):
  ∃(ens:Array MapEntry) (es':List (AV×AV)),((c=.map none/\ens=#[])\/∃r z,c=.map (some r)/\w.heap[r]?=some (.map ens z))/\Av6 h mu w es' ens.toList/\A4y es es':=by
 unfold Afp at A
 split at A
 .cases A;cases S;exact⟨#[],[],.inl ⟨rfl,rfl⟩,⟨rfl,λi hi=>by simp at hi⟩,.inl rfl⟩
 .split at A
  .rename_i Z;split at A
   .rename_i hg;subst hg;cases A;cases S with
    |map _ _ l O hc=>obtain⟨l',Y,k2,ens,z,k3,k4,k5⟩:=s.maps _ _ _ Z;rw[O]at Y;cases Y;exact⟨ens,_,.inr ⟨_,z,rfl,k3.1⟩,⟨by simpa using k4,λi hi=>by rw[Aal];exact k5 i hi⟩,.inl rfl⟩
   .cases A
  .cases A
 .cases A;cases S with
  |mapc _ G hp U b ens z V O W X h3 h4=>
   refine⟨ens,G.map λp=>(.str p.1,p.2),.inr ⟨_,z,rfl,V⟩,⟨by simpa using O,λi hi=>?_⟩,.inr ⟨_,G,hp,U,rfl,rfl⟩⟩;have D:i<G.length:=by simpa using hi
   have e:(G.map λp=>(AV.str p.1,p.2)).getD i (.und,.und)=(.str (G.getD i ([],.und)).1,(G.getD i ([],.und)).2):=by simp[List.getD,D]
   rw[Aal,e];exact⟨by rw[W i D];exact .str _,X i D⟩
 .cases A;cases S with
  |mapi0=>exact⟨#[],[],.inl ⟨rfl,rfl⟩,⟨rfl,λi hi=>by simp at hi⟩,.inl rfl⟩
  |mapi _ b ens z V aa O W X h3 h4=>exact⟨ens,_,.inr ⟨_,z,rfl,V⟩,⟨by simpa using O,λi hi=>by rw[Aal];exact⟨W i hi,X i hi⟩⟩,.inl rfl⟩
 .cases A
def Az9(s:Sim B mu h w){k:AV}{cm:Value}{ok:Bool}(hm:RV h mu w m cm)(hk:RV h mu w k ck)(A:Sq P h t m k ok=some v):
  ∃c,(Instr.lookup t cm ck ok).run P w=.ok c w/\RV h mu w v c:=by
 unfold Sq at A
 split at A
 .rename_i T hT;split at A
  .rename_i kt et ad;split at A
   .rename_i KT ET es aa ae af;split at A
    .rename_i V;obtain⟨d,hd,ab⟩:=Ek hT;rw[ad]at ab;obtain rfl:=Amm ab;obtain⟨kd,W,S⟩:=Ek aa;obtain⟨ens,es',r1,r2,U⟩:=A3d s hm af;have X:=λe=>Al2 (P:=P) aa hk V e;have D:∀{x:AV} {c:Value} (b:Bool),RV h mu w x c->RV h mu w (if ok then .tup [x,.bool b]else x) (if ok then .tuple #[c,.bool b]else c):=by
      intro x c b ac;cases ok with
      |false=>simpa using ac
      |true=>
       have:=Rv.tup (w:=w) (mu:=mu) (M:=C0 h mu) [x,.bool b] [c,.bool b] rfl (λi hi=>by
        match i,hi with
        |0,_=>simpa using ac
        |1,_=>simpa using Rv.bool b)
       simpa using this
     split at A
     .rename_i j0 v0 Y;cases A;obtain⟨r',hf,O⟩:=Aps U V Y;obtain⟨j,v',rfl⟩:∃j v',r'=some (j,v'):=by cases r' with|none=>simp at O|some q=>exact⟨q.1,q.2,rfl⟩
      obtain rfl:v'=v0:=by simpa using O
      obtain⟨e,n,q1,q2,q3,q4,q5,q6,q7⟩:=Acr S hk es' ens.toList 0 r2 hf;refine⟨_,?_,D true q4⟩;unfold Instr.lookup;simp only[Sem.run_bind,run_underlying hd,Result.andThen_ok];rcases r1 with⟨rfl,rfl⟩|⟨r,Z,rfl,hr⟩
      .simp at q2
      .simp only[Sem.run_bind,MapKept.run_getObj_map hr,Result.andThen_ok,X,MapKept.run_findKey W q3,Sem.run_pure]
     .rename_i Y;obtain⟨r',hf,O⟩:=Aps U V Y;obtain rfl:r'=none:=by simpa using O
      have G:=Acr S hk es' ens.toList 0 r2 hf;simp only at G;replace G:=G.1;split at A
      .rename_i z hz;cases A;obtain⟨c,c1,c2⟩:=A6h (w:=w) (h:=h) (mu:=mu) ae hz;refine⟨_,?_,D false c2⟩;unfold Instr.lookup;simp only[Sem.run_bind,run_underlying hd,Result.andThen_ok];rcases r1 with⟨rfl,rfl⟩|⟨r,Z,rfl,hr⟩
       .simp only[Sem.run_bind,Result.andThen_ok,X,MapKept.run_findKey W G,c1,Sem.run_pure]
       .simp only[Sem.run_bind,MapKept.run_getObj_map hr,Result.andThen_ok,X,MapKept.run_findKey W G,c1,Sem.run_pure]
      .cases A
     .cases A
    .cases A
   .cases A
  .cases A
 .cases A
def A0l (s:Sim B mu h w){K:AV->Aa->Prop}(hK:Amr h K):∃v c h' mu' w',(do pure (.map (some (<-newObj (.map #[] 0)))):Sem Value).run P w=.ok c w'/\RV h' mu' w' v c/\K v h'/\Sim B mu' h' w'/\Ez h mu w h' mu' w':=by
 obtain⟨o,ho,hK⟩:=hK;obtain⟨g,hg⟩:=s.fresh o;refine⟨.map o g,.map (some w.heap.size),upd h o (some (.mp g [])),Dm mu o g ⟨w.heap.size,0,0,0,false⟩,w.alloc (.map #[] 0),rfl,?_,hK g,?_⟩
 .exact .map o g ⟨w.heap.size,0,0,0,false⟩ (by simp[Dm]) rfl
 have Y:∀o' g' l,mu o' g'=some l->Dm mu o g ⟨w.heap.size,0,0,0,false⟩ o' g'=some l:=by
  intro o' g' l S;unfold Dm;rw[if_neg]
  .exact S
  .rintro⟨rfl,rfl⟩;rw[hg]at S;cases S
 have D:∀o' g' l,Dm mu o g ⟨w.heap.size,0,0,0,false⟩ o' g'=some l->(o'=o/\g'=g/\l=⟨w.heap.size,0,0,0,false⟩)\/mu o' g'=some l:=by
  intro o' g' l S;unfold Dm at S;split at S
  .rename_i hh;cases S;exact .inl ⟨hh.1,hh.2,rfl⟩
  .exact .inr S
 have z:∀o' x,upd h o (some (.mp g [])) o'=some x->(o'=o/\x=.mp g [])\/(o'≠o/\h o'=some x):=by
  intro o' x V;unfold upd at V;split at V
  .cases V;exact .inl ⟨‹_›,rfl⟩
  .exact .inr ⟨‹_›,V⟩
 have W:∀{o' g' l},mu o' g'=some l->l.b<w.heap.size:=λS=>(s.muOk _ _ _ S).2.1;have hM:∀b,b<w.heap.size->¬C0 h mu b->¬C0 (upd h o (some (.mp g []))) (Dm mu o g ⟨w.heap.size,0,0,0,false⟩) b:=by
  rintro b hb hn ⟨o',x,l,V,S,rfl⟩;rcases D _ _ _ S with⟨_,_,rfl⟩|U
  .simp at hb
  .rcases z _ _ V with⟨rfl,rfl⟩|⟨_,A⟩
   .simp only[AO.gen]at U;rw[hg]at U;cases U
   .exact hn ⟨o',x,l,A,U,rfl⟩
 have ext:Ez h mu w (upd h o (some (.mp g []))) (Dm mu o g ⟨w.heap.size,0,0,0,false⟩) (w.alloc (.map #[] 0)):=⟨rfl,rfl,rfl,by rw[Ey];omega,λb hb hn=>⟨Ds hb,hM b hb hn⟩,Y⟩;refine⟨⟨?_,?_,?_,?_,?_,?_,?_,s.globE ext,λo' g' x V=>by
  rcases z _ _ V with⟨rfl,A⟩|⟨ae,A⟩
  .cases A
  .obtain⟨l,X,Z,h3⟩:=s.blks _ _ _ A;exact⟨l,Y _ _ _ X,Z,by rw[Ds (W X)];exact h3⟩⟩,ext⟩
 .rw[Ey];exact GF s.base
 .intro o' g' l S;rcases D _ _ _ S with⟨_,_,rfl⟩|U
  .exact⟨s.base,by rw[Ey];simp,λhh=>by simp at hh⟩
  .obtain⟨X,Z,h3⟩:=s.muOk _ _ _ U;refine⟨X,by rw[Ey];omega,λaj=>?_⟩;rw[Ds Z];exact h3 aj
 .obtain⟨N,hN⟩:=s.fin;refine⟨max N (g+1),λo' g' ak=>?_⟩;unfold Dm;rw[if_neg (by omega)];exact hN _ _ (by omega)
 .obtain⟨N,hN⟩:=s.finh;refine⟨max N (o+1),λo' ak=>?_⟩;unfold upd;rw[if_neg (by omega)];exact hN _ (by omega)
 .intro o' g' al rs' V;rcases z _ _ V with⟨rfl,A⟩|⟨ae,A⟩
  .cases A
  .obtain⟨l,X,Z,h3,h4,h5,h6⟩:=s.rows _ _ _ _ A;refine⟨l,Y _ _ _ X,Z,h3,h4,h5,λi j hi hj=>?_⟩;obtain⟨c,am,an⟩:=h6 i j hi hj;refine⟨c,?_,an.ext ext⟩;rw[cell?_of_heap (w:=w) (a:=⟨l.b,l.base+i*al+j,none⟩) (Ds (W X))];exact am
 .intro o' g' es V;rcases z _ _ V with⟨rfl,A⟩|⟨ae,A⟩
  .cases A;exact⟨⟨w.heap.size,0,0,0,false⟩,by simp[Dm],rfl,#[],0,⟨Rc,MapKept.stamped_empty 0⟩,rfl,λi hi=>by simp at hi⟩
  .obtain⟨l,X,Z,ens,aa,h3,h4,h5⟩:=s.maps _ _ _ A;exact⟨l,Y _ _ _ X,Z,ens,aa,by rw[Ds (W X)];exact h3,h4,λi hi=>⟨(h5 i hi).1.ext ext,(h5 i hi).2.ext ext⟩⟩
 .intro o1 o2 x1 x2 l1 l2 ao ap ab ac ad;rcases z _ _ ao with⟨rfl,rfl⟩|⟨af,ag⟩<;>rcases z _ _ ap with⟨rfl,rfl⟩|⟨ah,ai⟩
  .rfl
  .rcases D _ _ _ ab with⟨_,_,rfl⟩|G
   .rcases D _ _ _ ac with⟨e2,_,_⟩|O
    .exact e2.symm
    .have:=W O;simp at ad;omega
   .simp only[AO.gen]at G;rw[hg]at G;cases G
  .rcases D _ _ _ ac with⟨_,_,rfl⟩|O
   .rcases D _ _ _ ab with⟨e2,_,_⟩|G
    .exact e2
    .have:=W G;simp at ad;omega
   .simp only[AO.gen]at O;rw[hg]at O;cases O
  .rcases D _ _ _ ab with⟨e1,_,_⟩|G
   .exact absurd e1 af
   .rcases D _ _ _ ac with⟨e2,_,_⟩|O
    .exact absurd e2 ah
    .exact s.inj _ _ _ _ _ _ ag ai G O ad
def Sim.putMap(s:Sim B mu h w){o g:Nat}{l:Loc}{G:Nat}(hx:h o=some (.mp g es))(hl:mu o g=some l)(ag:l.cells=false)(hb:∃x,w.heap[l.b]?=some x/\(∃a c,x=.map a c))(hw:w'={w with heap:=w.heap.setIfInBounds l.b (.map ens G)})(ah:MapKept.Stamped ens G)(he:es'.length=ens.size)(hc:∀i,i<es'.length->RV h mu w (es'.getD i (.und,.und)).1 (ens.getD i default).key/\RV h mu w (es'.getD i (.und,.und)).2 (ens.getD i default).val):
  Sim B mu (upd h o (some (.mp g es'))) w'/\Ez h mu w (upd h o (some (.mp g es'))) mu w':=by
 obtain⟨x0,ac,x1,x2,ai⟩:=hb
 subst ai
 have ab:=MapKept.heap_set (o':=.map ens G) ac
 have ad:w'.heap[l.b]?=some (.map ens G):=by rw[hw];exact ab.1
 have A:∀b,b≠l.b->w'.heap[b]?=w.heap[b]?:=λb O=>by rw[hw];exact ab.2 b O
 have U:w'.heap.size=w.heap.size:=by rw[hw];simp
 have D:∀V x,upd h o (some (.mp g es')) V=some x->(V=o/\x=.mp g es')\/(V≠o/\h V=some x):=by
  intro V x S;unfold upd at S;split at S
  .cases S;exact .inl ⟨‹_›,rfl⟩
  .exact .inr ⟨‹_›,S⟩
 have aj:C0 h mu l.b:=⟨o,_,l,hx,hl,rfl⟩
 have hM:∀b,¬C0 h mu b->¬C0 (upd h o (some (.mp g es'))) mu b:=by
  rintro b hn ⟨V,x,X,S,h2,rfl⟩;rcases D _ _ S with⟨rfl,rfl⟩|⟨_,z⟩
  .exact hn ⟨_,_,_,hx,h2,rfl⟩
  .exact hn ⟨_,_,_,z,h2,rfl⟩
 have ext:Ez h mu w (upd h o (some (.mp g es'))) mu w':=⟨by rw[hw],by rw[hw],by rw[hw],by rw[U];exact AF _,λb _ hb=>⟨A b (λe=>hb (e▸aj)),hM b hb⟩,λ_ _ _ h=>h⟩
 have Y:∀{V x X},V≠o->h V=some x->mu V x.gen=some X->X.b≠l.b:=λO S h2 hb=>O (s.inj _ _ _ _ _ _ S hx h2 hl hb)
 refine⟨⟨by rw[U];exact s.base,?_,s.fin,?_,?_,?_,?_,s.globE ext,λV g1 x S=>by
  rcases D _ _ S with⟨rfl,z⟩|⟨O,z⟩
  .cases z
  .obtain⟨X,Z,k2,k3⟩:=s.blks _ _ _ z;exact⟨X,Z,k2,by rw[A _ (Y O z Z)];exact k3⟩⟩,ext⟩
 .intro V g1 X S;obtain⟨Z,k2,k3⟩:=s.muOk _ _ _ S;refine⟨Z,by rw[U];exact k2,λae=>?_⟩;have W:X.b≠l.b:=by intro W;obtain⟨c1,e1,f1,q1,_⟩:=k3 ae;rw[W,ac]at q1;cases q1
  rw[A _ W];exact k3 ae
 .obtain⟨N,hN⟩:=s.finh;refine⟨max N (o+1),λo' an=>?_⟩;unfold upd;rw[if_neg (by omega)];exact hN _ (by omega)
 .intro V g1 ak ao S;rcases D _ _ S with⟨rfl,z⟩|⟨O,z⟩
  .cases z
  .obtain⟨X,Z,k2,k3,k4,k5,k6⟩:=s.rows _ _ _ _ z;refine⟨X,Z,k2,k3,k4,k5,λi j hi hj=>?_⟩;obtain⟨c,al,am⟩:=k6 i j hi hj;refine⟨c,?_,am.ext ext⟩;rw[cell?_of_heap (w:=w) (w':=w') (a:=⟨X.b,X.base+i*ak+j,none⟩) (A _ (Y O z Z))];exact al
 .intro V g1 ap S;rcases D _ _ S with⟨rfl,z⟩|⟨O,z⟩
  .cases z;exact⟨l,hl,ag,ens,G,⟨ad,ah⟩,he,λi hi=>⟨(hc i hi).1.ext ext,(hc i hi).2.ext ext⟩⟩
  .obtain⟨X,Z,k2,af,aa,k3,k4,k5⟩:=s.maps _ _ _ z;exact⟨X,Z,k2,af,aa,by rw[A _ (Y O z Z)];exact k3,k4,λi hi=>⟨(k5 i hi).1.ext ext,(k5 i hi).2.ext ext⟩⟩
 .intro V o2 x1 x2 X l2 S h2 q1 q2 W;rcases D _ _ S with⟨rfl,rfl⟩|⟨n1,a1⟩<;>rcases D _ _ h2 with⟨rfl,rfl⟩|⟨n2,a2⟩
  .rfl
  .simp only[AO.gen]at q1;rw[hl]at q1;cases q1;exact absurd W.symm (Y n2 a2 q2)
  .simp only[AO.gen]at q2;rw[hl]at q2;cases q2;exact absurd W (Y n1 a1 q1)
  .exact s.inj _ _ _ _ _ _ a1 a2 q1 q2 W
def Aks(s:Sim B mu h w){k:AV}{cm cv:Value}(hm:RV h mu w m cm)(hk:RV h mu w k ck)(hv:RV h mu w v cv)(A:Zg P h t m k v=some h'):
  ∃w',(Instr.mapUpdate t cm ck cv).run P w=.ok () w'/\Sim B mu h' w'/\Ez h mu w h' mu w':=by
 unfold Zg at A
 split at A
 .rename_i T hT;split at A
  .rename_i kt et ac;split at A
   .rename_i KT o g V;split at A
    .rename_i g' es hh;split at A
     .rename_i hc;obtain⟨rfl,ad⟩:=hc;obtain⟨d,hd,W⟩:=Ek hT;rw[ac]at W;obtain rfl:=Amm W;obtain⟨kd,X,O⟩:=Ek V;have Y:=Al2 (P:=P) V hk ad false;cases hm with
      |map _ _ l hl Z=>
       obtain⟨l',k1,k2,ens,z,S,k4,k5⟩:=s.maps _ _ _ hh;rw[hl]at k1;cases k1;have r2:Av6 h mu w es ens.toList:=⟨by simpa using k4,λi hi=>by rw[Aal];exact k5 i hi⟩;split at A
       .rename_i j v' hf;cases A;obtain⟨e,n,q1,q2,q3,q4,q5,q6,q7⟩:=Acr O hk es ens.toList 0 r2 hf;have ae:j=n:=by omega
        subst ae;have hn:ens[j]?=some e:=by simpa using q2
        refine⟨{w with heap:=w.heap.setIfInBounds l.b (.map (ens.modify j λe=>{e with key:=ck,val:=cv}) z)},?_,?_⟩
        .unfold Instr.mapUpdate;simp only[Sem.run_bind,run_underlying hd,Result.andThen_ok,MapKept.run_getObj_map S.1,Y,MapKept.run_findKey X q3,hn,AQ,BH,Instr.keyThatStays,q6,if_true,Sem.run_pure,MapKept.run_setObj_map _ S.1]
        .refine Sim.putMap s hh hl Z ⟨_,S.1,_,_,rfl⟩ rfl (MapKept.stamped_modify S.2 _ _ (λ_ _=>rfl) (λe' _ aa=>by rw[hn]at aa;cases aa;exact q7.symm)) (by simp[k4]) (λi hi=>?_);have U:i<es.length:=by simpa using hi
         have ag:i<ens.size:=by omega
         by_cases D:i=j
         .subst D;rw[show(es.set i (k,v)).getD i (.und,.und)=(k,v)by simp[List.getD,U]];rw[show(ens.modify i λe=>{e with key:=ck,val:=cv}).getD i default={e with key:=ck,val:=cv}by simp[CB,GJ,hn]];exact⟨hk,hv⟩
         .rw[show(es.set j (k,v)).getD i (.und,.und)=es.getD i (.und,.und)by simp[List.getD,EY (Ne.symm D)]];rw[show(ens.modify j λe=>{e with key:=ck,val:=cv}).getD i default=ens.getD i default by simp[CB,GJ,Ne.symm D]];exact k5 i U
       .rename_i hf;cases A;have G:=Acr O hk es ens.toList 0 r2 hf;simp only at G;obtain⟨G,af⟩:=G;refine⟨{w with heap:=w.heap.setIfInBounds l.b (.map (ens.push {key:=ck,val:=cv,born:=z}) (z+1))},?_,?_⟩
        .unfold Instr.mapUpdate;simp only[Sem.run_bind,run_underlying hd,Result.andThen_ok,MapKept.run_getObj_map S.1,Y,MapKept.run_findKey X G,MapKept.run_setObj_map _ S.1]
        .refine Sim.putMap s hh hl Z ⟨_,S.1,_,_,rfl⟩ rfl (MapKept.stamped_push S.2 af) (by simp[k4]) (λi hi=>?_);have U:i<es.length+1:=by simpa using hi
         by_cases D:i=es.length
         .subst D;rw[show(es++[(k,v)]).getD es.length (.und,.und)=(k,v)by simp[List.getD]];rw[show(ens.push {key:=ck,val:=cv,born:=z}).getD es.length default={key:=ck,val:=cv,born:=z}by simp[CB,k4]];exact⟨hk,hv⟩
         .have ab:i<es.length:=by omega
          rw[show(es++[(k,v)]).getD i (.und,.und)=es.getD i (.und,.und)by simp[List.getD,CT ab]]
          rw[show(ens.push {key:=ck,val:=cv,born:=z}).getD i default=ens.getD i default by simp[CB,Array.getElem?_push,show i≠ens.size by omega]]
          exact k5 i ab
       .cases A
     .cases A
    .cases A
   .cases A
  .cases A
 .cases A
end
def Aa6 (P:Program)(h:Aa)(sT xT:TypeId)(n:Int)(K:AV->Aa->Prop):Prop:=
 match ti P sT,ti P xT with
 |some S,some X=>match S.k,X.k with
  |.sl e,.int _=>match ti P e with
   |some E=>0<E.size/\0<E.bytes/\E.z.all AV.flat=true/\0<n/\n.toNat*E.bytes<=Bj/\Xx h E.size (List.replicate n.toNat E.z) (λo g h'=>K (.ref o g 0 n.toNat) h')
   |none=>False
  |_,_=>False
 |_,_=>False
section
variable[GW P]{B:Base P}
def Axz{W k:IntKind}(X:P.underlying sT=some (.slice e))(Y:P.underlying xT=some (.int W))(hi:P.info? e=some i)(hz:i.zero=some z)(hn:0<n)(hs:0<i.size)(Z:n*i.bytes<=140737488355328)(D:0<i.bytes):
  (Builtin.append_ #[sT,xT] ty #[.slice base 0 0,.int k (n:Int)]).run P w=
   .ok (.slice (some ⟨w.heap.size,0,none⟩) n (grownCap w (0+n) 0 e))
    (w.drew.alloc (.cells ((([]:List Value).toArray++Builtin.zeroCells z.cells n)++Builtin.zeroCells z.cells (grownCap w (0+n) 0 e-(0+n))) e)):=by
 have aa:n<=n*i.bytes:=BT _ D
 have hw:IntKind.i64.wrap (n:Int)=n:=Aoh (by omega) (by omega)
 have h1:¬((n:Int)<0):=by omega
 have h2:¬(281474976710656<(n:Int)*(i.bytes:Int)):=by rw[<-Int.natCast_mul];omega
 have h3:¬(n*i.size=0):=by intro G;rcases HY.1 G with G|G<;>omega
 have O:¬(9223372036854775807<(n:Int)):=by omega
 have S:=growslice_fits (need:=0+n) (old:=0) (bytes:=i.bytes) (by omega) (by rw[AE];exact Z)
 have A:¬(281474976710656<Builtin.nextslicecap n 0*i.bytes):=by simp only[AE]at S;omega
 have U:∀w',(Builtin.firstCells i.size 0 (.slice base 0 0)).run P w'=.ok (([]:List Value)).toArray w':=by intro w';cases base<;>simp[Builtin.firstCells,loadCells,loadCellsFrom]
 have V:¬n=0:=by omega
 simp[Builtin.append_,run_underlying X,run_underlying Y,asInt,asIntOf,sizeOf,typeInfo,zeroValue,hi,hz,hw,h1,h2,h3,O,A,V,Question.forced,U,newRow,grownCap]
def Ax1(s:Sim B mu h w){k:IntKind}{n:Int}{cs:Value}{K:AV->Aa->Prop}(hs:RV h mu w .emp cs)(hx:RV h mu w (.int k n) cx)(A:Aa6 P h sT xT n K):
  ∃v c h' mu' w',(Builtin.append_ #[sT,xT] ty #[cs,cx]).run P w=.ok c w'/\RV h' mu' w' v c/\K v h'/\Sim B mu' h' w'/\Ez h mu w h' mu' w':=by
 unfold Aa6 at A
 split at A
 .rename_i S X hS hX;split at A
  .rename_i e kx hk Y;split at A
   .rename_i E hE;obtain⟨ak,Z,aa,hn,D,V⟩:=A;obtain⟨dS,ab,ac⟩:=Ek hS;have:=Fq (hk▸ac);subst this;obtain⟨dX,ad,ae⟩:=Ek hX;have:=Aae (Y▸ae);subst this;obtain⟨dE,iE,z,e1,e2,e3,e4,e5,e6,W,e8,e9,al⟩:=Pj hE;obtain⟨zl,_⟩:=Td (w:=w) (mu:=mu) (M:=C0 h mu) e4;have U:z.cells.size=iE.size:=by rw[<-W,<-e5,zl];simp
    obtain⟨r1,r2,r3⟩:=An7 (w:=w) (mu:=mu) (M:=C0 h mu) (i:=iE) e4 e5 aa n.toNat;cases hs with
    |emp a=>
     cases hx;have af:((n.toNat:Nat):Int)=n:=GV (by omega);have G:=Axz (P:=P) (ty:=ty) (w:=w) (k:=k) (base:=a) (n:=n.toNat) ab ad e2 e3 (by omega) (by omega) (by rw[<-e8];simpa[Bj]using D) (by omega);rw[af]at G;have hd:=s.drew;have ag:Builtin.zeroCells z.cells n.toNat=(Array.range (n.toNat*E.size)).map (z.cells[·%z.cells.size]!):=by simp only[Builtin.zeroCells,U,<-W]
     obtain⟨o,g,mu',m1,m2,m3,m4⟩:=Vr (base:=0) (e:=e) (cells:=(([]:List Value).toArray++Builtin.zeroCells z.cells n.toNat)++Builtin.zeroCells z.cells (grownCap w (0+n.toNat) 0 e-(0+n.toNat))) hd.1 V
      (by simp only[DM,CS,CW,Air,U,<-W,DO];omega)
      r2
      (by intro i j hi hj;rw[DO]at hi;obtain⟨x,ah,ai⟩:=r3 i j (by simpa using hi) hj;refine⟨x,?_,ai.ext hd.2⟩;have aj:=Jz (st:=E.size) hi hj;rw[AE,ag];simp only[CM,Array.empty_append];rw[BJ (by simpa using aj)];simpa using ah)
     refine⟨_,_,_,mu',_,G,?_,m2,m3,hd.2.trans m4⟩;have O:n.toNat<=grownCap w (0+n.toNat) 0 e:=by have:=grownCap_ge w (0+n.toNat) 0 e;omega
     have:=Rv.ref (w:=w.drew.alloc (.cells ((([]:List Value).toArray++Builtin.zeroCells z.cells n.toNat)++Builtin.zeroCells z.cells (grownCap w (0+n.toNat) 0 e-(0+n.toNat))) e)) (M:=C0 (upd h o (some (.rows g E.size (List.replicate n.toNat E.z)))) mu') o g 0 n.toNat (grownCap w (0+n.toNat) 0 e) _ m1 rfl O (CR (BT _ Z) D) (by simp only[DM,CS,CW,Air,U,<-W,AE]at O ⊢;rw[<-AI];exact GC (by congr 1;omega));simpa using this
   .exact A.elim
  .exact A.elim
 .exact A.elim
end
def Ank (P:Program)(h:Aa)(dT:TypeId)(d x:AV)(K:AV->Aa->Prop):Prop:=
 match ti P dT with
 |some D=>match D.k with
  |.sl e=>match ti P e with
   |some E=>match F6 P h E.size false x,d with
    |some src,.refc o g r c len _=>E.size=1/\src.length<=len/\(match h o with
     |some (.rows g' st rs)=>g'=g/\r<rs.length/\c+len<=st/\K (.int .i64 (src.length:Int)) (upd h o (some (.rows g st (rs.set r (Fd (rs.getD r []) c (src.map (·.getD 0 .und)))))))
     |_=>False)
    |_,_=>False
   |none=>False
  |_=>False
 |none=>False
variable{dT:TypeId}{cd:Value}{K':AV→Aa→Prop}
section
variable[GW P]{B:Base P}
def A97(s:Sim B mu h w){o g' r c:Nat}{rs:List (List AV)}{l:Loc}{vs:List AV}{cs:List Value}(hh:h o=some (.rows g' st rs))(hl:mu o g'=some l)(ac:l.cells=true)(hr:r<rs.length)(W:vs.length=cs.length)(ae:c+cs.length<=st)(A:vs.all AV.flat=true)(z2:∀i,i<vs.length->RV h mu w (vs.getD i .und) (cs.getD i undef)):
  ∃w',(storeCells ⟨l.b,l.base+r*st+c,none⟩ cs).run P w=.ok () w'/\Sim B mu (upd h o (some (.rows g' st (rs.set r (Fd (rs.getD r []) c vs))))) w'/\Ez h mu w (upd h o (some (.rows g' st (rs.set r (Fd (rs.getD r []) c vs))))) mu w':=by
 have z1:=W
 obtain⟨l',cells,e,f,k1,k2,k3,k4,k5,k6,k7,k8,k9⟩:=s.obj hh
 rw[hl]at k1;cases k1
 subst k3
 have X:∀j,j<cs.length->l.base+r*l.st+c+j<l.size:=λj V=>by have:=Jz (r:=r) (st:=l.st) (j:=c+j) hr (by omega);omega
 have z:=A8o hr k5
 have Y:∀u∈cs,u.oneCell'=true:=by
  intro u hu;obtain⟨i,hi,rfl⟩:=DK.1 hu;have G:i<vs.length:=by rw[z1];exact hi
  have:=z2 i G;rw[Do (AA hi)]at this;refine this.one ?_;rw[Do (AA G)];exact AJ.1 A _ (BK G)
 have Z:=run_storeCells_cells (P:=P) l.b (l.base+r*l.st+c) cs 0 w
  (λj V=>by rw[CL];unfold World.cell?;rw[k6];simp[k7,X j (by omega)])
  (λj V=>by
   rw[CL];unfold World.frozen?;rw[k6];have:=k8 _ (Nat.le_of_lt (X j (by omega)));cases hq:(decide (f.1<=l.base+r*l.st+c+j)&&decide (l.base+r*l.st+c+j<f.2))with
   |false=>exact hq
   |true=>simp only[AK,BB]at hq;exact absurd hq this) Y
 obtain⟨ab,q1,q2,q3,q4,q5,q6,q7,q8,q9⟩:=Wi l.b cs (l.base+r*l.st+c) w cells e f k6 (by rw[k7];have:=Jz (r:=r) (st:=l.st) (j:=0) hr;have:=AZ l.st (show r+1<=rs.length from hr);rw[AI]at this;omega)
 refine⟨w.setCells l.b (l.base+r*l.st+c) cs,?_,?_⟩
 .simpa using Z
 .have D:=Sim.put (rs':=rs.set r (Fd (rs.getD r []) c vs)) (l':=l) (g':=g') s hh hl q7 q8 q9 q6 q5 q1 (by rw[q2,k7]) k8 (.inl ⟨rfl,rfl⟩) rfl rfl ac
   (by simpa using k4)
   (by
    refine Aq9 k5 ⟨?_,?_⟩
    .rw[Xj (by rw[z.1];omega)];exact z.1
    .intro x hx;rcases Apt hx with hx|hx
     .exact z.2 x hx
     .exact AJ.1 A _ hx)
   (by
    intro i j hi V;rw[FZ]at hi;rw[Asx hr];by_cases O:i=r
    .subst O;rw[if_pos rfl,Agv (by rw[z.1];omega)];split
     .rename_i ad;have e1:l.base+i*l.st+j=l.base+i*l.st+c+(j-c):=by omega
      rw[e1];have:=q3 (j-c) (by omega);rw[this];have aa:j-c<cs.length:=by omega
      refine⟨cs[j-c],AA aa,?_⟩;have:=z2 (j-c) (by omega);rwa[Do (d:=undef) (AA aa)]at this
     .rename_i ad;obtain⟨x,S,U⟩:=k9 i j hi V;refine⟨x,?_,U⟩;rw[q4 _ (by omega)];exact S
    .rw[if_neg O];obtain⟨x,S,U⟩:=k9 i j hi V;refine⟨x,?_,U⟩;rw[q4 _ (by have:=Av4 (c:=c) (n:=cs.length) O V (by omega);omega)];exact S)
  rw[Aqg hl]at D
  exact D
def A6n(s:Sim B mu h w){d:AV}{K:AV->Aa->Prop}(hd:RV h mu w d cd)(hx:RV h mu w x cx)(A:Ank P h dT d x K):
  ∃v c h' mu' w',(Builtin.copy_ #[dT,xT] ty #[cd,cx]).run P w=.ok c w'/\RV h' mu' w' v c/\K v h'/\Sim B mu' h' w'/\Ez h mu w h' mu' w':=by
 unfold Ank at A
 split at A
 .rename_i D hD;split at A
  .rename_i e hk;split at A
   .rename_i E hE;obtain⟨dD,Y,Z⟩:=Ek hD;have:=Fq (hk▸Z);subst this;split at A
    .rename_i src o g r c len ag S;obtain⟨G,aa,A⟩:=A;obtain⟨U,news,n1,n2,n3,n4⟩:=X8 (P:=P) s hx S;rw[G,FX]at n1;rw[G]at n2 n3 n4;split at A
     .rename_i g' st rs hh;obtain⟨rfl,hr,ad,A⟩:=A;cases hd with
      |refc _ _ _ _ _ _ l hl ab ae af ah=>
       obtain⟨l',k1,k2,k3,_⟩:=s.rows _ _ _ _ hh;rw[hl]at k1;cases k1;have O:∀i,i<src.length->(src.map (·.getD 0 .und)).getD i .und=cell src i 0:=by intro i hi;simp[cell,List.getD,hi]
       obtain⟨w',p1,p2,p3⟩:=A97 s hh hl ab hr (vs:=src.map (·.getD 0 .und)) (cs:=news) (c:=c) (by simp[n1]) (by omega) (by
        rw[AJ];intro v hv;obtain⟨y,hy,rfl⟩:=CC.1 hv;obtain⟨q1,q2⟩:=n3 y hy;match y,q1,q2 with
        |[z],_,q2=>exact q2 z (AM.2 rfl)) (λi hi=>by
        have V:i<src.length:=by simpa using hi
        rw[O i V];have:=n4 i 0 V (by omega);simpa using this)
       refine⟨_,.int .i64 src.length,_,mu,w',?_,.int _ _,A,p2,p3⟩;have W:Nat.min src.length len=src.length:=GA aa;have ac:=n2 w rfl;rw[k3];have X:∀w',(sizeOf e).run P w'=.ok 1 w':=λw'=>by have:=Eh (w:=w') hE;rwa[G]at this
       simp[Builtin.copy_,run_underlying Y,U w,W,X,ac,p1,goInt]
     .exact A.elim
    .exact A.elim
   .exact A.elim
  .exact A.elim
 .exact A.elim
def A6e{d:AV}{K:AV->Aa->Prop}(D:∀v h',K v h'->K' v h')(z:Ank P h dT d x K):Ank P h dT d x K':=by
 unfold Ank at z ⊢;split at z
 .split at z
  .split at z
   .split at z
    .refine⟨z.1,z.2.1,?_⟩;have A:=z.2.2;split at A
     .exact⟨A.1,A.2.1,A.2.2.1,D _ _ A.2.2.2⟩
     .exact A.elim
    .exact z.elim
   .exact z.elim
  .exact z.elim
 .exact z.elim
end
inductive Fz (h h2:Aa):AV->AV->Prop
 |same (v:AV):Fz h h2 v v
 |ref (o g off len st:Nat) (rs rows:List (List AV)) (h1:h o=some (.rows g st rs)) (h2':h2 o=none) (hlen:rows.length=len) (hfit:off+len<=rs.length) (hr:∀r∈rows,Cy st r)
   (hc:∀i j,i<len->j<st->Fz h h2 (cell rs (off+i) j) (cell rows i j)):Fz h h2 (.ref o g off len) (.sl st rows)
 |ptr (o g r c st:Nat) (rs:List (List AV)) (row:List AV) (h1:h o=some (.rows g st rs)) (h2':h2 o=none) (hlt:r<rs.length) (hlen:row.length=st)
   (hc:∀j,j<st->Fz h h2 (cell rs r j) (row.getD j .und)):Fz h h2 (.ptr o g r c) (.cp row c)
 |agg (cs vs:List AV) (hl:cs.length=vs.length) (hc:∀i,i<cs.length->Fz h h2 (cs.getD i .und) (vs.getD i .und)):Fz h h2 (.agg cs) (.agg vs)
 |tup (cs vs:List AV) (hl:cs.length=vs.length) (hc:∀i,i<cs.length->Fz h h2 (cs.getD i .und) (vs.getD i .und)):Fz h h2 (.tup cs) (.tup vs)
 |iface (t:TypeId) (v v':AV) (hc:Fz h h2 v v'):Fz h h2 (.iface t v) (.iface t v')
 |cp (row row':List AV) (c:Nat) (hl:row.length=row'.length) (hc:∀i,i<row.length->Fz h h2 (row.getD i .und) (row'.getD i .und)):Fz h h2 (.cp row c) (.cp row' c)
 |sl (st:Nat) (rs rs':List (List AV)) (hl:rs.length=rs'.length) (hr:∀r∈rs',Cy st r) (hc:∀i j,i<rs.length->j<st->Fz h h2 (cell rs i j) (cell rs' i j)):Fz h h2 (.sl st rs) (.sl st rs')
 |sl0 (st st':Nat):Fz h h2 (.sl st []) (.sl st' [])
 |emp (st:Nat):Fz h h2 .emp (.sl st [])
 |snil (st:Nat):Fz h h2 .snil (.sl st [])
 |slx (st:Nat) (rows:List (List AV)):Fz h h2 (.slx st rows) (.sl st rows)
 |empx (st:Nat):Fz h h2 .emp (.slx st [])
 |refc (o g r c len cap st:Nat) (rs:List (List AV)) (vs:List AV) (h1:h o=some (.rows g st rs)) (h2':h2 o=none) (hr:r<rs.length) (hfit:c+len<=st) (hlen:vs.length=len) (hfl:∀v∈vs,v.flat=true)
   (hc:∀j,j<len->Fz h h2 (cell rs r (c+j)) (vs.getD j .und)):Fz h h2 (.refc o g r c len cap) (.sl 1 (vs.map λv=>[v]))
 |map (o g:Nat) (es es':List (AV×AV)) (h1:h o=some (.mp g es)) (h2':h2 o=none) (hl:es.length=es'.length) (hk:∀i,i<es.length->Fz h h2 (es.getD i (.und,.und)).1 (es'.getD i (.und,.und)).1)
   (hv:∀i,i<es.length->Fz h h2 (es.getD i (.und,.und)).2 (es'.getD i (.und,.und)).2):Fz h h2 (.map o g) (.mapi es')
 |mnil:Fz h h2 .mnil (.mapi [])
 |any (v:AV):Fz h h2 v .any
 |func (fn:Fn) (f c f' c':List AV) (hl:f.length=f'.length) (hl2:c.length=c'.length) (hf:∀i,i<f.length->Fz h h2 (f.getD i .und) (f'.getD i .und)) (hc:∀i,i<c.length->Fz h h2 (c.getD i .und) (c'.getD i .und)):Fz h h2 (.func fn f c) (.func fn f' c')
def Awb (h' h:Aa):Prop:=∀o x,h' o=some x->∃y,h o=some y/\y.gen=x.gen
def Hv.g(z:Hv h' h):Awb h' h:=λo x e=>⟨x,z o x e,rfl⟩
def C0.subG(z:Awb h' h)(b:Nat)(A:C0 h' mu b):C0 h mu b:=by obtain⟨o,x,l,D,G,O⟩:=A;obtain⟨y,S,U⟩:=z o x D;exact⟨o,y,l,S,by rw[U];exact G,O⟩
def Ez.subG(z:Awb h' h):Ez h mu w h' mu w:=⟨rfl,rfl,rfl,AF _,λb _ A=>⟨rfl,λD=>A (C0.subG z b D)⟩,λ_ _ _ h=>h⟩
variable{v':AV}
section
variable[GW P]{B:Base P}{h2:Aa}
def Ps(s:Sim B mu h w)(hs:Awb h2 h)(hz:Fz h h2 v v'):∀{c:Value},RV h mu w v c->RV h2 mu w v' c:=by
 have V:∀{o x l},h o=some x->h2 o=none->mu o x.gen=some l->¬C0 h2 mu l.b:=by rintro o x l h1 W z ⟨o',x',l',q1,q2,q3⟩;obtain⟨y,k1,k2⟩:=hs _ _ q1;have:=s.inj o' o y x l' l k1 h1 (by rw[k2];exact q2) z q3;subst this;rw[W]at q1;cases q1
 induction hz with
 |same v=>exact λA=>A.less (C0.subG hs)
 |ref o g off len st rs rows h1 W S ah hr hc X=>
  intro c A;cases A with
  |ref _ _ _ _ G l z ac O U al=>
   obtain⟨l',cells,e,f,k1,k2,k3,k4,k5,k6,k7,k8,k9⟩:=s.obj h1;rw[z]at k1;cases k1;subst k3;subst S;have key:∃vs:Nat->Nat->Value,∀i j,i<rows.length->j<l.st->w.cell? ⟨l.b,l.base+off*l.st+i*l.st+j,none⟩=some (vs i j)/\RV h2 mu w (cell rows i j) (vs i j):=by
    refine⟨λi j=>(w.cell? ⟨l.b,l.base+off*l.st+i*l.st+j,none⟩).getD undef,λi j hi D=>?_⟩;obtain⟨x,Y,aa⟩:=k9 (off+i) j (by omega) D;have e1:l.base+(off+i)*l.st+j=l.base+off*l.st+i*l.st+j:=by rw[AI];omega
    rw[e1]at Y;have hx:w.cell? ⟨l.b,l.base+off*l.st+i*l.st+j,none⟩=some x:=by unfold World.cell?;rw[k6];simpa using Y
    refine⟨?_,?_⟩
    .simp[hx]
    .simp only[hx,BH];exact X i j hi D aa
   obtain⟨vs,ab⟩:=key;exact .sl l.st rows l.b (l.base+off*l.st) G vs O U (λi j hi D=>(ab i j hi D).1) (λi j hi D=>(ab i j hi D).2) hr (V h1 W z) ((s.muOk _ _ _ z).2.1)
 |ptr o g r c st rs row h1 W am S hc X=>
  intro cv A;cases A with
  |ptr _ _ _ _ l z ac=>
   obtain⟨l',cells,e,f,k1,k2,k3,k4,k5,k6,k7,k8,k9⟩:=s.obj h1;rw[z]at k1;cases k1;subst k3;have key:∃vs:Nat->Value,∀j,j<l.st->w.cell? ⟨l.b,l.base+r*l.st+j,none⟩=some (vs j)/\RV h2 mu w (row.getD j .und) (vs j):=by
    refine⟨λj=>(w.cell? ⟨l.b,l.base+r*l.st+j,none⟩).getD undef,λj D=>?_⟩;obtain⟨x,Y,aa⟩:=k9 r j am D;have hx:w.cell? ⟨l.b,l.base+r*l.st+j,none⟩=some x:=by unfold World.cell?;rw[k6];simpa using Y
    refine⟨?_,?_⟩
    .simp[hx]
    .simp only[hx,BH];exact X j D aa
   obtain⟨vs,ab⟩:=key;exact .cp row c l.b (l.base+r*l.st) vs (λj D=>(ab j (S▸D)).1) (λj D=>(ab j (S▸D)).2) (V h1 W z) ((s.muOk _ _ _ z).2.1)
 |agg cs vs z hc X=>
  intro c A;cases A with
  |agg _ cv Z ad=>exact .agg vs cv (z▸Z) (λi hi=>X i (z▸hi) (ad i (z▸hi)))
 |tup cs vs z hc X=>
  intro c A;cases A with
  |tup _ cv Z ad=>exact .tup vs cv (z▸Z) (λi hi=>X i (z▸hi) (ad i (z▸hi)))
 |iface t v v' hc X=>
  intro c A;cases A with
  |iface _ _ c' an=>exact .iface t v' c' (X an)
 |cp row ai c z hc X=>
  intro cv A;cases A with
  |cp _ _ b off vs q1 q2 q3 q4=>exact .cp ai c b off vs (λj D=>q1 j (z▸D)) (λj D=>X j (z▸D) (q2 j (z▸D))) (λhm=>q3 (C0.subG hs _ hm)) q4
 |empx st=>intro c A;cases A;exact .slx0 _ _
 |mnil=>intro c A;cases A;exact .mapi0
 |map o g es es' h1 W z hk A ao ap=>
  intro c hc;cases hc with
  |map _ _ l Z ac=>obtain⟨l',k1,k2,ens,ae,k3,k4,k5⟩:=s.maps _ _ _ h1;rw[Z]at k1;cases k1;exact .mapi es' l.b ens ae k3.1 k3.2 (z▸k4) (λi hi=>ao i (z▸hi) (k5 i (z▸hi)).1) (λi hi=>ap i (z▸hi) (k5 i (z▸hi)).2) (V h1 W Z) ((s.muOk _ _ _ Z).2.1)
 |refc o g r c len G st rs vs h1 W hr ah S aq hc X=>
  intro cv A;cases A with
  |refc _ _ _ _ _ _ l z ac O U al=>
   obtain⟨l',cells,e,f,k1,k2,k3,k4,k5,k6,k7,k8,k9⟩:=s.obj h1;rw[z]at k1;cases k1;subst k3;subst S;have key:∃ws:Nat->Value,∀j,j<vs.length->w.cell? ⟨l.b,l.base+r*l.st+c+j,none⟩=some (ws j)/\RV h2 mu w (vs.getD j .und) (ws j):=by
    refine⟨λj=>(w.cell? ⟨l.b,l.base+r*l.st+c+j,none⟩).getD undef,λj D=>?_⟩;obtain⟨x,Y,aa⟩:=k9 r (c+j) hr (by omega);rw[<-CD]at Y;have hx:w.cell? ⟨l.b,l.base+r*l.st+c+j,none⟩=some x:=by unfold World.cell?;rw[k6];simpa using Y
    refine⟨?_,?_⟩
    .simp[hx]
    .simp only[hx,BH];exact X j D aa
   obtain⟨ws,aj⟩:=key;have af:∀i,i<vs.length->cell (vs.map λv=>[v]) i 0=vs.getD i .und:=by intro i hi;simp[cell,List.getD,hi]
   have:=Rv.sl (w:=w) (mu:=mu) (M:=C0 h2 mu) 1 (vs.map λv=>[v]) l.b (l.base+r*l.st+c) G (λi _=>ws i) (by simpa using O) (by simp;omega)
    (λi j hi D=>by
     have:j=0:=by omega
     subst this;rw[FX,CL];exact(aj i (by simpa using hi)).1)
    (λi j hi D=>by
     have:j=0:=by omega
     subst this;rw[af i (by simpa using hi)];exact(aj i (by simpa using hi)).2)
    (λx hx=>by obtain⟨v,A,rfl⟩:=CC.1 hx;exact⟨rfl,λy hy=>by simp at hy;subst hy;exact aq _ A⟩) (V h1 W z) ((s.muOk _ _ _ z).2.1)
   simpa using this
 |slx st rows=>
  intro c A;cases A with
  |slx0 _ a=>exact .sl0 _ _ _
  |slx _ _ b off vs q0 q1 q2 q3 q4 q5=>exact .sl _ _ b off _ vs (AF _) q0 q1 (λi j hi D=>(q2 i j hi D).less (C0.subG hs)) q3 (λhm=>q4 (C0.subG hs _ hm)) q5
 |sl st rs rs' z hr hc X=>
  intro cv A;cases A with
  |sl0 _ a G=>
   have:rs'=[]:=by cases rs'<;>simp_all
   subst this;exact .sl0 st a G
  |sl _ _ b off G vs O U q1 q2 qr q3 q4=>rw[z]at O U ⊢;exact .sl st rs' b off G vs O U (λi j hi D=>q1 i j (z▸hi) D) (λi j hi D=>X i j (z▸hi) D (q2 i j (z▸hi) D)) hr (λhm=>q3 (C0.subG hs _ hm)) q4
 |sl0 st ak=>
  intro cv A;cases A with
  |sl0 _ a G=>exact .sl0 ak a G
  |sl _ _ b off G vs O U q1 q2 qr q3 q4=>exact .sl0 ak _ G
 |emp st=>
  intro cv A;cases A with
  |emp a=>exact .sl0 st a 0
 |snil st=>
  intro cv A;cases A with
  |snil=>exact .sl0 st none 0
 |any v=>intro cv A;exact .any cv
 |func fn f c f' c' z ag hf hc ar au=>
  intro cv A;cases A with
  |func _ _ _ f2 c2 q1 q2 q3 q4=>exact .func fn f' c' f2 c2 (z▸q1) (ag▸q2) (λi hi=>ar i (z▸hi) (q3 i (z▸hi))) (λi hi=>au i (ag▸hi) (q4 i (ag▸hi)))
def Ig(s:Sim B mu h w)(z:Hv h2 h)(hz:Fz h h2 v v'):∀{c:Value},RV h mu w v c->RV h2 mu w v' c:=Ps s z.g hz
end
def Anz (P:Program)(h:Aa)(t:TypeId)(v:AV)(lo hi A:Option AV)(K:AV->Aa->Prop):Prop:=
 match ti P t,v,lo,hi,A with
 |some T,.ref o g 0 len,some (.int _ a),none,none=>match T.k with
  |.sl e=>match ti P e,h o with
   |some E,some (.rows g' st rs)=>g'=g/\st=E.size/\rs.length=len/\0<=a/\a<=len/\
     (∀z,K (.ref o z 0 (len-a.toNat)) (upd h o (some (.rows z st (rs.drop a.toNat)))))/\(a=len->K .emp (upd h o none))
   |_,_=>False
  |_=>False
 |_,_,_,_,_=>False
section
variable[GW P]{B:Base P}
def A57{lo hi A:Option AV}{K:AV->Aa->Prop}(z:Anz P h t v lo hi A K)(D:∀v h,K v h->K' v h):Anz P h t v lo hi A K':=by
 unfold Anz at z ⊢;split at z
 .split at z
  .split at z
   .obtain⟨G,O,S,U,V,W,X⟩:=z;exact⟨G,O,S,U,V,λY=>D _ _ (W Y),λe=>D _ _ (X e)⟩
   .exact z.elim
  .exact z.elim
 .exact z.elim
def Awx{rs:List (List AV)}{i j:Nat}:cell (rs.drop n) i j=cell rs (n+i) j:=by simp[cell,CE,BR]
def A7o(s:Sim B mu h w){lo hi mx:Option AV}{clo chi O:Option Value}(hv:RV h mu w v c)(h1:Xq h mu w lo clo)(h2:Xq h mu w hi chi)(h3:Xq h mu w mx O){K:AV->Aa->Prop}(G:Anz P h t v lo hi mx K):∃v' y h' mu' w',(Instr.sliceAt t c clo chi O).run P w=.ok y w'/\RV h' mu' w' v' y/\K v' h'/\Sim B mu' h' w'/\Ez h mu w h' mu' w':=by
 unfold Anz at G;split at G
 .rename_i T o g len k a hT;split at G
  .rename_i e hk;split at G
   .rename_i E g' st rs hE hh;obtain⟨rfl,rfl,ag,X,ai,hA,hB⟩:=G;obtain⟨d,hd,Y⟩:=Ek hT;have:=Fq (hk▸Y);subst this;obtain rfl:chi=none:=by
     rcases h2 with⟨_,rfl⟩|⟨_,_,Z,_,_⟩
     .rfl
     .cases Z
    obtain rfl:O=none:=by
     rcases h3 with⟨_,rfl⟩|⟨_,_,aa,_,_⟩
     .rfl
     .cases aa
    cases hv with
    |ref _ _ _ _ z l hl aj V ah ab=>
     obtain⟨n,rfl⟩:=BY X;simp only[BI]at hA;have hn:n<=len:=by omega
     have ha:Cq (some (.int k (n:Int))) 0 len=some n:=by simp only[Cq];rw[if_pos (by omega)];simp
     obtain⟨_,a2⟩:=E0 (P:=P) (code:=.sliceB) h1 ha (DA _);obtain⟨l',cells,ce,f,k1,k2,S,k4,k5,k6,k7,k8,k9⟩:=s.obj hh;rw[hl]at k1;cases k1;rcases a2 with⟨hq,_,_⟩|⟨ca,rfl,ra⟩
     .cases hq
     by_cases ac:z=n
     .have:n=len:=by omega
      subst this
      refine⟨.emp,.slice (some ⟨l.b,l.base+0*l.st,none⟩) 0 0,upd h o none,mu,w,?_,.emp _,hB rfl,?_,?_⟩
      .simp[Instr.sliceAt,run_underlying hd,Instr.slice,Instr.sliceBounds,Eh hE, *]
      .exact s.sub λo' x D=>by
        rw[A4k]at D;split at D
        .cases D
        .exact D
      .exact ED λo' x D=>by
        rw[A4k]at D;split at D
        .cases D
        .exact D
     .obtain⟨U,ad⟩:=s.fresh o;have A:=Sim.put (rs':=rs.drop n) (l':=⟨l.b,l.base+n*l.st,l.st,l.size,true⟩) (g':=U) s hh hl rfl rfl rfl rfl (λ_ _=>rfl) k6 k7 k8 (.inr ad) rfl rfl rfl
       (by
        simp only[BF];have:n*l.st+(rs.length-n)*l.st=rs.length*l.st:=by rw[<-AI];congr 1;omega
        rw[<-S]at k4;omega)
       (λr hr=>by have:=k5 r (CK hr);rw[<-S]at this;exact this)
       (λi j hi hj=>by simp only[BF]at hi;rw[Awx];obtain⟨y,ae,af⟩:=k9 (n+i) j (by omega) (by rw[<-S];exact hj);refine⟨y,?_,af⟩;rw[<-ae,<-S];congr 1;simp only;rw[AI];omega)
      simp only at A;have W:=hA U;rw[<-S]at W;refine⟨_,.slice (some ⟨l.b,l.base+n*l.st,none⟩) (len-n) (z-n),_,_,w,?_,?_,W,A.1,A.2⟩
      .simp[Instr.sliceAt,run_underlying hd,Instr.slice,Instr.sliceBounds,Eh hE,Jw,ac,S,ra,V,hn]
      .have:=Rv.ref (w:=w) (mu:=Dm mu o U ⟨l.b,l.base+n*l.st,l.st,l.size,true⟩) (M:=C0 (upd h o (some (.rows U l.st (rs.drop n)))) (Dm mu o U ⟨l.b,l.base+n*l.st,l.st,l.size,true⟩)) o U 0 (len-n) (z-n) ⟨l.b,l.base+n*l.st,l.st,l.size,true⟩ (by simp[Dm]) rfl (by omega) (by omega) (by
        simp only
        have:n*l.st+(z-n)*l.st=z*l.st:=by rw[<-AI];congr 1;omega
        rw[AE]at ab ⊢
        omega)
       simpa using this
   .exact G.elim
  .exact G.elim
 .exact G.elim
end
def At9 (P:Program)(h:Aa)(size:Nat)(x:AV)(len:Nat):Option (List (List AV)):=
 match x with
 |.ref o g off n=>F6 P h size false (.ref o g off (min n len))
 |.sl st rows=>if rows.length<=len then F6 P h size false (.sl st rows)else none
 |_=>none
def Af3 (P:Program)(h:Aa)(dT:TypeId)(d x:AV)(K:AV->Aa->Prop):Prop:=
 match ti P dT,d with
 |some D,.ref o g off len=>match D.k with
  |.sl e=>match ti P e,h o with
   |some E,some (.rows g' st rs)=>g'=g/\st=E.size/\off+len<=rs.length/\∃src,At9 P h E.size x len=some src/\K (.int .i64 (src.length:Int)) (upd h o (some (.rows g st (rs.take off++src++rs.drop (off+src.length)))))
   |_,_=>False
  |_=>False
 |_,_=>False
section
variable[GW P]{B:Base P}
def A3m{d:AV}{K:AV->Aa->Prop}(A:∀v h',K v h'->K' v h')(z:Af3 P h dT d x K):Af3 P h dT d x K':=by
 unfold Af3 at z ⊢;split at z
 .split at z
  .split at z
   .obtain⟨D,G,O,src,S,U⟩:=z;exact⟨D,G,O,src,S,A _ _ U⟩
   .exact z.elim
  .exact z.elim
 .exact z.elim
def A24(s:Sim B mu h w){len:Nat}{rows:List (List AV)}(X:RV h mu w x c)(z:At9 P h size x len=some rows):
  rows.length<=len/\(∃m,(∀w',(Builtin.lenOf c).run P w'=.ok m w')/\min m len=rows.length)/\∃news:List Value,news.length=rows.length*size/\(∀w',w'.heap=w.heap->(Builtin.firstCells size rows.length c).run P w'=.ok news.toArray w')/\
   (∀r∈rows,Cy size r)/\∀i j,i<rows.length->j<size->RV h mu w (cell rows i j) (news.getD (i*size+j) undef):=by
 unfold At9 at z
 split at z
 .rename_i o g off n;cases X with
  |ref _ _ _ _ A l hl O Y Z S=>
   have U:RV h mu w (.ref o g off (min n len)) (.slice (some ⟨l.b,l.base+off*l.st,none⟩) (min n len) A):=Rv.ref _ _ _ _ A l hl O (by omega) (by omega) S;obtain⟨V,news,W,q3,q4,q5⟩:=X8 (P:=P) s U z;have D:rows.length=min n len:=by have:=V w;simp[Builtin.lenOf]at this;omega
   refine⟨by omega,⟨n,λw'=>by simp[Builtin.lenOf],D.symm⟩,news,W,λw' hw=>?_,q4,q5⟩;have:=q3 w' hw;simpa[Builtin.firstCells]using this
 .rename_i st rs;split at z
  .rename_i G;obtain⟨V,W⟩:=X8 (P:=P) s X z;have:rows=rs:=by
    simp only[F6]at z;split at z
    .exact(AS z).symm
    .cases z
   subst this;exact⟨G,⟨rows.length,V,GA G⟩,W⟩
  .cases z
 .cases z
def A3t(s:Sim B mu h w){d:AV}{K:AV->Aa->Prop}(hd:RV h mu w d cd)(hx:RV h mu w x cx)(O:Af3 P h dT d x K):
  ∃v c h' mu' w',(Builtin.copy_ #[dT,xT] ty #[cd,cx]).run P w=.ok c w'/\RV h' mu' w' v c/\K v h'/\Sim B mu' h' w'/\Ez h mu w h' mu' w':=by
 unfold Af3 at O
 split at O
 .rename_i D o g off len hD;split at O
  .rename_i e hk;split at O
   .rename_i E g' st rs hE hh;obtain⟨rfl,rfl,am,src,ab,O⟩:=O;obtain⟨dD,ai,aj⟩:=Ek hD;have:=Fq (hk▸aj);subst this;obtain⟨ap,⟨m,ac,ad⟩,news,n1,n2,n3,n4⟩:=A24 (P:=P) s hx ab;cases hd with
    |ref _ _ _ _ aq l hl ak an ao ar=>
     obtain⟨l',cells,ce,f,k1,k2,k3,k4,k5,k6,k7,k8,k9⟩:=s.obj hh;rw[hl]at k1;cases k1;have ae:∀u∈news,u.oneCell'=true:=by
      intro u hu;obtain⟨k,hk,rfl⟩:=DK.1 hu;rw[n1]at hk;obtain⟨d1,d2,d3⟩:=Ah0 hk;have hr:=n4 _ _ d1 d2;rw[d3,Do (AA (by rw[n1];exact hk))]at hr;refine hr.one ?_;have z:=n3 _ (BK d1);have X:cell src (k/E.size) (k%E.size)=(src[k/E.size])[k%E.size]'(by rw[z.1];exact d2):=by simp[cell,List.getD,d1,z.1,d2]
      rw[X];exact z.2 _ (BK _)
     have S:l.base+off*E.size+news.length<=l.size:=by rw[n1];have:=AZ E.size (show off+src.length<=rs.length by omega);rw[AI]at this;omega
     have A:=run_storeCells_cells (P:=P) l.b (l.base+off*E.size) news 0 w
      (λj U=>by rw[CL];unfold World.cell?;rw[k6];simp[k7,show l.base+off*E.size+j<l.size by omega])
      (λj U=>by
       rw[CL];unfold World.frozen?;rw[k6];have:=k8 (l.base+off*E.size+j) (by omega);cases hq:(decide (f.1<=l.base+off*E.size+j)&&decide (l.base+off*E.size+j<f.2))with
       |false=>exact hq
       |true=>simp only[AK,BB]at hq;exact absurd hq this) ae
     obtain⟨ah,q1,q2,q3,q4,q5,q6,q7,q8,q9⟩:=Wi l.b news (l.base+off*E.size) w cells ce f k6 (by rw[k7];exact S);have V:(rs.take off).length=off:=by rw[BS];omega
     have W:(rs.take off++src++rs.drop (off+src.length)).length=rs.length:=by simp only[AG,V,BF];omega
     have G:=Sim.put (rs':=rs.take off++src++rs.drop (off+src.length)) (l':=l) (g':=g') s hh hl q7 q8 q9 q6 q5 q1 (by rw[q2,k7]) k8 (.inl ⟨rfl,rfl⟩) rfl rfl ak
      (by rw[W,k3];exact k4)
      (by
       intro r hr;rw[k3];rcases BG.1 hr with hr|hr
       .rcases BG.1 hr with hr|hr
        .exact k5 r (DC hr)
        .exact n3 r hr
       .exact k5 r (CK hr))
      (by
       intro i j hi U;rw[W]at hi;rw[k3]at U ⊢;rw[W7,W7,AG,V];split
       .split
        .rename_i h1 h2;have:cell (rs.take off) i j=cell rs i j:=by unfold cell;simp[List.getD,BQ,h2]
         rw[this];obtain⟨y,Y,Z⟩:=k9 i j hi U;refine⟨y,?_,Z⟩;have:=Jz (st:=E.size) h2 U;rw[q4 _ (by omega)];exact Y
        .rename_i h1 h2;have af:i-off<src.length:=by omega
         have hk:=Jz (st:=E.size) af U;refine⟨news.getD ((i-off)*E.size+j) undef,?_,n4 _ _ af U⟩;have ag:(i-off)*E.size+j<news.length:=by rw[n1];exact hk
         obtain⟨y,hy⟩:∃y,news[(i-off)*E.size+j]?=some y:=⟨_,AA ag⟩;rw[Do hy,<-hy,<-q3 _ ag];congr 1;have:i*E.size=off*E.size+(i-off)*E.size:=by rw[<-AI];congr 1;omega
         omega
       .rename_i h1;rw[Awx,show off+src.length+(i-(off+src.length))=i by omega];obtain⟨y,Y,Z⟩:=k9 i j hi U;refine⟨y,?_,Z⟩;have:=AZ E.size (show off+src.length<=i by omega);rw[AI]at this;rw[q4 _ (by omega)];exact Y)
     rw[Aqg hl,k3]at G;refine⟨_,.int .i64 src.length,_,mu,_,?_,.int _ _,O,G.1,G.2⟩;have al:=n2 w rfl;rw[CL]at A;have aa:Nat.min m len=src.length:=ad;rw[k3];simp[Builtin.copy_,run_underlying ai,ac w,aa,Eh hE,al,A,goInt]
   .exact O.elim
  .exact O.elim
 .exact O.elim
end
section
variable[GW P]{B:Base P}
def Sim.pushB (s:Sim B mu h w){o g:Nat}(x:Obj)(ho:h o=none)(hg:mu o g=none):
  Sim B (Dm mu o g ⟨w.heap.size,0,0,0,false⟩) (upd h o (some (.blk g x))) (w.alloc x)/\Ez h mu w (upd h o (some (.blk g x))) (Dm mu o g ⟨w.heap.size,0,0,0,false⟩) (w.alloc x):=by
 have Y:∀o' g' l,mu o' g'=some l->Dm mu o g ⟨w.heap.size,0,0,0,false⟩ o' g'=some l:=by
  intro o' g' l D;unfold Dm;rw[if_neg]
  .exact D
  .rintro⟨rfl,rfl⟩;rw[hg]at D;cases D
 have G:∀o' g' l,Dm mu o g ⟨w.heap.size,0,0,0,false⟩ o' g'=some l->(o'=o/\g'=g/\l=⟨w.heap.size,0,0,0,false⟩)\/mu o' g'=some l:=by
  intro o' g' l D;unfold Dm at D;split at D
  .rename_i hh;cases D;exact .inl ⟨hh.1,hh.2,rfl⟩
  .exact .inr D
 have A:∀o' y,upd h o (some (.blk g x)) o'=some y->(o'=o/\y=.blk g x)\/(o'≠o/\h o'=some y):=by
  intro o' y S;unfold upd at S;split at S
  .cases S;exact .inl ⟨‹_›,rfl⟩
  .exact .inr ⟨‹_›,S⟩
 have V:∀{o' g' l},mu o' g'=some l->l.b<w.heap.size:=λD=>(s.muOk _ _ _ D).2.1
 have hM:∀b,b<w.heap.size->¬C0 h mu b->¬C0 (upd h o (some (.blk g x))) (Dm mu o g ⟨w.heap.size,0,0,0,false⟩) b:=by
  rintro b hb hn ⟨o',y,l,S,D,rfl⟩;rcases G _ _ _ D with⟨_,_,rfl⟩|O
  .simp at hb
  .rcases A _ _ S with⟨rfl,rfl⟩|⟨_,z⟩
   .simp only[AO.gen]at O;rw[hg]at O;cases O
   .exact hn ⟨o',y,l,z,O,rfl⟩
 have ext:Ez h mu w (upd h o (some (.blk g x))) (Dm mu o g ⟨w.heap.size,0,0,0,false⟩) (w.alloc x):=⟨rfl,rfl,rfl,by rw[Ey];omega,λb hb hn=>⟨Ds hb,hM b hb hn⟩,Y⟩
 refine⟨⟨?_,?_,?_,?_,?_,?_,?_,s.globE ext,?_⟩,ext⟩
 .rw[Ey];exact GF s.base
 .intro o' g' l D;rcases G _ _ _ D with⟨_,_,rfl⟩|O
  .exact⟨s.base,by rw[Ey];simp,λhh=>by simp at hh⟩
  .obtain⟨U,h2,h3⟩:=s.muOk _ _ _ O;refine⟨U,by rw[Ey];omega,λac=>?_⟩;rw[Ds h2];exact h3 ac
 .obtain⟨N,hN⟩:=s.fin;refine⟨max N (g+1),λo' g' ad=>?_⟩;unfold Dm;rw[if_neg (by omega)];exact hN _ _ (by omega)
 .obtain⟨N,hN⟩:=s.finh;refine⟨max N (o+1),λo' ad=>?_⟩;unfold upd;rw[if_neg (by omega)];exact hN _ (by omega)
 .intro o' g' ae rs' S;rcases A _ _ S with⟨rfl,z⟩|⟨W,z⟩
  .cases z
  .obtain⟨l,U,h2,h3,h4,h5,h6⟩:=s.rows _ _ _ _ z;refine⟨l,Y _ _ _ U,h2,h3,h4,h5,λi j hi hj=>?_⟩;obtain⟨c,af,ag⟩:=h6 i j hi hj;refine⟨c,?_,ag.ext ext⟩;rw[cell?_of_heap (w:=w) (a:=⟨l.b,l.base+i*ae+j,none⟩) (Ds (V U))];exact af
 .intro o' g' es S;rcases A _ _ S with⟨rfl,z⟩|⟨W,z⟩
  .cases z
  .obtain⟨l,U,h2,ens,ab,h3,h4,h5⟩:=s.maps _ _ _ z;exact⟨l,Y _ _ _ U,h2,ens,ab,by rw[Ds (V U)];exact h3,h4,λi hi=>⟨(h5 i hi).1.ext ext,(h5 i hi).2.ext ext⟩⟩
 .intro Z o2 x1 x2 l1 l2 ah ai aj ak al;have aa:∀{Z x1 l1},upd h o (some (.blk g x)) Z=some x1->Dm mu o g ⟨w.heap.size,0,0,0,false⟩ Z x1.gen=some l1->(Z=o/\l1.b=w.heap.size)\/(Z≠o/\h Z=some x1/\mu Z x1.gen=some l1):=by
   intro Z x1 l1 U q1;rcases A _ _ U with⟨rfl,rfl⟩|⟨W,am⟩
   .rcases G _ _ _ q1 with⟨_,_,rfl⟩|X
    .exact .inl ⟨rfl,rfl⟩
    .simp only[AO.gen]at X;rw[hg]at X;cases X
   .rcases G _ _ _ q1 with⟨e1,_,_⟩|X
    .exact absurd e1 W
    .exact .inr ⟨W,am,X⟩
  rcases aa ah aj with⟨e1,b1⟩|⟨n1,a1,c1⟩<;>rcases aa ai ak with⟨e2,b2⟩|⟨n2,a2,c2⟩
  .rw[e1,e2]
  .have:=V c2;omega
  .have:=V c1;omega
  .exact s.inj _ _ _ _ _ _ a1 a2 c1 c2 al
 .intro o' g' y S;rcases A _ _ S with⟨rfl,z⟩|⟨W,z⟩
  .cases z;exact⟨⟨w.heap.size,0,0,0,false⟩,by simp[Dm],rfl,Rc⟩
  .obtain⟨l,U,h2,h3⟩:=s.blks _ _ _ z;exact⟨l,Y _ _ _ U,h2,by rw[Ds (V U)];exact h3⟩
def Sim.setB (s:Sim B mu h w){o g:Nat}{x x':Obj}{l:Loc}(hx:h o=some (.blk g x))(hl:mu o g=some l)(af:∀c e f,x≠.cells c e f):
  Sim B mu (upd h o (some (.blk g x'))) {w with heap:=w.heap.setIfInBounds l.b x'}/\Ez h mu w (upd h o (some (.blk g x'))) mu {w with heap:=w.heap.setIfInBounds l.b x'}:=by
 obtain⟨l0,aa,ag,ah⟩:=s.blks _ _ _ hx
 rw[hl]at aa;cases aa
 have ab:=(s.muOk _ _ _ hl).2.1
 generalize hw:({w with heap:=w.heap.setIfInBounds l.b x'}:World)=w'
 have ac:w'.heap[l.b]?=some x':=by rw[<-hw];simp[ab]
 have A:∀b,b≠l.b->w'.heap[b]?=w.heap[b]?:=λb G=>by rw[<-hw];exact CA (Ne.symm G)
 have S:w'.heap.size=w.heap.size:=by rw[<-hw];simp
 have D:∀U y,upd h o (some (.blk g x')) U=some y->(U=o/\y=.blk g x')\/(U≠o/\h U=some y):=by
  intro U y O;unfold upd at O;split at O
  .cases O;exact .inl ⟨‹_›,rfl⟩
  .exact .inr ⟨‹_›,O⟩
 have ai:C0 h mu l.b:=⟨o,_,l,hx,hl,rfl⟩
 have hM:∀b,¬C0 h mu b->¬C0 (upd h o (some (.blk g x'))) mu b:=by
  rintro b hn ⟨U,y,W,O,h2,rfl⟩;rcases D _ _ O with⟨rfl,rfl⟩|⟨_,z⟩
  .exact hn ⟨_,_,_,hx,h2,rfl⟩
  .exact hn ⟨_,_,_,z,h2,rfl⟩
 have ext:Ez h mu w (upd h o (some (.blk g x'))) mu w':=⟨by rw[<-hw],by rw[<-hw],by rw[<-hw],by rw[S];exact AF _,λb _ hb=>⟨A b (λe=>hb (e▸ai)),hM b hb⟩,λ_ _ _ h=>h⟩
 have X:∀{U y W},U≠o->h U=some y->mu U y.gen=some W->W.b≠l.b:=λG O h2 hb=>G (s.inj _ _ _ _ _ _ O hx h2 hl hb)
 refine⟨⟨by rw[S];exact s.base,?_,s.fin,?_,?_,?_,?_,s.globE ext,?_⟩,ext⟩
 .intro U g1 W O;obtain⟨Y,k2,k3⟩:=s.muOk _ _ _ O;refine⟨Y,by rw[S];exact k2,λad=>?_⟩;have V:W.b≠l.b:=by intro V;obtain⟨c1,e1,f1,q1,_⟩:=k3 ad;rw[V,ah]at q1;exact af _ _ _ (AS q1)
  rw[A _ V];exact k3 ad
 .obtain⟨N,hN⟩:=s.finh;refine⟨max N (o+1),λo' am=>?_⟩;unfold upd;rw[if_neg (by omega)];exact hN _ (by omega)
 .intro U g1 aj an O;rcases D _ _ O with⟨rfl,z⟩|⟨G,z⟩
  .cases z
  .obtain⟨W,Y,k2,k3,k4,k5,k6⟩:=s.rows _ _ _ _ z;refine⟨W,Y,k2,k3,k4,k5,λi j hi hj=>?_⟩;obtain⟨c,ak,al⟩:=k6 i j hi hj;refine⟨c,?_,al.ext ext⟩;rw[cell?_of_heap (w:=w) (w':=w') (a:=⟨W.b,W.base+i*aj+j,none⟩) (A _ (X G z Y))];exact ak
 .intro U g1 ao O;rcases D _ _ O with⟨rfl,z⟩|⟨G,z⟩
  .cases z
  .obtain⟨W,Y,k2,ae,Z,k3,k4,k5⟩:=s.maps _ _ _ z;exact⟨W,Y,k2,ae,Z,by rw[A _ (X G z Y)];exact k3,k4,λi hi=>⟨(k5 i hi).1.ext ext,(k5 i hi).2.ext ext⟩⟩
 .intro U o2 x1 x2 W l2 O h2 q1 q2 V;rcases D _ _ O with⟨rfl,rfl⟩|⟨n1,a1⟩<;>rcases D _ _ h2 with⟨rfl,rfl⟩|⟨n2,a2⟩
  .rfl
  .simp only[AO.gen]at q1;rw[hl]at q1;cases q1;exact absurd V.symm (X n2 a2 q2)
  .simp only[AO.gen]at q2;rw[hl]at q2;cases q2;exact absurd V (X n1 a1 q1)
  .exact s.inj _ _ _ _ _ _ a1 a2 q1 q2 V
 .intro U g1 y O;rcases D _ _ O with⟨rfl,z⟩|⟨G,z⟩
  .cases z;exact⟨l,hl,ag,ac⟩
  .obtain⟨W,Y,k2,k3⟩:=s.blks _ _ _ z;exact⟨W,Y,k2,by rw[A _ (X G z Y)];exact k3⟩
end
def ev (fr:Nat->AV):Operand->AV
 |.tmp t=>fr t
 |.const v=>A6q v
 |.global g=>.gptr ⟨g,0,none⟩
 |.func f=>.func (.func f) [] []
def Ev (fr:Nat->AV)(l:List Operand):List AV:=l.map (ev fr)
def Xu (fr:Nat->AV)(l:List (Nat×Operand)):List (Nat×AV):=l.map λp=>(p.1,ev fr p.2)
def Qv (x:Option AV)(h:Aa)(K:AV->Aa->Prop):Prop:=
 match x with
 |some v=>K v h
 |none=>False
def Ai1:AV->Option AV
 |.ptr o g r c=>some (.ptr o g r c)
 |.cp r c=>some (.cp r c)
 |.gptr a=>some (.gptr a)
 |.func (.func k) f c=>some (.func (.func k) f c)
 |.iface t v=>some (.iface t v)
 |.map o g=>some (.map o g)
 |_=>none
def Mn (P:Program)(h:Aa)(b:Builtin)(ts:List TypeId)(args:List AV)(K:AV->Aa->Prop):Prop:=
 match b,ts,args with
 |.len,[t],[v]=>Qv (Xe P h t v) h K
 |.cap,[t],[v]=>Qv (As2 P t v) h K
 |.append,[s,t],[v,x]=>W4 P h s t v x K\/(v=.emp/\∃k n,x=.int k n/\Aa6 P h s t n K)\/W4 P h s t v x (λv1 A=>∃v2 z,Hv z A/\Fz A z v1 v2/\K v2 z)
 |.copy,[t,_],[v,x]=>Ank P h t v x K\/Af3 P h t v x K
 |.min,_,l=>Qv (Aq7 false l) h K
 |.max,_,l=>Qv (Aq7 true l) h K
 |_,_,_=>False
def Mt:Operand->Bool
 |.const (.slice none 0 0)=>true
 |_=>false
def Aly (P:Program)(o:BinOp)(t:TypeId)(y:Operand)(vx vy:AV)(h:Aa)(K:AV->Aa->Prop):Prop:=
 if Mt y=true then match ti P t with
  |some T=>match T.k,o,vx with
   |.sl _,.eql,.emp=>∀b,K (.bool b) h
   |.sl _,.eql,.sl _ rows=>∀b,(rows≠[]->b=false)->K (.bool b) h
   |.sl _,.eql,.ref _ _ _ _=>K (.bool false) h
   |.sl _,.eql,.snil=>K (.bool true) h
   |.sl _,.neq,.snil=>K (.bool false) h
   |.sl _,.neq,.emp=>∀b,K (.bool b) h
   |.sl _,.neq,.sl _ rows=>∀b,(rows≠[]->b=true)->K (.bool b) h
   |.sl _,.neq,.ref _ _ _ _=>K (.bool true) h
   |_,_,_=>False
  |none=>False
 else Qv (Ft P o t vx vy) h K
def Amw (P:Program)(h:Aa)(s d:TypeId)(v:AV)(K:AV->Aa->Prop):Prop:=
 match ti P s,ti P d,v with
 |some S,some D,.str l=>match S.k,D.k with
  |.str,.sl e=>match ti P e with
   |some E=>E.k=.int .u8/\l.length<=Bj/\K (.sl 1 (l.map λb=>[.int .u8 b.toNat])) h
   |none=>False
  |_,_=>Qv (Ach P h s d v) h K
 |_,_,_=>Qv (Ach P h s d v) h K
def Aqy (P:Program)(h:Aa)(t:TypeId)(x:AV)(K:AV->Aa->Prop):Prop:=
 match x with
 |.mapi es=>(∃T,ti P t=some T/\∃k e,T.k=.map k e)/\∃o,h o=none/\∀g,
  (∀b z ens,MapKept.Stamped ens z->es.length=ens.size->K (.itm o g b z ens es) (upd h o (some (.blk g (.mapIter (some b) z #[] z)))))/\
  (es=[]->K (.it o g) (upd h o (some (.blk g (.mapIter none 0 #[] 0)))))
 |_=>False
def Ayy (h:Aa)(x:AV)(K:AV->Aa->Prop):Prop:=
 match x with
 |.itm o g b z ens es=>∃seen:Array Nat,h o=some (.blk g (.mapIter (some b) z seen z))/\
  ((∀i,i<es.length->(ens.getD i default).born∈seen)->K (.tup [.bool false]) h)/\
  ∀i,i<es.length->(ens.getD i default).born∉seen->K (.tup [.bool true,(es.getD i (.und,.und)).1,(es.getD i (.und,.und)).2]) (upd h o (some (.blk g (.mapIter (some b) z (seen.push (ens.getD i default).born) z))))
 |.it o g=>h o=some (.blk g (.mapIter none 0 #[] 0))/\K (.tup [.bool false]) h
 |_=>False
def Ats (h:Aa)(x:AV)(K:AV->Aa->Prop):Prop:=
 match x with
 |.itm o g b z ens es=>∃(seen:Array Nat) (i:Nat),i<es.length/\h o=some (.blk g (.mapIter (some b) z (seen.push (ens.getD i default).born) z))/\K (.tup [(es.getD i (.und,.und)).1,(es.getD i (.und,.und)).2]) h
 |_=>False
def D3 (P:Program)[GW P](fr:Nat->AV)(h:Aa)(op:Op)(K:AV->Aa->Prop):Prop:=
 match op with
 |.move x=>K (ev fr x) h
 |.assign x=>K (ev fr x) h
 |.pick c a b=>match ev fr c with
  |.bool t=>K (if t then ev fr a else ev fr b) h
  |_=>False
 |.alloc e=>match ti P e with
  |some T=>T.z.all AV.flat=true/\(Xx h T.z.length [T.z] (λo g h'=>K (.ptr o g 0 0) h')\/Xx h (T.z.map AV.nilx).length [T.z.map AV.nilx] (λo g h'=>K (.ptr o g 0 0) h'))
  |none=>False
 |.box e x=>(ev fr x).ok=true/\(ev fr x).cells.all AV.flat=true/\Xx h (ev fr x).cells.length [(ev fr x).cells] (λo g h'=>K (.ptr o g 0 0) h')
 |.build t z=>Qv (Adg P t (Xu fr z.toList)) h K
 |.buildSlice t n z=>J3 P h t n (Xu fr z.toList) K
 |.load t a=>Qv (O6 P h t (ev fr a)) h K
 |.store t a x=>∃v,ValSim (ev fr x) v/\match Wv P h t (ev fr a) v with
  |some h'=>K .und h'
  |none=>False
 |.nilCheck x=>Qv (Ai1 (ev fr x)) h K
 |.binOp o t x y _=>Pa P o t x y (ev fr x) (ev fr y)=true/\Aly P o t y (ev fr x) (ev fr y) h K
 |.unOp o _ x=>Qv (aUn o (ev fr x)) h K
 |.convert s d x=>Amw P h s d (ev fr x) K
 |.makeInterface t x=>match ti P t with
  |some T=>T.k≠.ifc/\K (.iface t (ev fr x)) h
  |none=>False
 |.makeFunc fn f c=>K (.func fn (Ev fr f.toList) (Ev fr c.toList)) h
 |.makeSlice t l c=>Ae2 P h t (ev fr l) (ev fr c) K
 |.slice t x lo hi A=>Qv (Ec P h t (ev fr x) (lo.map (ev fr)) (hi.map (ev fr)) (A.map (ev fr))) h K\/Anz P h t (ev fr x) (lo.map (ev fr)) (hi.map (ev fr)) (A.map (ev fr)) K
 |.fieldAddr s x f=>Qv (J7 P s (ev fr x) f) h K
 |.field t x f=>Qv (Aj3 P t (ev fr x) f) h K
 |.indexAddr t x i=>Qv (Dl P h t (ev fr x) (ev fr i)) h K
 |.index t x i=>Qv (Aam P t (ev fr x) (ev fr i)) h K
 |.typeAssert x _ t ok=>Qv (Hk P (ev fr x) t ok) h K
 |.extract x i=>Qv (Ai9 (ev fr x) i) h K
 |.lookup t x i ok=>Qv (Sq P h t (ev fr x) (ev fr i) ok) h K
 |.makeMap t r=>(match r with
  |none=>True
  |some x=>match ti P t,ev fr x with
   |some T,.int _ _=>(match T.k with|.map _ _=>True|_=>False)
   |_,_=>False)/\Amr h K
 |.mapUpdate t m k x=>match Zg P h t (ev fr m) (ev fr k) (ev fr x)with
  |some h'=>K .und h'
  |none=>False
 |.insert t m k x=>match Zg P h t (ev fr m) (ev fr k) (ev fr x)with
  |some h'=>K .und h'
  |none=>False
 |.call ⟨.builtin b,args,ts⟩=>Mn P h b ts.toList (Ev fr args.toList) K
 |.range t x=>Aqy P h t (ev fr x) K
 |.next it false=>Ayy h (ev fr it) K
 |.entry it=>Ats h (ev fr it) K
 |_=>False
variable{fr:Nat→AV}{a:Act}{y:Operand}{vx:AV}{vy:AV}
section
variable[GW P]{B:Base P}
def Alh (h:Aa)(mu:Mu)(w:World)(fr:Nat->AV)(a:Act):Prop:=∀t,RV h mu w (fr t) (a.tmps.getD t undef)
def T7(hf:Alh h mu w fr a)(x:Operand):RV h mu w (ev fr x) (a.eval x):=by
 cases x with
 |tmp t=>exact hf t
 |const v=>exact Bgy v
 |global g=>exact .gptr _
 |func f=>exact .func _ [] [] [] [] rfl rfl (λi hi=>by simp at hi) (λi hi=>by simp at hi)
def Ry (h:Aa)(mu:Mu)(w:World)(l:List AV)(cs:List Value):Prop:=l.length=cs.length/\∀i,i<l.length->RV h mu w (l.getD i .und) (cs.getD i undef)
def Abw(hf:Alh h mu w fr a)(l:List Operand):Ry h mu w (Ev fr l) (l.map a.eval):=by
 refine⟨by simp[Ev],λi hi=>?_⟩;have z:i<l.length:=by simpa[Ev]using hi
 rw[Do (x:=ev fr l[i]) (by simp[Ev,z]),Do (x:=a.eval l[i]) (by simp[z])];exact T7 hf _
def Axa(hf:Alh h mu w fr a)(l:List (Nat×Operand)):(Xu fr l).length=(l.map λp=>(p.1,a.eval p.2)).length/\
  ∀k,k<(Xu fr l).length->((Xu fr l).getD k (0,.und)).1=((l.map λp=>(p.1,a.eval p.2)).getD k (0,undef)).1/\RV h mu w ((Xu fr l).getD k (0,.und)).2 ((l.map λp=>(p.1,a.eval p.2)).getD k (0,undef)).2:=by
 refine⟨by simp[Xu],λi hi=>?_⟩
 have z:i<l.length:=by simpa[Xu]using hi
 rw[Do (x:=(l[i].1,ev fr l[i].2)) (by simp[Xu,z]),Do (x:=(l[i].1,a.eval l[i].2)) (by simp[z])]
 exact⟨rfl,T7 hf _⟩
def Abq(hf:Alh h mu w fr a)(x:Option Operand):Xq h mu w (x.map (ev fr)) (x.map a.eval):=by
 cases x with
 |none=>exact .inl ⟨rfl,rfl⟩
 |some x=>exact .inr ⟨_,_,rfl,rfl,T7 hf x⟩
def Amb (P:Program)[GW P](B:Base P)(h:Aa)(mu:Mu)(w:World)(s:Sem Next)(K:AV->Aa->Prop):Prop:=∃z w' x h' mu',s.run P w=.ok z w'/\((∃c,z=.value c/\RV h' mu' w' x c)\/(z=.skip/\x=.und))/\K x h'/\Sim B mu' h' w'/\Ez h mu w h' mu' w'
def K3 (s:Sim B mu h w){r:Sem Value}{x:Option AV}{K:AV->Aa->Prop}(z:Qv x h K)(hr:∀v,x=some v->∃c,r.run P w=.ok c w/\RV h mu w v c):
  Amb P B h mu w (do pure (.value (<-r))) K:=by
 cases x with
 |none=>exact z.elim
 |some v=>obtain⟨c,A,D⟩:=hr v rfl;exact⟨.value c,w,v,h,mu,by simp[A],.inl ⟨c,rfl,D⟩,z,s,DQ _ _ _⟩
def Ih {r:Sem Value}{K:AV->Aa->Prop}(hr:∃v c h' mu' w',r.run P w=.ok c w'/\RV h' mu' w' v c/\K v h'/\Sim B mu' h' w'/\Ez h mu w h' mu' w'):
  Amb P B h mu w (do pure (.value (<-r))) K:=by
 obtain⟨v,c,h',mu',w',z,A,D,G,O⟩:=hr
 exact⟨.value c,w',v,h',mu',by simp[z],.inl ⟨c,rfl,A⟩,D,G,O⟩
def A3f{x:Operand}{dst:Option Tmp}{pos:String}{after:Array Edge}{guard:Option (Nat×Bool)}{y:AV}(A:RV h mu w v (a.eval x))(z:Ai1 v=some y):
  v=y/\(execOp a.eval ⟨dst,.nilCheck x,ty,pos,after,guard⟩).run P w=.ok (.value (a.eval x)) w:=by
 generalize D:a.eval x=c at *
 unfold Ai1 at z
 split at z<;>first|(cases z;cases A;exact⟨rfl,by simp[execOp,D]⟩)|cases z
def Bei(A:ti P t=some T)(hk:T.k≠.ifc):∃d,P.underlying t=some d/\∀z,d≠.interface z:=by obtain⟨d,D,G⟩:=Ek A;exact⟨d,D,λz O=>hk (by rw[G,O];rfl)⟩
def A3o(z:ti P t=some T)(hk:T.k≠.ifc):(Instr.makeInterface t c).run P w=.ok (.iface t c) w:=by obtain⟨d,A,D⟩:=Bei z hk;cases d<;>first|exact absurd rfl (D _)|simp[Instr.makeInterface,run_underlying A]
def W8(z:P.underlying t=some (.slice e)){a:Option Addr}{l c:Nat}:
  (binOp .eql t (.slice a l c) (.slice none 0 0)).run P w=.ok (.bool a.isNone) w/\(binOp .neq t (.slice a l c) (.slice none 0 0)).run P w=.ok (.bool (!a.isNone)) w:=by
 have key:∀n,(Op.equalIn (n+1) t (.slice a l c) (.slice none 0 0)).run P w=.ok a.isNone w:=by intro n;cases a<;>simp[Op.equalIn,run_underlying z]
 have A:=key 9999
 constructor<;>simp[binOp,Op.equal,Op.maxDepth,A]
def A8n{op:BinOp}{cy:Value}{K:AV->Aa->Prop}(G:RV h mu w vx cx)(U:RV h mu w vy cy)(V:Mt y=true->cy=.slice none 0 0)(z:Aly P op t y vx vy h K):
  ∃c v,(binOp op t cx cy).run P w=.ok c w/\RV h mu w v c/\K v h:=by
 unfold Aly at z
 split at z
 .rename_i O;obtain rfl:=V O;split at z
  .rename_i T W;obtain⟨d,D,A⟩:=Ek W;split at z
   .rename_i e hk;have:=Fq (hk▸A);subst this;cases G;exact⟨_,_,(W8 D).1,.bool _,z _⟩
   .rename_i e _ _ hk;have:=Fq (hk▸A);subst this;cases G
    .exact⟨_,_,(W8 D).1,.bool _,z _ (λh=>absurd rfl h)⟩
    .exact⟨_,_,(W8 D).1,.bool _,z _ (λ_=>rfl)⟩
   .rename_i e _ _ _ _ hk;have:=Fq (hk▸A);subst this;cases G;exact⟨_,_,(W8 D).1,.bool _,z⟩
   .rename_i e hk;have:=Fq (hk▸A);subst this;cases G;exact⟨_,_,(W8 D).1,.bool _,z⟩
   .rename_i e hk;have:=Fq (hk▸A);subst this;cases G;exact⟨_,_,(W8 D).2,.bool _,z⟩
   .rename_i e hk;have:=Fq (hk▸A);subst this;cases G;exact⟨_,_,(W8 D).2,.bool _,z _⟩
   .rename_i e _ _ hk;have:=Fq (hk▸A);subst this;cases G
    .exact⟨_,_,(W8 D).2,.bool _,z _ (λh=>absurd rfl h)⟩
    .exact⟨_,_,(W8 D).2,.bool _,z _ (λ_=>rfl)⟩
   .rename_i e _ _ _ _ hk;have:=Fq (hk▸A);subst this;cases G;exact⟨_,_,(W8 D).2,.bool _,z⟩
   .exact z.elim
  .exact z.elim
 .cases S:Ft P op t vx vy with
  |none=>rw[S]at z;exact z.elim
  |some v=>rw[S]at z;obtain⟨c,c1,c2⟩:=Bbb (P:=P) G U S;exact⟨c,v,c1,c2,z⟩
def A3s(s:Sim B mu h w){src dst:TypeId}{K:AV->Aa->Prop}(O:RV h mu w v c)(z:Amw P h src dst v K):Amb P B h mu w (do pure (.value (<-convert src dst c))) K:=by
 unfold Amw at z;split at z
 .rename_i S D l hS hD;split at z
  .rename_i e q1 q2;split at z
   .rename_i E hE;obtain⟨k1,k2,k3⟩:=z;obtain⟨d1,W,X⟩:=Ek hS;obtain⟨d2,Y,Z⟩:=Ek hD;obtain⟨d3,aa,ab⟩:=Ek hE;have:=Wp (q1▸X);subst this;have:=Fq (q2▸Z);subst this;have:=Aae (k1▸ab);subst this;cases O;have hr:=Lib.run_convert_string_bytes (P:=P) w src dst e ⟨l.toArray⟩ W Y aa;have U:=Lib.bytesWorld_below w e ⟨l.toArray⟩;obtain⟨s',ext⟩:=Below.ext s U;refine Ih ⟨.sl 1 (l.map λb=>[.int .u8 b.toNat]),_,h,mu,_,hr,?_,k3,s',ext⟩;have V:(⟨l.toArray⟩:ByteArray).size=l.length:=by show l.toArray.size=_;simp
    have:=Rv.sl (w:=Lib.bytesWorld w e ⟨l.toArray⟩) (mu:=mu) (M:=C0 h mu) 1 (l.map λb=>[AV.int .u8 b.toNat]) w.heap.size 0 (grownCap w (ByteArray.size ⟨l.toArray⟩) 0 e) (λi _=>.int .u8 (l.getD i 0).toNat)
     (by rw[AL];have:=grownCap_ge w (ByteArray.size ⟨l.toArray⟩) 0 e;omega) (by simpa using k2) (λi j hi hj=>by
      have A:j=0:=by omega
      subst A;have:=Lib.bytesWorld_cell w e ⟨l.toArray⟩ i (by rw[V];simpa using hi);simpa using this) (λi j hi hj=>by
      have A:j=0:=by omega
      subst A;have ac:i<l.length:=by simpa using hi
      have e1:cell (l.map λb=>[AV.int .u8 b.toNat]) i 0=.int .u8 (l.getD i 0).toNat:=by simp[cell,List.getD,ac]
      rw[e1];exact .int _ _) (λr hr=>by
      obtain⟨b,_,rfl⟩:=CC.1 hr;exact⟨rfl,λv O=>by rw[AM.1 O];rfl⟩) (λhm=>by have:=C0.lt s hm;omega) (by rw[Lib.bytesWorld_size];omega)
    rw[AL]at this;rw[V]at this ⊢;exact this
   .exact z.elim
  .exact K3 s z λv G=>Aub s O G
 .exact K3 s z λv G=>Aub s O G
def A3c(s:Sim B mu h w){K:AV->Aa->Prop}(hv:RV h mu w x c)(A:Aqy P h t x K):∃v S h' mu' w',(Instr.range t c).run P w=.ok S w'/\RV h' mu' w' v S/\K v h'/\Sim B mu' h' w'/\Ez h mu w h' mu' w':=by
 unfold Aqy at A;split at A
 .rename_i es;obtain⟨⟨T,hT,k,e,hk⟩,o,U,A⟩:=A;obtain⟨g,V⟩:=s.fresh o;obtain⟨d,W,D⟩:=Ek hT;rw[hk]at D;obtain rfl:=Amm D;cases hv with
  |mapi0=>obtain⟨O,ext⟩:=s.pushB (.mapIter none 0 #[] 0) U V;exact⟨_,_,_,_,_,run_range_nilMap w t _ _ W,.it o g ⟨w.heap.size,0,0,0,false⟩ (by simp[Dm]) rfl,(A g).2 rfl,O,ext⟩
  |mapi _ b ens z X G Y h1 h2 h3 Z=>obtain⟨O,ext⟩:=s.pushB (.mapIter (some b) z #[] z) U V;refine⟨_,_,_,_,_,run_range_map w t _ _ b ens z W X,?_,(A g).1 b z ens G Y,O,ext⟩;have hs:=ext.same b Z h3;exact .itm o g ⟨w.heap.size,0,0,0,false⟩ (by simp[Dm]) rfl es b ens z (by rw[hs.1];exact X) G Y (λi hi=>(h1 i hi).ext ext) (λi hi=>(h2 i hi).ext ext) hs.2 (AW Z ext.size)
 .exact A.elim
def A0e{seen:Array Nat}{e:MapEntry}:e∈(leftOf ens seen).toList↔∃i,i<ens.size/\ens.getD i default=e/\e.born∉seen:=by
 simp only[leftOf,Array.toList_filter,GN,CZ,Array.contains_eq_mem,DJ,Array.mem_toList_iff];constructor
 .rintro⟨A,z⟩;obtain⟨i,hi,rfl⟩:=Array.mem_iff_getElem.1 A;exact⟨i,hi,by simp[Array.getD,hi],z⟩
 .rintro⟨i,hi,rfl,z⟩;exact⟨by simp[Array.getD,hi],z⟩
def A7q(s:Sim B mu h w){K:AV->Aa->Prop}(hv:RV h mu w x c)(D:Ayy h x K):∃v c' h' mu' w',(Instr.next c false ty).run P w=.ok c' w'/\RV h' mu' w' v c'/\K v h'/\Sim B mu' h' w'/\Ez h mu w h' mu' w':=by
 unfold Ayy at D;split at D
 .rename_i o g b z ens es;obtain⟨seen,S,V,W⟩:=D;cases hv with
  |itm _ _ l U hc _ _ _ _ hb X hl h1 h2 h3 h4=>
   obtain⟨l',O,k2,Y⟩:=s.blks _ _ _ S;rw[U]at O;cases O;rcases run_next_at (P:=P) w ty l.b b z z seen ens z Y hb X.1 (AF _)with⟨hz,A⟩|⟨e,he,w1,Z,A⟩
   .refine⟨_,_,h,mu,w,A,.tup [.bool false] [.bool false] rfl ?_,V λi hi=>?_,s,DQ _ _ _⟩
    .intro i hi;have:i=0:=by simpa using hi
     subst this;exact .bool false
    .apply EZ;intro hn;have:=A0e.2 ⟨i,by omega,rfl,hn⟩;have aa:(leftOf ens seen).toList=[]:=by have:leftOf ens seen=#[]:=Array.eq_empty_of_size_eq_zero hz;rw[this]
     rw[aa]at this;cases this
   .obtain⟨i,hi,rfl,hn⟩:=A0e.1 he;have G:i<es.length:=by omega
    have sd:Sim B mu h w1/\Ez h mu w h mu w1:=by
     rcases Z with rfl|rfl
     .exact⟨s,DQ _ _ _⟩
     .exact s.drew
    obtain⟨s2,e2⟩:=sd.1.setB (l:=l) (x':=.mapIter (some b) z (seen.push (ens.getD i default).born) z) S U (by intro a b c hh;cases hh);have e3:=sd.2.trans e2;refine⟨.tup [.bool true,(es.getD i (.und,.und)).1,(es.getD i (.und,.und)).2],_,_,_,_,A,.tup _ [_,_,_] rfl ?_,W i G hn,s2,e3⟩;intro j hj;have ab:j<3:=by simpa using hj
    match j,ab with
    |0,_=>exact .bool true
    |1,_=>exact(h1 i G).ext e3
    |2,_=>exact(h2 i G).ext e3
 .rename_i o g;obtain⟨S,D⟩:=D;cases hv with
  |it _ _ l U hc=>
   obtain⟨l',O,k2,Y⟩:=s.blks _ _ _ S;rw[U]at O;cases O;refine⟨.tup [.bool false],.tuple #[.bool false],h,mu,w,?_,.tup [.bool false] [.bool false] rfl ?_,D,s,DQ _ _ _⟩
   .simp only[Instr.next,getObj,Sem.run_bind,Sem.run,Y,Result.andThen];rfl
   .intro i hi;have:i=0:=by simpa using hi
    subst this;exact .bool false
 .exact D.elim
def A27(s:Sim B mu h w){K:AV->Aa->Prop}(W:RV h mu w x c)(A:Ats h x K):∃v U h' mu' w',(Instr.entry c).run P w=.ok U w'/\RV h' mu' w' v U/\K v h'/\Sim B mu' h' w'/\Ez h mu w h' mu' w':=by
 unfold Ats at A;split at A
 .rename_i o g b z ens es;obtain⟨seen,i,hi,X,A⟩:=A;cases W with
  |itm _ _ l Y hc _ _ _ _ Z G hl h1 h2 h3 h4=>
   obtain⟨l',V,k2,k3⟩:=s.blks _ _ _ X;rw[Y]at V;cases V;have O:i<ens.size:=by omega
   have D:ens.getD i default∈ens.toList:=by simp[Array.getD,O]
   refine⟨_,_,h,mu,w,run_entry_at (P:=P) w l.b b z seen ens z _ k3 Z D G.2.1,.tup [_,_] [_,_] rfl ?_,A,s,DQ _ _ _⟩;intro j hj;have S:j<2:=by simpa using hj
   match j,S with
   |0,_=>exact h1 i hi
   |1,_=>exact h2 i hi
 .exact A.elim
def Bb6(s:Sim B mu h w)(hf:Alh h mu w fr a){o:Oper}{K:AV->Aa->Prop}(A:D3 P fr h o.op K):Amb P B h mu w (execOp a.eval o) K:=by
 have E:=λx=>T7 hf x;obtain⟨dst,op,ty,pos,after,guard⟩:=o;simp only at A;unfold D3 at A;split at A
 .exact⟨.value _,w,_,h,mu,rfl,.inl ⟨_,rfl,E _⟩,A,s,DQ _ _ _⟩
 .exact⟨.value _,w,_,h,mu,rfl,.inl ⟨_,rfl,E _⟩,A,s,DQ _ _ _⟩
 .rename_i c x y;split at A
  .rename_i t ht;have hc:=E c;rw[ht]at hc;cases W:a.eval c<;>rw[W]at hc<;>cases hc;refine⟨.value (if t then a.eval x else a.eval y),w,_,h,mu,?_,.inl ⟨_,rfl,?_⟩,A,s,DQ _ _ _⟩
   .simp only[execOp,W,asBool];simp
   .cases t
    .exact E y
    .exact E x
  .exact A.elim
 .rename_i e;split at A
  .rename_i T hT;obtain⟨X,A⟩:=A;obtain⟨z,hz,ab,_⟩:=A4d hT;rcases A with A|A
   .obtain⟨z1,z2⟩:=Td (w:=w) (mu:=mu) (M:=C0 h mu) ab;obtain⟨o,g,mu',h',w',U,r2,V,r4,Y⟩:=Ajl (P:=P) (c:=z) (e:=e) s A (by simpa using z1) z2 X;refine Ih ⟨_,_,_,_,_,?_,r2,V,r4,Y⟩;simp[Instr.alloc,hz,U]
   .obtain⟨z1,z2⟩:=Ar9 (w:=w) (mu:=mu) (M:=C0 h mu) ab;obtain⟨o,g,mu',h',w',U,r2,V,r4,Y⟩:=Ajl (P:=P) (c:=z) (e:=e) s A (by simpa using z1) z2 (Bbh X);refine Ih ⟨_,_,_,_,_,?_,r2,V,r4,Y⟩;simp[Instr.alloc,hz,U]
  .exact A.elim
 .rename_i e x;obtain⟨ad,X,A⟩:=A;obtain⟨z1,z2⟩:=An2 (E x) ad;obtain⟨o,g,mu',h',w',U,r2,V,r4,Y⟩:=Ajl (P:=P) (c:=a.eval x) (e:=e) s A z1 z2 X;refine Ih ⟨_,_,_,_,_,?_,r2,V,r4,Y⟩;simp[Instr.box,U]
 .rename_i t Z;obtain⟨Z⟩:=Z;obtain⟨p1,p2⟩:=Axa hf Z;refine K3 s A λv D=>?_;have:=A3n (P:=P) p1 p2 D;simpa using this
 .rename_i t n Z;obtain⟨Z⟩:=Z;obtain⟨p1,p2⟩:=Axa hf Z;have:=Asm (P:=P) s p1 p2 A;refine Ih ?_;simpa using this
 .exact K3 s A λv D=>Au0 s (E _) D
 .rename_i t x y;obtain⟨v,D,A⟩:=A;split at A
  .rename_i h' hh;obtain⟨w',U,r2,V⟩:=A2y s (E x) (D.rv (E y)) hh;exact⟨.skip,w',.und,h',mu,by simp[execOp,U],.inr ⟨rfl,rfl⟩,A,r2,V⟩
  .exact A.elim
 .rename_i x;cases W:Ai1 (ev fr x)with
  |none=>rw[W]at A;exact A.elim
  |some v=>rw[W]at A;obtain⟨e1,e2⟩:=A3f (P:=P) (dst:=dst) (ty:=ty) (pos:=pos) (after:=after) (guard:=guard) (E x) W;exact⟨.value (a.eval x),w,v,h,mu,e2,.inl ⟨_,rfl,e1▸E x⟩,A,s,DQ _ _ _⟩
 .rename_i op t x y yt;obtain⟨hg,A⟩:=A;obtain⟨c,v,c1,c2,c3⟩:=A8n (P:=P) (E x) (E y) (by
   intro hy;unfold Mt at hy;split at hy
   .rfl
   .cases hy) A
  exact Ih ⟨v,c,h,mu,w,by simp[A34 (E x) (E y) hg,c1],c2,c3,s,DQ _ _ _⟩
 .exact K3 s A λv D=>Bc8 (E _) D
 .exact A3s s (E _) A
 .rename_i t x;split at A
  .rename_i T hT;obtain⟨hk,A⟩:=A;exact⟨.value (.iface t (a.eval x)),w,_,h,mu,by simp[execOp,A3o hT hk],.inl ⟨_,rfl,.iface _ _ _ (E x)⟩,A,s,DQ _ _ _⟩
  .exact A.elim
 .rename_i fn f c;obtain⟨f⟩:=f;obtain⟨c⟩:=c;obtain⟨f1,f2⟩:=Abw hf f;obtain⟨c1,c2⟩:=Abw hf c;refine⟨.value (.func fn (f.map a.eval).toArray (c.map a.eval).toArray),w,_,h,mu,by simp[execOp,Instr.makeFunc],.inl ⟨_,rfl,?_⟩,A,s,DQ _ _ _⟩;have:=Rv.func (w:=w) (mu:=mu) (M:=C0 h mu) fn _ _ _ _ f1 c1 f2 c2;simpa using this
 .exact Ih (A6s s (E _) (E _) A)
 .rcases A with A|A
  .exact K3 s A λv D=>A3q s (E _) (Abq hf _) (Abq hf _) (Abq hf _) D
  .exact Ih (A7o s (E _) (Abq hf _) (Abq hf _) (Abq hf _) A)
 .exact K3 s A λv D=>At0 (E _) D
 .exact K3 s A λv D=>A20 (E _) D
 .exact K3 s A λv D=>Au4 s (E _) (E _) D
 .exact K3 s A λv D=>A29 (E _) (E _) D
 .exact K3 s A λv D=>Az4 (E _) D
 .exact K3 s A λv D=>Axr (E _) D
 .exact K3 s A λv D=>Az9 s (E _) (E _) D
 .rename_i t r;obtain⟨hr,A⟩:=A;have hn:=A0l (P:=P) s A;cases r with
  |none=>exact Ih hn
  |some x=>
   refine Ih ?_;simp only at hr;split at hr
   .rename_i T kx n hT hx;have aa:=E x;rw[hx]at aa;cases W:a.eval x<;>rw[W]at aa<;>cases aa;split at hr
    .rename_i kt et ae;obtain⟨d,hd,ac⟩:=Ek hT;rw[ae]at ac;obtain rfl:=Amm ac;obtain⟨v,c,h',mu',w',U,r2⟩:=hn;refine⟨v,c,h',mu',w',?_,r2⟩;simpa[Instr.makeMap,run_underlying hd,asInt,asIntOf,W]using U
    .exact hr.elim
   .exact hr.elim
 .rename_i t m k x;split at A
  .rename_i h' hh;obtain⟨w',U,r2,V⟩:=Aks s (E m) (E k) (E x) hh;exact⟨.skip,w',.und,h',mu,by simp[execOp,U],.inr ⟨rfl,rfl⟩,A,r2,V⟩
  .exact A.elim
 .rename_i t m k x;split at A
  .rename_i h' hh;obtain⟨w',U,r2,V⟩:=Aks s (E m) (E k) (E x) hh;exact⟨.skip,w',.und,h',mu,by simp[execOp,U],.inr ⟨rfl,rfl⟩,A,r2,V⟩
  .exact A.elim
 .rename_i b args ts;have O:=Abw hf args.toList;have G:∀(r:Sem Value),(resolve a.eval ⟨.builtin b,args,ts⟩ ty>>=λd=>invoke d.target d.args)=(do pure (.value (<-r)))->Amb P B h mu w (do pure (.value (<-r))) K->
    Amb P B h mu w (execOp a.eval ⟨dst,.call ⟨.builtin b,args,ts⟩,ty,pos,after,guard⟩) K:=by
   intro r e hd
   have:execOp a.eval ⟨dst,.call ⟨.builtin b,args,ts⟩,ty,pos,after,guard⟩=(do pure (.value (<-r))):=e
   rw[this];exact hd
  obtain⟨ts⟩:=ts;obtain⟨args⟩:=args;unfold Mn at A;split at A
  .rename_i t v h1 S;match args,S with
   |[x],S=>
    obtain rfl:ts=[t]:=h1;obtain rfl:ev fr x=v:=by simpa[Ev]using S
    exact G (Builtin.len_ #[t] ty #[a.eval x]) (by simp[resolve,invoke,builtin]) (K3 s A λv D=>Ba0 s (E _) D)
  .rename_i t v h1 S;match args,S with
   |[x],S=>
    obtain rfl:ts=[t]:=h1;obtain rfl:ev fr x=v:=by simpa[Ev]using S
    exact G (Builtin.cap_ #[t] ty #[a.eval x]) (by simp[resolve,invoke,builtin]) (K3 s A λv D=>A9z (E _) D)
  .rename_i t t' v v' h1 S;match args,S with
   |[x,y],S=>
    obtain rfl:ts=[t,t']:=h1;simp only[Ev,BM,List.map_nil,CN,and_true]at S;obtain⟨rfl,rfl⟩:=S;rcases A with A|⟨e1,k,nn,e2,A⟩|A
    .exact G (Builtin.append_ #[t,t'] ty #[a.eval x,a.eval y]) (by simp[resolve,invoke,builtin]) (Ih (Ap3 s (E _) (E _) A))
    .exact G (Builtin.append_ #[t,t'] ty #[a.eval x,a.eval y]) (by simp[resolve,invoke,builtin]) (Ih (Ax1 s (e1▸E _) (e2▸E _) A))
    .refine G (Builtin.append_ #[t,t'] ty #[a.eval x,a.eval y]) (by simp[resolve,invoke,builtin]) (Ih ?_);obtain⟨v,c,h',mu',w',U,r2,⟨v2,S,q1,q2,q3⟩,r4,Y⟩:=Ap3 s (E _) (E _) A;exact⟨v2,c,S,mu',w',U,Ig r4 q1 q2 r2,q3,r4.sub q1,Y.trans (ED q1)⟩
  .rename_i t t' v v' h1 S;match args,S with
   |[x,y],S=>obtain rfl:ts=[t,t']:=h1;simp only[Ev,BM,List.map_nil,CN,and_true]at S;obtain⟨rfl,rfl⟩:=S;exact G (Builtin.copy_ #[t,t'] ty #[a.eval x,a.eval y]) (by simp[resolve,invoke,builtin]) (Ih (A.elim (A6n s (E _) (E _)) (A3t s (E _) (E _))))
  .exact G (Builtin.min_ ⟨ts⟩ ty (args.map a.eval).toArray) (by simp[resolve,invoke,builtin]) (K3 s A λv D=>by have:=Axl (P:=P) (isMax:=false) O.1 O.2 D ⟨ts⟩ ty;simpa using this)
  .exact G (Builtin.max_ ⟨ts⟩ ty (args.map a.eval).toArray) (by simp[resolve,invoke,builtin]) (K3 s A λv D=>by have:=Axl (P:=P) (isMax:=true) O.1 O.2 D ⟨ts⟩ ty;simpa using this)
  .exact A.elim
 .exact Ih (A3c s (E _) A)
 .exact Ih (A7q s (E _) A)
 .exact Ih (A27 s (E _) A)
 .exact A.elim
end
section
variable[GW P]{K:AV→Aa→Prop}
def Sx {x:Option AV}(A:∀v h',K v h'->K' v h')(z:Qv x h K):Qv x h K':=by
 cases x with
 |none=>exact z
 |some v=>exact A _ _ z
def Q6{rs:List (List AV)}{K K':Nat->Nat->Aa->Prop}(z:∀o g h',K o g h'->K' o g h')(A:Xx h st rs K):Xx h st rs K':=A.imp λo hk=>⟨hk.1,λg=>z _ _ _ (hk.2 g)⟩
def Aqz{s:AV}(A:∀v h',K v h'->K' v h')(z:W4 P h sT xT s x K):W4 P h sT xT s x K':=by
 unfold W4 at z ⊢;split at z
 .split at z
  .split at z
   .rename_i hE;obtain⟨D,G,O,z⟩:=z;refine⟨D,G,O,?_⟩;split at z
    .split at z
     .split at z
      .rename_i h0;rw[if_pos h0];exact A _ _ z
      .rename_i h0;rw[if_neg h0];exact⟨z.1,Q6 (λ_ _ _ hk=>A _ _ hk) z.2⟩
     .split at z
      .exact⟨z.1,z.2.1,z.2.2.1,z.2.2.2.1,λS=>A _ _ (z.2.2.2.2 S)⟩
      .exact z.elim
     .split at z
      .exact⟨z.1,z.2.1,Q6 (λ_ _ _ hk=>A _ _ hk) z.2.2⟩
      .exact z.elim
     .exact⟨z.1,z.2.1,z.2.2.1,Q6 (λ_ _ _ hk=>A _ _ hk) z.2.2.2⟩
     .exact z.elim
    .exact z.elim
   .exact z.elim
  .exact z.elim
 .exact z.elim
def Axu{n:Int}(A:∀v h',K v h'->K' v h')(z:Aa6 P h sT xT n K):Aa6 P h sT xT n K':=by
 unfold Aa6 at z ⊢;split at z
 .split at z
  .split at z
   .exact⟨z.1,z.2.1,z.2.2.1,z.2.2.2.1,z.2.2.2.2.1,Q6 (λ_ _ _ hk=>A _ _ hk) z.2.2.2.2.2⟩
   .exact z.elim
  .exact z.elim
 .exact z.elim
def Atc{G:List (Nat×AV)}(A:∀v h',K v h'->K' v h')(z:J3 P h t n G K):J3 P h t n G K':=by
 unfold J3 at z ⊢;split at z
 .split at z
  .split at z
   .split at z
    .rename_i h0;rw[if_pos h0];exact⟨z.1,z.2.imp (A _ _) (A _ _)⟩
    .rename_i h0;rw[if_neg h0];obtain⟨D,O,S,z⟩:=z;refine⟨D,O,S,?_⟩;split at z
     .obtain⟨r,D,z⟩:=z;exact⟨r,D,z.imp (A _ _) (λz=>Q6 (λ_ _ _ hk=>A _ _ hk) z)⟩
     .exact z.elim
   .exact z.elim
  .exact z.elim
 .exact z.elim
def A73{l c:AV}(D:∀v h',K v h'->K' v h')(A:Ae2 P h t l c K):Ae2 P h t l c K':=by
 unfold Ae2 at A ⊢;split at A
 .split at A
  .split at A
   .obtain⟨G,O,S,U,V,W,A⟩:=A;exact⟨G,O,S,U,V,W,A.elim (λ⟨z,X,Y,A⟩=>.inl ⟨z,X,Y,Q6 (λ_ _ _ hk=>D _ _ hk) A⟩) λA=>.inr ⟨A.1,Q6 (λ_ _ _ hk=>D _ _ hk) A.2⟩⟩
   .exact A.elim
  .exact A.elim
 .exact A.elim
def Axw {b:Builtin}{ts:List TypeId}{args:List AV}(A:∀v h',K v h'->K' v h')(z:Mn P h b ts args K):Mn P h b ts args K':=by
 unfold Mn at z ⊢;split at z
 .exact Sx A z
 .exact Sx A z
 .rcases z with z|⟨D,k,n,G,z⟩|z
  .exact .inl (Aqz A z)
  .exact .inr (.inl ⟨D,k,n,G,Axu A z⟩)
  .exact .inr (.inr (Aqz (λv h' ⟨v2,O,S,U,V⟩=>⟨v2,O,S,U,A _ _ V⟩) z))
 .exact z.imp (A6e A) (A3m A)
 .exact Sx A z
 .exact Sx A z
 .exact z.elim
def Bby{o:BinOp}(A:∀v h',K v h'->K' v h')(z:Aly P o t y vx vy h K):Aly P o t y vx vy h K':=by
 unfold Aly at z ⊢;split at z
 .rename_i D;rw[if_pos D];split at z
  .split at z
   .exact λb=>A _ _ (z b)
   .exact λb G=>A _ _ (z b G)
   .exact A _ _ z
   .exact A _ _ z
   .exact A _ _ z
   .exact λb=>A _ _ (z b)
   .exact λb G=>A _ _ (z b G)
   .exact A _ _ z
   .exact z.elim
  .exact z.elim
 .rename_i D;rw[if_neg D];exact Sx A z
def A1u{op:Op}(A:∀v h',K v h'->K' v h')(z:D3 P fr h op K):D3 P fr h op K':=by
 cases op with
 |pick c a b=>simp only[D3]at z ⊢;split at z<;>first|exact A _ _ z|exact z.elim
 |alloc e=>
  simp only[D3]at z ⊢;split at z
  .exact⟨z.1,z.2.imp (Q6 λ_ _ _ hk=>A _ _ hk) (Q6 λ_ _ _ hk=>A _ _ hk)⟩
  .exact z.elim
 |box e x=>exact⟨z.1,z.2.1,Q6 (λ_ _ _ hk=>A _ _ hk) z.2.2⟩
 |buildSlice t n Z=>exact Atc A z
 |store t a x=>
  simp only[D3]at z ⊢;obtain⟨v,U,z⟩:=z;refine⟨v,U,?_⟩;split at z
  .exact A _ _ z
  .exact z.elim
 |binOp o t x y _=>exact⟨z.1,Bby A z.2⟩
 |makeInterface t x=>
  simp only[D3]at z ⊢;split at z
  .exact⟨z.1,A _ _ z.2⟩
  .exact z.elim
 |makeSlice t l c=>exact A73 A z
 |slice t x lo hi mx=>exact z.imp (Sx A) λhk=>A57 hk A
 |convert s d x=>
  simp only[D3,Amw]at z ⊢;split at z
  .split at z
   .split at z
    .exact⟨z.1,z.2.1,A _ _ z.2.2⟩
    .exact z.elim
   .exact Sx A z
  .exact Sx A z
 |makeMap t r=>exact⟨z.1,z.2.imp λo hk=>⟨hk.1,λg=>A _ _ (hk.2 g)⟩⟩
 |range t x=>
  simp only[D3,Aqy]at z ⊢;split at z
  .obtain⟨V,o,O,hk⟩:=z;exact⟨V,o,O,λg=>⟨λb c e D G=>A _ _ ((hk g).1 b c e D G),λq=>A _ _ ((hk g).2 q)⟩⟩
  .exact z.elim
 |next it b=>
  cases b with
  |true=>exact z.elim
  |false=>
   simp only[D3,Ayy]at z ⊢;split at z
   .obtain⟨seen,O,W,X⟩:=z;exact⟨seen,O,λq=>A _ _ (W q),λi D G=>A _ _ (X i D G)⟩
   .exact⟨z.1,A _ _ z.2⟩
   .exact z.elim
 |entry it=>
  simp only[D3,Ats]at z ⊢;split at z
  .obtain⟨seen,i,D,G,Y⟩:=z;exact⟨seen,i,D,G,A _ _ Y⟩
  .exact z.elim
 |mapUpdate t m k x=>simp only[D3]at z ⊢;split at z<;>first|exact A _ _ z|exact z.elim
 |insert t m k x=>simp only[D3]at z ⊢;split at z<;>first|exact A _ _ z|exact z.elim
 |call c=>
  obtain⟨S,args,ts⟩:=c;cases S with
  |builtin b=>exact Axw A z
  |value f=>exact z
  |invoke r m=>exact z
 |_=>first|exact A _ _ z|exact Sx A z|exact z
end
end Go.Am

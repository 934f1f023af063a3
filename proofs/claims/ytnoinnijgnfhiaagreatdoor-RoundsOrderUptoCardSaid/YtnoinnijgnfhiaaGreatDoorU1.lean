/- Written by shrink.py from texts of ours: comments struck, what is not reached left out, names short. -/
import Derived.Test.YtnoinnijgnfhiaaGreatDoorU0
import Derived.MapKept
import Derived.Maps.RangeRun
import Derived.Lib.ConvBytes
import Derived.Lib.AtoiErrMem
namespace Go.Am
open Go
set_option linter.unusedSimpArgs false
set_option linter.unusedVariables false
set_option linter.unusedSectionVars false
def TK.many:TK→Bool
 | .sl _=>true
 | .str=>true
 | _=>false
def Nx (P:Program)(h:Ab)(sT xT:TypeId)(s x:AV)(K:AV→Ab→Prop):Prop:=
 match ti P sT,ti P xT with
 | some S,some X=>match S.k with
  | .sl e=>match ti P e with
   | some E=>X.k.many=true∧0<E.size∧0<E.bytes∧match Fx P h E.size (decide (E.k=.int .u8)) x with
    | some src=>match s with
     | .emp=>if src.length=0 then K .emp h else src.length * E.bytes≤Bt∧Q2 h E.size src (fun o g h'=>K (.ref o g 0 src.length) h')
     | .ref o g off len=>match h o with
      | some (.rows g' st rs)=>g'=g∧st=E.size∧off+len≤rs.length∧(len+src.length) * E.bytes≤Bt ∧ ∀ g2,K (.ref o g2 0 (len+src.length)) (upd h o (some (.rows g2 st ((rs.drop off).take len++src))))
      | _=>False
     | .refc o g r c len cap=>match Fx P h E.size false (.refc o g r c len cap) with
      | some olds=>cap<len+src.length∧(len+src.length) * E.bytes≤Bt∧Q2 h E.size (olds++src) (fun o g h'=>K (.ref o g 0 (len+src.length)) h')
      | none=>False
     | .slx st rows=>st=E.size∧src.length≠0∧(rows.length+src.length) * E.bytes≤Bt∧Q2 h E.size (rows++src) (fun o g h'=>K (.ref o g 0 (rows.length+src.length)) h')
     | _=>False
    | none=>False
   | none=>False
  | _=>False
 | _,_=>False
section
variable {P:Program} [GW P] {B:Base P} {h:Ab} {mu:Mu} {w:World}
theorem Aqy {xT:TypeId}{X:TI}(hX:ti P xT=some X)(hm:X.k.many=true) : ∃ d,P.underlying xT=some d∧((∃ e,d=.slice e)∨d=.string):=by
 obtain⟨d,h1,h2⟩:=Eh hX
 refine⟨d,h1,?_⟩
 rw [h2] at hm
 cases d <;> simp [TK.of,TK.many] at hm
 ·exact .inr rfl
 ·exact .inl ⟨_,rfl⟩
theorem run_app_fits {sT xT ty e:TypeId}{dX:TypeDesc}{i:TypeInfo}{base:Option Addr}{sLen sCap n:Nat}{c:Value}{news:List Value}(hS:P.underlying sT=some (.slice e))(hdX:P.underlying xT=some dX)(hX:(∃ e,dX=.slice e)∨dX=.string)
  (hi:P.info? e=some i) (hlen : ∀ w',(Builtin.lenOf c).run P w'=.ok n w') (hnew:(Builtin.firstCells i.size n c).run P w=.ok news.toArray w) (hroom:sLen+n≤sCap) :
  (Builtin.append_ #[sT,xT] ty #[.slice base sLen sCap,c]).run P w =
   ((match base with | some a=>storeCells (a.add (sLen * i.size)) news | none=>pure ()) >>= fun _=>(pure (.slice base (sLen+n) sCap):Sem Value)).run P w:=by
 rcases hX with⟨e2,rfl⟩ | rfl
 ·cases base <;> simp [Builtin.append_,run_underlying hS,run_underlying hdX,sizeOf,typeInfo,hi,hlen,hnew,hroom]
 ·cases base <;> simp [Builtin.append_,run_underlying hS,run_underlying hdX,sizeOf,typeInfo,hi,hlen,hnew,hroom]
theorem run_app_grows {sT xT ty e:TypeId}{dX:TypeDesc}{i:TypeInfo}{z:Value}{base:Option Addr}{sLen sCap n:Nat}{c:Value}{olds news:List Value}(hS:P.underlying sT=some (.slice e))(hdX:P.underlying xT=some dX)(hX:(∃ e,dX=.slice e)∨dX=.string)
  (hi:P.info? e=some i) (hz:i.zero=some z) (hlen : ∀ w',(Builtin.lenOf c).run P w'=.ok n w') (hnew : ∀ w',w'.heap=w.heap→(Builtin.firstCells i.size n c).run P w'=.ok news.toArray w')
  (hold : ∀ w',w'.heap=w.heap→(Builtin.firstCells i.size sLen (.slice base sLen sCap)).run P w'=.ok olds.toArray w') (hg:sCap<sLen+n) (hb:(sLen+n) * i.bytes≤140737488355328) (hb0:0<i.bytes) :
  (Builtin.append_ #[sT,xT] ty #[.slice base sLen sCap,c]).run P w =
   .ok (.slice (some ⟨w.heap.size,0,none⟩) (sLen+n) (grownCap w (sLen+n) sCap e))
    (w.drew.alloc (.cells (olds.toArray++news.toArray++Builtin.zeroCells z.cells (grownCap w (sLen+n) sCap e - (sLen+n))) e)):=by
 have hn:¬ (sLen+n≤sCap):=by omega
 have hle:sLen+n≤(sLen+n) * i.bytes:=Nat.le_mul_of_pos_right _ hb0
 have h63':¬ (9223372036854775807<((sLen:Int)+(n:Int))):=by omega
 have h48:=growslice_fits hg hb
 have h48':¬ (281474976710656<Builtin.nextslicecap (sLen+n) sCap * i.bytes):=by omega
 have hf:=hnew w.drew rfl
 have hfo:=hold w.drew rfl
 rcases hX with⟨e2,rfl⟩ | rfl
 ·simp [Builtin.append_,run_underlying hS,run_underlying hdX,sizeOf,typeInfo,zeroValue,hi,hz,hlen,hn,h63',h48',Question.forced,hf,hfo,newRow,grownCap]
  congr 2
  apply Array.ext'
  simp [List.append_assoc]
 ·simp [Builtin.append_,run_underlying hS,run_underlying hdX,sizeOf,typeInfo,zeroValue,hi,hz,hlen,hn,h63',h48',Question.forced,hf,hfo,newRow,grownCap]
  congr 2
  apply Array.ext'
  simp [List.append_assoc]
theorem Sb {a b:List (List AV)}(i j:Nat):cell (a++b) i j=if i<a.length then cell a i j else cell b (i - a.length) j:=by
 unfold cell
 split
 ·rename_i hi; simp [List.getD,List.getElem?_append_left hi]
 ·rename_i hi; simp [List.getD,List.getElem?_append_right (Nat.le_of_not_lt hi)]
theorem size_zc (z:Array Value)(n:Nat):(Builtin.zeroCells z n).size=n * z.size:=by simp [Builtin.zeroCells]
theorem Acl (s:Sim B mu h w){sT xT ty:TypeId}{sv x:AV}{cs cx:Value}{K:AV→Ab→Prop}(hs:RV h mu w sv cs)(hx:RV h mu w x cx)(hK:Nx P h sT xT sv x K) :
  ∃ v c h' mu' w',(Builtin.append_ #[sT,xT] ty #[cs,cx]).run P w=.ok c w'∧RV h' mu' w' v c∧K v h'∧Sim B mu' h' w'∧Da h mu w h' mu' w':=by
 unfold Nx at hK
 split at hK
 ·rename_i S X hS hX
  split at hK
  ·rename_i e hk
   split at hK
   ·rename_i E hE
    obtain⟨hm,hsz,hby,hK⟩:=hK
    obtain⟨dX,hdX,hX'⟩:=Aqy hX hm
    obtain⟨dS,hdS,hkS⟩:=Eh hS
    have:=Fo (hk ▸ hkS); subst this
    obtain⟨dE,iE,z,e1,e2,e3,e4,e5,e6,e7,e8,e9,e10⟩:=Mp hE
    obtain⟨zl,_⟩:=Oa (w:=w) (mu:=mu) (M:=Ci h mu) e4
    have hzs:z.cells.size=iE.size:=by rw [← e7,← e5,zl]; simp
    split at hK
    ·rename_i src hsrc
     obtain⟨hlen,news,n1,n2,n3,n4⟩:=Vj (P:=P) s hx hsrc
     rw [e7] at hsz n1 n2 n3 n4
     rw [e8] at hby
     split at hK
     ·cases hs with
      | emp a=>
       split at hK
       ·rename_i h0
        have hnil:src=[]:=List.eq_nil_of_length_eq_zero h0
        have hnn:news=[]:=List.eq_nil_of_length_eq_zero (by rw [n1,h0]; simp)
        refine⟨.emp,.slice a 0 0,h,mu,w,?_,.emp _,hK,s,Ext.refl _ _ _⟩
        rw [run_app_fits hdS hdX hX' e2 hlen (n2 w rfl) (by omega),h0,hnn]
        cases a <;> simp [storeCells]
       ·rename_i h0
        obtain⟨hlim,hnew⟩:=hK
        rw [e8] at hlim
        rw [e7] at hnew
        have hfo : ∀ w',w'.heap=w.heap→(Builtin.firstCells iE.size 0 (.slice a 0 0)).run P w'=.ok (([]:List Value)).toArray w':=by
         intro w' _; cases a <;> simp [Builtin.firstCells,loadCells,loadCellsFrom]
        have hrun:=run_app_grows (P:=P) (ty:=ty) (w:=w) hdS hdX hX' e2 e3 hlen n2 hfo (by omega) (by simpa [Bt] using hlim) hby
        have hd:=s.drew
        obtain⟨o,g,mu',m1,m2,m3,m4⟩:=Pf (base:=0) (e:=e) (cells:=(([]:List Value).toArray++news.toArray++Builtin.zeroCells z.cells (grownCap w (0+src.length) 0 e - (0+src.length)))) hd.1 hnew
         (by simp [n1]) n3
         (by
          intro i j hi hj
          have hk:=Hz (st:=iE.size) hi hj
          refine⟨news.getD (i * iE.size+j) undef,?_,(n4 i j hi hj).ext hd.2⟩
          have hk':i * iE.size+j<news.length:=by rw [n1]; exact hk
          obtain⟨y,hy⟩ : ∃ y,news[i * iE.size+j]? = some y:=⟨_,List.getElem?_eq_getElem hk'⟩
          rw [Dh hy,Nat.zero_add]
          simp only [List.append_toArray,List.nil_append]
          rw [Array.getElem?_append_left (by simpa using hk')]
          simpa using hy)
        refine⟨_,_,_,mu',_,hrun,?_,m2,m3,hd.2.trans m4⟩
        have hcap:src.length≤grownCap w (0+src.length) 0 e:=by have:=grownCap_ge w (0+src.length) 0 e; omega
        have:=Rv.ref (w:=w.drew.alloc (.cells (([]:List Value).toArray++news.toArray++Builtin.zeroCells z.cells (grownCap w (0+src.length) 0 e - (0+src.length))) e)) (M:=Ci (upd h o (some (.rows g iE.size src))) mu') o g 0 src.length (grownCap w (0+src.length) 0 e) _ m1 rfl hcap (Nat.le_trans (Nat.le_mul_of_pos_right _ hby) hlim) (by
         simp only [Array.size_append,List.size_toArray,List.length_nil,size_zc,hzs,n1,Nat.zero_add] at hcap ⊢
         rw [← Nat.add_mul]
         exact Nat.le_of_eq (by congr 1; omega))
        simpa using this
     ·rename_i o g off len
      split at hK
      ·rename_i g' st rs hh
       obtain⟨rfl,rfl,hle,hlim,hK⟩:=hK
       rw [e8] at hlim
       cases hs with
       | ref _ _ _ _ cap l hl hcl hcap hcl0 hcsz=>
        obtain⟨l',cells,e',f,k1,k2,k3,k4,k5,k6,k7,k8,k9⟩:=s.obj hh
        rw [hl] at k1; cases k1
        rw [e7] at k3 k4 k5 k9
        have hrl:((rs.drop off).take len).length=len:=by simp; omega
        have hcr : ∀ i j,i<len→cell ((rs.drop off).take len) i j=cell rs (off+i) j:=by
         intro i j hi
         simp [cell,List.getD,List.getElem?_take,hi,List.getElem?_drop]
        have hok : ∀ r ∈ (rs.drop off).take len++src,Cm iE.size r:=by
         intro r hr
         rcases List.mem_append.1 hr with hr | hr
         ·exact k5 r (List.mem_of_mem_drop (List.mem_of_mem_take hr))
         ·exact n3 r hr
        obtain⟨g2,hg2⟩:=s.fresh o
        by_cases hroom:len+src.length≤cap
        ·
         have hone : ∀ u ∈ news,u.oneCell'=true:=by
          intro u hu
          obtain⟨k,hk,rfl⟩:=List.mem_iff_getElem.1 hu
          rw [n1] at hk
          obtain⟨d1,d2,d3⟩:=Wp hk
          have hr:=n4 _ _ d1 d2
          rw [d3,Dh (List.getElem?_eq_getElem (by rw [n1]; exact hk))] at hr
          refine hr.one ?_
          have hrow:=n3 _ (List.getElem_mem d1)
          have hcell:cell src (k / iE.size) (k % iE.size)=(src[k / iE.size])[k % iE.size]'(by rw [hrow.1]; exact d2):=by
           simp [cell,List.getD,d1,hrow.1,d2]
          rw [hcell]
          exact hrow.2 _ (List.getElem_mem _)
         have hbound:l.base+off * iE.size+len * iE.size+news.length≤l.size:=by
          rw [n1]
          rw [k3] at hcsz
          have:=Nat.mul_le_mul_right iE.size (show off+(len+src.length)≤off+cap by omega)
          rw [Nat.add_mul,Nat.add_mul,← Nat.add_assoc] at this
          omega
         have hrunS:=run_storeCells_cells (P:=P) l.b (l.base+off * iE.size+len * iE.size) news 0 w
          (fun j hj=>by
           rw [Nat.add_zero]
           unfold World.cell?
           rw [k6]
           simp [k7,show l.base+off * iE.size+len * iE.size+j<l.size by omega])
          (fun j hj=>by
           rw [Nat.add_zero]
           unfold World.frozen?
           rw [k6]
           have:=k8 (l.base+off * iE.size+len * iE.size+j) (by omega)
           cases hq:(decide (f.1≤l.base+off * iE.size+len * iE.size+j)&&decide (l.base+off * iE.size+len * iE.size+j<f.2)) with
           | false=>exact hq
           | true=>
            simp only [Bool.and_eq_true,decide_eq_true_eq] at hq
            exact absurd hq this) hone
         obtain⟨cells',q1,q2,q3,q4,q5,q6,q7,q8,q9⟩:=Iu l.b news (l.base+off * iE.size+len * iE.size) w cells e' f k6 (by rw [k7]; exact hbound)
         have hput:=Sim.put (rs':=(rs.drop off).take len++src) (l':=⟨l.b,l.base+off * iE.size,iE.size,l.size,true⟩) (g':=g2) s hh hl q7 q8 q9 q6 q5 q1 (by rw [q2,k7]) k8 (.inr hg2) rfl rfl rfl
          (by
           simp only [List.length_append,hrl]
           rw [Nat.add_mul]
           rw [n1] at hbound
           omega)
          hok
          (by
           intro i j hi hj
           simp only [List.length_append,hrl] at hi hj ⊢
           rw [Sb,hrl]
           split
           ·rename_i hil
            rw [hcr i j hil]
            obtain⟨y,hy1,hy2⟩:=k9 (off+i) j (by omega) hj
            refine⟨y,?_,hy2⟩
            have:=Hz (st:=iE.size) hil hj
            rw [q4 _ (by omega),← hy1]
            congr 1
            rw [Nat.add_mul]
            omega
           ·rename_i hil
            have hi2:i - len<src.length:=by omega
            have hk:=Hz (st:=iE.size) hi2 hj
            refine⟨news.getD ((i - len) * iE.size+j) undef,?_,n4 _ _ hi2 hj⟩
            have hk':(i - len) * iE.size+j<news.length:=by rw [n1]; exact hk
            obtain⟨y,hy⟩ : ∃ y,news[(i - len) * iE.size+j]? = some y:=⟨_,List.getElem?_eq_getElem hk'⟩
            rw [Dh hy,← hy,← q3 _ hk']
            congr 1
            have:i * iE.size=len * iE.size+(i - len) * iE.size:=by rw [← Nat.add_mul]; congr 1; omega
            omega)
         have hKg:=hK g2
         rw [e7] at hKg
         refine⟨_,.slice (some ⟨l.b,l.base+off * l.st,none⟩) (len+src.length) cap,_,_,w.setCells l.b (l.base+off * iE.size+len * iE.size) news,?_,?_,hKg,hput.1,hput.2⟩
         ·rw [run_app_fits hdS hdX hX' e2 hlen (n2 w rfl) hroom]
          simp only [Sem.run_bind,Id,k3,hrunS,Nat.add_zero,Result.andThen_ok,Sem.run_pure]
         ·have:=Rv.ref (w:=w.setCells l.b (l.base+off * iE.size+len * iE.size) news) (mu:=C0 mu o g2 ⟨l.b,l.base+off * iE.size,iE.size,l.size,true⟩)
           (M:=Ci (upd h o (some (.rows g2 iE.size ((rs.drop off).take len++src)))) (C0 mu o g2 ⟨l.b,l.base+off * iE.size,iE.size,l.size,true⟩)) o g2 0 (len+src.length) cap ⟨l.b,l.base+off * iE.size,iE.size,l.size,true⟩ (by simp [C0]) rfl hroom (Nat.le_trans (Nat.le_mul_of_pos_right _ hby) hlim) (by
            simp only
            rw [k3,Nat.add_mul] at hcsz
            rw [Nat.zero_add]
            omega)
          rw [k3]
          simpa using this
        ·
         have holds : ∃ olds:List Value,olds.length=len * iE.size∧(∀ w',w'.heap=w.heap→(Builtin.firstCells iE.size len (.slice (some ⟨l.b,l.base+off * l.st,none⟩) len cap)).run P w'=.ok olds.toArray w') ∧
           ∀ i j,i<len→j<iE.size→RV h mu w (cell rs (off+i) j) (olds.getD (i * iE.size+j) undef):=by
          have hsrc':Fx P h iE.size false (.ref o g' off len)=some ((rs.drop off).take len):=by
           unfold Fx
           simp only [hh,e7,true_and,hle,if_true]
          obtain⟨_,olds,o1,o2,o3,o4⟩:=Vj (P:=P) s (Rv.ref (w:=w) (M:=Ci h mu) o g' off len cap l hl hcl hcap hcl0 hcsz) hsrc'
          rw [hrl] at o1 o2 o4
          refine⟨olds,o1,o2,fun i j hi hj=>?_⟩
          rw [← hcr i j hi]
          exact o4 i j hi hj
         obtain⟨olds,o1,o2,o4⟩:=holds
         have hrun:=run_app_grows (P:=P) (ty:=ty) (w:=w) hdS hdX hX' e2 e3 hlen n2 o2 (by omega) (by simpa [Bt] using hlim) hby
         have hd:=s.drew
         have hpush:=Sim.push (o:=o) (g:=g2) (st:=iE.size) (base:=0) (rs:=(rs.drop off).take len++src) (e:=e)
          (cells:=olds.toArray++news.toArray++Builtin.zeroCells z.cells (grownCap w (len+src.length) cap e - (len+src.length))) hd.1 hg2
          (by
           simp only [List.length_append,hrl,Array.size_append,List.size_toArray,o1,n1]
           rw [Nat.add_mul]
           omega) hok
          (by
           intro i j hi hj
           simp only [List.length_append,hrl] at hi
           rw [Sb,hrl,Nat.zero_add]
           split
           ·rename_i hil
            rw [hcr i j hil]
            have hk:=Hz (st:=iE.size) hil hj
            refine⟨olds.getD (i * iE.size+j) undef,?_,(o4 i j hil hj).ext hd.2⟩
            have hk':i * iE.size+j<olds.length:=by rw [o1]; exact hk
            obtain⟨y,hy⟩ : ∃ y,olds[i * iE.size+j]? = some y:=⟨_,List.getElem?_eq_getElem hk'⟩
            rw [Dh hy,Array.getElem?_append_left (by simp; omega),Array.getElem?_append_left (by simpa using hk')]
            simpa using hy
           ·rename_i hil
            have hi2:i - len<src.length:=by omega
            have hk:=Hz (st:=iE.size) hi2 hj
            refine⟨news.getD ((i - len) * iE.size+j) undef,?_,(n4 _ _ hi2 hj).ext hd.2⟩
            have hk':(i - len) * iE.size+j<news.length:=by rw [n1]; exact hk
            obtain⟨y,hy⟩ : ∃ y,news[(i - len) * iE.size+j]? = some y:=⟨_,List.getElem?_eq_getElem hk'⟩
            have:i * iE.size=len * iE.size+(i - len) * iE.size:=by rw [← Nat.add_mul]; congr 1; omega
            rw [Dh hy,Array.getElem?_append_left (by simp; omega),Array.getElem?_append_right (by simp; omega)]
            simp only [List.size_toArray,List.getElem?_toArray,o1]
            rw [← hy]
            congr 1
            omega)
         have hKg:=hK g2
         rw [e7] at hKg
         refine⟨_,_,_,_,_,hrun,?_,hKg,hpush.1,hd.2.trans hpush.2⟩
         have hcap2:len+src.length≤grownCap w (len+src.length) cap e:=grownCap_ge w _ _ e
         have:=Rv.ref (w:=w.drew.alloc (.cells (olds.toArray++news.toArray++Builtin.zeroCells z.cells (grownCap w (len+src.length) cap e - (len+src.length))) e))
          (mu:=C0 mu o g2 ⟨w.drew.heap.size,0,iE.size,(olds.toArray++news.toArray++Builtin.zeroCells z.cells (grownCap w (len+src.length) cap e - (len+src.length))).size,true⟩)
          (M:=Ci (upd h o (some (.rows g2 iE.size ((rs.drop off).take len++src)))) (C0 mu o g2 ⟨w.drew.heap.size,0,iE.size,(olds.toArray++news.toArray++Builtin.zeroCells z.cells (grownCap w (len+src.length) cap e - (len+src.length))).size,true⟩))
          o g2 0 (len+src.length) (grownCap w (len+src.length) cap e) _ (by simp [C0]; rfl) rfl hcap2 (Nat.le_trans (Nat.le_mul_of_pos_right _ hby) hlim) (by
           simp only [Array.size_append,List.size_toArray,size_zc,hzs,n1,o1,Nat.zero_add]
           rw [← Nat.add_mul,← Nat.add_mul]
           exact Nat.le_of_eq (by congr 1; omega))
         simpa using this
      ·exact hK.elim
     ·rename_i o0 g0 r0 c0 len cap
      split at hK
      ·rename_i rows hsrcO
       obtain⟨hne,hlim,hnew⟩:=hK
       rw [e8] at hlim
       rw [e7] at hsrcO
       obtain⟨hlenO,olds,o1,o2,o3,o4⟩:=Vj (P:=P) s hs hsrcO
       have hrl:rows.length=len:=by
        have:=hlenO w
        cases hs with
        | refc=>simpa [Builtin.lenOf] using this.symm
       subst hrl
       obtain⟨base,rfl⟩ : ∃ base,cs=.slice base rows.length cap:=by cases hs; exact⟨_,rfl⟩
       have hrun:=run_app_grows (P:=P) (ty:=ty) (w:=w) hdS hdX hX' e2 e3 hlen n2 o2 (by omega) (by simpa [Bt] using hlim) hby
       have hd:=s.drew
       rw [e7] at hnew
       obtain⟨o,g,mu',m1,m2,m3,m4⟩:=Pf (base:=0) (e:=e) (cells:=olds.toArray++news.toArray++Builtin.zeroCells z.cells (grownCap w (rows.length+src.length) cap e - (rows.length+src.length))) hd.1 hnew
        (by
         simp only [List.length_append,Array.size_append,List.size_toArray,o1,n1]
         rw [Nat.add_mul]
         omega)
        (fun r hr=>by
         rcases List.mem_append.1 hr with hr | hr
         ·exact o3 r hr
         ·exact n3 r hr)
        (by
         intro i j hi hj
         simp only [List.length_append] at hi
         rw [Sb,Nat.zero_add]
         split
         ·rename_i hil
          have hk:=Hz (st:=iE.size) hil hj
          refine⟨olds.getD (i * iE.size+j) undef,?_,(o4 i j hil hj).ext hd.2⟩
          have hk':i * iE.size+j<olds.length:=by rw [o1]; exact hk
          obtain⟨y,hy⟩ : ∃ y,olds[i * iE.size+j]? = some y:=⟨_,List.getElem?_eq_getElem hk'⟩
          rw [Dh hy,Array.getElem?_append_left (by simp; omega),Array.getElem?_append_left (by simpa using hk')]
          simpa using hy
         ·rename_i hil
          have hi2:i - rows.length<src.length:=by omega
          have hk:=Hz (st:=iE.size) hi2 hj
          refine⟨news.getD ((i - rows.length) * iE.size+j) undef,?_,(n4 _ _ hi2 hj).ext hd.2⟩
          have hk':(i - rows.length) * iE.size+j<news.length:=by rw [n1]; exact hk
          obtain⟨y,hy⟩ : ∃ y,news[(i - rows.length) * iE.size+j]? = some y:=⟨_,List.getElem?_eq_getElem hk'⟩
          have:i * iE.size=rows.length * iE.size+(i - rows.length) * iE.size:=by rw [← Nat.add_mul]; congr 1; omega
          rw [Dh hy,Array.getElem?_append_left (by simp; omega),Array.getElem?_append_right (by simp; omega)]
          simp only [List.size_toArray,List.getElem?_toArray,o1]
          rw [← hy]
          congr 1
          omega)
       refine⟨_,_,_,mu',_,hrun,?_,m2,m3,hd.2.trans m4⟩
       have hcap2:rows.length+src.length≤grownCap w (rows.length+src.length) cap e:=grownCap_ge w _ _ e
       have:=Rv.ref (w:=w.drew.alloc (.cells (olds.toArray++news.toArray++Builtin.zeroCells z.cells (grownCap w (rows.length+src.length) cap e - (rows.length+src.length))) e)) (M:=Ci (upd h o (some (.rows g iE.size (rows++src)))) mu') o g 0 (rows.length+src.length) (grownCap w (rows.length+src.length) cap e) _ m1 rfl hcap2 (Nat.le_trans (Nat.le_mul_of_pos_right _ hby) hlim) (by
        simp only [Array.size_append,List.size_toArray,size_zc,hzs,n1,o1,Nat.zero_add]
        rw [← Nat.add_mul,← Nat.add_mul]
        exact Nat.le_of_eq (by congr 1; omega))
       simpa using this
      ·exact hK.elim
     ·rename_i st rows
      obtain⟨rfl,hne,hlim,hnew⟩:=hK
      rw [e8] at hlim
      obtain⟨base,rfl,hrows,hsl⟩ : ∃ base,cs=.slice base rows.length rows.length∧(∀ r ∈ rows,Cm E.size r)∧RV h mu w (.sl E.size rows) (.slice base rows.length rows.length):=by
       cases hs with
       | slx0 _ a=>exact⟨a,rfl,fun r hr=>(by cases hr),.sl0 _ _ _⟩
       | slx _ _ b off vs q0 q1 q2 q3 q4 q5=>exact⟨_,rfl,q3,.sl _ _ b off _ vs (Nat.le_refl _) q0 q1 q2 q3 q4 q5⟩
      have hsrc':Fx P h iE.size false (.sl E.size rows)=some rows:=by
       unfold Fx
       simp only [e7,if_true]
      obtain⟨_,olds,o1,o2,o3,o4⟩:=Vj (P:=P) s hsl hsrc'
      have hrun:=run_app_grows (P:=P) (ty:=ty) (w:=w) hdS hdX hX' e2 e3 hlen n2 o2 (by omega) (by simpa [Bt] using hlim) hby
      have hd:=s.drew
      rw [e7] at hnew
      obtain⟨o,g,mu',m1,m2,m3,m4⟩:=Pf (base:=0) (e:=e) (cells:=olds.toArray++news.toArray++Builtin.zeroCells z.cells (grownCap w (rows.length+src.length) rows.length e - (rows.length+src.length))) hd.1 hnew
       (by
        simp only [List.length_append,Array.size_append,List.size_toArray,o1,n1]
        rw [Nat.add_mul]
        omega)
       (fun r hr=>by
        rcases List.mem_append.1 hr with hr | hr
        ·rw [← e7]; exact hrows r hr
        ·exact n3 r hr)
       (by
        intro i j hi hj
        simp only [List.length_append] at hi
        rw [Sb,Nat.zero_add]
        split
        ·rename_i hil
         have hk:=Hz (st:=iE.size) hil hj
         refine⟨olds.getD (i * iE.size+j) undef,?_,(o4 i j hil hj).ext hd.2⟩
         have hk':i * iE.size+j<olds.length:=by rw [o1]; exact hk
         obtain⟨y,hy⟩ : ∃ y,olds[i * iE.size+j]? = some y:=⟨_,List.getElem?_eq_getElem hk'⟩
         rw [Dh hy,Array.getElem?_append_left (by simp; omega),Array.getElem?_append_left (by simpa using hk')]
         simpa using hy
        ·rename_i hil
         have hi2:i - rows.length<src.length:=by omega
         have hk:=Hz (st:=iE.size) hi2 hj
         refine⟨news.getD ((i - rows.length) * iE.size+j) undef,?_,(n4 _ _ hi2 hj).ext hd.2⟩
         have hk':(i - rows.length) * iE.size+j<news.length:=by rw [n1]; exact hk
         obtain⟨y,hy⟩ : ∃ y,news[(i - rows.length) * iE.size+j]? = some y:=⟨_,List.getElem?_eq_getElem hk'⟩
         have:i * iE.size=rows.length * iE.size+(i - rows.length) * iE.size:=by rw [← Nat.add_mul]; congr 1; omega
         rw [Dh hy,Array.getElem?_append_left (by simp; omega),Array.getElem?_append_right (by simp; omega)]
         simp only [List.size_toArray,List.getElem?_toArray,o1]
         rw [← hy]
         congr 1
         omega)
      refine⟨_,_,_,mu',_,hrun,?_,m2,m3,hd.2.trans m4⟩
      have hcap2:rows.length+src.length≤grownCap w (rows.length+src.length) rows.length e:=grownCap_ge w _ _ e
      have:=Rv.ref (w:=w.drew.alloc (.cells (olds.toArray++news.toArray++Builtin.zeroCells z.cells (grownCap w (rows.length+src.length) rows.length e - (rows.length+src.length))) e)) (M:=Ci (upd h o (some (.rows g iE.size (rows++src)))) mu') o g 0 (rows.length+src.length) (grownCap w (rows.length+src.length) rows.length e) _ m1 rfl hcap2 (Nat.le_trans (Nat.le_mul_of_pos_right _ hby) hlim) (by
       simp only [Array.size_append,List.size_toArray,size_zc,hzs,n1,o1,Nat.zero_add]
       rw [← Nat.add_mul,← Nat.add_mul]
       exact Nat.le_of_eq (by congr 1; omega))
      simpa using this
     ·exact hK.elim
    ·exact hK.elim
   ·exact hK.elim
  ·exact hK.elim
 ·exact hK.elim
end
end Go.Am
namespace Go.Am
open Go
set_option linter.unusedSimpArgs false
set_option linter.unusedVariables false
set_option linter.unusedSectionVars false
def Uj (P:Program):List (Nat×TypeId)→Option (List (Nat×Nat))
 | []=>some []
 | (off,t)::r=>match ti P t,Uj P r with
  | some T,some l=>some ((off,T.size)::l)
  | _,_=>none
def U1 (place:Nat→Option (Nat×Nat)):List AV→List (Nat×AV)→Option (List AV)
 | cells,[]=>some cells
 | cells,(i,v)::rest=>match place i with
  | none=>none
  | some (off,size)=>if v.ok=true∧v.cells.length=size∧off+size≤cells.length then U1 place (putCells cells off v.cells) rest else none
def Tn (P:Program)(t:TypeId)(parts:List (Nat×AV)):Option AV:=
 match ti P t with
 | none=>none
 | some T=>match T.k with
  | .st fs=>match Uj P fs with
   | some pl=>(U1 (pl[·]?) T.z parts).map .agg
   | none=>none
  | .arr _ e=>match ti P e with
   | some E=>(U1 (fun i=>some (i * E.size,E.size)) T.z parts).map .agg
   | none=>none
  | _=>none
def P3 (size:Nat):List (List AV)→List (Nat×AV)→Option (List (List AV))
 | rows,[]=>some rows
 | rows,(i,v)::rest=>if v.ok=true∧v.cells.length=size∧i<rows.length∧v.cells.all AV.flat=true then P3 size (rows.set i v.cells) rest else none
inductive CellSim:AV→AV→Prop
 | same (v:AV):CellSim v v
 | emp (st:Nat):CellSim .emp (.sl st [])
theorem CellSim.rv {w:World}{mu:Mu}{M:Nat→Prop}{a b:AV}{c:Value}(k:CellSim a b)(h:Rv w mu M a c):Rv w mu M b c:=by
 cases k with
 | same=>exact h
 | emp st=>cases h with | emp a=>exact .sl0 st a 0
inductive ValSim:AV→AV→Prop
 | cell {a b:AV} (h:CellSim a b):ValSim a b
 | agg {l l':List AV} (hl:l.length=l'.length) (h : ∀ i,i<l.length→CellSim (l.getD i .und) (l'.getD i .und)):ValSim (.agg l) (.agg l')
theorem ValSim.rv {w:World}{mu:Mu}{M:Nat→Prop}{a b:AV}{c:Value}(k:ValSim a b)(h:Rv w mu M a c):Rv w mu M b c:=by
 cases k with
 | cell k=>exact k.rv h
 | agg hl k=>
  cases h with
  | agg cs vs h1 h2=>exact .agg _ vs (hl ▸ h1) fun i hi=>(k i (hl ▸ hi)).rv (h2 i (hl ▸ hi))
structure RowsSim (st:Nat)(rows rows':List (List AV)):Prop where
 len:rows'.length=rows.length
 ok : ∀ r ∈ rows',Cm st r
 cells : ∀ i j,i<rows.length→j<st→CellSim (cell rows i j) (cell rows' i j)
def In (P:Program)(h:Ab)(t:TypeId)(len:Nat)(parts:List (Nat×AV))(K:AV→Ab→Prop):Prop:=
 match ti P t with
 | some T=>match T.k with
  | .sl e=>match ti P e with
   | some E=>if len=0 then parts=[]∧(K .emp h∨K (.sl E.size []) h) else 0<E.size∧len * E.size≤2 ^ 24∧E.z.all AV.flat=true∧match P3 E.size (List.replicate len E.z) parts with
    | some rows => ∃ rows',RowsSim E.size rows rows'∧(K (.sl E.size rows') h∨Q2 h E.size rows' (fun o g h'=>K (.ref o g 0 len) h'))
    | none=>False
   | none=>False
  | _=>False
 | none=>False
def U0 (P:Program)(h:Ab)(t:TypeId)(len cap:AV)(K:AV→Ab→Prop):Prop:=
 match ti P t with
 | some T=>match T.k,len,cap with
  | .sl e,.int _ n,.int _ c=>match ti P e with
   | some E=>0<E.size∧0<E.bytes∧E.z.all AV.flat=true∧0≤n∧n≤c∧c.toNat * E.bytes≤Bt∧(Q2 h E.size (List.replicate n.toNat E.z) (fun o g h'=>K (.ref o g 0 n.toNat) h') ∨
    (E.size=1∧Q2 h c.toNat [List.replicate c.toNat (E.z.getD 0 .und)] (fun o g h'=>K (.refc o g 0 0 n.toNat c.toNat) h')))
   | none=>False
  | _,_,_=>False
 | none=>False
def Acz (P:Program)(x:AV)(asserted:TypeId)(ok:Bool):Option AV:=
 match ti P asserted with
 | none=>none
 | some T=>if T.k=.ifc then none else match x with
  | .iface t v=>if t=asserted then some (if ok then .tup [v,.bool true] else v) else if ok then some (.tup [(if T.k.agg then .agg T.z else T.z.getD 0 .und),.bool false]) else none
  | .nili=>if ok then some (.tup [(if T.k.agg then .agg T.z else T.z.getD 0 .und),.bool false]) else none
  | _=>none
section
variable {P:Program} [GW P] {B:Base P} {h:Ab} {mu:Mu} {w:World} {M:Nat→Prop}
theorem Aex : ∀ (l:List Value) (m off:Nat) (arr:Array Value),((l.zipIdx m).foldl (fun cs (p:Value×Nat)=>cs.setIfInBounds (off+p.2) p.1) arr).size=arr.size ∧
  ∀ k,((l.zipIdx m).foldl (fun cs (p:Value×Nat)=>cs.setIfInBounds (off+p.2) p.1) arr)[k]? = if off+m≤k∧k<off+m+l.length∧k<arr.size then l[k - (off+m)]? else arr[k]?
 | [],m,off,arr=>⟨rfl,fun k=>by simp; omega⟩
 | v::r,m,off,arr=>by
  obtain⟨h1,h2⟩:=Aex r (m+1) off (arr.setIfInBounds (off+m) v)
  simp only [List.zipIdx_cons,List.foldl_cons]
  refine⟨by rw [h1]; simp,fun k=>?_⟩
  rw [h2 k]
  simp only [Array.size_setIfInBounds,List.length_cons]
  by_cases hk:k=off+m
  ·subst hk
   rw [if_neg (by omega)]
   by_cases hs:off+m<arr.size
   ·rw [if_pos ⟨by omega,by omega,hs⟩]; simp [hs]
   ·rw [if_neg (by omega),Array.getElem?_eq_none (by simp; omega),Array.getElem?_eq_none (by omega)]
  ·by_cases hc:off+(m+1)≤k∧k<off+(m+1)+r.length∧k<arr.size
   ·rw [if_pos hc,if_pos (by omega)]
    rw [show k - (off+m)=(k - (off+(m+1)))+1 by omega]; simp
   ·rw [if_neg hc,if_neg (by omega),Array.getElem?_setIfInBounds_ne (by omega)]
def Afj (w:World)(mu:Mu)(M:Nat→Prop)(cs:List AV)(arr:Array Value):Prop:=cs.length=arr.size ∧ ∀ i,i<cs.length → ∃ c,arr[i]? = some c∧Rv w mu M (cs.getD i .und) c
theorem Z4 {place:Nat→Option (Nat×Nat)} : ∀ (parts:List (Nat×AV)) (cparts:List (Nat×Value)) (cs:List AV) (arr:Array Value) {cs':List AV},
  parts.length=cparts.length→(∀ k,k<parts.length→(parts.getD k (0,.und)).1=(cparts.getD k (0,undef)).1∧Rv w mu M (parts.getD k (0,.und)).2 (cparts.getD k (0,undef)).2) →
  Afj w mu M cs arr→U1 place cs parts=some cs' → ∃ arr',Instr.fill place arr cparts=some arr'∧Afj w mu M cs' arr'
 | [],cparts,cs,arr,cs',hl,hp,ha,hf=>by
  have:cparts=[]:=List.eq_nil_of_length_eq_zero hl.symm
  subst this
  simp [U1] at hf; subst hf
  exact⟨arr,rfl,ha⟩
 | (i,v)::rest,cparts,cs,arr,cs',hl,hp,ha,hf=>by
  cases cparts with
  | nil=>simp at hl
  | cons q crest=>
   obtain⟨ci,cv⟩:=q
   obtain⟨e1,e2⟩:=hp 0 (by simp)
   simp only [List.getD_cons_zero] at e1 e2
   subst e1
   unfold U1 at hf
   split at hf
   ·cases hf
   rename_i off size hpl
   split at hf
   ·rename_i hc
    obtain⟨hok,hlen,hle⟩:=hc
    obtain⟨z1,z2⟩:=Aao e2 hok
    have hsz:cv.cells.size=size:=by omega
    obtain⟨f1,f2⟩:=Aex cv.cells.toList 0 off arr
    have hfold:cv.cells.zipIdx.foldl (fun cs (p:Value×Nat)=>cs.setIfInBounds (off+p.2) p.1) arr=(cv.cells.toList.zipIdx 0).foldl (fun cs (p:Value×Nat)=>cs.setIfInBounds (off+p.2) p.1) arr:=by
     rw [← Array.foldl_toList,Array.toList_zipIdx]
    have ha':Afj w mu M (putCells cs off v.cells) (cv.cells.zipIdx.foldl (fun cs (p:Value×Nat)=>cs.setIfInBounds (off+p.2) p.1) arr):=by
     refine⟨?_,fun k hk=>?_⟩
     ·rw [Qw (by omega),hfold,f1]; exact ha.1
     ·rw [Qw (by omega)] at hk
      rw [hfold,f2 k,Vs (by omega)]
      simp only [Nat.add_zero,Array.length_toList]
      by_cases hin:off≤k∧k<off+v.cells.length
      ·rw [if_pos hin,if_pos (by have:=ha.1; omega)]
       have hkk:k - off<cv.cells.toList.length:=by simp; omega
       refine⟨cv.cells.toList[k - off],List.getElem?_eq_getElem hkk,?_⟩
       have:=z2 (k - off) (by omega)
       rwa [Dh (d:=undef) (List.getElem?_eq_getElem hkk)] at this
      ·rw [if_neg hin,if_neg (by omega)]
       exact ha.2 k hk
    obtain⟨arr',g1,g2⟩:=Z4 rest crest _ _ (by simpa using hl) (fun k hk=>by simpa using hp (k+1) (by simp; omega)) ha' hf
    refine⟨arr',?_,g2⟩
    simp only [Instr.fill,hpl]
    rw [if_neg]
    ·exact g1
    ·have:=ha.1
     simp [hsz]; omega
   ·cases hf
theorem Ado : ∀ (fs:List Field) {pl:List (Nat×Nat)},Uj P (fs.map fun f=>(f.offset,f.type))=some pl→fs.mapM (fun f=>(P.info? f.type).map fun i=>(f.offset,i.size))=some pl
 | [],pl,h=>by simp [Uj] at h; subst h; rfl
 | f::r,pl,h=>by
  simp only [List.map_cons,Uj] at h
  split at h
  ·rename_i T l hT hl
   cases h
   obtain⟨d,i,z,h1,h2,h3,h4,h5,h6,h7,h8,_⟩:=Mp hT
   rw [List.mapM_cons,h2,Ado r hl,h7]
   rfl
  ·cases h
theorem Aet {T:TI}{z:Value}(h:P9 z.cells.toList=some T.z):Afj w mu M T.z z.cells:=by
 obtain⟨h1,h2⟩:=Oa (w:=w) (mu:=mu) (M:=M) h
 refine⟨by simpa using h1,fun i hi=>?_⟩
 have hi':i<z.cells.toList.length:=by rw [← h1]; exact hi
 refine⟨z.cells.toList[i],by rw [← Array.getElem?_toList]; exact List.getElem?_eq_getElem hi',?_⟩
 have:=h2 i hi
 rwa [Dh (d:=undef) (List.getElem?_eq_getElem hi')] at this
theorem Ag3 {cs:List AV}{arr:Array Value}(h:Afj w mu M cs arr):Rv w mu M (.agg cs) (.agg arr):=by
 have:=Rv.agg (w:=w) (mu:=mu) (M:=M) cs arr.toList (by simpa using h.1) (fun i hi=>by
  obtain⟨c,h1,h2⟩:=h.2 i hi
  rw [← Array.getElem?_toList] at h1
  rw [Dh h1]; exact h2)
 simpa using this
theorem Alb {t:TypeId}{parts:List (Nat×AV)}{cparts:List (Nat×Value)}{x:AV}(hl:parts.length=cparts.length)
  (hp : ∀ k,k<parts.length→(parts.getD k (0,.und)).1=(cparts.getD k (0,undef)).1∧RV h mu w (parts.getD k (0,.und)).2 (cparts.getD k (0,undef)).2) (hx:Tn P t parts=some x) :
  ∃ y,(Instr.build t cparts.toArray).run P w=.ok y w∧RV h mu w x y:=by
 unfold Tn at hx
 split at hx
 ·cases hx
 rename_i T hT
 obtain⟨d,i,z,h1,h2,h3,h4,h5,h6,h7,h8,h9,h10⟩:=Mp hT
 split at hx
 ·rename_i fs hk
  obtain⟨a,rfl,rfl⟩:=Ant (hk ▸ h6)
  split at hx
  ·rename_i pl hpl
   cases hf:U1 (pl[·]?) T.z parts with
   | none=>simp [hf] at hx
   | some cs=>
    simp [hf] at hx; subst hx
    obtain⟨arr,g1,g2⟩:=Z4 parts cparts T.z z.cells hl hp (Aet h4) hf
    refine⟨.agg arr,run_build w t cparts.toArray arr ?_,Ag3 g2⟩
    simp only [Program.built,h1,h2,h3,Ado a.toList hpl]
    simpa using g1
  ·cases hx
 ·rename_i n e hk
  have:=W2 (hk ▸ h6); subst this
  split at hx
  ·rename_i E hE
   cases hf:U1 (fun i=>some (i * E.size,E.size)) T.z parts with
   | none=>simp [hf] at hx
   | some cs=>
    simp [hf] at hx; subst hx
    obtain⟨arr,g1,g2⟩:=Z4 parts cparts T.z z.cells hl hp (Aet h4) hf
    obtain⟨d',i',z',k1,k2,k3,k4,k5,k6,k7,_⟩:=Mp hE
    refine⟨.agg arr,run_build w t cparts.toArray arr ?_,Ag3 g2⟩
    simp only [Program.built,h1,h2,h3,k2]
    rw [k7] at g1
    simpa using g1
  ·cases hx
 ·cases hx
end
end Go.Am
namespace Go.Am
open Go
set_option linter.unusedSimpArgs false
set_option linter.unusedVariables false
set_option linter.unusedSectionVars false
section
variable {P:Program} [GW P] {B:Base P} {h:Ab} {mu:Mu} {w:World} {M:Nat→Prop}
def Afq (w:World)(mu:Mu)(M:Nat→Prop)(size:Nat)(rows:List (List AV))(arr:Array Value):Prop:=
 arr.size=rows.length * size∧(∀ r ∈ rows,Cm size r) ∧ ∀ i j,i<rows.length→j<size → ∃ c,arr[i * size+j]? = some c∧Rv w mu M (cell rows i j) c
theorem Zn {T:TI}{z:Value}{i:TypeInfo}(h:P9 z.cells.toList=some T.z)(hl:T.z.length=T.size)(hf:T.z.all AV.flat=true)(n:Nat) :
  Afq w mu M T.size (List.replicate n T.z) ((Array.range (n * T.size)).map (z.cells[· % z.cells.size]!)):=by
 obtain⟨h1,h2⟩:=Oa (w:=w) (mu:=mu) (M:=M) h
 refine⟨by simp,fun r hr=>?_,fun i j hi hj=>?_⟩
 ·rw [List.eq_of_mem_replicate hr]
  exact⟨hl,fun v hv=>List.all_eq_true.1 hf v hv⟩
 ·rw [List.length_replicate] at hi
  have hk:=Hz (st:=T.size) hi hj
  obtain⟨e1,e2⟩:=Zr (i:=i) hj
  have hs:z.cells.size=T.size:=by rw [← hl,h1]; simp
  have hj':j<z.cells.toList.length:=by simp [hs]; exact hj
  refine⟨z.cells.toList[j],?_,?_⟩
  ·rw [Array.getElem?_map]
   simp only [Array.getElem?_range,hk,if_true,Option.map_some,hs,e2]
   simp at hj'
   simp [hj']
  ·have:=h2 j (by omega)
   rw [Dh (d:=undef) (List.getElem?_eq_getElem hj')] at this
   have hc:cell (List.replicate n T.z) i j=T.z.getD j .und:=by simp [cell,List.getD,hi]
   rw [hc]; exact this
theorem Y7 {size:Nat} : ∀ (parts:List (Nat×AV)) (cparts:List (Nat×Value)) (rows:List (List AV)) (arr:Array Value) {rows':List (List AV)},
  parts.length=cparts.length→(∀ k,k<parts.length→(parts.getD k (0,.und)).1=(cparts.getD k (0,undef)).1∧Rv w mu M (parts.getD k (0,.und)).2 (cparts.getD k (0,undef)).2) →
  Afq w mu M size rows arr→P3 size rows parts=some rows' → ∃ arr',Instr.fill (fun i=>some (i * size,size)) arr cparts=some arr'∧Afq w mu M size rows' arr'∧rows'.length=rows.length
 | [],cparts,rows,arr,rows',hl,hp,ha,hf=>by
  have:cparts=[]:=List.eq_nil_of_length_eq_zero hl.symm
  subst this
  simp [P3] at hf; subst hf
  exact⟨arr,rfl,ha,rfl⟩
 | (i,v)::rest,cparts,rows,arr,rows',hl,hp,ha,hf=>by
  cases cparts with
  | nil=>simp at hl
  | cons q crest=>
   obtain⟨ci,cv⟩:=q
   obtain⟨e1,e2⟩:=hp 0 (by simp)
   simp only [List.getD_cons_zero] at e1 e2
   subst e1
   unfold P3 at hf
   split at hf
   ·rename_i hc
    obtain⟨hok,hlen,hi,hflat⟩:=hc
    obtain⟨z1,z2⟩:=Aao e2 hok
    have hsz:cv.cells.size=size:=by omega
    obtain⟨a1,a2,a3⟩:=ha
    obtain⟨f1,f2⟩:=Aex cv.cells.toList 0 (i * size) arr
    have hfold:cv.cells.zipIdx.foldl (fun cs (p:Value×Nat)=>cs.setIfInBounds (i * size+p.2) p.1) arr=(cv.cells.toList.zipIdx 0).foldl (fun cs (p:Value×Nat)=>cs.setIfInBounds (i * size+p.2) p.1) arr:=by
     rw [← Array.foldl_toList,Array.toList_zipIdx]
    have ha':Afq w mu M size (rows.set i v.cells) (cv.cells.zipIdx.foldl (fun cs (p:Value×Nat)=>cs.setIfInBounds (i * size+p.2) p.1) arr):=by
     refine⟨by rw [hfold,f1,a1]; simp,Ab2 a2 ⟨hlen,fun x hx=>List.all_eq_true.1 hflat x hx⟩,fun r j hr hj=>?_⟩
     rw [List.length_set] at hr
     have hk:=Hz (st:=size) hr hj
     rw [Aen hi,hfold,f2]
     simp only [Nat.add_zero,Array.length_toList]
     by_cases hri:r=i
     ·subst hri
      rw [if_pos rfl,if_pos (by omega)]
      have hkk:r * size+j - r * size<cv.cells.toList.length:=by simp; omega
      refine⟨cv.cells.toList[r * size+j - r * size],List.getElem?_eq_getElem hkk,?_⟩
      have:=z2 (r * size+j - r * size) (by omega)
      rw [Dh (d:=undef) (List.getElem?_eq_getElem hkk)] at this
      simp only [show r * size+j - r * size=j by omega] at this ⊢
      exact this
     ·rw [if_neg hri,if_neg (by have:=Ahb (c:=0) (n:=size) hri hj (by omega); omega)]
      exact a3 r j hr hj
    obtain⟨arr',g1,g2,g3⟩:=Y7 rest crest _ _ (by simpa using hl) (fun k hk=>by simpa using hp (k+1) (by simp; omega)) ha' hf
    refine⟨arr',?_,g2,by rw [g3]; simp⟩
    simp only [Instr.fill]
    rw [if_neg]
    ·exact g1
    ·have:=Nat.mul_le_mul_right size (show i+1≤rows.length from hi)
     rw [Nat.add_mul] at this
     simp [hsz]; omega
   ·cases hf
theorem RV.newRef {h':Ab}{mu':Mu}{w':World}{o g b st size n cap:Nat}(hm:mu' o g=some ⟨b,0,st,size,true⟩)(hn:n≤cap)(hlim:n≤Bt)(hs:cap * st≤size):RV h' mu' w' (.ref o g 0 n) (.slice (some ⟨b,0,none⟩) n cap):=by
 have:=Rv.ref (w:=w') (M:=Ci h' mu') o g 0 n cap _ hm rfl hn hlim (by simpa using hs)
 simpa using this
theorem Z9 (f:Nat→Value):(Array.range 0).map f = #[]:=by
 apply Array.ext'
 simp
theorem Aej (s:Sim B mu h w){t:TypeId}{len:Nat}{parts:List (Nat×AV)}{cparts:List (Nat×Value)}{K:AV→Ab→Prop}(hl:parts.length=cparts.length)
  (hp : ∀ k,k<parts.length→(parts.getD k (0,.und)).1=(cparts.getD k (0,undef)).1∧RV h mu w (parts.getD k (0,.und)).2 (cparts.getD k (0,undef)).2) (hK:In P h t len parts K) :
  ∃ v c h' mu' w',(Instr.buildSlice t len cparts.toArray).run P w=.ok c w'∧RV h' mu' w' v c∧K v h'∧Sim B mu' h' w'∧Da h mu w h' mu' w':=by
 unfold In at hK
 split at hK
 ·rename_i T hT
  split at hK
  ·rename_i e hk
   obtain⟨dS,hdS,hkS⟩:=Eh hT
   have:=Fo (hk ▸ hkS); subst this
   split at hK
   ·rename_i E hE
    obtain⟨d,i,z,e1,e2,e3,e4,e5,e6,e7,e8,_⟩:=Mp hE
    split at hK
    ·rename_i h0
     subst h0
     obtain⟨rfl,hK⟩:=hK
     have:cparts=[]:=List.eq_nil_of_length_eq_zero hl.symm
     subst this
     have hj:=s.junk (.cells #[] e)
     have hrun:(Instr.buildSlice t 0 ([]:List (Nat×Value)).toArray).run P w=.ok (.slice (some ⟨w.heap.size,0,none⟩) 0 0) (w.alloc (.cells #[] e)):=by
      simp [Instr.buildSlice,run_underlying hdS,sizeOf,typeInfo,zeroValue,e2,newRow,Instr.fill]
      rw [Z9]
     rcases hK with hK | hK
     ·exact⟨.emp,.slice (some ⟨w.heap.size,0,none⟩) 0 0,h,mu,w.alloc (.cells #[] e),hrun,.emp _,hK,hj.1,hj.2⟩
     ·exact⟨.sl E.size [],.slice (some ⟨w.heap.size,0,none⟩) 0 0,h,mu,w.alloc (.cells #[] e),hrun,.sl0 _ _ _,hK,hj.1,hj.2⟩
    ·rename_i h0
     obtain⟨hsz,hlim,hfl,hK⟩:=hK
     split at hK
     ·rename_i rows hrows
      obtain⟨arr,f1,⟨r1,r2,r3⟩,f3⟩:=Y7 parts cparts _ _ hl hp (Zn (i:=i) e4 e5 hfl len) hrows
      rw [List.length_replicate] at f3
      have hrun:(Instr.buildSlice t len cparts.toArray).run P w=.ok (.slice (some ⟨w.heap.size,0,none⟩) len len) (w.alloc (.cells arr e)):=by
       rw [e7] at f1 hlim hsz
       exact run_buildSlice w t e len cparts.toArray arr i z hdS e2 e3 (by omega) (by
        intro hq
        rcases Nat.mul_eq_zero.1 hq with hq | hq <;> omega) (by simpa using f1)
      have hLIM:len≤Bt:=by have:=Nat.le_mul_of_pos_right len hsz; unfold Bt; omega
      obtain⟨rows',hsim,hK⟩:=hK
      rcases hK with hK | hK
      ·have hj:=s.junk (.cells arr e)
       have hlen':rows'.length=len:=hsim.len.trans f3
       refine⟨.sl E.size rows',.slice (some ⟨w.heap.size,0,none⟩) len len,h,mu,w.alloc (.cells arr e),hrun,?_,hK,hj.1,hj.2⟩
       have key : ∃ vs:Nat→Nat→Value,∀ i j,i<rows'.length→j<E.size→(w.alloc (.cells arr e)).cell? ⟨w.heap.size,0+i * E.size+j,none⟩=some (vs i j)∧RV h mu (w.alloc (.cells arr e)) (cell rows' i j) (vs i j):=by
        refine⟨fun i j=>((w.alloc (.cells arr e)).cell? ⟨w.heap.size,0+i * E.size+j,none⟩).getD undef,fun i j hi hj'=>?_⟩
        obtain⟨c,hc1,hc2⟩:=r3 i j (by rw [f3,← hlen']; exact hi) hj'
        have hx:(w.alloc (.cells arr e)).cell? ⟨w.heap.size,0+i * E.size+j,none⟩=some c:=by
         unfold World.cell?
         rw [My,Nat.zero_add]; simpa using hc1
        have hg:((w.alloc (.cells arr e)).cell? ⟨w.heap.size,0+i * E.size+j,none⟩).getD undef=c:=by rw [hx]; rfl
        refine⟨by show _=some (((w.alloc (.cells arr e)).cell? ⟨w.heap.size,0+i * E.size+j,none⟩).getD undef); rw [hg]; exact hx,?_⟩
        show RV h mu _ _ (((w.alloc (.cells arr e)).cell? ⟨w.heap.size,0+i * E.size+j,none⟩).getD undef)
        rw [hg]
        exact(hsim.cells i j (by rw [f3,← hlen']; exact hi) hj').rv (hc2.ext hj.2)
       obtain⟨vs,hvs⟩:=key
       have:=Rv.sl (w:=w.alloc (.cells arr e)) (mu:=mu) (M:=Ci h mu) E.size rows' w.heap.size 0 len vs (by omega) (by omega) (fun i j hi hj=>(hvs i j hi hj).1) (fun i j hi hj=>(hvs i j hi hj).2) hsim.ok (fun hm=>by have:=Ci.lt s hm; omega) (by rw [Eb]; omega)
       rw [hlen'] at this
       exact this
      obtain⟨o,g,mu',m1,m2,m3,m4⟩:=Pf (base:=0) (cells:=arr) (e:=e) s hK (by rw [r1,hsim.len]; omega) hsim.ok (by
       intro i j hi hj
       rw [Nat.zero_add]
       rw [hsim.len] at hi
       obtain⟨c,k1,k2⟩:=r3 i j hi hj
       exact⟨c,k1,(hsim.cells i j hi hj).rv k2⟩)
      refine⟨_,.slice (some ⟨w.heap.size,0,none⟩) len len,_,mu',w.alloc (.cells arr e),hrun,RV.newRef m1 (Nat.le_refl _) hLIM (by rw [r1,f3]; exact Nat.le_refl _),m2,m3,m4⟩
     ·exact hK.elim
   ·exact hK.elim
  ·exact hK.elim
 ·exact hK.elim
theorem Aai {n:Int}(h0:0≤n)(h:n≤140737488355328):IntKind.i64.wrap n=n:=by
 simp [IntKind.wrap,IntKind.bits,IntKind.signed]
 omega
theorem Anp (s:Sim B mu h w){t:TypeId}{len cap:AV}{cl cc:Value}{K:AV→Ab→Prop}(h1:RV h mu w len cl)(h2:RV h mu w cap cc)(hK:U0 P h t len cap K) :
    ∃ v c h' mu' w',(Instr.makeSlice t cl cc).run P w=.ok c w'∧RV h' mu' w' v c∧K v h'∧Sim B mu' h' w'∧Da h mu w h' mu' w':=by
  unfold U0 at hK
  split at hK
  · rename_i T hT
    split at hK
    · rename_i e k n k' c hk
      obtain⟨dS,hdS,hkS⟩:=Eh hT
      have:=Fo (hk ▸ hkS); subst this
      cases h1; cases h2
      split at hK
      · rename_i E hE
        obtain⟨d,i,z,e1,e2,e3,e4,e5,e6,e7,e8,_⟩:=Mp hE
        obtain⟨hsz,hby,hfl,h0,hnc,hlim,hK⟩:=hK
        obtain⟨r1,r2,r3⟩:=Zn (w:=w) (mu:=mu) (M:=Ci h mu) (i:=i) e4 e5 hfl c.toNat
        have hrun:(Instr.makeSlice t (.int k n) (.int k' c)).run P w=.ok (.slice (some ⟨w.heap.size,0,none⟩) n.toNat c.toNat) (w.alloc (.cells ((Array.range (c.toNat * E.size)).map (z.cells[· % z.cells.size]!)) e)):=by
          have hcc:(c.toNat:Int)=c:=Int.toNat_of_nonneg (by omega)
          have hle:c.toNat≤c.toNat * E.bytes:=Nat.le_mul_of_pos_right _ hby
          have hlim':c.toNat * E.bytes≤140737488355328:=hlim
          have wc:IntKind.i64.wrap c=c:=Aai (by omega) (by omega)
          have wn:IntKind.i64.wrap n=n:=Aai (by omega) (by omega)
          have hbytes:¬ (281474976710656<(i.bytes:Int) * c):=by
            rw [← e8,← hcc,Int.mul_comm,← Int.natCast_mul]
            omega
          have hbytes2:¬ (281474976710656<(i.bytes:Int) * n):=by
            have:(i.bytes:Int) * n≤(i.bytes:Int) * c:=Int.mul_le_mul_of_nonneg_left hnc (by omega)
            omega
          by_cases hz:c.toNat * E.size=0
          · have hc0:c.toNat=0:=by
              rcases Nat.mul_eq_zero.1 hz with hz | hz <;> omega
            have hc0':c=0:=by omega
            have hn0':n=0:=by omega
            subst hc0'; subst hn0'
            simp only [hz,Z9]
            simp [Instr.makeSlice,run_underlying hdS,asInt,asIntOf,sizeOf,typeInfo,zeroValue,e2,newRow,IntKind.wrap,IntKind.bits,IntKind.signed,Z9]
          · rw [e7] at hz ⊢
            simp [Instr.makeSlice,run_underlying hdS,asInt,asIntOf,sizeOf,typeInfo,zeroValue,e2,e3,newRow,wc,wn,hbytes,hbytes2,h0,hnc,hz,show ¬ c<0 by omega,show ¬ n<0 by omega,show ¬ c<n by omega]
        rcases hK with hK | ⟨hs1,hK⟩
        · obtain ⟨o, g, mu', m1, m2, m3, m4⟩ := Pf (base := 0) (cells := (Array.range (c.toNat * E.size)).map (z.cells[· % z.cells.size]!)) (e := e) s hK (by
              rw [r1]; simp only [List.length_replicate,Nat.zero_add]
              exact Nat.mul_le_mul_right _ (by omega)) (by
              intro r hr
              rw [List.eq_of_mem_replicate hr]
              exact⟨e5,fun v hv=>List.all_eq_true.1 hfl v hv⟩) (by
              intro i j hi hj
              rw [List.length_replicate] at hi
              rw [Nat.zero_add]
              obtain⟨x,hx1,hx2⟩:=r3 i j (by simp; omega) hj
              refine⟨x,hx1,?_⟩
              rw [show cell (List.replicate n.toNat E.z) i j=cell (List.replicate c.toNat E.z) i j by
                simp [cell,List.getD,hi,show i<c.toNat by omega]]
              exact hx2)
          exact⟨_,_,_,mu',_,hrun,RV.newRef m1 (by omega) (by have:=Nat.le_mul_of_pos_right c.toNat hby; omega) (by rw [r1]; simp),m2,m3,m4⟩
        · have hz1:E.z.length=1:=by rw [e5,hs1]
          obtain⟨z0,hz0⟩ : ∃ z0,E.z=[z0]:=by
            match hq:E.z,hz1 with
            | [z0],_=>exact⟨z0,rfl⟩
          have hz0f:z0.flat=true:=by rw [hz0] at hfl; simpa using hfl
          have hg:E.z.getD 0 .und=z0:=by rw [hz0]; rfl
          rw [hg] at hK
          obtain⟨o,g,mu',m1,m2,m3,m4⟩:=Pf (base:=0) (cells:=(Array.range (c.toNat * E.size)).map (z.cells[· % z.cells.size]!)) (e:=e) s hK (by
              rw [r1]; simp [hs1]) (by
              intro r hr
              simp only [List.mem_singleton] at hr
              subst hr
              exact⟨by simp,fun v hv=>by rw [List.eq_of_mem_replicate hv]; exact hz0f⟩) (by
              intro i j hi hj
              have hi0:i=0:=by simpa using hi
              subst hi0
              obtain⟨x,hx1,hx2⟩:=r3 j 0 (by simpa using hj) (by omega)
              rw [show j * E.size+0=j by rw [hs1]; omega] at hx1
              refine⟨x,by simp only [Nat.zero_mul,Nat.zero_add]; exact hx1,?_⟩
              have:cell [List.replicate c.toNat z0] 0 j=cell (List.replicate c.toNat E.z) j 0:=by simp [cell,List.getD,hj,hz0]
              rw [this]; exact hx2)
          refine⟨_,_,_,mu',_,hrun,?_,m2,m3,m4⟩
          have hcl:=Nat.le_mul_of_pos_right c.toNat hby
          have:=Rv.refc (w:=w.alloc (.cells ((Array.range (c.toNat * E.size)).map (z.cells[· % z.cells.size]!)) e)) (M:=Ci (upd h o (some (.rows g c.toNat [List.replicate c.toNat z0]))) mu') o g 0 0 n.toNat c.toNat _ m1 rfl (by omega) (by omega) (by rw [r1]; simp [hs1])
          simpa using this
      · exact hK.elim
    · exact hK.elim
  · exact hK.elim
theorem Aj2 {x r:AV}{c:Value}{xT asserted:TypeId}{ok:Bool}(hv:RV h mu w x c)(hx:Acz P x asserted ok=some r) : ∃ y,(Instr.typeAssert c xT asserted ok).run P w=.ok y w∧RV h mu w r y:=by
 unfold Acz at hx
 split at hx
 ·cases hx
 rename_i T hT
 obtain⟨d,i,z,e1,e2,e3,e4,e5,e6,e7,e8,e9,e10⟩:=Mp hT
 have hzr:Rv w mu (Ci h mu) (if T.k.agg then .agg T.z else T.z.getD 0 .und) z:=by
  have hz:=Aet (w:=w) (mu:=mu) (M:=Ci h mu) e4
  split
  ·rename_i ha
   rw [e10 ha]; exact Ag3 hz
  ·rename_i ha
   have h1:=e9 (by simpa using ha)
   have hc:z.cells = #[z]:=by cases z <;> simp [Value.oneCell'] at h1 <;> rfl
   have hl:T.z.length=1:=by rw [hz.1,hc]; rfl
   obtain⟨y,hy1,hy2⟩:=hz.2 0 (by omega)
   rw [hc] at hy1
   simp at hy1; subst hy1
   exact hy2
 have hzero:(zeroValue asserted).run P w=.ok z w:=by simp [zeroValue,typeInfo,e2,e3]
 have hno : ∀ ms,d≠.interface ms:=by
  intro ms hq; subst hq
  rename_i hh
  split at hx
  ·cases hx
  ·rename_i hne
   exact hne (by rw [e6]; rfl)
 have tup2 : ∀ {a:AV} {b:Value} {q:Bool},Rv w mu (Ci h mu) a b→Rv w mu (Ci h mu) (.tup [a,.bool q]) (.tuple #[b,.bool q]):=by
  intro a b q hab
  refine .tup [a,.bool q] [b,.bool q] rfl (fun i hi=>?_)
  match i,hi with
  | 0,_=>exact hab
  | 1,_=>exact .bool q
 split at hx
 ·cases hx
 split at hx
 ·rename_i t v
  cases hv with
  | iface _ _ cv hcv=>
   split at hx
   ·rename_i ht
    cases hx
    cases ok
    ·refine⟨cv,?_,hcv⟩
     cases d <;> first | exact absurd rfl (hno _) | simp [Instr.typeAssert,run_underlying e1,ht]
    ·refine⟨.tuple #[cv,.bool true],?_,tup2 hcv⟩
     cases d <;> first | exact absurd rfl (hno _) | simp [Instr.typeAssert,run_underlying e1,ht]
   ·rename_i ht
    split at hx
    ·rename_i hok
     cases hx
     subst hok
     refine⟨.tuple #[z,.bool false],?_,tup2 hzr⟩
     cases d <;> first | exact absurd rfl (hno _) | simp [Instr.typeAssert,run_underlying e1,ht,hzero]
    ·cases hx
 ·split at hx
  ·rename_i hok
   cases hx
   subst hok
   cases hv
   refine⟨.tuple #[z,.bool false],?_,tup2 hzr⟩
   cases d <;> first | exact absurd rfl (hno _) | simp [Instr.typeAssert,run_underlying e1,hzero]
  ·cases hx
 ·cases hx
end
end Go.Am
namespace Go.Am
open Go
set_option linter.unusedSimpArgs false
set_option linter.unusedVariables false
set_option linter.unusedSectionVars false
def Tr:TK→AV→AV→Option Bool
 | .int _,.int k a,.int k' b=>if k=k' then some (a==b) else none
 | .str,.str a,.str b=>some (a==b)
 | .bool,.bool a,.bool b=>some (a==b)
 | _,_,_=>none
def Og (t:TK)(k:AV):List (AV×AV)→Nat→Option (Option (Nat×AV))
 | [],_=>some none
 | e::es,i=>match Tr t k e.1 with
  | some true=>some (some (i,e.2))
  | some false=>Og t k es (i+1)
  | none=>none
def Zy:TK→AV→Bool
 | .int k,.int k' _=>decide (k'=k)
 | .str,.str _=>true
 | .bool,.bool _=>true
 | _,_=>false
def W9 (h:Ab):AV→Option (List (AV×AV))
 | .mnil=>some []
 | .map o g=>match h o with
  | some (.mp g' es)=>if g'=g then some es else none
  | _=>none
 | .mapc es=>some (es.map fun p=>(.str p.1,p.2))
 | .mapi es=>some es
 | _=>none
def O6 (P:Program)(h:Ab)(t:TypeId)(m k:AV)(ok:Bool):Option AV:=
 match ti P t with
 | some T=>match T.k with
  | .map kt et=>match ti P kt,ti P et,W9 h m with
   | some KT,some ET,some es=>
    if Zy KT.k k=true then match Og KT.k k es 0 with
     | some (some (_,v))=>some (if ok then .tup [v,.bool true] else v)
     | some none=>match Hh ET.z 0 ET.size ET.k.agg with
      | some v=>some (if ok then .tup [v,.bool false] else v)
      | none=>none
     | none=>none
    else none
   | _,_,_=>none
  | _=>none
 | none=>none
def Rw (P:Program)(h:Ab)(t:TypeId)(m k v:AV):Option Ab:=
 match ti P t with
 | some T=>match T.k with
  | .map kt _=>match ti P kt,m with
   | some KT,.map o g=>match h o with
    | some (.mp g' es)=>if g'=g∧Zy KT.k k=true then match Og KT.k k es 0 with
      | some (some (i,_))=>some (upd h o (some (.mp g (es.set i (k,v)))))
      | some none=>some (upd h o (some (.mp g (es++[(k,v)]))))
      | none=>none
     else none
    | _=>none
   | _,_=>none
  | _=>none
 | none=>none
def Y4 (h:Ab)(K:AV→Ab→Prop):Prop := ∃ o,h o=none ∧ ∀ g,K (.map o g) (upd h o (some (.mp g [])))
section
variable {P:Program} [GW P] {B:Base P} {h:Ab} {mu:Mu} {w:World}
theorem Alc {T:TK}{d:TypeDesc}(hd:T=TK.of d){k e:AV}{ck ce:Value}{b:Bool}(hk:RV h mu w k ck)(he:RV h mu w e ce)(hx:Tr T k e=some b) :
  Instr.sameNow d ck ce=some b∧(b=true→Instr.sameBits 10000 ce ck=true)∧(b=true↔ce=ck):=by
 unfold Tr at hx
 split at hx
 ·rename_i _ a a1 _ a2
  obtain rfl:=Sd hd
  cases hk; cases he
  split at hx
  ·rename_i hkk
   subst hkk
   cases hx
   refine⟨by simp [Instr.sameNow],fun hb=>?_,⟨fun e=>by simp only [beq_iff_eq] at e; rw [e],fun e=>by injection e with _ e; simp [e]⟩⟩
   simp only [beq_iff_eq] at hb
   subst hb
   simp [Instr.sameBits]
  ·cases hx
 ·rename_i a1 a2
  obtain rfl:=Qf hd
  cases hk; cases he
  cases hx
  have hb:((⟨a1.toArray⟩:ByteArray)==(⟨a2.toArray⟩:ByteArray))=(a1==a2):=by
   cases hq:(a1==a2) with
   | true=>rw [beq_iff_eq] at hq; subst hq; exact(MapKept.bytes_beq _ _).2 rfl
   | false=>
    cases hq2:((⟨a1.toArray⟩:ByteArray)==(⟨a2.toArray⟩:ByteArray)) with
    | false=>rfl
    | true=>
     have:=(MapKept.bytes_beq _ _).1 hq2
     injection this with this
     have:a1=a2:=by simpa using this
     subst this; simp at hq
  refine⟨by simp [Instr.sameNow,hb],fun h=>?_,⟨fun e=>by simp only [beq_iff_eq] at e; rw [e],fun e=>by have h1:a2.toArray=a1.toArray:=congrArg ByteArray.data (Value.string.inj e); rw [show a2=a1 by simpa using h1]; simp⟩⟩
  simp only [beq_iff_eq] at h
  subst h
  simp only [Instr.sameBits]
  exact(MapKept.bytes_beq _ _).2 rfl
 ·rename_i a1 a2
  obtain rfl:=Agu hd
  cases hk; cases he
  cases hx
  refine⟨by simp [Instr.sameNow],fun h=>?_,⟨fun e=>by simp only [beq_iff_eq] at e; rw [e],fun e=>by injection e with e; simp [e]⟩⟩
  simp only [beq_iff_eq] at h
  subst h
  simp [Instr.sameBits]
 ·cases hx
def Agy (h:Ab)(mu:Mu)(w:World)(es:List (AV×AV))(ens:List MapEntry):Prop:=es.length=ens.length ∧ ∀ i,i<es.length→RV h mu w (es.getD i (.und,.und)).1 (ens.getD i default).key∧RV h mu w (es.getD i (.und,.und)).2 (ens.getD i default).val
theorem Agy.cons {x:AV×AV}{es:List (AV×AV)}{ens:List MapEntry}(hh:Agy h mu w (x::es) ens) : ∃ y ys,ens=y::ys∧RV h mu w x.1 y.key∧RV h mu w x.2 y.val∧Agy h mu w es ys:=by
 obtain⟨h1,h2⟩:=hh
 cases ens with
 | nil=>simp at h1
 | cons y ys=>
  have h0:=h2 0 (by simp)
  refine⟨y,ys,rfl,by simpa using h0.1,by simpa using h0.2,by simpa using h1,fun i hi=>?_⟩
  have:=h2 (i+1) (by simpa using hi)
  simpa using this
theorem Tl {T:TK}{d:TypeDesc}(hd:T=TK.of d){k:AV}{ck:Value}(hk:RV h mu w k ck) : ∀ (es:List (AV×AV)) (ens:List MapEntry) (i:Nat) {r:Option (Nat×AV)},Agy h mu w es ens→Og T k es i=some r →
  match r with
  | none=>Instr.findNow d ck ens i=some none ∧ ∀ x ∈ ens,x.key≠ck
  | some (j,v) => ∃ e n,j=i+n∧ens[n]? = some e∧Instr.findNow d ck ens i=some (some (j,e.val))∧RV h mu w v e.val∧n<es.length∧Instr.sameBits 10000 e.key ck=true∧e.key=ck
 | [],ens,i,r,hh,hx=>by
  have:ens=[]:=by have:=hh.1; cases ens <;> simp_all
  subst this
  simp [Og] at hx
  subst hx
  exact⟨rfl,fun x hx=>by cases hx⟩
 | x::es,ens,i,r,hh,hx=>by
  obtain⟨y,ys,rfl,h1,h2,h3⟩:=hh.cons
  unfold Og at hx
  cases hq:Tr T k x.1 with
  | none=>rw [hq] at hx; cases hx
  | some b=>
   rw [hq] at hx
   obtain⟨k1,k2,k3⟩:=Alc hd hk h1 hq
   cases b with
   | true=>
    cases hx
    exact⟨y,0,rfl,rfl,by simp [Instr.findNow,k1],h2,by simp,k2 rfl,k3.1 rfl⟩
   | false=>
    have:=Tl hd hk es ys (i+1) h3 hx
    cases r with
    | none=>
     simp only at this ⊢
     refine⟨by simp [Instr.findNow,k1,this.1],fun x hx=>?_⟩
     rcases List.mem_cons.1 hx with rfl | hx
     ·intro e; have:=k3.2 e; cases this
     ·exact this.2 x hx
    | some p=>
     obtain⟨j,v⟩:=p
     obtain⟨e,n,q1,q2,q3,q4,q5,q6,q7⟩:=this
     exact⟨e,n+1,by omega,by simpa using q2,by simp [Instr.findNow,k1,q3],q4,by simpa using q5,q6,q7⟩
def Amf (es es':List (AV×AV)):Prop:=es'=es ∨ ∃ l l2:List (List UInt8×AV),l2.Perm l∧(l.map (·.1)).Nodup∧es=(l.map fun p=>(.str p.1,p.2))∧es'=(l2.map fun p=>(.str p.1,p.2))
theorem Ar9 {t:TK}{k:List UInt8} : ∀ (l:List (List UInt8×AV)) (i:Nat) {r:Option (Nat×AV)},Og t (.str k) (l.map fun p=>(.str p.1,p.2)) i=some r→l=[]∨t=.str
 | [],_,_,_=>.inl rfl
 | p::l,i,r,hx=>by
  simp only [List.map_cons,Og] at hx
  cases t <;> first | exact .inr rfl | (simp [Tr] at hx)
theorem Ad8 {k:List UInt8} : ∀ (l:List (List UInt8×AV)) (i:Nat),∃ r,Og .str (.str k) (l.map fun p=>(.str p.1,p.2)) i=some r∧r.map (·.2)=(l.find? fun p=>k==p.1).map (·.2)
 | [],_=>⟨none,rfl,rfl⟩
 | p::l,i=>by
  simp only [List.map_cons,Og,Tr,List.find?_cons]
  cases hq:(k==p.1) with
  | true=>exact⟨_,rfl,rfl⟩
  | false=>exact Ad8 l (i+1)
theorem Anz {k:List UInt8}{l:List (List UInt8×AV)}(hnd:(l.map (·.1)).Nodup){p:List UInt8×AV}(hp:p ∈ l)(hk:k=p.1):l.find? (fun q=>k==q.1)=some p:=by
 induction l with
 | nil=>cases hp
 | cons a l ih=>
  rw [List.find?_cons]
  simp only [List.map_cons,List.nodup_cons] at hnd
  rcases List.mem_cons.1 hp with rfl | hp
  ·simp [hk]
  ·have:(k==a.1)=false:=by
    cases hq:(k==a.1) with
    | false=>rfl
    | true=>
     rw [beq_iff_eq] at hq
     exact absurd (List.mem_map.2 ⟨p,hp,hk.symm.trans hq⟩) hnd.1
   rw [this]
   exact ih hnd.2 hp
theorem Apd {k:List UInt8}{l l2:List (List UInt8×AV)}(hp:l2.Perm l)(hnd:(l.map (·.1)).Nodup):l2.find? (fun q=>k==q.1)=l.find? (fun q=>k==q.1):=by
 have hnd2:(l2.map (·.1)).Nodup:=(hp.map _).nodup_iff.2 hnd
 cases h:l.find? (fun q=>k==q.1) with
 | some p=>
  have h1:=List.mem_of_find?_eq_some h
  have h2:=List.find?_some h
  exact Anz hnd2 (hp.mem_iff.2 h1) (by simpa using h2)
 | none=>
  rw [List.find?_eq_none] at h ⊢
  exact fun x hx=>h x (hp.mem_iff.1 hx)
theorem Acb {t:TK}{k:AV}{es es':List (AV×AV)}(ho:Amf es es')(hk:Zy t k=true){r:Option (Nat×AV)}(hx:Og t k es 0=some r) : ∃ r',Og t k es' 0=some r'∧r'.map (·.2)=r.map (·.2):=by
 rcases ho with rfl | ⟨l,l2,hp,hnd,rfl,rfl⟩
 ·exact⟨r,hx,rfl⟩
 ·by_cases hl:l=[]
  ·subst hl
   obtain rfl:=hp.eq_nil
   exact⟨r,hx,rfl⟩
  ·cases k with
   | str k=>
    rcases Ar9 l 0 hx with h | rfl
    ·exact absurd h hl
    ·obtain⟨r1,e1,e2⟩:=Ad8 (k:=k) l 0
     rw [e1] at hx; cases hx
     obtain⟨r2,e3,e4⟩:=Ad8 (k:=k) l2 0
     exact⟨r2,e3,by rw [e4,e2,Apd hp hnd]⟩
   | _=>
    obtain⟨p,l,rfl⟩ : ∃ p l',l=p::l':=by cases l with | nil=>exact absurd rfl hl | cons p l=>exact⟨p,l,rfl⟩
    simp only [List.map_cons,Og] at hx
    cases t <;> simp [Tr] at hx
theorem Y6 {kt:TypeId}{KT:TI}(hT:ti P kt=some KT){k:AV}{ck:Value}(hk:RV h mu w k ck)(ho:Zy KT.k k=true)(e:Bool):(Instr.checkKey e 10000 kt ck).run P w=.ok () w:=by
 obtain⟨d,hd,hdk⟩:=Eh hT
 unfold Zy at ho
 have:MapKept.IsKey d ck:=by
  split at ho <;> (try cases ho)
  ·rename_i hq; rw [hq] at hdk; obtain rfl:=Sd hdk
   cases hk
   simpa [MapKept.IsKey] using ho
  ·rename_i hq; rw [hq] at hdk; obtain rfl:=Qf hdk
   cases hk
   simp [MapKept.IsKey]
  ·rename_i hq; rw [hq] at hdk; obtain rfl:=Agu hdk
   cases hk
   simp [MapKept.IsKey]
 exact MapKept.run_checkKey hd this e 9999
theorem An0 {et:TypeId}{ET:TI}(hT:ti P et=some ET){v:AV}(hx:Hh ET.z 0 ET.size ET.k.agg=some v) : ∃ c,(zeroValue et).run P w=.ok c w∧RV h mu w v c:=by
 obtain⟨z,h1,h2,h3,h4,h5⟩:=Amq hT
 obtain⟨a1,a2⟩:=Oa (w:=w) (mu:=mu) (M:=Ci h mu) h2
 refine⟨z,h1 w,?_⟩
 unfold Hh at hx
 cases hagg:ET.k.agg with
 | true=>
  rw [hagg] at hx
  simp only [if_true,Nat.zero_add] at hx
  split at hx
  ·cases hx
   rw [h4 hagg]
   have:(ET.z.drop 0).take ET.size=ET.z:=by simp [← h5]
   rw [this]
   have:=Rv.agg (w:=w) (mu:=mu) (M:=Ci h mu) ET.z z.cells.toList a1 a2
   simpa using this
  ·cases hx
 | false=>
  rw [hagg] at hx
  simp only [Bool.false_eq_true,if_false] at hx
  split at hx
  ·rename_i hlt
   cases hx
   have hone:=h3 hagg
   have hc:z.cells.toList=[z]:=by cases z <;> simp_all [Value.oneCell',Value.cells]
   have:=a2 0 hlt
   rw [hc] at this
   simpa using this
  ·cases hx
theorem U2 {es:Array MapEntry}(i:Nat):es.toList.getD i default=es.getD i default:=by simp [Array.getD_eq_getD_getElem?,List.getD]
theorem Als (s:Sim B mu h w){m:AV}{c:Value}{es:List (AV×AV)}(hm:RV h mu w m c)(hx:W9 h m=some es) :
  ∃ (ens:Array MapEntry) (es':List (AV×AV)),((c=.map none∧ens = #[]) ∨ ∃ r clock,c=.map (some r)∧w.heap[r]? = some (.map ens clock))∧Agy h mu w es' ens.toList∧Amf es es':=by
 unfold W9 at hx
 split at hx
 ·cases hx; cases hm
  exact⟨#[],[],.inl ⟨rfl,rfl⟩,⟨rfl,fun i hi=>by simp at hi⟩,.inl rfl⟩
 ·split at hx
  ·rename_i hh
   split at hx
   ·rename_i hg
    subst hg
    cases hx
    cases hm with
    | map _ _ l hl hc=>
     obtain⟨l',k1,k2,ens,clock,k3,k4,k5⟩:=s.maps _ _ _ hh
     rw [hl] at k1; cases k1
     exact⟨ens,_,.inr ⟨_,clock,rfl,k3.1⟩,⟨by simpa using k4,fun i hi=>by rw [U2]; exact k5 i hi⟩,.inl rfl⟩
   ·cases hx
  ·cases hx
 ·cases hx
  cases hm with
  | mapc _ l2 hp hnd b ens clock hb hl h1 h2 h3 h4=>
   refine⟨ens,l2.map fun p=>(.str p.1,p.2),.inr ⟨_,clock,rfl,hb⟩,⟨by simpa using hl,fun i hi=>?_⟩,.inr ⟨_,l2,hp,hnd,rfl,rfl⟩⟩
   have hi':i<l2.length:=by simpa using hi
   have e:(l2.map fun p=>(AV.str p.1,p.2)).getD i (.und,.und)=(.str (l2.getD i ([],.und)).1,(l2.getD i ([],.und)).2):=by simp [List.getD,hi']
   rw [U2,e]
   exact⟨by rw [h1 i hi']; exact .str _,h2 i hi'⟩
 ·cases hx
  cases hm with
  | mapi0=>exact⟨#[],[],.inl ⟨rfl,rfl⟩,⟨rfl,fun i hi=>by simp at hi⟩,.inl rfl⟩
  | mapi _ b ens clock hb hst hl h1 h2 h3 h4=>
   exact⟨ens,_,.inr ⟨_,clock,rfl,hb⟩,⟨by simpa using hl,fun i hi=>by rw [U2]; exact⟨h1 i hi,h2 i hi⟩⟩,.inl rfl⟩
 ·cases hx
theorem Aj6 (s:Sim B mu h w){t:TypeId}{m k v:AV}{cm ck:Value}{ok:Bool}(hm:RV h mu w m cm)(hk:RV h mu w k ck)(hx:O6 P h t m k ok=some v) :
  ∃ c,(Instr.lookup t cm ck ok).run P w=.ok c w∧RV h mu w v c:=by
 unfold O6 at hx
 split at hx
 ·rename_i T hT
  split at hx
  ·rename_i kt et hTk
   split at hx
   ·rename_i KT ET es hKT hET hes
    split at hx
    ·rename_i hok
     obtain⟨d,hd,hdk⟩:=Eh hT
     rw [hTk] at hdk
     obtain rfl:=Y8 hdk
     obtain⟨kd,hkd,hkdk⟩:=Eh hKT
     obtain⟨ens,es',r1,r2,hord⟩:=Als s hm hes
     have hck:=fun e=>Y6 (P:=P) hKT hk hok e
     have hpair : ∀ {x:AV} {c:Value} (b:Bool),RV h mu w x c→RV h mu w (if ok then .tup [x,.bool b] else x) (if ok then .tuple #[c,.bool b] else c):=by
      intro x c b hxc
      cases ok with
      | false=>simpa using hxc
      | true=>
       have:=Rv.tup (w:=w) (mu:=mu) (M:=Ci h mu) [x,.bool b] [c,.bool b] rfl (fun i hi=>by
        match i,hi with
        | 0,_=>simpa using hxc
        | 1,_=>simpa using Rv.bool b)
       simpa using this
     split at hx
     ·rename_i j0 v0 hf0
      cases hx
      obtain⟨r',hf,hv0⟩:=Acb hord hok hf0
      obtain⟨j,v',rfl⟩ : ∃ j v',r'=some (j,v'):=by cases r' with | none=>simp at hv0 | some q=>exact⟨q.1,q.2,rfl⟩
      obtain rfl:v'=v0:=by simpa using hv0
      obtain⟨e,n,q1,q2,q3,q4,q5,q6,q7⟩:=Tl hkdk hk es' ens.toList 0 r2 hf
      refine⟨_,?_,hpair true q4⟩
      unfold Instr.lookup
      simp only [Sem.run_bind,run_underlying hd,Result.andThen_ok]
      rcases r1 with⟨rfl,rfl⟩ | ⟨r,clock,rfl,hr⟩
      ·simp at q2
      ·simp only [Sem.run_bind,MapKept.run_getObj_map hr,Result.andThen_ok,hck,MapKept.run_findKey hkd q3,Sem.run_pure]
     ·rename_i hf0
      obtain⟨r',hf,hv0⟩:=Acb hord hok hf0
      obtain rfl:r'=none:=by simpa using hv0
      have hfn:=Tl hkdk hk es' ens.toList 0 r2 hf
      simp only at hfn
      replace hfn:=hfn.1
      split at hx
      ·rename_i z hz
       cases hx
       obtain⟨c,c1,c2⟩:=An0 (w:=w) (h:=h) (mu:=mu) hET hz
       refine⟨_,?_,hpair false c2⟩
       unfold Instr.lookup
       simp only [Sem.run_bind,run_underlying hd,Result.andThen_ok]
       rcases r1 with⟨rfl,rfl⟩ | ⟨r,clock,rfl,hr⟩
       ·simp only [Sem.run_bind,Result.andThen_ok,hck,MapKept.run_findKey hkd hfn,c1,Sem.run_pure]
       ·simp only [Sem.run_bind,MapKept.run_getObj_map hr,Result.andThen_ok,hck,MapKept.run_findKey hkd hfn,c1,Sem.run_pure]
      ·cases hx
     ·cases hx
    ·cases hx
   ·cases hx
  ·cases hx
 ·cases hx
theorem Ai1 (s:Sim B mu h w){K:AV→Ab→Prop}(hK:Y4 h K) : ∃ v c h' mu' w',(do pure (.map (some (← newObj (.map #[] 0)))):Sem Value).run P w=.ok c w'∧RV h' mu' w' v c∧K v h'∧Sim B mu' h' w'∧Da h mu w h' mu' w':=by
 obtain⟨o,ho,hK⟩:=hK
 obtain⟨g,hg⟩:=s.fresh o
 refine⟨.map o g,.map (some w.heap.size),upd h o (some (.mp g [])),C0 mu o g ⟨w.heap.size,0,0,0,false⟩,w.alloc (.map #[] 0),rfl,?_,hK g,?_⟩
 ·exact .map o g ⟨w.heap.size,0,0,0,false⟩ (by simp [C0]) rfl
 have hmu : ∀ o' g' l,mu o' g'=some l→C0 mu o g ⟨w.heap.size,0,0,0,false⟩ o' g'=some l:=by
  intro o' g' l hl
  unfold C0
  rw [if_neg]
  ·exact hl
  ·rintro⟨rfl,rfl⟩; rw [hg] at hl; cases hl
 have hinv : ∀ o' g' l,C0 mu o g ⟨w.heap.size,0,0,0,false⟩ o' g'=some l→(o'=o∧g'=g∧l=⟨w.heap.size,0,0,0,false⟩)∨mu o' g'=some l:=by
  intro o' g' l hl
  unfold C0 at hl
  split at hl
  ·rename_i hh; cases hl; exact .inl ⟨hh.1,hh.2,rfl⟩
  ·exact .inr hl
 have hlive : ∀ o' x,upd h o (some (.mp g [])) o'=some x→(o'=o∧x=.mp g [])∨(o'≠o∧h o'=some x):=by
  intro o' x hx
  unfold upd at hx
  split at hx
  ·cases hx; exact .inl ⟨‹_›,rfl⟩
  ·exact .inr ⟨‹_›,hx⟩
 have hlt : ∀ {o' g' l},mu o' g'=some l→l.b<w.heap.size:=fun hl=>(s.muOk _ _ _ hl).2.1
 have hM : ∀ b,b<w.heap.size→¬ Ci h mu b→¬ Ci (upd h o (some (.mp g []))) (C0 mu o g ⟨w.heap.size,0,0,0,false⟩) b:=by
  rintro b hb hn ⟨o',x,l,hx,hl,rfl⟩
  rcases hinv _ _ _ hl with⟨_,_,rfl⟩ | hl'
  ·simp at hb
  ·rcases hlive _ _ hx with⟨rfl,rfl⟩ | ⟨_,hx'⟩
   ·simp only [AO.gen] at hl'; rw [hg] at hl'; cases hl'
   ·exact hn ⟨o',x,l,hx',hl',rfl⟩
 have ext:Da h mu w (upd h o (some (.mp g []))) (C0 mu o g ⟨w.heap.size,0,0,0,false⟩) (w.alloc (.map #[] 0)):=
  ⟨rfl,rfl,rfl,by rw [Eb]; omega,fun b hb hn=>⟨Cy hb,hM b hb hn⟩,hmu⟩
 refine⟨⟨?_,?_,?_,?_,?_,?_,?_,s.globE ext,fun o' g' x hx=>by
  rcases hlive _ _ hx with⟨rfl,hx'⟩ | ⟨hne,hx'⟩
  ·cases hx'
  ·obtain⟨l,h1,h2,h3⟩:=s.blks _ _ _ hx'
   exact⟨l,hmu _ _ _ h1,h2,by rw [Cy (hlt h1)]; exact h3⟩⟩,ext⟩
 ·rw [Eb]; exact Nat.le_succ_of_le s.base
 ·intro o' g' l hl
  rcases hinv _ _ _ hl with⟨_,_,rfl⟩ | hl'
  ·exact⟨s.base,by rw [Eb]; simp,fun hh=>by simp at hh⟩
  ·obtain⟨h1,h2,h3⟩:=s.muOk _ _ _ hl'
   refine⟨h1,by rw [Eb]; omega,fun hcc=>?_⟩
   rw [Cy h2]; exact h3 hcc
 ·obtain⟨N,hN⟩:=s.fin
  refine⟨max N (g+1),fun o' g' hle=>?_⟩
  unfold C0
  rw [if_neg (by omega)]
  exact hN _ _ (by omega)
 ·obtain⟨N,hN⟩:=s.finh
  refine⟨max N (o+1),fun o' hle=>?_⟩
  unfold upd
  rw [if_neg (by omega)]
  exact hN _ (by omega)
 ·intro o' g' st' rs' hx
  rcases hlive _ _ hx with⟨rfl,hx'⟩ | ⟨hne,hx'⟩
  ·cases hx'
  ·obtain⟨l,h1,h2,h3,h4,h5,h6⟩:=s.rows _ _ _ _ hx'
   refine⟨l,hmu _ _ _ h1,h2,h3,h4,h5,fun i j hi hj=>?_⟩
   obtain⟨c,hc1,hc2⟩:=h6 i j hi hj
   refine⟨c,?_,hc2.ext ext⟩
   rw [cell?_of_heap (w:=w) (a:=⟨l.b,l.base+i * st'+j,none⟩) (Cy (hlt h1))]; exact hc1
 ·intro o' g' es hx
  rcases hlive _ _ hx with⟨rfl,hx'⟩ | ⟨hne,hx'⟩
  ·cases hx'
   exact⟨⟨w.heap.size,0,0,0,false⟩,by simp [C0],rfl,#[],0,⟨My,MapKept.stamped_empty 0⟩,rfl,fun i hi=>by simp at hi⟩
  ·obtain⟨l,h1,h2,ens,clock,h3,h4,h5⟩:=s.maps _ _ _ hx'
   exact⟨l,hmu _ _ _ h1,h2,ens,clock,by rw [Cy (hlt h1)]; exact h3,h4,fun i hi=>⟨(h5 i hi).1.ext ext,(h5 i hi).2.ext ext⟩⟩
 ·intro o1 o2 x1 x2 l1 l2 hx1 hx2 hl1 hl2 hbb
  rcases hlive _ _ hx1 with⟨rfl,rfl⟩ | ⟨hne1,hx1'⟩ <;> rcases hlive _ _ hx2 with⟨rfl,rfl⟩ | ⟨hne2,hx2'⟩
  ·rfl
  ·rcases hinv _ _ _ hl1 with⟨_,_,rfl⟩ | hl1'
   ·rcases hinv _ _ _ hl2 with⟨e2,_,_⟩ | hl2'
    ·exact e2.symm
    ·have:=hlt hl2'; simp at hbb; omega
   ·simp only [AO.gen] at hl1'; rw [hg] at hl1'; cases hl1'
  ·rcases hinv _ _ _ hl2 with⟨_,_,rfl⟩ | hl2'
   ·rcases hinv _ _ _ hl1 with⟨e2,_,_⟩ | hl1'
    ·exact e2
    ·have:=hlt hl1'; simp at hbb; omega
   ·simp only [AO.gen] at hl2'; rw [hg] at hl2'; cases hl2'
  ·rcases hinv _ _ _ hl1 with⟨e1,_,_⟩ | hl1'
   ·exact absurd e1 hne1
   ·rcases hinv _ _ _ hl2 with⟨e2,_,_⟩ | hl2'
    ·exact absurd e2 hne2
    ·exact s.inj _ _ _ _ _ _ hx1' hx2' hl1' hl2' hbb
theorem Sim.putMap {w':World}(s:Sim B mu h w){o g:Nat}{es es':List (AV×AV)}{l:Loc}{ens:Array MapEntry}{clock:Nat}
  (hx:h o=some (.mp g es)) (hl:mu o g=some l) (hlc:l.cells=false) (hb : ∃ x,w.heap[l.b]? = some x∧(∃ a c,x=.map a c)) (hw:w'={ w with heap:=w.heap.setIfInBounds l.b (.map ens clock) }) (hst:MapKept.Stamped ens clock)
  (he:es'.length=ens.size) (hc : ∀ i,i<es'.length→RV h mu w (es'.getD i (.und,.und)).1 (ens.getD i default).key∧RV h mu w (es'.getD i (.und,.und)).2 (ens.getD i default).val) :
  Sim B mu (upd h o (some (.mp g es'))) w'∧Da h mu w (upd h o (some (.mp g es'))) mu w':=by
 obtain⟨x0,hb0,x1,x2,hx0⟩:=hb
 subst hx0
 have hset:=MapKept.heap_set (o':=.map ens clock) hb0
 have hblk:w'.heap[l.b]? = some (.map ens clock):=by rw [hw]; exact hset.1
 have hother : ∀ b,b≠l.b→w'.heap[b]? = w.heap[b]? := fun b hne=>by rw [hw]; exact hset.2 b hne
 have hsize:w'.heap.size=w.heap.size:=by rw [hw]; simp
 have hlive : ∀ o1 x,upd h o (some (.mp g es')) o1=some x→(o1=o∧x=.mp g es')∨(o1≠o∧h o1=some x):=by
  intro o1 x h1
  unfold upd at h1
  split at h1
  ·cases h1; exact .inl ⟨‹_›,rfl⟩
  ·exact .inr ⟨‹_›,h1⟩
 have hMl:Ci h mu l.b:=⟨o,_,l,hx,hl,rfl⟩
 have hM : ∀ b,¬ Ci h mu b→¬ Ci (upd h o (some (.mp g es'))) mu b:=by
  rintro b hn ⟨o1,x,l1,h1,h2,rfl⟩
  rcases hlive _ _ h1 with⟨rfl,rfl⟩ | ⟨_,h1'⟩
  ·exact hn ⟨_,_,_,hx,h2,rfl⟩
  ·exact hn ⟨_,_,_,h1',h2,rfl⟩
 have ext:Da h mu w (upd h o (some (.mp g es'))) mu w':=
  ⟨by rw [hw],by rw [hw],by rw [hw],by rw [hsize]; exact Nat.le_refl _,fun b _ hb=>⟨hother b (fun e=>hb (e ▸ hMl)),hM b hb⟩,fun _ _ _ h=>h⟩
 have hnb : ∀ {o1 x l1},o1≠o→h o1=some x→mu o1 x.gen=some l1→l1.b≠l.b:=fun hne h1 h2 hb=>hne (s.inj _ _ _ _ _ _ h1 hx h2 hl hb)
 refine⟨⟨by rw [hsize]; exact s.base,?_,s.fin,?_,?_,?_,?_,s.globE ext,fun o1 g1 x h1=>by
  rcases hlive _ _ h1 with⟨rfl,h1'⟩ | ⟨hne,h1'⟩
  ·cases h1'
  ·obtain⟨l1,k1,k2,k3⟩:=s.blks _ _ _ h1'
   exact⟨l1,k1,k2,by rw [hother _ (hnb hne h1' k1)]; exact k3⟩⟩,ext⟩
 ·intro o1 g1 l1 h1
  obtain⟨k1,k2,k3⟩:=s.muOk _ _ _ h1
  refine⟨k1,by rw [hsize]; exact k2,fun hcc=>?_⟩
  have hbb:l1.b≠l.b:=by
   intro hbb
   obtain⟨c1,e1,f1,q1,_⟩:=k3 hcc
   rw [hbb,hb0] at q1; cases q1
  rw [hother _ hbb]; exact k3 hcc
 ·obtain⟨N,hN⟩:=s.finh
  refine⟨max N (o+1),fun o' hle=>?_⟩
  unfold upd
  rw [if_neg (by omega)]
  exact hN _ (by omega)
 ·intro o1 g1 st1 rs1 h1
  rcases hlive _ _ h1 with⟨rfl,h1'⟩ | ⟨hne,h1'⟩
  ·cases h1'
  ·obtain⟨l1,k1,k2,k3,k4,k5,k6⟩:=s.rows _ _ _ _ h1'
   refine⟨l1,k1,k2,k3,k4,k5,fun i j hi hj=>?_⟩
   obtain⟨c,hc1,hc2⟩:=k6 i j hi hj
   refine⟨c,?_,hc2.ext ext⟩
   rw [cell?_of_heap (w:=w) (w':=w') (a:=⟨l1.b,l1.base+i * st1+j,none⟩) (hother _ (hnb hne h1' k1))]; exact hc1
 ·intro o1 g1 es1 h1
  rcases hlive _ _ h1 with⟨rfl,h1'⟩ | ⟨hne,h1'⟩
  ·cases h1'
   exact⟨l,hl,hlc,ens,clock,⟨hblk,hst⟩,he,fun i hi=>⟨(hc i hi).1.ext ext,(hc i hi).2.ext ext⟩⟩
  ·obtain⟨l1,k1,k2,ens1,clock1,k3,k4,k5⟩:=s.maps _ _ _ h1'
   exact⟨l1,k1,k2,ens1,clock1,by rw [hother _ (hnb hne h1' k1)]; exact k3,k4,fun i hi=>⟨(k5 i hi).1.ext ext,(k5 i hi).2.ext ext⟩⟩
 ·intro o1 o2 x1 x2 l1 l2 h1 h2 q1 q2 hbb
  rcases hlive _ _ h1 with⟨rfl,rfl⟩ | ⟨n1,a1⟩ <;> rcases hlive _ _ h2 with⟨rfl,rfl⟩ | ⟨n2,a2⟩
  ·rfl
  ·simp only [AO.gen] at q1; rw [hl] at q1; cases q1; exact absurd hbb.symm (hnb n2 a2 q2)
  ·simp only [AO.gen] at q2; rw [hl] at q2; cases q2; exact absurd hbb (hnb n1 a1 q1)
  ·exact s.inj _ _ _ _ _ _ a1 a2 q1 q2 hbb
theorem Xy (s:Sim B mu h w){t:TypeId}{m k v:AV}{cm ck cv:Value}{h':Ab}(hm:RV h mu w m cm)(hk:RV h mu w k ck)(hv:RV h mu w v cv)(hx:Rw P h t m k v=some h') :
  ∃ w',(Instr.mapUpdate t cm ck cv).run P w=.ok () w'∧Sim B mu h' w'∧Da h mu w h' mu w':=by
 unfold Rw at hx
 split at hx
 ·rename_i T hT
  split at hx
  ·rename_i kt et hTk
   split at hx
   ·rename_i KT o g hKT
    split at hx
    ·rename_i g' es hh
     split at hx
     ·rename_i hc
      obtain⟨rfl,hok⟩:=hc
      obtain⟨d,hd,hdk⟩:=Eh hT
      rw [hTk] at hdk
      obtain rfl:=Y8 hdk
      obtain⟨kd,hkd,hkdk⟩:=Eh hKT
      have hck:=Y6 (P:=P) hKT hk hok false
      cases hm with
      | map _ _ l hl hlc=>
       obtain⟨l',k1,k2,ens,clock,k3,k4,k5⟩:=s.maps _ _ _ hh
       rw [hl] at k1; cases k1
       have r2:Agy h mu w es ens.toList:=⟨by simpa using k4,fun i hi=>by rw [U2]; exact k5 i hi⟩
       split at hx
       ·rename_i j v' hf
        cases hx
        obtain⟨e,n,q1,q2,q3,q4,q5,q6,q7⟩:=Tl hkdk hk es ens.toList 0 r2 hf
        have hjn:j=n:=by omega
        subst hjn
        have hn:ens[j]? = some e:=by simpa using q2
        refine⟨{ w with heap:=w.heap.setIfInBounds l.b (.map (ens.modify j fun e=>{ e with key:=ck,val:=cv }) clock) },?_,?_⟩
        ·unfold Instr.mapUpdate
         simp only [Sem.run_bind,run_underlying hd,Result.andThen_ok,MapKept.run_getObj_map k3.1,hck,MapKept.run_findKey hkd q3,hn,Option.map_some,Option.getD_some,Instr.keyThatStays,q6,if_true,Sem.run_pure,MapKept.run_setObj_map _ k3.1]
        ·refine Sim.putMap s hh hl hlc ⟨_,k3.1,_,_,rfl⟩ rfl (MapKept.stamped_modify k3.2 _ _ (fun _ _=>rfl) (fun e' _ he'=>by rw [hn] at he'; cases he'; exact q7.symm)) (by simp [k4]) (fun i hi=>?_)
         have hi':i<es.length:=by simpa using hi
         have hie:i<ens.size:=by omega
         by_cases hij:i=j
         ·subst hij
          rw [show(es.set i (k,v)).getD i (.und,.und)=(k,v) by simp [List.getD,hi']]
          rw [show(ens.modify i fun e=>{ e with key:=ck,val:=cv }).getD i default={ e with key:=ck,val:=cv } by simp [Array.getD_eq_getD_getElem?,Array.getElem?_modify,hn]]
          exact⟨hk,hv⟩
         ·rw [show(es.set j (k,v)).getD i (.und,.und)=es.getD i (.und,.und) by simp [List.getD,List.getElem?_set_ne (Ne.symm hij)]]
          rw [show(ens.modify j fun e=>{ e with key:=ck,val:=cv }).getD i default=ens.getD i default by simp [Array.getD_eq_getD_getElem?,Array.getElem?_modify,Ne.symm hij]]
          exact k5 i hi'
       ·rename_i hf
        cases hx
        have hfn:=Tl hkdk hk es ens.toList 0 r2 hf
        simp only at hfn
        obtain⟨hfn,hnk⟩:=hfn
        refine⟨{ w with heap:=w.heap.setIfInBounds l.b (.map (ens.push { key:=ck,val:=cv,born:=clock }) (clock+1)) },?_,?_⟩
        ·unfold Instr.mapUpdate
         simp only [Sem.run_bind,run_underlying hd,Result.andThen_ok,MapKept.run_getObj_map k3.1,hck,MapKept.run_findKey hkd hfn,MapKept.run_setObj_map _ k3.1]
        ·refine Sim.putMap s hh hl hlc ⟨_,k3.1,_,_,rfl⟩ rfl (MapKept.stamped_push k3.2 hnk) (by simp [k4]) (fun i hi=>?_)
         have hi':i<es.length+1:=by simpa using hi
         by_cases hij:i=es.length
         ·subst hij
          rw [show(es++[(k,v)]).getD es.length (.und,.und)=(k,v) by simp [List.getD]]
          rw [show(ens.push { key:=ck,val:=cv,born:=clock }).getD es.length default={ key:=ck,val:=cv,born:=clock } by simp [Array.getD_eq_getD_getElem?,k4]]
          exact⟨hk,hv⟩
         ·have hlt:i<es.length:=by omega
          rw [show(es++[(k,v)]).getD i (.und,.und)=es.getD i (.und,.und) by simp [List.getD,List.getElem?_append_left hlt]]
          rw [show(ens.push { key:=ck,val:=cv,born:=clock }).getD i default=ens.getD i default by simp [Array.getD_eq_getD_getElem?,Array.getElem?_push,show i≠ens.size by omega]]
          exact k5 i hlt
       ·cases hx
     ·cases hx
    ·cases hx
   ·cases hx
  ·cases hx
 ·cases hx
end
end Go.Am
namespace Go.Am
open Go
set_option linter.unusedSimpArgs false
set_option linter.unusedVariables false
set_option linter.unusedSectionVars false
def Si (P:Program)(h:Ab)(sT xT:TypeId)(n:Int)(K:AV→Ab→Prop):Prop:=
 match ti P sT,ti P xT with
 | some S,some X=>match S.k,X.k with
  | .sl e,.int _=>match ti P e with
   | some E=>0<E.size∧0<E.bytes∧E.z.all AV.flat=true∧0<n∧n.toNat * E.bytes≤Bt∧Q2 h E.size (List.replicate n.toNat E.z) (fun o g h'=>K (.ref o g 0 n.toNat) h')
   | none=>False
  | _,_=>False
 | _,_=>False
section
variable {P:Program} [GW P] {B:Base P} {h:Ab} {mu:Mu} {w:World}
theorem Aii {sT xT ty e:TypeId}{kx k:IntKind}{i:TypeInfo}{z:Value}{base:Option Addr}{n:Nat}(hS:P.underlying sT=some (.slice e))(hX:P.underlying xT=some (.int kx))
  (hi:P.info? e=some i) (hz:i.zero=some z) (hn:0<n) (hs:0<i.size) (hb:n * i.bytes≤140737488355328) (hb0:0<i.bytes) :
  (Builtin.append_ #[sT,xT] ty #[.slice base 0 0,.int k (n:Int)]).run P w =
   .ok (.slice (some ⟨w.heap.size,0,none⟩) n (grownCap w (0+n) 0 e))
    (w.drew.alloc (.cells ((([]:List Value).toArray++Builtin.zeroCells z.cells n)++Builtin.zeroCells z.cells (grownCap w (0+n) 0 e - (0+n))) e)):=by
 have hle:n≤n * i.bytes:=Nat.le_mul_of_pos_right _ hb0
 have hw:IntKind.i64.wrap (n:Int)=n:=Aai (by omega) (by omega)
 have h1:¬ ((n:Int)<0):=by omega
 have h2:¬ (281474976710656<(n:Int) * (i.bytes:Int)):=by rw [← Int.natCast_mul]; omega
 have h3:¬ (n * i.size=0):=by
  intro hq
  rcases Nat.mul_eq_zero.1 hq with hq | hq <;> omega
 have h63:¬ (9223372036854775807<(n:Int)):=by omega
 have h48:=growslice_fits (need:=0+n) (old:=0) (bytes:=i.bytes) (by omega) (by rw [Nat.zero_add]; exact hb)
 have h48':¬ (281474976710656<Builtin.nextslicecap n 0 * i.bytes):=by simp only [Nat.zero_add] at h48; omega
 have hfo : ∀ w',(Builtin.firstCells i.size 0 (.slice base 0 0)).run P w'=.ok (([]:List Value)).toArray w':=by
  intro w'; cases base <;> simp [Builtin.firstCells,loadCells,loadCellsFrom]
 have hn0:¬ n=0:=by omega
 simp [Builtin.append_,run_underlying hS,run_underlying hX,asInt,asIntOf,sizeOf,typeInfo,zeroValue,hi,hz,hw,h1,h2,h3,h63,h48',hn0,Question.forced,hfo,newRow,grownCap]
theorem Aij (s:Sim B mu h w){sT xT ty:TypeId}{k:IntKind}{n:Int}{cs cx:Value}{K:AV→Ab→Prop}(hs:RV h mu w .emp cs)(hx:RV h mu w (.int k n) cx)(hK:Si P h sT xT n K) :
  ∃ v c h' mu' w',(Builtin.append_ #[sT,xT] ty #[cs,cx]).run P w=.ok c w'∧RV h' mu' w' v c∧K v h'∧Sim B mu' h' w'∧Da h mu w h' mu' w':=by
 unfold Si at hK
 split at hK
 ·rename_i S X hS hX
  split at hK
  ·rename_i e kx hk hkx
   split at hK
   ·rename_i E hE
    obtain⟨hsz,hby,hfl,hn,hlim,hnew⟩:=hK
    obtain⟨dS,hdS,hkS⟩:=Eh hS
    have:=Fo (hk ▸ hkS); subst this
    obtain⟨dX,hdX,hkX⟩:=Eh hX
    have:=Sd (hkx ▸ hkX); subst this
    obtain⟨dE,iE,z,e1,e2,e3,e4,e5,e6,e7,e8,e9,e10⟩:=Mp hE
    obtain⟨zl,_⟩:=Oa (w:=w) (mu:=mu) (M:=Ci h mu) e4
    have hzs:z.cells.size=iE.size:=by rw [← e7,← e5,zl]; simp
    obtain⟨r1,r2,r3⟩:=Zn (w:=w) (mu:=mu) (M:=Ci h mu) (i:=iE) e4 e5 hfl n.toNat
    cases hs with
    | emp a=>
     cases hx
     have hnn:((n.toNat:Nat):Int)=n:=Int.toNat_of_nonneg (by omega)
     have hrun:=Aii (P:=P) (ty:=ty) (w:=w) (k:=k) (base:=a) (n:=n.toNat) hdS hdX e2 e3 (by omega) (by omega) (by rw [← e8]; simpa [Bt] using hlim) (by omega)
     rw [hnn] at hrun
     have hd:=s.drew
     have hzc:Builtin.zeroCells z.cells n.toNat=(Array.range (n.toNat * E.size)).map (z.cells[· % z.cells.size]!):=by
      simp only [Builtin.zeroCells,hzs,← e7]
     obtain⟨o,g,mu',m1,m2,m3,m4⟩:=Pf (base:=0) (e:=e) (cells:=(([]:List Value).toArray++Builtin.zeroCells z.cells n.toNat)++Builtin.zeroCells z.cells (grownCap w (0+n.toNat) 0 e - (0+n.toNat))) hd.1 hnew
      (by
       simp only [Array.size_append,List.size_toArray,List.length_nil,size_zc,hzs,← e7,List.length_replicate]
       omega)
      r2
      (by
       intro i j hi hj
       rw [List.length_replicate] at hi
       obtain⟨x,hx1,hx2⟩:=r3 i j (by simpa using hi) hj
       refine⟨x,?_,hx2.ext hd.2⟩
       have hk2:=Hz (st:=E.size) hi hj
       rw [Nat.zero_add,hzc]
       simp only [List.nil_append,Array.empty_append]
       rw [Array.getElem?_append_left (by simpa using hk2)]
       simpa using hx1)
     refine⟨_,_,_,mu',_,hrun,?_,m2,m3,hd.2.trans m4⟩
     have hcap:n.toNat≤grownCap w (0+n.toNat) 0 e:=by have:=grownCap_ge w (0+n.toNat) 0 e; omega
     have:=Rv.ref (w:=w.drew.alloc (.cells ((([]:List Value).toArray++Builtin.zeroCells z.cells n.toNat)++Builtin.zeroCells z.cells (grownCap w (0+n.toNat) 0 e - (0+n.toNat))) e)) (M:=Ci (upd h o (some (.rows g E.size (List.replicate n.toNat E.z)))) mu') o g 0 n.toNat (grownCap w (0+n.toNat) 0 e) _ m1 rfl hcap (Nat.le_trans (Nat.le_mul_of_pos_right _ hby) hlim) (by
      simp only [Array.size_append,List.size_toArray,List.length_nil,size_zc,hzs,← e7,Nat.zero_add] at hcap ⊢
      rw [← Nat.add_mul]
      exact Nat.le_of_eq (by congr 1; omega))
     simpa using this
   ·exact hK.elim
  ·exact hK.elim
 ·exact hK.elim
end
end Go.Am
namespace Go.Am
open Go
set_option linter.unusedSimpArgs false
set_option linter.unusedVariables false
set_option linter.unusedSectionVars false
def Aaj (P:Program)(h:Ab)(dT:TypeId)(d x:AV)(K:AV→Ab→Prop):Prop:=
 match ti P dT with
 | some D=>match D.k with
  | .sl e=>match ti P e with
   | some E=>match Fx P h E.size false x,d with
    | some src,.refc o g r c len _=>E.size=1∧src.length≤len∧(match h o with
     | some (.rows g' st rs)=>g'=g∧r<rs.length∧c+len≤st∧K (.int .i64 (src.length:Int)) (upd h o (some (.rows g st (rs.set r (putCells (rs.getD r []) c (src.map (·.getD 0 .und)))))))
     | _=>False)
    | _,_=>False
   | none=>False
  | _=>False
 | none=>False
section
variable {P:Program} [GW P] {B:Base P} {h:Ab} {mu:Mu} {w:World}
theorem Apu (s:Sim B mu h w){o g' st r c:Nat}{rs:List (List AV)}{l:Loc}{vs:List AV}{cs:List Value}(hh:h o=some (.rows g' st rs))(hl:mu o g'=some l)(hcl:l.cells=true)(hr:r<rs.length)(hlen:vs.length=cs.length)(hfit:c+cs.length≤st)(hflat:vs.all AV.flat=true)
  (z2 : ∀ i,i<vs.length→RV h mu w (vs.getD i .und) (cs.getD i undef)) :
  ∃ w',(storeCells ⟨l.b,l.base+r * st+c,none⟩ cs).run P w=.ok () w'∧Sim B mu (upd h o (some (.rows g' st (rs.set r (putCells (rs.getD r []) c vs))))) w'∧Da h mu w (upd h o (some (.rows g' st (rs.set r (putCells (rs.getD r []) c vs))))) mu w':=by
 have z1:=hlen
 obtain⟨l',cells,e,f,k1,k2,k3,k4,k5,k6,k7,k8,k9⟩:=s.obj hh
 rw [hl] at k1; cases k1
 subst k3
 have hin : ∀ j,j<cs.length→l.base+r * l.st+c+j<l.size:=fun j hj=>by
  have:=Hz (r:=r) (st:=l.st) (j:=c+j) hr (by omega)
  omega
 have hrow:=Aqt hr k5
 have hone : ∀ u ∈ cs,u.oneCell'=true:=by
  intro u hu
  obtain⟨i,hi,rfl⟩:=List.mem_iff_getElem.1 hu
  have hi':i<vs.length:=by rw [z1]; exact hi
  have:=z2 i hi'
  rw [Dh (List.getElem?_eq_getElem hi)] at this
  refine this.one ?_
  rw [Dh (List.getElem?_eq_getElem hi')]
  exact List.all_eq_true.1 hflat _ (List.getElem_mem hi')
 have hrun:=run_storeCells_cells (P:=P) l.b (l.base+r * l.st+c) cs 0 w
  (fun j hj=>by
   rw [Nat.add_zero]
   unfold World.cell?
   rw [k6]
   simp [k7,hin j (by omega)])
  (fun j hj=>by
   rw [Nat.add_zero]
   unfold World.frozen?
   rw [k6]
   have:=k8 _ (Nat.le_of_lt (hin j (by omega)))
   cases hq:(decide (f.1≤l.base+r * l.st+c+j)&&decide (l.base+r * l.st+c+j<f.2)) with
   | false=>exact hq
   | true=>
    simp only [Bool.and_eq_true,decide_eq_true_eq] at hq
    exact absurd hq this) hone
 obtain⟨cells',q1,q2,q3,q4,q5,q6,q7,q8,q9⟩:=Iu l.b cs (l.base+r * l.st+c) w cells e f k6 (by
  rw [k7]
  have:=Hz (r:=r) (st:=l.st) (j:=0) hr
  have:=Nat.mul_le_mul_right l.st (show r+1≤rs.length from hr)
  rw [Nat.add_mul] at this
  omega)
 refine⟨w.setCells l.b (l.base+r * l.st+c) cs,?_,?_⟩
 ·simpa using hrun
 ·have hput:=Sim.put (rs':=rs.set r (putCells (rs.getD r []) c vs)) (l':=l) (g':=g') s hh hl q7 q8 q9 q6 q5 q1 (by rw [q2,k7]) k8 (.inl ⟨rfl,rfl⟩) rfl rfl hcl
   (by simpa using k4)
   (by
    refine Ab2 k5 ⟨?_,?_⟩
    ·rw [Qw (by rw [hrow.1]; omega)]; exact hrow.1
    ·intro x hx
     rcases Ace hx with hx | hx
     ·exact hrow.2 x hx
     ·exact List.all_eq_true.1 hflat _ hx)
   (by
    intro i j hi hj
    rw [List.length_set] at hi
    rw [Aen hr]
    by_cases hir:i=r
    ·subst hir
     rw [if_pos rfl,Vs (by rw [hrow.1]; omega)]
     split
     ·rename_i hjc
      have e1:l.base+i * l.st+j=l.base+i * l.st+c+(j - c):=by omega
      rw [e1]
      have:=q3 (j - c) (by omega)
      rw [this]
      have hjn:j - c<cs.length:=by omega
      refine⟨cs[j - c],List.getElem?_eq_getElem hjn,?_⟩
      have:=z2 (j - c) (by omega)
      rwa [Dh (d:=undef) (List.getElem?_eq_getElem hjn)] at this
     ·rename_i hjc
      obtain⟨x,hx1,hx2⟩:=k9 i j hi hj
      refine⟨x,?_,hx2⟩
      rw [q4 _ (by omega)]; exact hx1
    ·rw [if_neg hir]
     obtain⟨x,hx1,hx2⟩:=k9 i j hi hj
     refine⟨x,?_,hx2⟩
     rw [q4 _ (by
      have:=Ahb (c:=c) (n:=cs.length) hir hj (by omega)
      omega)]; exact hx1)
  rw [Ahq hl] at hput
  exact hput
theorem Aoh (s:Sim B mu h w){dT xT ty:TypeId}{d x:AV}{cd cx:Value}{K:AV→Ab→Prop}(hd:RV h mu w d cd)(hx:RV h mu w x cx)(hK:Aaj P h dT d x K) :
  ∃ v c h' mu' w',(Builtin.copy_ #[dT,xT] ty #[cd,cx]).run P w=.ok c w'∧RV h' mu' w' v c∧K v h'∧Sim B mu' h' w'∧Da h mu w h' mu' w':=by
 unfold Aaj at hK
 split at hK
 ·rename_i D hD
  split at hK
  ·rename_i e hk
   split at hK
   ·rename_i E hE
    obtain⟨dD,hdD,hkD⟩:=Eh hD
    have:=Fo (hk ▸ hkD); subst this
    split at hK
    ·rename_i src o g r c len cap hsrc
     obtain⟨hs1,hle,hK⟩:=hK
     obtain⟨hlen,news,n1,n2,n3,n4⟩:=Vj (P:=P) s hx hsrc
     rw [hs1,Nat.mul_one] at n1
     rw [hs1] at n2 n3 n4
     split at hK
     ·rename_i g' st rs hh
      obtain⟨rfl,hr,hfit,hK⟩:=hK
      cases hd with
      | refc _ _ _ _ _ _ l hl hcl hcap hlim hsz=>
       obtain⟨l',k1,k2,k3,_⟩:=s.rows _ _ _ _ hh
       rw [hl] at k1; cases k1
       have hcell : ∀ i,i<src.length→(src.map (·.getD 0 .und)).getD i .und=cell src i 0:=by intro i hi; simp [cell,List.getD,hi]
       obtain⟨w',p1,p2,p3⟩:=Apu s hh hl hcl hr (vs:=src.map (·.getD 0 .und)) (cs:=news) (c:=c) (by simp [n1]) (by omega) (by
        rw [List.all_eq_true]
        intro v hv
        obtain⟨y,hy,rfl⟩:=List.mem_map.1 hv
        obtain⟨q1,q2⟩:=n3 y hy
        match y,q1,q2 with
        | [z],_,q2=>exact q2 z (List.mem_singleton.2 rfl)) (fun i hi=>by
        have hi':i<src.length:=by simpa using hi
        rw [hcell i hi']
        have:=n4 i 0 hi' (by omega)
        simpa using this)
       refine⟨_,.int .i64 src.length,_,mu,w',?_,.int _ _,hK,p2,p3⟩
       have hmin:Nat.min src.length len=src.length:=Nat.min_eq_left hle
       have hn2:=n2 w rfl
       rw [k3]
       have hsz1 : ∀ w',(sizeOf e).run P w'=.ok 1 w':=fun w'=>by have:=El (w:=w') hE; rwa [hs1] at this
       simp [Builtin.copy_,run_underlying hdD,hlen w,hmin,hsz1,hn2,p1,goInt]
     ·exact hK.elim
    ·exact hK.elim
   ·exact hK.elim
  ·exact hK.elim
 ·exact hK.elim
theorem An5 {dT:TypeId}{d x:AV}{K K':AV→Ab→Prop}(hm : ∀ v h',K v h'→K' v h')(hx:Aaj P h dT d x K):Aaj P h dT d x K':=by
 unfold Aaj at hx ⊢
 split at hx
 ·split at hx
  ·split at hx
   ·split at hx
    ·refine⟨hx.1,hx.2.1,?_⟩
     have h3:=hx.2.2
     split at h3
     ·exact⟨h3.1,h3.2.1,h3.2.2.1,hm _ _ h3.2.2.2⟩
     ·exact h3.elim
    ·exact hx.elim
   ·exact hx.elim
  ·exact hx.elim
 ·exact hx.elim
end
end Go.Am
namespace Go.Am
open Go
set_option linter.unusedSimpArgs false
set_option linter.unusedVariables false
set_option linter.unusedSectionVars false
inductive Fz (h h2:Ab):AV→AV→Prop
 | same (v:AV):Fz h h2 v v
 | ref (o g off len st:Nat) (rs rows:List (List AV)) (h1:h o=some (.rows g st rs)) (h2':h2 o=none) (hlen:rows.length=len) (hfit:off+len≤rs.length) (hr : ∀ r ∈ rows,Cm st r)
   (hc : ∀ i j,i<len→j<st→Fz h h2 (cell rs (off+i) j) (cell rows i j)):Fz h h2 (.ref o g off len) (.sl st rows)
 | ptr (o g r c st:Nat) (rs:List (List AV)) (row:List AV) (h1:h o=some (.rows g st rs)) (h2':h2 o=none) (hlt:r<rs.length) (hlen:row.length=st)
   (hc : ∀ j,j<st→Fz h h2 (cell rs r j) (row.getD j .und)):Fz h h2 (.ptr o g r c) (.cp row c)
 | agg (cs vs:List AV) (hl:cs.length=vs.length) (hc : ∀ i,i<cs.length→Fz h h2 (cs.getD i .und) (vs.getD i .und)):Fz h h2 (.agg cs) (.agg vs)
 | tup (cs vs:List AV) (hl:cs.length=vs.length) (hc : ∀ i,i<cs.length→Fz h h2 (cs.getD i .und) (vs.getD i .und)):Fz h h2 (.tup cs) (.tup vs)
 | iface (t:TypeId) (v v':AV) (hc:Fz h h2 v v'):Fz h h2 (.iface t v) (.iface t v')
 | cp (row row':List AV) (c:Nat) (hl:row.length=row'.length) (hc : ∀ i,i<row.length→Fz h h2 (row.getD i .und) (row'.getD i .und)):Fz h h2 (.cp row c) (.cp row' c)
 | sl (st:Nat) (rs rs':List (List AV)) (hl:rs.length=rs'.length) (hr : ∀ r ∈ rs',Cm st r) (hc : ∀ i j,i<rs.length→j<st→Fz h h2 (cell rs i j) (cell rs' i j)):Fz h h2 (.sl st rs) (.sl st rs')
 | sl0 (st st':Nat):Fz h h2 (.sl st []) (.sl st' [])
 | emp (st:Nat):Fz h h2 .emp (.sl st [])
 | snil (st:Nat):Fz h h2 .snil (.sl st [])
 | slx (st:Nat) (rows:List (List AV)):Fz h h2 (.slx st rows) (.sl st rows)
 | empx (st:Nat):Fz h h2 .emp (.slx st [])
 | refc (o g r c len cap st:Nat) (rs:List (List AV)) (vs:List AV) (h1:h o=some (.rows g st rs)) (h2':h2 o=none) (hr:r<rs.length) (hfit:c+len≤st) (hlen:vs.length=len) (hfl : ∀ v ∈ vs,v.flat=true)
   (hc : ∀ j,j<len→Fz h h2 (cell rs r (c+j)) (vs.getD j .und)):Fz h h2 (.refc o g r c len cap) (.sl 1 (vs.map fun v=>[v]))
 | map (o g:Nat) (es es':List (AV×AV)) (h1:h o=some (.mp g es)) (h2':h2 o=none) (hl:es.length=es'.length) (hk : ∀ i,i<es.length→Fz h h2 (es.getD i (.und,.und)).1 (es'.getD i (.und,.und)).1)
   (hv : ∀ i,i<es.length→Fz h h2 (es.getD i (.und,.und)).2 (es'.getD i (.und,.und)).2):Fz h h2 (.map o g) (.mapi es')
 | mnil:Fz h h2 .mnil (.mapi [])
 | any (v:AV):Fz h h2 v .any
 | func (fn:Fn) (f c f' c':List AV) (hl:f.length=f'.length) (hl2:c.length=c'.length) (hf : ∀ i,i<f.length→Fz h h2 (f.getD i .und) (f'.getD i .und)) (hc : ∀ i,i<c.length→Fz h h2 (c.getD i .und) (c'.getD i .und)):Fz h h2 (.func fn f c) (.func fn f' c')
def Ahi (h' h:Ab):Prop := ∀ o x,h' o=some x → ∃ y,h o=some y∧y.gen=x.gen
theorem G4.g {h' h:Ab}(hs:G4 h' h):Ahi h' h:=fun o x e=>⟨x,hs o x e,rfl⟩
theorem Ci.subG {h h':Ab}{mu:Mu}(hs:Ahi h' h)(b:Nat)(hm:Ci h' mu b):Ci h mu b:=by
 obtain⟨o,x,l,h1,h2,h3⟩:=hm
 obtain⟨y,k1,k2⟩:=hs o x h1
 exact⟨o,y,l,k1,by rw [k2]; exact h2,h3⟩
theorem Da.subG {h h':Ab}{mu:Mu}{w:World}(hs:Ahi h' h):Da h mu w h' mu w:=
 ⟨rfl,rfl,rfl,Nat.le_refl _,fun b _ hb=>⟨rfl,fun hm=>hb (Ci.subG hs b hm)⟩,fun _ _ _ h=>h⟩
section
variable {P:Program} [GW P] {B:Base P} {h h2:Ab} {mu:Mu} {w:World}
theorem Lx (s:Sim B mu h w)(hs:Ahi h2 h){v v':AV}(hz:Fz h h2 v v') : ∀ {c:Value},RV h mu w v c→RV h2 mu w v' c:=by
 have hdead : ∀ {o x l},h o=some x→h2 o=none→mu o x.gen=some l→¬ Ci h2 mu l.b:=by
  rintro o x l h1 h2' hl ⟨o',x',l',q1,q2,q3⟩
  obtain⟨y,k1,k2⟩:=hs _ _ q1
  have:=s.inj o' o y x l' l k1 h1 (by rw [k2]; exact q2) hl q3
  subst this
  rw [h2'] at q1; cases q1
 induction hz with
 | same v=>exact fun hv=>hv.less (Ci.subG hs)
 | ref o g off len st rs rows h1 h2' hlen hfit hr hc ih=>
  intro c hv
  cases hv with
  | ref _ _ _ _ cap l hl hcl hcap hlim hsz=>
   obtain⟨l',cells,e,f,k1,k2,k3,k4,k5,k6,k7,k8,k9⟩:=s.obj h1
   rw [hl] at k1; cases k1
   subst k3
   subst hlen
   have key : ∃ vs:Nat→Nat→Value,∀ i j,i<rows.length→j<l.st→w.cell? ⟨l.b,l.base+off * l.st+i * l.st+j,none⟩=some (vs i j)∧RV h2 mu w (cell rows i j) (vs i j):=by
    refine⟨fun i j=>(w.cell? ⟨l.b,l.base+off * l.st+i * l.st+j,none⟩).getD undef,fun i j hi hj=>?_⟩
    obtain⟨x,hx1,hx2⟩:=k9 (off+i) j (by omega) hj
    have e1:l.base+(off+i) * l.st+j=l.base+off * l.st+i * l.st+j:=by rw [Nat.add_mul]; omega
    rw [e1] at hx1
    have hx:w.cell? ⟨l.b,l.base+off * l.st+i * l.st+j,none⟩=some x:=by
     unfold World.cell?; rw [k6]; simpa using hx1
    refine⟨?_,?_⟩
    ·simp [hx]
    ·simp only [hx,Option.getD_some]; exact ih i j hi hj hx2
   obtain⟨vs,hvs⟩:=key
   exact .sl l.st rows l.b (l.base+off * l.st) cap vs hcap hlim (fun i j hi hj=>(hvs i j hi hj).1) (fun i j hi hj=>(hvs i j hi hj).2) hr (hdead h1 h2' hl) ((s.muOk _ _ _ hl).2.1)
 | ptr o g r c st rs row h1 h2' hlt hlen hc ih=>
  intro cv hv
  cases hv with
  | ptr _ _ _ _ l hl hcl=>
   obtain⟨l',cells,e,f,k1,k2,k3,k4,k5,k6,k7,k8,k9⟩:=s.obj h1
   rw [hl] at k1; cases k1
   subst k3
   have key : ∃ vs:Nat→Value,∀ j,j<l.st→w.cell? ⟨l.b,l.base+r * l.st+j,none⟩=some (vs j)∧RV h2 mu w (row.getD j .und) (vs j):=by
    refine⟨fun j=>(w.cell? ⟨l.b,l.base+r * l.st+j,none⟩).getD undef,fun j hj=>?_⟩
    obtain⟨x,hx1,hx2⟩:=k9 r j hlt hj
    have hx:w.cell? ⟨l.b,l.base+r * l.st+j,none⟩=some x:=by
     unfold World.cell?; rw [k6]; simpa using hx1
    refine⟨?_,?_⟩
    ·simp [hx]
    ·simp only [hx,Option.getD_some]; exact ih j hj hx2
   obtain⟨vs,hvs⟩:=key
   exact .cp row c l.b (l.base+r * l.st) vs (fun j hj=>(hvs j (hlen ▸ hj)).1) (fun j hj=>(hvs j (hlen ▸ hj)).2) (hdead h1 h2' hl) ((s.muOk _ _ _ hl).2.1)
 | agg cs vs hl hc ih=>
  intro c hv
  cases hv with
  | agg _ cv hl' hcs=>exact .agg vs cv (hl ▸ hl') (fun i hi=>ih i (hl ▸ hi) (hcs i (hl ▸ hi)))
 | tup cs vs hl hc ih=>
  intro c hv
  cases hv with
  | tup _ cv hl' hcs=>exact .tup vs cv (hl ▸ hl') (fun i hi=>ih i (hl ▸ hi) (hcs i (hl ▸ hi)))
 | iface t v v' hc ih=>
  intro c hv
  cases hv with
  | iface _ _ c' hc'=>exact .iface t v' c' (ih hc')
 | cp row row' c hl hc ih=>
  intro cv hv
  cases hv with
  | cp _ _ b off vs q1 q2 q3 q4=>
   exact .cp row' c b off vs (fun j hj=>q1 j (hl ▸ hj)) (fun j hj=>ih j (hl ▸ hj) (q2 j (hl ▸ hj))) (fun hm=>q3 (Ci.subG hs _ hm)) q4
 | empx st=>
  intro c hv
  cases hv
  exact .slx0 _ _
 | mnil=>
  intro c hv
  cases hv
  exact .mapi0
 | map o g es es' h1 h2' hl hk hv ihk ihv=>
  intro c hc
  cases hc with
  | map _ _ l hl' hcl=>
   obtain⟨l',k1,k2,ens,clock,k3,k4,k5⟩:=s.maps _ _ _ h1
   rw [hl'] at k1; cases k1
   exact .mapi es' l.b ens clock k3.1 k3.2 (hl ▸ k4) (fun i hi=>ihk i (hl ▸ hi) (k5 i (hl ▸ hi)).1) (fun i hi=>ihv i (hl ▸ hi) (k5 i (hl ▸ hi)).2) (hdead h1 h2' hl') ((s.muOk _ _ _ hl').2.1)
 | refc o g r c len cap st rs vs h1 h2' hr hfit hlen hfl hc ih=>
  intro cv hv
  cases hv with
  | refc _ _ _ _ _ _ l hl hcl hcap hlim hsz=>
   obtain⟨l',cells,e,f,k1,k2,k3,k4,k5,k6,k7,k8,k9⟩:=s.obj h1
   rw [hl] at k1; cases k1
   subst k3
   subst hlen
   have key : ∃ ws:Nat→Value,∀ j,j<vs.length→w.cell? ⟨l.b,l.base+r * l.st+c+j,none⟩=some (ws j)∧RV h2 mu w (vs.getD j .und) (ws j):=by
    refine⟨fun j=>(w.cell? ⟨l.b,l.base+r * l.st+c+j,none⟩).getD undef,fun j hj=>?_⟩
    obtain⟨x,hx1,hx2⟩:=k9 r (c+j) hr (by omega)
    rw [← Nat.add_assoc] at hx1
    have hx:w.cell? ⟨l.b,l.base+r * l.st+c+j,none⟩=some x:=by
     unfold World.cell?; rw [k6]; simpa using hx1
    refine⟨?_,?_⟩
    ·simp [hx]
    ·simp only [hx,Option.getD_some]; exact ih j hj hx2
   obtain⟨ws,hws⟩:=key
   have hcell : ∀ i,i<vs.length→cell (vs.map fun v=>[v]) i 0=vs.getD i .und:=by intro i hi; simp [cell,List.getD,hi]
   have:=Rv.sl (w:=w) (mu:=mu) (M:=Ci h2 mu) 1 (vs.map fun v=>[v]) l.b (l.base+r * l.st+c) cap (fun i _=>ws i) (by simpa using hcap) (by simp; omega)
    (fun i j hi hj=>by
     have:j=0:=by omega
     subst this
     rw [Nat.mul_one,Nat.add_zero]
     exact(hws i (by simpa using hi)).1)
    (fun i j hi hj=>by
     have:j=0:=by omega
     subst this
     rw [hcell i (by simpa using hi)]
     exact(hws i (by simpa using hi)).2)
    (fun x hx=>by
     obtain⟨v,hv,rfl⟩:=List.mem_map.1 hx
     exact⟨rfl,fun y hy=>by simp at hy; subst hy; exact hfl _ hv⟩) (hdead h1 h2' hl) ((s.muOk _ _ _ hl).2.1)
   simpa using this
 | slx st rows=>
  intro c hv
  cases hv with
  | slx0 _ a=>exact .sl0 _ _ _
  | slx _ _ b off vs q0 q1 q2 q3 q4 q5=>exact .sl _ _ b off _ vs (Nat.le_refl _) q0 q1 (fun i j hi hj=>(q2 i j hi hj).less (Ci.subG hs)) q3 (fun hm=>q4 (Ci.subG hs _ hm)) q5
 | sl st rs rs' hl hr hc ih=>
  intro cv hv
  cases hv with
  | sl0 _ a cap=>
   have:rs'=[]:=by cases rs' <;> simp_all
   subst this
   exact .sl0 st a cap
  | sl _ _ b off cap vs hcap hlim q1 q2 qr q3 q4=>
   rw [hl] at hcap hlim ⊢
   exact .sl st rs' b off cap vs hcap hlim (fun i j hi hj=>q1 i j (hl ▸ hi) hj) (fun i j hi hj=>ih i j (hl ▸ hi) hj (q2 i j (hl ▸ hi) hj)) hr (fun hm=>q3 (Ci.subG hs _ hm)) q4
 | sl0 st st'=>
  intro cv hv
  cases hv with
  | sl0 _ a cap=>exact .sl0 st' a cap
  | sl _ _ b off cap vs hcap hlim q1 q2 qr q3 q4=>exact .sl0 st' _ cap
 | emp st=>
  intro cv hv
  cases hv with
  | emp a=>exact .sl0 st a 0
 | snil st=>
  intro cv hv
  cases hv with
  | snil=>exact .sl0 st none 0
 | any v=>intro cv hv; exact .any cv
 | func fn f c f' c' hl hl2 hf hc ihf ihc=>
  intro cv hv
  cases hv with
  | func _ _ _ f2 c2 q1 q2 q3 q4=>exact .func fn f' c' f2 c2 (hl ▸ q1) (hl2 ▸ q2) (fun i hi=>ihf i (hl ▸ hi) (q3 i (hl ▸ hi))) (fun i hi=>ihc i (hl2 ▸ hi) (q4 i (hl2 ▸ hi)))
theorem J2 (s:Sim B mu h w)(hs:G4 h2 h){v v':AV}(hz:Fz h h2 v v') : ∀ {c:Value},RV h mu w v c→RV h2 mu w v' c:=Lx s hs.g hz
end
end Go.Am
namespace Go.Am
open Go
set_option linter.unusedSimpArgs false
set_option linter.unusedVariables false
set_option linter.unusedSectionVars false
section
variable {P:Program} [GW P] {B:Base P} {mu:Mu} {h:Ab} {w:World}
theorem Sim.pushB (s:Sim B mu h w){o g:Nat}(x:Obj)(ho:h o=none)(hg:mu o g=none) :
  Sim B (C0 mu o g ⟨w.heap.size,0,0,0,false⟩) (upd h o (some (.blk g x))) (w.alloc x)∧Da h mu w (upd h o (some (.blk g x))) (C0 mu o g ⟨w.heap.size,0,0,0,false⟩) (w.alloc x):=by
 have hmu : ∀ o' g' l,mu o' g'=some l→C0 mu o g ⟨w.heap.size,0,0,0,false⟩ o' g'=some l:=by
  intro o' g' l hl
  unfold C0
  rw [if_neg]
  ·exact hl
  ·rintro⟨rfl,rfl⟩; rw [hg] at hl; cases hl
 have hinv : ∀ o' g' l,C0 mu o g ⟨w.heap.size,0,0,0,false⟩ o' g'=some l→(o'=o∧g'=g∧l=⟨w.heap.size,0,0,0,false⟩)∨mu o' g'=some l:=by
  intro o' g' l hl
  unfold C0 at hl
  split at hl
  ·rename_i hh; cases hl; exact .inl ⟨hh.1,hh.2,rfl⟩
  ·exact .inr hl
 have hlive : ∀ o' y,upd h o (some (.blk g x)) o'=some y→(o'=o∧y=.blk g x)∨(o'≠o∧h o'=some y):=by
  intro o' y hx
  unfold upd at hx
  split at hx
  ·cases hx; exact .inl ⟨‹_›,rfl⟩
  ·exact .inr ⟨‹_›,hx⟩
 have hlt : ∀ {o' g' l},mu o' g'=some l→l.b<w.heap.size:=fun hl=>(s.muOk _ _ _ hl).2.1
 have hM : ∀ b,b<w.heap.size→¬ Ci h mu b→¬ Ci (upd h o (some (.blk g x))) (C0 mu o g ⟨w.heap.size,0,0,0,false⟩) b:=by
  rintro b hb hn ⟨o',y,l,hx,hl,rfl⟩
  rcases hinv _ _ _ hl with⟨_,_,rfl⟩ | hl'
  ·simp at hb
  ·rcases hlive _ _ hx with⟨rfl,rfl⟩ | ⟨_,hx'⟩
   ·simp only [AO.gen] at hl'; rw [hg] at hl'; cases hl'
   ·exact hn ⟨o',y,l,hx',hl',rfl⟩
 have ext:Da h mu w (upd h o (some (.blk g x))) (C0 mu o g ⟨w.heap.size,0,0,0,false⟩) (w.alloc x):=
  ⟨rfl,rfl,rfl,by rw [Eb]; omega,fun b hb hn=>⟨Cy hb,hM b hb hn⟩,hmu⟩
 refine⟨⟨?_,?_,?_,?_,?_,?_,?_,s.globE ext,?_⟩,ext⟩
 ·rw [Eb]; exact Nat.le_succ_of_le s.base
 ·intro o' g' l hl
  rcases hinv _ _ _ hl with⟨_,_,rfl⟩ | hl'
  ·exact⟨s.base,by rw [Eb]; simp,fun hh=>by simp at hh⟩
  ·obtain⟨h1,h2,h3⟩:=s.muOk _ _ _ hl'
   refine⟨h1,by rw [Eb]; omega,fun hcc=>?_⟩
   rw [Cy h2]; exact h3 hcc
 ·obtain⟨N,hN⟩:=s.fin
  refine⟨max N (g+1),fun o' g' hle=>?_⟩
  unfold C0
  rw [if_neg (by omega)]
  exact hN _ _ (by omega)
 ·obtain⟨N,hN⟩:=s.finh
  refine⟨max N (o+1),fun o' hle=>?_⟩
  unfold upd
  rw [if_neg (by omega)]
  exact hN _ (by omega)
 ·intro o' g' st' rs' hx
  rcases hlive _ _ hx with⟨rfl,hx'⟩ | ⟨hne,hx'⟩
  ·cases hx'
  ·obtain⟨l,h1,h2,h3,h4,h5,h6⟩:=s.rows _ _ _ _ hx'
   refine⟨l,hmu _ _ _ h1,h2,h3,h4,h5,fun i j hi hj=>?_⟩
   obtain⟨c,hc1,hc2⟩:=h6 i j hi hj
   refine⟨c,?_,hc2.ext ext⟩
   rw [cell?_of_heap (w:=w) (a:=⟨l.b,l.base+i * st'+j,none⟩) (Cy (hlt h1))]; exact hc1
 ·intro o' g' es hx
  rcases hlive _ _ hx with⟨rfl,hx'⟩ | ⟨hne,hx'⟩
  ·cases hx'
  ·obtain⟨l,h1,h2,ens,clock,h3,h4,h5⟩:=s.maps _ _ _ hx'
   exact⟨l,hmu _ _ _ h1,h2,ens,clock,by rw [Cy (hlt h1)]; exact h3,h4,fun i hi=>⟨(h5 i hi).1.ext ext,(h5 i hi).2.ext ext⟩⟩
 ·intro o1 o2 x1 x2 l1 l2 hx1 hx2 hl1 hl2 hbb
  have side : ∀ {o1 x1 l1},upd h o (some (.blk g x)) o1=some x1→C0 mu o g ⟨w.heap.size,0,0,0,false⟩ o1 x1.gen=some l1→(o1=o∧l1.b=w.heap.size)∨(o1≠o∧h o1=some x1∧mu o1 x1.gen=some l1):=by
   intro o1 x1 l1 h1 q1
   rcases hlive _ _ h1 with⟨rfl,rfl⟩ | ⟨hne,h1'⟩
   ·rcases hinv _ _ _ q1 with⟨_,_,rfl⟩ | q1'
    ·exact .inl ⟨rfl,rfl⟩
    ·simp only [AO.gen] at q1'; rw [hg] at q1'; cases q1'
   ·rcases hinv _ _ _ q1 with⟨e1,_,_⟩ | q1'
    ·exact absurd e1 hne
    ·exact .inr ⟨hne,h1',q1'⟩
  rcases side hx1 hl1 with⟨e1,b1⟩ | ⟨n1,a1,c1⟩ <;> rcases side hx2 hl2 with⟨e2,b2⟩ | ⟨n2,a2,c2⟩
  ·rw [e1,e2]
  ·have:=hlt c2; omega
  ·have:=hlt c1; omega
  ·exact s.inj _ _ _ _ _ _ a1 a2 c1 c2 hbb
 ·intro o' g' y hx
  rcases hlive _ _ hx with⟨rfl,hx'⟩ | ⟨hne,hx'⟩
  ·cases hx'
   exact⟨⟨w.heap.size,0,0,0,false⟩,by simp [C0],rfl,My⟩
  ·obtain⟨l,h1,h2,h3⟩:=s.blks _ _ _ hx'
   exact⟨l,hmu _ _ _ h1,h2,by rw [Cy (hlt h1)]; exact h3⟩
theorem Sim.setB (s:Sim B mu h w){o g:Nat}{x x':Obj}{l:Loc}(hx:h o=some (.blk g x))(hl:mu o g=some l)(hnc : ∀ c e f,x≠.cells c e f) :
  Sim B mu (upd h o (some (.blk g x'))) { w with heap:=w.heap.setIfInBounds l.b x' }∧Da h mu w (upd h o (some (.blk g x'))) mu { w with heap:=w.heap.setIfInBounds l.b x' }:=by
 obtain⟨l0,hl0,hlc,hb0⟩:=s.blks _ _ _ hx
 rw [hl] at hl0; cases hl0
 have hlt0:=(s.muOk _ _ _ hl).2.1
 generalize hw:({ w with heap:=w.heap.setIfInBounds l.b x' }:World)=w'
 have hblk:w'.heap[l.b]? = some x':=by rw [← hw]; simp [hlt0]
 have hother : ∀ b,b≠l.b→w'.heap[b]? = w.heap[b]? := fun b hne=>by rw [← hw]; exact Array.getElem?_setIfInBounds_ne (Ne.symm hne)
 have hsize:w'.heap.size=w.heap.size:=by rw [← hw]; simp
 have hlive : ∀ o1 y,upd h o (some (.blk g x')) o1=some y→(o1=o∧y=.blk g x')∨(o1≠o∧h o1=some y):=by
  intro o1 y h1
  unfold upd at h1
  split at h1
  ·cases h1; exact .inl ⟨‹_›,rfl⟩
  ·exact .inr ⟨‹_›,h1⟩
 have hMl:Ci h mu l.b:=⟨o,_,l,hx,hl,rfl⟩
 have hM : ∀ b,¬ Ci h mu b→¬ Ci (upd h o (some (.blk g x'))) mu b:=by
  rintro b hn ⟨o1,y,l1,h1,h2,rfl⟩
  rcases hlive _ _ h1 with⟨rfl,rfl⟩ | ⟨_,h1'⟩
  ·exact hn ⟨_,_,_,hx,h2,rfl⟩
  ·exact hn ⟨_,_,_,h1',h2,rfl⟩
 have ext:Da h mu w (upd h o (some (.blk g x'))) mu w':=
  ⟨by rw [← hw],by rw [← hw],by rw [← hw],by rw [hsize]; exact Nat.le_refl _,fun b _ hb=>⟨hother b (fun e=>hb (e ▸ hMl)),hM b hb⟩,fun _ _ _ h=>h⟩
 have hnb : ∀ {o1 y l1},o1≠o→h o1=some y→mu o1 y.gen=some l1→l1.b≠l.b:=fun hne h1 h2 hb=>hne (s.inj _ _ _ _ _ _ h1 hx h2 hl hb)
 refine⟨⟨by rw [hsize]; exact s.base,?_,s.fin,?_,?_,?_,?_,s.globE ext,?_⟩,ext⟩
 ·intro o1 g1 l1 h1
  obtain⟨k1,k2,k3⟩:=s.muOk _ _ _ h1
  refine⟨k1,by rw [hsize]; exact k2,fun hcc=>?_⟩
  have hbb:l1.b≠l.b:=by
   intro hbb
   obtain⟨c1,e1,f1,q1,_⟩:=k3 hcc
   rw [hbb,hb0] at q1
   exact hnc _ _ _ (Option.some.inj q1)
  rw [hother _ hbb]; exact k3 hcc
 ·obtain⟨N,hN⟩:=s.finh
  refine⟨max N (o+1),fun o' hle=>?_⟩
  unfold upd
  rw [if_neg (by omega)]
  exact hN _ (by omega)
 ·intro o1 g1 st1 rs1 h1
  rcases hlive _ _ h1 with⟨rfl,h1'⟩ | ⟨hne,h1'⟩
  ·cases h1'
  ·obtain⟨l1,k1,k2,k3,k4,k5,k6⟩:=s.rows _ _ _ _ h1'
   refine⟨l1,k1,k2,k3,k4,k5,fun i j hi hj=>?_⟩
   obtain⟨c,hc1,hc2⟩:=k6 i j hi hj
   refine⟨c,?_,hc2.ext ext⟩
   rw [cell?_of_heap (w:=w) (w':=w') (a:=⟨l1.b,l1.base+i * st1+j,none⟩) (hother _ (hnb hne h1' k1))]; exact hc1
 ·intro o1 g1 es1 h1
  rcases hlive _ _ h1 with⟨rfl,h1'⟩ | ⟨hne,h1'⟩
  ·cases h1'
  ·obtain⟨l1,k1,k2,ens1,clock1,k3,k4,k5⟩:=s.maps _ _ _ h1'
   exact⟨l1,k1,k2,ens1,clock1,by rw [hother _ (hnb hne h1' k1)]; exact k3,k4,fun i hi=>⟨(k5 i hi).1.ext ext,(k5 i hi).2.ext ext⟩⟩
 ·intro o1 o2 x1 x2 l1 l2 h1 h2 q1 q2 hbb
  rcases hlive _ _ h1 with⟨rfl,rfl⟩ | ⟨n1,a1⟩ <;> rcases hlive _ _ h2 with⟨rfl,rfl⟩ | ⟨n2,a2⟩
  ·rfl
  ·simp only [AO.gen] at q1; rw [hl] at q1; cases q1; exact absurd hbb.symm (hnb n2 a2 q2)
  ·simp only [AO.gen] at q2; rw [hl] at q2; cases q2; exact absurd hbb (hnb n1 a1 q1)
  ·exact s.inj _ _ _ _ _ _ a1 a2 q1 q2 hbb
 ·intro o1 g1 y h1
  rcases hlive _ _ h1 with⟨rfl,h1'⟩ | ⟨hne,h1'⟩
  ·cases h1'
   exact⟨l,hl,hlc,hblk⟩
  ·obtain⟨l1,k1,k2,k3⟩:=s.blks _ _ _ h1'
   exact⟨l1,k1,k2,by rw [hother _ (hnb hne h1' k1)]; exact k3⟩
end
end Go.Am
namespace Go.Am
open Go
set_option linter.unusedSimpArgs false
set_option linter.unusedVariables false
set_option linter.unusedSectionVars false
def ev (fr:Nat→AV):Operand→AV
 | .tmp t=>fr t
 | .const v=>Arg v
 | .global g=>.gptr ⟨g,0,none⟩
 | .func f=>.func (.func f) [] []
def E4 (fr:Nat→AV)(l:List Operand):List AV:=l.map (ev fr)
def Q9 (fr:Nat→AV)(l:List (Nat×Operand)):List (Nat×AV):=l.map fun p=>(p.1,ev fr p.2)
def L9 (x:Option AV)(h:Ab)(K:AV→Ab→Prop):Prop:=
 match x with
 | some v=>K v h
 | none=>False
def Ab6:AV→Option AV
 | .ptr o g r c=>some (.ptr o g r c)
 | .cp r c=>some (.cp r c)
 | .gptr a=>some (.gptr a)
 | .func (.func k) f c=>some (.func (.func k) f c)
 | .iface t v=>some (.iface t v)
 | .map o g=>some (.map o g)
 | _=>none
def Jp (P:Program)(h:Ab)(b:Builtin)(ts:List TypeId)(args:List AV)(K:AV→Ab→Prop):Prop:=
 match b,ts,args with
 | .len,[t],[v]=>L9 (Sl P h t v) h K
 | .cap,[t],[v]=>L9 (Aed P t v) h K
 | .append,[s,t],[v,x]=>Nx P h s t v x K∨(v=.emp ∧ ∃ k n,x=.int k n∧Si P h s t n K)∨Nx P h s t v x (fun v1 h1 => ∃ v2 h2,G4 h2 h1∧Fz h1 h2 v1 v2∧K v2 h2)
 | .copy,[t,_],[v,x]=>Aaj P h t v x K
 | .min,_,l=>L9 (Acf false l) h K
 | .max,_,l=>L9 (Acf true l) h K
 | _,_,_=>False
def Qn:Operand→Bool
 | .const (.slice none 0 0)=>true
 | _=>false
def Te (P:Program)(o:BinOp)(t:TypeId)(y:Operand)(vx vy:AV)(h:Ab)(K:AV→Ab→Prop):Prop:=
 if Qn y=true then match ti P t with
  | some T=>match T.k,o,vx with
   | .sl _,.eql,.emp => ∀ b,K (.bool b) h
   | .sl _,.eql,.sl _ rows => ∀ b,(rows≠[]→b=false)→K (.bool b) h
   | .sl _,.eql,.ref _ _ _ _=>K (.bool false) h
   | .sl _,.eql,.snil=>K (.bool true) h
   | .sl _,.neq,.snil=>K (.bool false) h
   | .sl _,.neq,.emp => ∀ b,K (.bool b) h
   | .sl _,.neq,.sl _ rows => ∀ b,(rows≠[]→b=true)→K (.bool b) h
   | .sl _,.neq,.ref _ _ _ _=>K (.bool true) h
   | _,_,_=>False
  | none=>False
 else L9 (Ke P o t vx vy) h K
def Zi (P:Program)(h:Ab)(s d:TypeId)(v:AV)(K:AV→Ab→Prop):Prop:=
 match ti P s,ti P d,v with
 | some S,some D,.str l=>match S.k,D.k with
  | .str,.sl e=>match ti P e with
   | some E=>E.k=.int .u8∧l.length≤Bt∧K (.sl 1 (l.map fun b=>[.int .u8 b.toNat])) h
   | none=>False
  | _,_=>L9 (V7 P h s d v) h K
 | _,_,_=>L9 (V7 P h s d v) h K
def Acd (P:Program)(h:Ab)(t:TypeId)(x:AV)(K:AV→Ab→Prop):Prop:=
 match x with
 | .mapi es=>(∃ T,ti P t=some T ∧ ∃ k e,T.k=.map k e) ∧ ∃ o,h o=none ∧ ∀ g,
  (∀ b clock ens,MapKept.Stamped ens clock→es.length=ens.size→K (.itm o g b clock ens es) (upd h o (some (.blk g (.mapIter (some b) clock #[] clock))))) ∧
  (es=[]→K (.it o g) (upd h o (some (.blk g (.mapIter none 0 #[] 0)))))
 | _=>False
def Aim (h:Ab)(x:AV)(K:AV→Ab→Prop):Prop:=
 match x with
 | .itm o g b clock ens es => ∃ seen:Array Nat,h o=some (.blk g (.mapIter (some b) clock seen clock)) ∧
  ((∀ i,i<es.length→(ens.getD i default).born ∈ seen)→K (.tup [.bool false]) h) ∧
  ∀ i,i<es.length→(ens.getD i default).born ∉ seen→K (.tup [.bool true,(es.getD i (.und,.und)).1,(es.getD i (.und,.und)).2]) (upd h o (some (.blk g (.mapIter (some b) clock (seen.push (ens.getD i default).born) clock))))
 | .it o g=>h o=some (.blk g (.mapIter none 0 #[] 0))∧K (.tup [.bool false]) h
 | _=>False
def Af6 (h:Ab)(x:AV)(K:AV→Ab→Prop):Prop:=
 match x with
 | .itm o g b clock ens es => ∃ (seen:Array Nat) (i:Nat),i<es.length∧h o=some (.blk g (.mapIter (some b) clock (seen.push (ens.getD i default).born) clock))∧K (.tup [(es.getD i (.und,.und)).1,(es.getD i (.und,.und)).2]) h
 | _=>False
def C5 (P:Program)[GW P](fr:Nat→AV)(h:Ab)(op:Op)(K:AV→Ab→Prop):Prop:=
 match op with
 | .move x=>K (ev fr x) h
 | .assign x=>K (ev fr x) h
 | .pick c a b=>match ev fr c with
  | .bool t=>K (if t then ev fr a else ev fr b) h
  | _=>False
 | .alloc e=>match ti P e with
  | some T=>T.z.all AV.flat=true∧(Q2 h T.z.length [T.z] (fun o g h'=>K (.ptr o g 0 0) h')∨Q2 h (T.z.map AV.nilx).length [T.z.map AV.nilx] (fun o g h'=>K (.ptr o g 0 0) h'))
  | none=>False
 | .box e x=>(ev fr x).ok=true∧(ev fr x).cells.all AV.flat=true∧Q2 h (ev fr x).cells.length [(ev fr x).cells] (fun o g h'=>K (.ptr o g 0 0) h')
 | .build t ps=>L9 (Tn P t (Q9 fr ps.toList)) h K
 | .buildSlice t n ps=>In P h t n (Q9 fr ps.toList) K
 | .load t a=>L9 (Pq P h t (ev fr a)) h K
 | .store t a x => ∃ v,ValSim (ev fr x) v∧match O7 P h t (ev fr a) v with
  | some h'=>K .und h'
  | none=>False
 | .nilCheck x=>L9 (Ab6 (ev fr x)) h K
 | .binOp o t x y _=>Pc P o t x y (ev fr x) (ev fr y)=true∧Te P o t y (ev fr x) (ev fr y) h K
 | .unOp o _ x=>L9 (aUn o (ev fr x)) h K
 | .convert s d x=>Zi P h s d (ev fr x) K
 | .makeInterface t x=>match ti P t with
  | some T=>T.k≠.ifc∧K (.iface t (ev fr x)) h
  | none=>False
 | .makeFunc fn f c=>K (.func fn (E4 fr f.toList) (E4 fr c.toList)) h
 | .makeSlice t l c=>U0 P h t (ev fr l) (ev fr c) K
 | .slice t x lo hi mx=>L9 (Et P h t (ev fr x) (lo.map (ev fr)) (hi.map (ev fr)) (mx.map (ev fr))) h K
 | .fieldAddr s x f=>L9 (Ld P s (ev fr x) f) h K
 | .field t x f=>L9 (Af2 P t (ev fr x) f) h K
 | .indexAddr t x i=>L9 (Dl P h t (ev fr x) (ev fr i)) h K
 | .index t x i=>L9 (Td P t (ev fr x) (ev fr i)) h K
 | .typeAssert x _ t ok=>L9 (Acz P (ev fr x) t ok) h K
 | .extract x i=>L9 (Aaf (ev fr x) i) h K
 | .lookup t x i ok=>L9 (O6 P h t (ev fr x) (ev fr i) ok) h K
 | .makeMap t r=>(match r with
  | none=>True
  | some x=>match ti P t,ev fr x with
   | some T,.int _ _=>(match T.k with | .map _ _=>True | _=>False)
   | _,_=>False)∧Y4 h K
 | .mapUpdate t m k x=>match Rw P h t (ev fr m) (ev fr k) (ev fr x) with
  | some h'=>K .und h'
  | none=>False
 | .insert t m k x=>match Rw P h t (ev fr m) (ev fr k) (ev fr x) with
  | some h'=>K .und h'
  | none=>False
 | .call ⟨.builtin b,args,ts⟩=>Jp P h b ts.toList (E4 fr args.toList) K
 | .range t x=>Acd P h t (ev fr x) K
 | .next it false=>Aim h (ev fr it) K
 | .entry it=>Af6 h (ev fr it) K
 | _=>False
section
variable {P:Program} [GW P] {B:Base P} {h:Ab} {mu:Mu} {w:World}
def Ya (h:Ab)(mu:Mu)(w:World)(fr:Nat→AV)(a:Act):Prop := ∀ t,RV h mu w (fr t) (a.tmps.getD t undef)
theorem On {fr:Nat→AV}{a:Act}(hf:Ya h mu w fr a)(x:Operand):RV h mu w (ev fr x) (a.eval x):=by
 cases x with
 | tmp t=>exact hf t
 | const v=>exact Ati v
 | global g=>exact .gptr _
 | func f=>exact .func _ [] [] [] [] rfl rfl (fun i hi=>by simp at hi) (fun i hi=>by simp at hi)
def Ou (h:Ab)(mu:Mu)(w:World)(l:List AV)(cs:List Value):Prop:=l.length=cs.length ∧ ∀ i,i<l.length→RV h mu w (l.getD i .und) (cs.getD i undef)
theorem Sp {fr:Nat→AV}{a:Act}(hf:Ya h mu w fr a)(l:List Operand):Ou h mu w (E4 fr l) (l.map a.eval):=by
 refine⟨by simp [E4],fun i hi=>?_⟩
 have hi':i<l.length:=by simpa [E4] using hi
 rw [Dh (x:=ev fr l[i]) (by simp [E4,hi']),Dh (x:=a.eval l[i]) (by simp [hi'])]
 exact On hf _
theorem Ahr {fr:Nat→AV}{a:Act}(hf:Ya h mu w fr a)(l:List (Nat×Operand)):(Q9 fr l).length=(l.map fun p=>(p.1,a.eval p.2)).length ∧
  ∀ k,k<(Q9 fr l).length→((Q9 fr l).getD k (0,.und)).1=((l.map fun p=>(p.1,a.eval p.2)).getD k (0,undef)).1∧RV h mu w ((Q9 fr l).getD k (0,.und)).2 ((l.map fun p=>(p.1,a.eval p.2)).getD k (0,undef)).2:=by
 refine⟨by simp [Q9],fun i hi=>?_⟩
 have hi':i<l.length:=by simpa [Q9] using hi
 rw [Dh (x:=(l[i].1,ev fr l[i].2)) (by simp [Q9,hi']),Dh (x:=(l[i].1,a.eval l[i].2)) (by simp [hi'])]
 exact⟨rfl,On hf _⟩
theorem Ach {fr:Nat→AV}{a:Act}(hf:Ya h mu w fr a)(x:Option Operand):Ts h mu w (x.map (ev fr)) (x.map a.eval):=by
 cases x with
 | none=>exact .inl ⟨rfl,rfl⟩
 | some x=>exact .inr ⟨_,_,rfl,rfl,On hf x⟩
def Yu (P:Program)[GW P](B:Base P)(h:Ab)(mu:Mu)(w:World)(s:Sem Next)(K:AV→Ab→Prop):Prop:=
 ∃ nx w' x h' mu',s.run P w=.ok nx w'∧((∃ c,nx=.value c∧RV h' mu' w' x c)∨(nx=.skip∧x=.und))∧K x h'∧Sim B mu' h' w'∧Da h mu w h' mu' w'
theorem Ja (s:Sim B mu h w){r:Sem Value}{x:Option AV}{K:AV→Ab→Prop}(hK:L9 x h K)(hr : ∀ v,x=some v → ∃ c,r.run P w=.ok c w∧RV h mu w v c) :
  Yu P B h mu w (do pure (.value (← r))) K:=by
 cases x with
 | none=>exact hK.elim
 | some v=>
  obtain⟨c,h1,h2⟩:=hr v rfl
  exact⟨.value c,w,v,h,mu,by simp [h1],.inl ⟨c,rfl,h2⟩,hK,s,Ext.refl _ _ _⟩
theorem H5 {r:Sem Value}{K:AV→Ab→Prop}(hr : ∃ v c h' mu' w',r.run P w=.ok c w'∧RV h' mu' w' v c∧K v h'∧Sim B mu' h' w'∧Da h mu w h' mu' w') :
  Yu P B h mu w (do pure (.value (← r))) K:=by
 obtain⟨v,c,h',mu',w',h1,h2,h3,h4,h5⟩:=hr
 exact⟨.value c,w',v,h',mu',by simp [h1],.inl ⟨c,rfl,h2⟩,h3,h4,h5⟩
theorem Ala {x:Operand}{v:AV}{a:Act}{dst:Option Tmp}{ty:TypeId}{pos:String}{after:Array Edge}{guard:Option (Nat×Bool)}{y:AV}(hv:RV h mu w v (a.eval x))(hx:Ab6 v=some y) :
  v=y∧(execOp a.eval ⟨dst,.nilCheck x,ty,pos,after,guard⟩).run P w=.ok (.value (a.eval x)) w:=by
 generalize hc:a.eval x=c at *
 unfold Ab6 at hx
 split at hx <;> first | (cases hx; cases hv; exact⟨rfl,by simp [execOp,hc]⟩) | cases hx
theorem Arj {t:TypeId}{T:TI}(hT:ti P t=some T)(hk:T.k≠.ifc) : ∃ d,P.underlying t=some d ∧ ∀ ms,d≠.interface ms:=by
 obtain⟨d,h1,h2⟩:=Eh hT
 exact⟨d,h1,fun ms hq=>hk (by rw [h2,hq]; rfl)⟩
theorem Alt {t:TypeId}{T:TI}{c:Value}(hT:ti P t=some T)(hk:T.k≠.ifc):(Instr.makeInterface t c).run P w=.ok (.iface t c) w:=by
 obtain⟨d,h1,h2⟩:=Arj hT hk
 cases d <;> first | exact absurd rfl (h2 _) | simp [Instr.makeInterface,run_underlying h1]
theorem Ql {t e:TypeId}(hd:P.underlying t=some (.slice e)){a:Option Addr}{l c:Nat} :
  (binOp .eql t (.slice a l c) (.slice none 0 0)).run P w=.ok (.bool a.isNone) w∧(binOp .neq t (.slice a l c) (.slice none 0 0)).run P w=.ok (.bool (!a.isNone)) w:=by
 have key : ∀ n,(Op.equalIn (n+1) t (.slice a l c) (.slice none 0 0)).run P w=.ok a.isNone w:=by
  intro n
  cases a <;> simp [Op.equalIn,run_underlying hd]
 have hq:=key 9999
 constructor <;> simp [binOp,Op.equal,Op.maxDepth,hq]
theorem Apv {op:BinOp}{t:TypeId}{y:Operand}{vx vy:AV}{cx cy:Value}{K:AV→Ab→Prop}(hx:RV h mu w vx cx)(hy:RV h mu w vy cy)(hn:Qn y=true→cy=.slice none 0 0)(hK:Te P op t y vx vy h K) :
  ∃ c v,(binOp op t cx cy).run P w=.ok c w∧RV h mu w v c∧K v h:=by
 unfold Te at hK
 split at hK
 ·rename_i hnil
  obtain rfl:=hn hnil
  split at hK
  ·rename_i T hT
   obtain⟨d,hd,hk'⟩:=Eh hT
   split at hK
   ·rename_i e hk
    have:=Fo (hk ▸ hk'); subst this
    cases hx
    exact⟨_,_,(Ql hd).1,.bool _,hK _⟩
   ·rename_i e _ _ hk
    have:=Fo (hk ▸ hk'); subst this
    cases hx
    ·exact⟨_,_,(Ql hd).1,.bool _,hK _ (fun h=>absurd rfl h)⟩
    ·exact⟨_,_,(Ql hd).1,.bool _,hK _ (fun _=>rfl)⟩
   ·rename_i e _ _ _ _ hk
    have:=Fo (hk ▸ hk'); subst this
    cases hx
    exact⟨_,_,(Ql hd).1,.bool _,hK⟩
   ·rename_i e hk
    have:=Fo (hk ▸ hk'); subst this
    cases hx
    exact⟨_,_,(Ql hd).1,.bool _,hK⟩
   ·rename_i e hk
    have:=Fo (hk ▸ hk'); subst this
    cases hx
    exact⟨_,_,(Ql hd).2,.bool _,hK⟩
   ·rename_i e hk
    have:=Fo (hk ▸ hk'); subst this
    cases hx
    exact⟨_,_,(Ql hd).2,.bool _,hK _⟩
   ·rename_i e _ _ hk
    have:=Fo (hk ▸ hk'); subst this
    cases hx
    ·exact⟨_,_,(Ql hd).2,.bool _,hK _ (fun h=>absurd rfl h)⟩
    ·exact⟨_,_,(Ql hd).2,.bool _,hK _ (fun _=>rfl)⟩
   ·rename_i e _ _ _ _ hk
    have:=Fo (hk ▸ hk'); subst this
    cases hx
    exact⟨_,_,(Ql hd).2,.bool _,hK⟩
   ·exact hK.elim
  ·exact hK.elim
 ·cases hq:Ke P op t vx vy with
  | none=>rw [hq] at hK; exact hK.elim
  | some v=>
   rw [hq] at hK
   obtain⟨c,c1,c2⟩:=Ao0 (P:=P) hx hy hq
   exact⟨c,v,c1,c2,hK⟩
theorem Ak3 (s:Sim B mu h w){src dst:TypeId}{v:AV}{c:Value}{K:AV→Ab→Prop}(hv:RV h mu w v c)(hK:Zi P h src dst v K):Yu P B h mu w (do pure (.value (← convert src dst c))) K:=by
 unfold Zi at hK
 split at hK
 ·rename_i S D l hS hD
  split at hK
  ·rename_i e q1 q2
   split at hK
   ·rename_i E hE
    obtain⟨k1,k2,k3⟩:=hK
    obtain⟨d1,hd1,hk1⟩:=Eh hS
    obtain⟨d2,hd2,hk2⟩:=Eh hD
    obtain⟨d3,hd3,hk3⟩:=Eh hE
    have:=Qf (q1 ▸ hk1); subst this
    have:=Fo (q2 ▸ hk2); subst this
    have:=Sd (k1 ▸ hk3); subst this
    cases hv
    have hr:=Lib.run_convert_string_bytes (P:=P) w src dst e ⟨l.toArray⟩ hd1 hd2 hd3
    have hbel:=Lib.bytesWorld_below w e ⟨l.toArray⟩
    obtain⟨s',ext⟩:=Below.ext s hbel
    refine H5 ⟨.sl 1 (l.map fun b=>[.int .u8 b.toNat]),_,h,mu,_,hr,?_,k3,s',ext⟩
    have hsz:(⟨l.toArray⟩:ByteArray).size=l.length:=by show l.toArray.size=_; simp
    have:=Rv.sl (w:=Lib.bytesWorld w e ⟨l.toArray⟩) (mu:=mu) (M:=Ci h mu) 1 (l.map fun b=>[AV.int .u8 b.toNat]) w.heap.size 0 (grownCap w (ByteArray.size ⟨l.toArray⟩) 0 e) (fun i _=>.int .u8 (l.getD i 0).toNat)
     (by rw [List.length_map]; have:=grownCap_ge w (ByteArray.size ⟨l.toArray⟩) 0 e; omega) (by simpa using k2) (fun i j hi hj=>by
      have hj0:j=0:=by omega
      subst hj0
      have:=Lib.bytesWorld_cell w e ⟨l.toArray⟩ i (by rw [hsz]; simpa using hi)
      simpa using this) (fun i j hi hj=>by
      have hj0:j=0:=by omega
      subst hj0
      have hi':i<l.length:=by simpa using hi
      have e1:cell (l.map fun b=>[AV.int .u8 b.toNat]) i 0=.int .u8 (l.getD i 0).toNat:=by simp [cell,List.getD,hi']
      rw [e1]; exact .int _ _) (fun r hr=>by
      obtain⟨b,_,rfl⟩:=List.mem_map.1 hr
      exact⟨rfl,fun v hv=>by rw [List.mem_singleton.1 hv]; rfl⟩) (fun hm=>by have:=Ci.lt s hm; omega) (by rw [Lib.bytesWorld_size]; omega)
    rw [List.length_map] at this
    rw [hsz] at this ⊢
    exact this
   ·exact hK.elim
  ·exact Ja s hK fun v hv'=>Afc s hv hv'
 ·exact Ja s hK fun v hv'=>Afc s hv hv'
theorem Alv (s:Sim B mu h w){t:TypeId}{x:AV}{c:Value}{K:AV→Ab→Prop}(hv:RV h mu w x c)(hK:Acd P h t x K) : ∃ v c' h' mu' w',(Instr.range t c).run P w=.ok c' w'∧RV h' mu' w' v c'∧K v h'∧Sim B mu' h' w'∧Da h mu w h' mu' w':=by
 unfold Acd at hK
 split at hK
 ·rename_i es
  obtain⟨⟨T,hT,k,e,hk⟩,o,ho,hK⟩:=hK
  obtain⟨g,hg⟩:=s.fresh o
  obtain⟨d,hd,hdk⟩:=Eh hT
  rw [hk] at hdk
  obtain rfl:=Y8 hdk
  cases hv with
  | mapi0=>
   obtain⟨s',ext⟩:=s.pushB (.mapIter none 0 #[] 0) ho hg
   exact⟨_,_,_,_,_,run_range_nilMap w t _ _ hd,.it o g ⟨w.heap.size,0,0,0,false⟩ (by simp [C0]) rfl,(hK g).2 rfl,s',ext⟩
  | mapi _ b ens clock hb hst hl h1 h2 h3 h4=>
   obtain⟨s',ext⟩:=s.pushB (.mapIter (some b) clock #[] clock) ho hg
   refine⟨_,_,_,_,_,run_range_map w t _ _ b ens clock hd hb,?_,(hK g).1 b clock ens hst hl,s',ext⟩
   have hs:=ext.same b h4 h3
   exact .itm o g ⟨w.heap.size,0,0,0,false⟩ (by simp [C0]) rfl es b ens clock (by rw [hs.1]; exact hb) hst hl (fun i hi=>(h1 i hi).ext ext) (fun i hi=>(h2 i hi).ext ext) hs.2 (Nat.lt_of_lt_of_le h4 ext.size)
 ·exact hK.elim
theorem Ai4 {ens:Array MapEntry}{seen:Array Nat}{e:MapEntry}:e ∈ (leftOf ens seen).toList ↔ ∃ i,i<ens.size∧ens.getD i default=e∧e.born ∉ seen:=by
 simp only [leftOf,Array.toList_filter,List.mem_filter,Bool.not_eq_true',Array.contains_eq_mem,decide_eq_false_iff_not,Array.mem_toList_iff]
 constructor
 ·rintro⟨hm,hn⟩
  obtain⟨i,hi,rfl⟩:=Array.mem_iff_getElem.1 hm
  exact⟨i,hi,by simp [Array.getD,hi],hn⟩
 ·rintro⟨i,hi,rfl,hn⟩
  exact⟨by simp [Array.getD,hi],hn⟩
theorem Aog (s:Sim B mu h w){x:AV}{c:Value}{ty:TypeId}{K:AV→Ab→Prop}(hv:RV h mu w x c)(hK:Aim h x K) : ∃ v c' h' mu' w',(Instr.next c false ty).run P w=.ok c' w'∧RV h' mu' w' v c'∧K v h'∧Sim B mu' h' w'∧Da h mu w h' mu' w':=by
 unfold Aim at hK
 split at hK
 ·rename_i o g b clock ens es
  obtain⟨seen,ho,hK1,hK2⟩:=hK
  cases hv with
  | itm _ _ l hm hc _ _ _ _ hb hst hl h1 h2 h3 h4=>
   obtain⟨l',k1,k2,k3⟩:=s.blks _ _ _ ho
   rw [hm] at k1; cases k1
   rcases run_next_at (P:=P) w ty l.b b clock clock seen ens clock k3 hb hst.1 (Nat.le_refl _) with⟨hz,hrun⟩ | ⟨e,he,w1,hw1,hrun⟩
   ·refine⟨_,_,h,mu,w,hrun,.tup [.bool false] [.bool false] rfl ?_,hK1 fun i hi=>?_,s,Ext.refl _ _ _⟩
    ·intro i hi
     have:i=0:=by simpa using hi
     subst this
     exact .bool false
    ·apply Classical.byContradiction
     intro hn
     have:=Ai4.2 ⟨i,by omega,rfl,hn⟩
     have hz':(leftOf ens seen).toList=[]:=by
      have:leftOf ens seen = #[]:=Array.eq_empty_of_size_eq_zero hz
      rw [this]
     rw [hz'] at this
     cases this
   ·obtain⟨i,hi,rfl,hn⟩:=Ai4.1 he
    have hi':i<es.length:=by omega
    have sd:Sim B mu h w1∧Da h mu w h mu w1:=by
     rcases hw1 with rfl | rfl
     ·exact⟨s,Ext.refl _ _ _⟩
     ·exact s.drew
    obtain⟨s2,e2⟩:=sd.1.setB (l:=l) (x':=.mapIter (some b) clock (seen.push (ens.getD i default).born) clock) ho hm (by intro a b c hh; cases hh)
    have e3:=sd.2.trans e2
    refine⟨.tup [.bool true,(es.getD i (.und,.und)).1,(es.getD i (.und,.und)).2],_,_,_,_,hrun,.tup _ [_,_,_] rfl ?_,hK2 i hi' hn,s2,e3⟩
    intro j hj
    have hj':j<3:=by simpa using hj
    match j,hj' with
    | 0,_=>exact .bool true
    | 1,_=>exact(h1 i hi').ext e3
    | 2,_=>exact(h2 i hi').ext e3
 ·rename_i o g
  obtain⟨ho,hK⟩:=hK
  cases hv with
  | it _ _ l hm hc=>
   obtain⟨l',k1,k2,k3⟩:=s.blks _ _ _ ho
   rw [hm] at k1; cases k1
   refine⟨.tup [.bool false],.tuple #[.bool false],h,mu,w,?_,.tup [.bool false] [.bool false] rfl ?_,hK,s,Ext.refl _ _ _⟩
   ·simp only [Instr.next,getObj,Sem.run_bind,Sem.run,k3,Result.andThen]
    rfl
   ·intro i hi
    have:i=0:=by simpa using hi
    subst this
    exact .bool false
 ·exact hK.elim
theorem Ali (s:Sim B mu h w){x:AV}{c:Value}{K:AV→Ab→Prop}(hv:RV h mu w x c)(hK:Af6 h x K) : ∃ v c' h' mu' w',(Instr.entry c).run P w=.ok c' w'∧RV h' mu' w' v c'∧K v h'∧Sim B mu' h' w'∧Da h mu w h' mu' w':=by
 unfold Af6 at hK
 split at hK
 ·rename_i o g b clock ens es
  obtain⟨seen,i,hi,ho,hK⟩:=hK
  cases hv with
  | itm _ _ l hm hc _ _ _ _ hb hst hl h1 h2 h3 h4=>
   obtain⟨l',k1,k2,k3⟩:=s.blks _ _ _ ho
   rw [hm] at k1; cases k1
   have hi':i<ens.size:=by omega
   have hmem:ens.getD i default ∈ ens.toList:=by simp [Array.getD,hi']
   refine⟨_,_,h,mu,w,run_entry_at (P:=P) w l.b b clock seen ens clock _ k3 hb hmem hst.2.1,.tup [_,_] [_,_] rfl ?_,hK,s,Ext.refl _ _ _⟩
   intro j hj
   have hj':j<2:=by simpa using hj
   match j,hj' with
   | 0,_=>exact h1 i hi
   | 1,_=>exact h2 i hi
 ·exact hK.elim
theorem Ao2 (s:Sim B mu h w){fr:Nat→AV}{a:Act}(hf:Ya h mu w fr a){o:Oper}{K:AV→Ab→Prop}(hK:C5 P fr h o.op K):Yu P B h mu w (execOp a.eval o) K:=by
 have E:=fun x=>On hf x
 obtain⟨dst,op,ty,pos,after,guard⟩:=o
 simp only at hK
 unfold C5 at hK
 split at hK
 ·exact⟨.value _,w,_,h,mu,rfl,.inl ⟨_,rfl,E _⟩,hK,s,Ext.refl _ _ _⟩
 ·exact⟨.value _,w,_,h,mu,rfl,.inl ⟨_,rfl,E _⟩,hK,s,Ext.refl _ _ _⟩
 ·rename_i c x y
  split at hK
  ·rename_i t ht
   have hc:=E c
   rw [ht] at hc
   cases hq:a.eval c <;> rw [hq] at hc <;> cases hc
   refine⟨.value (if t then a.eval x else a.eval y),w,_,h,mu,?_,.inl ⟨_,rfl,?_⟩,hK,s,Ext.refl _ _ _⟩
   ·simp only [execOp,hq,asBool]; simp
   ·cases t
    ·exact E y
    ·exact E x
  ·exact hK.elim
 ·rename_i e
  split at hK
  ·rename_i T hT
   obtain⟨hfl,hK⟩:=hK
   obtain⟨z,hz,hzl,_⟩:=Amq hT
   rcases hK with hK | hK
   ·obtain⟨z1,z2⟩:=Oa (w:=w) (mu:=mu) (M:=Ci h mu) hzl
    obtain⟨o,g,mu',h',w',r1,r2,r3,r4,r5⟩:=Xh (P:=P) (c:=z) (e:=e) s hK (by simpa using z1) z2 hfl
    refine H5 ⟨_,_,_,_,_,?_,r2,r3,r4,r5⟩
    simp [Instr.alloc,hz,r1]
   ·obtain⟨z1,z2⟩:=Adw (w:=w) (mu:=mu) (M:=Ci h mu) hzl
    obtain⟨o,g,mu',h',w',r1,r2,r3,r4,r5⟩:=Xh (P:=P) (c:=z) (e:=e) s hK (by simpa using z1) z2 (Apc hfl)
    refine H5 ⟨_,_,_,_,_,?_,r2,r3,r4,r5⟩
    simp [Instr.alloc,hz,r1]
  ·exact hK.elim
 ·rename_i e x
  obtain⟨hok,hfl,hK⟩:=hK
  obtain⟨z1,z2⟩:=Aao (E x) hok
  obtain⟨o,g,mu',h',w',r1,r2,r3,r4,r5⟩:=Xh (P:=P) (c:=a.eval x) (e:=e) s hK z1 z2 hfl
  refine H5 ⟨_,_,_,_,_,?_,r2,r3,r4,r5⟩
  simp [Instr.box,r1]
 ·rename_i t ps
  obtain⟨ps⟩:=ps
  obtain⟨p1,p2⟩:=Ahr hf ps
  refine Ja s hK fun v hv=>?_
  have:=Alb (P:=P) p1 p2 hv
  simpa using this
 ·rename_i t n ps
  obtain⟨ps⟩:=ps
  obtain⟨p1,p2⟩:=Ahr hf ps
  have:=Aej (P:=P) s p1 p2 hK
  refine H5 ?_
  simpa using this
 ·exact Ja s hK fun v hv=>Ae6 s (E _) hv
 ·rename_i t x y
  obtain⟨v,hv,hK⟩:=hK
  split at hK
  ·rename_i h' hh
   obtain⟨w',r1,r2,r3⟩:=Ak1 s (E x) (hv.rv (E y)) hh
   exact⟨.skip,w',.und,h',mu,by simp [execOp,r1],.inr ⟨rfl,rfl⟩,hK,r2,r3⟩
  ·exact hK.elim
 ·rename_i x
  cases hq:Ab6 (ev fr x) with
  | none=>rw [hq] at hK; exact hK.elim
  | some v=>
   rw [hq] at hK
   obtain⟨e1,e2⟩:=Ala (P:=P) (dst:=dst) (ty:=ty) (pos:=pos) (after:=after) (guard:=guard) (E x) hq
   exact⟨.value (a.eval x),w,v,h,mu,e2,.inl ⟨_,rfl,e1 ▸ E x⟩,hK,s,Ext.refl _ _ _⟩
 ·rename_i op t x y yt
  obtain⟨hg,hK⟩:=hK
  obtain⟨c,v,c1,c2,c3⟩:=Apv (P:=P) (E x) (E y) (by
   intro hy
   unfold Qn at hy
   split at hy
   ·rfl
   ·cases hy) hK
  exact H5 ⟨v,c,h,mu,w,by simp [Ale (E x) (E y) hg,c1],c2,c3,s,Ext.refl _ _ _⟩
 ·exact Ja s hK fun v hv=>Are (E _) hv
 ·exact Ak3 s (E _) hK
 ·rename_i t x
  split at hK
  ·rename_i T hT
   obtain⟨hk,hK⟩:=hK
   exact⟨.value (.iface t (a.eval x)),w,_,h,mu,by simp [execOp,Alt hT hk],.inl ⟨_,rfl,.iface _ _ _ (E x)⟩,hK,s,Ext.refl _ _ _⟩
  ·exact hK.elim
 ·rename_i fn f c
  obtain⟨f⟩:=f
  obtain⟨c⟩:=c
  obtain⟨f1,f2⟩:=Sp hf f
  obtain⟨c1,c2⟩:=Sp hf c
  refine⟨.value (.func fn (f.map a.eval).toArray (c.map a.eval).toArray),w,_,h,mu,by simp [execOp,Instr.makeFunc],.inl ⟨_,rfl,?_⟩,hK,s,Ext.refl _ _ _⟩
  have:=Rv.func (w:=w) (mu:=mu) (M:=Ci h mu) fn _ _ _ _ f1 c1 f2 c2
  simpa using this
 ·exact H5 (Anp s (E _) (E _) hK)
 ·exact Ja s hK fun v hv=>Alr s (E _) (Ach hf _) (Ach hf _) (Ach hf _) hv
 ·exact Ja s hK fun v hv=>Af3 (E _) hv
 ·exact Ja s hK fun v hv=>Alg (E _) hv
 ·exact Ja s hK fun v hv=>Aez s (E _) (E _) hv
 ·exact Ja s hK fun v hv=>Ak0 (E _) (E _) hv
 ·exact Ja s hK fun v hv=>Aj2 (E _) hv
 ·exact Ja s hK fun v hv=>Aic (E _) hv
 ·exact Ja s hK fun v hv=>Aj6 s (E _) (E _) hv
 ·rename_i t r
  obtain⟨hr,hK⟩:=hK
  have hn:=Ai1 (P:=P) s hK
  cases r with
  | none=>exact H5 hn
  | some x=>
   refine H5 ?_
   simp only at hr
   split at hr
   ·rename_i T kx n hT hx
    have hxv:=E x
    rw [hx] at hxv
    cases hq:a.eval x <;> rw [hq] at hxv <;> cases hxv
    split at hr
    ·rename_i kt et hTk
     obtain⟨d,hd,hdk⟩:=Eh hT
     rw [hTk] at hdk
     obtain rfl:=Y8 hdk
     obtain⟨v,c,h',mu',w',r1,r2⟩:=hn
     refine⟨v,c,h',mu',w',?_,r2⟩
     simpa [Instr.makeMap,run_underlying hd,asInt,asIntOf,hq] using r1
    ·exact hr.elim
   ·exact hr.elim
 ·rename_i t m k x
  split at hK
  ·rename_i h' hh
   obtain⟨w',r1,r2,r3⟩:=Xy s (E m) (E k) (E x) hh
   exact⟨.skip,w',.und,h',mu,by simp [execOp,r1],.inr ⟨rfl,rfl⟩,hK,r2,r3⟩
  ·exact hK.elim
 ·rename_i t m k x
  split at hK
  ·rename_i h' hh
   obtain⟨w',r1,r2,r3⟩:=Xy s (E m) (E k) (E x) hh
   exact⟨.skip,w',.und,h',mu,by simp [execOp,r1],.inr ⟨rfl,rfl⟩,hK,r2,r3⟩
  ·exact hK.elim
 ·rename_i b args ts
  have hargs:=Sp hf args.toList
  have hres : ∀ (r:Sem Value),(resolve a.eval ⟨.builtin b,args,ts⟩ ty >>= fun d=>invoke d.target d.args)=(do pure (.value (← r)))→Yu P B h mu w (do pure (.value (← r))) K →
    Yu P B h mu w (execOp a.eval ⟨dst,.call ⟨.builtin b,args,ts⟩,ty,pos,after,guard⟩) K:=by
   intro r e hd
   have:execOp a.eval ⟨dst,.call ⟨.builtin b,args,ts⟩,ty,pos,after,guard⟩=(do pure (.value (← r))):=e
   rw [this]; exact hd
  obtain⟨ts⟩:=ts
  obtain⟨args⟩:=args
  unfold Jp at hK
  split at hK
  ·rename_i t v h1 h2
   match args,h2 with
   | [x],h2=>
    obtain rfl:ts=[t]:=h1
    obtain rfl:ev fr x=v:=by simpa [E4] using h2
    exact hres (Builtin.len_ #[t] ty #[a.eval x]) (by simp [resolve,invoke,builtin]) (Ja s hK fun v hv=>Apz s (E _) hv)
  ·rename_i t v h1 h2
   match args,h2 with
   | [x],h2=>
    obtain rfl:ts=[t]:=h1
    obtain rfl:ev fr x=v:=by simpa [E4] using h2
    exact hres (Builtin.cap_ #[t] ty #[a.eval x]) (by simp [resolve,invoke,builtin]) (Ja s hK fun v hv=>Ap1 (E _) hv)
  ·rename_i t t' v v' h1 h2
   match args,h2 with
   | [x,y],h2=>
    obtain rfl:ts=[t,t']:=h1
    simp only [E4,List.map_cons,List.map_nil,List.cons.injEq,and_true] at h2
    obtain⟨rfl,rfl⟩:=h2
    rcases hK with hK | ⟨e1,k,nn,e2,hK⟩ | hK
    ·exact hres (Builtin.append_ #[t,t'] ty #[a.eval x,a.eval y]) (by simp [resolve,invoke,builtin]) (H5 (Acl s (E _) (E _) hK))
    ·exact hres (Builtin.append_ #[t,t'] ty #[a.eval x,a.eval y]) (by simp [resolve,invoke,builtin]) (H5 (Aij s (e1 ▸ E _) (e2 ▸ E _) hK))
    ·refine hres (Builtin.append_ #[t,t'] ty #[a.eval x,a.eval y]) (by simp [resolve,invoke,builtin]) (H5 ?_)
     obtain⟨v,c,h',mu',w',r1,r2,⟨v2,h2,q1,q2,q3⟩,r4,r5⟩:=Acl s (E _) (E _) hK
     exact⟨v2,c,h2,mu',w',r1,J2 r4 q1 q2 r2,q3,r4.sub q1,r5.trans (Da.sub q1)⟩
  ·rename_i t t' v v' h1 h2
   match args,h2 with
   | [x,y],h2=>
    obtain rfl:ts=[t,t']:=h1
    simp only [E4,List.map_cons,List.map_nil,List.cons.injEq,and_true] at h2
    obtain⟨rfl,rfl⟩:=h2
    exact hres (Builtin.copy_ #[t,t'] ty #[a.eval x,a.eval y]) (by simp [resolve,invoke,builtin]) (H5 (Aoh s (E _) (E _) hK))
  ·exact hres (Builtin.min_ ⟨ts⟩ ty (args.map a.eval).toArray) (by simp [resolve,invoke,builtin]) (Ja s hK fun v hv=>by
    have:=Ahz (P:=P) (isMax:=false) hargs.1 hargs.2 hv ⟨ts⟩ ty
    simpa using this)
  ·exact hres (Builtin.max_ ⟨ts⟩ ty (args.map a.eval).toArray) (by simp [resolve,invoke,builtin]) (Ja s hK fun v hv=>by
    have:=Ahz (P:=P) (isMax:=true) hargs.1 hargs.2 hv ⟨ts⟩ ty
    simpa using this)
  ·exact hK.elim
 ·exact H5 (Alv s (E _) hK)
 ·exact H5 (Aog s (E _) hK)
 ·exact H5 (Ali s (E _) hK)
 ·exact hK.elim
end
section
variable {P:Program} [GW P] {h:Ab} {K K':AV→Ab→Prop}
theorem Pi {x:Option AV}(hm : ∀ v h',K v h'→K' v h')(hx:L9 x h K):L9 x h K':=by
 cases x with
 | none=>exact hx
 | some v=>exact hm _ _ hx
theorem Me {st:Nat}{rs:List (List AV)}{K K':Nat→Nat→Ab→Prop}(hm : ∀ o g h',K o g h'→K' o g h')(hx:Q2 h st rs K):Q2 h st rs K':=hx.imp fun o hk=>⟨hk.1,fun g=>hm _ _ _ (hk.2 g)⟩
theorem Ab0 {sT xT:TypeId}{s x:AV}(hm : ∀ v h',K v h'→K' v h')(hx:Nx P h sT xT s x K):Nx P h sT xT s x K':=by
 unfold Nx at hx ⊢
 split at hx
 ·split at hx
  ·split at hx
   ·rename_i hE
    obtain⟨h1,h2,h3,hx⟩:=hx
    refine⟨h1,h2,h3,?_⟩
    split at hx
    ·split at hx
     ·split at hx
      ·rename_i h0; rw [if_pos h0]; exact hm _ _ hx
      ·rename_i h0; rw [if_neg h0]; exact⟨hx.1,Me (fun _ _ _ hk=>hm _ _ hk) hx.2⟩
     ·split at hx
      ·exact⟨hx.1,hx.2.1,hx.2.2.1,hx.2.2.2.1,fun g2=>hm _ _ (hx.2.2.2.2 g2)⟩
      ·exact hx.elim
     ·split at hx
      ·exact⟨hx.1,hx.2.1,Me (fun _ _ _ hk=>hm _ _ hk) hx.2.2⟩
      ·exact hx.elim
     ·exact⟨hx.1,hx.2.1,hx.2.2.1,Me (fun _ _ _ hk=>hm _ _ hk) hx.2.2.2⟩
     ·exact hx.elim
    ·exact hx.elim
   ·exact hx.elim
  ·exact hx.elim
 ·exact hx.elim
theorem Ail {sT xT:TypeId}{n:Int}(hm : ∀ v h',K v h'→K' v h')(hx:Si P h sT xT n K):Si P h sT xT n K':=by
 unfold Si at hx ⊢
 split at hx
 ·split at hx
  ·split at hx
   ·exact⟨hx.1,hx.2.1,hx.2.2.1,hx.2.2.2.1,hx.2.2.2.2.1,Me (fun _ _ _ hk=>hm _ _ hk) hx.2.2.2.2.2⟩
   ·exact hx.elim
  ·exact hx.elim
 ·exact hx.elim
theorem Ad3 {t:TypeId}{n:Nat}{ps:List (Nat×AV)}(hm : ∀ v h',K v h'→K' v h')(hx:In P h t n ps K):In P h t n ps K':=by
 unfold In at hx ⊢
 split at hx
 ·split at hx
  ·split at hx
   ·split at hx
    ·rename_i h0; rw [if_pos h0]; exact⟨hx.1,hx.2.imp (hm _ _) (hm _ _)⟩
    ·rename_i h0
     rw [if_neg h0]
     obtain⟨h1,h2,h3,hx⟩:=hx
     refine⟨h1,h2,h3,?_⟩
     split at hx
     ·obtain⟨r,h1,hx⟩:=hx
      exact⟨r,h1,hx.imp (hm _ _) (fun hx=>Me (fun _ _ _ hk=>hm _ _ hk) hx)⟩
     ·exact hx.elim
   ·exact hx.elim
  ·exact hx.elim
 ·exact hx.elim
theorem An6 {t:TypeId}{l c:AV}(hm : ∀ v h',K v h'→K' v h')(hx:U0 P h t l c K):U0 P h t l c K':=by
 unfold U0 at hx ⊢
 split at hx
 ·split at hx
  ·split at hx
   ·obtain⟨h1,h2,h3,h4,h5,h6,hx⟩:=hx
    exact⟨h1,h2,h3,h4,h5,h6,hx.elim (fun hx=>.inl (Me (fun _ _ _ hk=>hm _ _ hk) hx)) fun hx=>.inr ⟨hx.1,Me (fun _ _ _ hk=>hm _ _ hk) hx.2⟩⟩
   ·exact hx.elim
  ·exact hx.elim
 ·exact hx.elim
theorem Aif {b:Builtin}{ts:List TypeId}{args:List AV}(hm : ∀ v h',K v h'→K' v h')(hx:Jp P h b ts args K):Jp P h b ts args K':=by
 unfold Jp at hx ⊢
 split at hx
 ·exact Pi hm hx
 ·exact Pi hm hx
 ·rcases hx with hx | ⟨e1,k,n,e2,hx⟩ | hx
  ·exact .inl (Ab0 hm hx)
  ·exact .inr (.inl ⟨e1,k,n,e2,Ail hm hx⟩)
  ·exact .inr (.inr (Ab0 (fun v h' ⟨v2,h2,q1,q2,q3⟩=>⟨v2,h2,q1,q2,hm _ _ q3⟩) hx))
 ·exact An5 hm hx
 ·exact Pi hm hx
 ·exact Pi hm hx
 ·exact hx.elim
theorem Aqn {o:BinOp}{t:TypeId}{y:Operand}{vx vy:AV}(hm : ∀ v h',K v h'→K' v h')(hx:Te P o t y vx vy h K):Te P o t y vx vy h K':=by
 unfold Te at hx ⊢
 split at hx
 ·rename_i hn
  rw [if_pos hn]
  split at hx
  ·split at hx
   ·exact fun b=>hm _ _ (hx b)
   ·exact fun b hb=>hm _ _ (hx b hb)
   ·exact hm _ _ hx
   ·exact hm _ _ hx
   ·exact hm _ _ hx
   ·exact fun b=>hm _ _ (hx b)
   ·exact fun b hb=>hm _ _ (hx b hb)
   ·exact hm _ _ hx
   ·exact hx.elim
  ·exact hx.elim
 ·rename_i hn
  rw [if_neg hn]
  exact Pi hm hx
theorem Aky {fr:Nat→AV}{op:Op}(hm : ∀ v h',K v h'→K' v h')(hx:C5 P fr h op K):C5 P fr h op K':=by
 cases op with
 | pick c a b=>simp only [C5] at hx ⊢; split at hx <;> first | exact hm _ _ hx | exact hx.elim
 | alloc e=>
  simp only [C5] at hx ⊢
  split at hx
  ·exact⟨hx.1,hx.2.imp (Me fun _ _ _ hk=>hm _ _ hk) (Me fun _ _ _ hk=>hm _ _ hk)⟩
  ·exact hx.elim
 | box e x=>exact⟨hx.1,hx.2.1,Me (fun _ _ _ hk=>hm _ _ hk) hx.2.2⟩
 | buildSlice t n ps=>exact Ad3 hm hx
 | store t a x=>
  simp only [C5] at hx ⊢
  obtain⟨v,hv,hx⟩:=hx
  refine⟨v,hv,?_⟩
  split at hx
  ·exact hm _ _ hx
  ·exact hx.elim
 | binOp o t x y _=>exact⟨hx.1,Aqn hm hx.2⟩
 | makeInterface t x=>
  simp only [C5] at hx ⊢
  split at hx
  ·exact⟨hx.1,hm _ _ hx.2⟩
  ·exact hx.elim
 | makeSlice t l c=>exact An6 hm hx
 | convert s d x=>
  simp only [C5,Zi] at hx ⊢
  split at hx
  ·split at hx
   ·split at hx
    ·exact⟨hx.1,hx.2.1,hm _ _ hx.2.2⟩
    ·exact hx.elim
   ·exact Pi hm hx
  ·exact Pi hm hx
 | makeMap t r=>exact⟨hx.1,hx.2.imp fun o hk=>⟨hk.1,fun g=>hm _ _ (hk.2 g)⟩⟩
 | range t x=>
  simp only [C5,Acd] at hx ⊢
  split at hx
  ·obtain⟨h1,o,ho,hk⟩:=hx
   exact⟨h1,o,ho,fun g=>⟨fun b c e q1 q2=>hm _ _ ((hk g).1 b c e q1 q2),fun q=>hm _ _ ((hk g).2 q)⟩⟩
  ·exact hx.elim
 | next it b=>
  cases b with
  | true=>exact hx.elim
  | false=>
   simp only [C5,Aim] at hx ⊢
   split at hx
   ·obtain⟨seen,ho,k1,k2⟩:=hx
    exact⟨seen,ho,fun q=>hm _ _ (k1 q),fun i q1 q2=>hm _ _ (k2 i q1 q2)⟩
   ·exact⟨hx.1,hm _ _ hx.2⟩
   ·exact hx.elim
 | entry it=>
  simp only [C5,Af6] at hx ⊢
  split at hx
  ·obtain⟨seen,i,q1,q2,q3⟩:=hx
   exact⟨seen,i,q1,q2,hm _ _ q3⟩
  ·exact hx.elim
 | mapUpdate t m k x=>simp only [C5] at hx ⊢; split at hx <;> first | exact hm _ _ hx | exact hx.elim
 | insert t m k x=>simp only [C5] at hx ⊢; split at hx <;> first | exact hm _ _ hx | exact hx.elim
 | call c=>
  obtain⟨cal,args,ts⟩:=c
  cases cal with
  | builtin b=>exact Aif hm hx
  | value f=>exact hx
  | invoke r m=>exact hx
 | _=>first | exact hm _ _ hx | exact Pi hm hx | exact hx
end
end Go.Am

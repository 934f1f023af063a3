import Derived.Test.YtpijakedfmencaaGreatDoorU16
import Derived.Test.YtpijakedfmencaaGreatDoorU13
set_option linter.all false
set_option maxRecDepth 100000
namespace Go.Am
open Go
abbrev DB:=@List.take_add_one
abbrev DE:=@List.take_length
abbrev DF:=@List.nodup_append
abbrev DI:=@List.mem_iff_getElem?
abbrev EC:=@As.ite
abbrev EI:=@List.length_range
abbrev EN:=@As.need
abbrev ES:=@As.bind
abbrev EU:=@Int.tmod_eq_emod_of_nonneg
abbrev EX:=@List.flatMap_cons
abbrev FH:=@List.replicate_append_replicate
abbrev FR:=@List.take_append_of_le_length
abbrev FV:=@Nat.eq_of_testBit_eq
abbrev GR:=@List.range_succ
abbrev GS:=@Nat.testBit_and
abbrev GT:=@List.drop_append_of_le_length
abbrev GY:=@Nat.testBit_two_pow
abbrev HC:=@Nat.testBit_two_pow_sub_one
abbrev HE:=@Int.tdiv_eq_ediv_of_nonneg
abbrev HK:=@Nat.shiftRight_eq_div_pow
abbrev HV:=@Nat.shiftLeft_eq
abbrev HW:=@Nat.zero_testBit
abbrev HX:=@As.alt
abbrev IB:=@Bool.false_and
def A4v (x:BitVec 32):BitVec.ofInt 32 (IntKind.wrap .u32 (x.toNat:Int))=x:=by
 have h:IntKind.wrap .u32 (x.toNat:Int)=(x.toNat:Int):=by have:=x.isLt;simp[IntKind.wrap,IntKind.bits,IntKind.signed];omega
 rw[h];simp
def Big (e f g:BitVec 32):g^^^(e&&& (f^^^g))=(e&&& f)^^^(~~~e&&& g):=by ext i h;simp only[BitVec.getElem_xor,BitVec.getElem_and,BitVec.getElem_not];cases e[i]<;>cases f[i]<;>cases g[i]<;>rfl
def Bfe (a b c:BitVec 32):(a&&& b)|||(c&&& (a|||b))=((a&&& b)^^^(a&&& c))^^^(b&&& c):=by ext i h;simp only[BitVec.getElem_xor,BitVec.getElem_and,BitVec.getElem_or];cases a[i]<;>cases b[i]<;>cases c[i]<;>rfl
def A51 (a b:Int):Dk .u32 a b=IntKind.wrap .u32 ((BitVec.ofInt 32 a&&& BitVec.ofInt 32 b:BitVec 32).toNat:Int):=rfl
def Az6 (a b:Int):Rn .u32 a b=IntKind.wrap .u32 ((BitVec.ofInt 32 a|||BitVec.ofInt 32 b:BitVec 32).toNat:Int):=rfl
def A0v (a b:Int):Eg .u32 a b=IntKind.wrap .u32 ((BitVec.ofInt 32 a^^^BitVec.ofInt 32 b:BitVec 32).toNat:Int):=rfl
def Bf5 (a b c:Int):Rn .u32 (Dk .u32 a b) (Dk .u32 c (Rn .u32 a b))=Eg .u32 (Eg .u32 (Dk .u32 a b) (Dk .u32 a c)) (Dk .u32 b c):=by simp only[Az6,A51,A0v,A4v];rw[Bfe]
theorem Bht (e f g ne:Int)(h:BitVec.ofInt 32 ne = ~~~ BitVec.ofInt 32 e):Eg .u32 g (Dk .u32 e (Eg .u32 f g))=Eg .u32 (Dk .u32 e f) (Dk .u32 ne g):=by simp only [A51,A0v,A4v]; rw [Big,h]
def A5s (a b:Int):Rn .u32 a b=Rn .u32 b a:=by rw[Az6,Az6,BitVec.or_comm]
def Ad1 (a:Int)(n:Nat)(h1:1<=n)(h2:n<=31):Ei a (-(n:Int))=.ok (Rn .u32 (X0 .u32 a (32-(n:Int))) (Aa7 .u32 a (n:Int))):=by
 have e:Dk .u64 (IntKind.wrap .u64 (-(n:Int))) 31=32-(n:Int):=by
  rcases n with _|n
  .omega
  .have:n<=30:=by omega
   clear h1 h2
   have key:∀m:Fin 31,Dk .u64 (IntKind.wrap .u64 (-((m.1+1:Nat):Int))) 31=32-((m.1+1:Nat):Int):=by decide
   exact key ⟨n,by omega⟩
 unfold Ei;rw[e,show IntKind.wrap .u64 (32-(32-(n:Int)))=(n:Int)by simp[IntKind.wrap,IntKind.bits,IntKind.signed];omega];rw[if_pos (by omega),if_pos (by omega)]
def Oj (a:Int)(n:Nat):Int:=Rn .u32 (X0 .u32 a (32-(n:Int))) (Aa7 .u32 a (n:Int))
variable{α:Type}{σ:Type}
def Xg{b:Nat->α->σ->R σ}(f:Nat->σ->σ):∀(l:List α) (k:Nat) (s:σ),(∀(j:Nat) a s,l[j]?=some a->b (k+j) a s=.ok (f (k+j) s))->eachS b k l s=.ok ((List.range' k l.length).foldl (λs j=>f j s) s)
 |[],_,_,_=>rfl
 |a::l,k,s,h=>by rw[A72,show b k a s=.ok (f k s)from h 0 a s rfl,R.ok_bind,Xg f l (k+1) (f k s) λj x s z=>by have:=h (j+1) x s z;rw[show k+1+j=k+(j+1)by omega];exact this];rfl
def Atx{b:Int×σ->R ((Int×σ) ⊕ σ)}(f:Nat->σ->σ)(z n:Nat)(D:∀(j:Nat) s,z<=j->j<n->b ((j:Int),s)=.ok (.inl (((j+1:Nat):Int),f j s)))(G:∀s,b ((n:Int),s)=.ok (.inr s)):∀(m k:Nat) (s:σ),z<=k->k+m=n->loop b ((k:Int),s)=.ok ((List.range' k m).foldl (λs j=>f j s) s)
 |0,k,s,_,h=>by rw[show k=n by omega,Ms,G,R.ok_bind];rfl
 |m+1,k,s,h0,h=>by rw[Ms,D k s h0 (by omega),R.ok_bind];exact Atx f z n D G m (k+1) (f k s) (by omega) (by omega)
def Bhp (a:Int):Ei a (-7)=.ok (Oj a 7):=Ad1 a 7 (by omega) (by omega)
def Bgo (a:Int):Ei a (-18)=.ok (Oj a 18):=Ad1 a 18 (by omega) (by omega)
def Bgg (a:Int):Ei a (-17)=.ok (Oj a 17):=Ad1 a 17 (by omega) (by omega)
def Bg9 (a:Int):Ei a (-19)=.ok (Oj a 19):=Ad1 a 19 (by omega) (by omega)
def Bh3 (a:Int):Ei a (-6)=.ok (Oj a 6):=Ad1 a 6 (by omega) (by omega)
def Bg6 (a:Int):Ei a (-11)=.ok (Oj a 11):=Ad1 a 11 (by omega) (by omega)
def Ber (a:Int):Ei a (-25)=.ok (Oj a 25):=Ad1 a 25 (by omega) (by omega)
def Bhm (a:Int):Ei a (-2)=.ok (Oj a 2):=Ad1 a 2 (by omega) (by omega)
def Beu (a:Int):Ei a (-13)=.ok (Oj a 13):=Ad1 a 13 (by omega) (by omega)
def Bfq (a:Int):Ei a (-22)=.ok (Oj a 22):=Ad1 a 22 (by omega) (by omega)
def Blp (x:Int):Int:=Eg .u32 (Eg .u32 (Oj x 7) (Oj x 18)) (Int.fdiv x 8)
def Blc (x:Int):Int:=Eg .u32 (Eg .u32 (Oj x 17) (Oj x 19)) (Int.fdiv x 1024)
def A0w (t:Nat)(o:Vector Int 64):Vector Int 64:=Sf o t (IntKind.wrap .u32 (IntKind.wrap .u32 (IntKind.wrap .u32 (Ap o (t-16) 0+Blp (Ap o (t-15) 0))+Ap o (t-7) 0)+Blc (Ap o (t-2) 0)))
def A9k (t:Nat)(h1:16<=t)(h2:t<64)(o:Vector Int 64):Aar (t:Int) o=.ok (.inl (((t+1:Nat):Int),A0w t o)):=by
 unfold Aar;have z:IntKind.wrap .i64 ((t:Int)-15)=((t-15:Nat):Int):=by rw[Ok (by omega) (by omega)];omega
 have G:IntKind.wrap .i64 ((t:Int)-2)=((t-2:Nat):Int):=by rw[Ok (by omega) (by omega)];omega
 have D:IntKind.wrap .i64 ((t:Int)-16)=((t-16:Nat):Int):=by rw[Ok (by omega) (by omega)];omega
 have O:IntKind.wrap .i64 ((t:Int)-7)=((t-7:Nat):Int):=by rw[Ok (by omega) (by omega)];omega
 have S:IntKind.wrap .i64 ((t:Int)+1)=((t+1:Nat):Int):=by rw[Ok (by omega) (by omega)];omega
 rw[z,G,D,O,S];rw[if_pos (by omega),if_pos (by omega),if_pos (by omega),if_pos (by omega),if_pos (by omega)];simp only[BI];rw[Bhp,Bgo,Bgg,Bg9];simp only[R.ok_bind];rw[if_pos (by omega)];rfl
def Bk9 (v:Int):Y2 v 6 11 25=.ok (Eg .u32 (Eg .u32 (Oj v 6) (Oj v 11)) (Oj v 25)):=by unfold Y2;rw[show IntKind.wrap .i64 (0-6)= -6 from rfl,show IntKind.wrap .i64 (0-11)= -11 from rfl,show IntKind.wrap .i64 (0-25)= -25 from rfl,Bh3,Bg6,Ber];rfl
def Bl8 (v:Int):Y2 v 2 13 22=.ok (Eg .u32 (Eg .u32 (Oj v 2) (Oj v 13)) (Oj v 22)):=by unfold Y2;rw[show IntKind.wrap .i64 (0-2)= -2 from rfl,show IntKind.wrap .i64 (0-13)= -13 from rfl,show IntKind.wrap .i64 (0-22)= -22 from rfl,Bhm,Beu,Bfq];rfl
structure St8 where (a b c d e f g h:Int)
def Ap9 (t:St8):Vector Int 8:=#v[t.a,t.b,t.c,t.d,t.e,t.f,t.g,t.h]
def Asj (v:Vector Int 8):St8:=⟨Ap v 0 0,Ap v 1 0,Ap v 2 0,Ap v 3 0,Ap v 4 0,Ap v 5 0,Ap v 6 0,Ap v 7 0⟩
def A2o (v:Vector Int 8):Ap9 (Asj v)=v:=by ext i h;rcases i with _|_|_|_|_|_|_|_|i<;>first|omega|simp[Ap9,Asj,Ap]
def Bf7 (w:Vector Int 64)(j:Nat)(s:St8):Int:=IntKind.wrap .u32 (IntKind.wrap .u32 (IntKind.wrap .u32 (IntKind.wrap .u32 (s.h+Eg .u32 (Eg .u32 (Oj s.e 6) (Oj s.e 11)) (Oj s.e 25))+Eg .u32 s.g (Dk .u32 s.e (Eg .u32 s.f s.g)))+Ap Aas j 0)+Ap w j 0)
def Bj3 (s:St8):Int:=IntKind.wrap .u32 (Eg .u32 (Eg .u32 (Oj s.a 2) (Oj s.a 13)) (Oj s.a 22)+Rn .u32 (Dk .u32 s.a s.b) (Dk .u32 s.c (Rn .u32 s.a s.b)))
def At6 (w:Vector Int 64)(j:Nat)(s:St8):St8:=⟨IntKind.wrap .u32 (Bf7 w j s+Bj3 s),s.a,s.b,s.c,IntKind.wrap .u32 (s.d+Bf7 w j s),s.e,s.f,s.g⟩
def Bhf (a b c d e f g h x y:Int):Sf (Sf (Agx #v[a,b,c,d,e,f,g,h] 1 [a,b,c,d,e,f,g]) 4 x) 0 y=#v[y,a,b,c,x,e,f,g]:=by rfl
def A90 (w:Vector Int 64)(j:Nat)(s:St8):Aak w j (Ap9 s)=.ok (Ap9 (At6 w j s)):=by obtain⟨a,b,c,d,e,f,g,h⟩:=s;unfold Aak;rw[Bk9,Bl8,R.ok_bind,R.ok_bind];have z:((Ap9 ⟨a,b,c,d,e,f,g,h⟩).toList.drop 0).take 7=[a,b,c,d,e,f,g]:=rfl;rw[z,if_pos (by simp)];show R.ok (Sf (Sf (Agx #v[a,b,c,d,e,f,g,h] 1 [a,b,c,d,e,f,g]) 4 _) 0 _)=_;rw[Bhf];rfl
def A2b (w:Vector Int 64):∀(l:List Nat) (k:Nat) (s:St8),eachS (λz _=>λD=>Aak w z D) k l (Ap9 s)=.ok (Ap9 ((List.range' k l.length).foldl (λs j=>At6 w j s) s))
 |[],_,_=>rfl
 |_::l,k,s=>by rw[A72,A90,R.ok_bind,A2b w l (k+1)];rfl
def A3w (v:Vector Int 8)(j:Nat)(o:Vector Int 8):Vector Int 8:=Sf o j (IntKind.wrap .u32 (Ap o j 0+Ap v j 0))
def A4s (w:Vector Int 64)(s:Vector Int 8):Vector Int 8:=(List.range 8).foldl (λo j=>A3w (Ap9 ((List.range 64).foldl (λs j=>At6 w j s) (Asj s))) j o) s
def Bfr (s:Vector Int 8)(w:Vector Int 64):Tr s w=.ok (A4s w s):=by unfold Tr;have h:=A2b w (List.range 64) 0 (Asj s);rw[A2o]at h;rw[h,R.ok_bind,Xg (A3w (Ap9 ((List.range' 0 (List.range 64).length).foldl (λs j=>At6 w j s) (Asj s)))) (List.range 8) 0 s (λj a o _=>by rw[AE];rfl),R.ok_bind];rfl
def Am5 (b:List Int):Int:=(b.take 4).foldl (λn a=>Rn .u32 (X0 .u32 n 8) (IntKind.wrap .u32 a)) 0
def A9o (b:List Int)(h:4<=b.length):Ala b=.ok (Am5 b):=by
 unfold Ala Am5;rw[if_pos (by omega)];have:∀(l:List Int) (k:Nat) (n:Int),eachS (λ_ a=>λn=>Al4 a n) k l n=.ok (l.foldl (λn a=>Rn .u32 (X0 .u32 n 8) (IntKind.wrap .u32 a)) n):=by
  intro l;induction l with
  |nil=>intro k n;rfl
  |cons a l z=>intro k n;rw[A72,show Al4 a n=.ok (Rn .u32 (X0 .u32 n 8) (IntKind.wrap .u32 a))from rfl,R.ok_bind,z];rfl
 rw[this,R.ok_bind];rfl
def Bj2 (b:List Int):Vector Int 64:=(List.range' 16 48).foldl (λo t=>A0w t o) ((List.range 16).foldl (λo j=>Sf o j (Am5 (b.drop (4*j)))) (G3 64 0))
def Aqj (b:List Int)(s:Vector Int 8):Vector Int 8:=A4s (Bj2 b) s
def Aw8 (b:List Int)(s:Vector Int 8)(h:b.length=64):Nw b s=.ok (Aqj b s):=by
 unfold Nw;rw[Xg (λj o=>Sf o j (Am5 (b.drop (4*j)))) (List.range 16) 0 (G3 64 0) (λj a o z=>by
  have z:j<16:=by have:=(BZ.1 z).1;rw[EI]at this;exact this
  unfold Aah;rw[AE,show IntKind.wrap .i64 (4*(j:Int))=((4*j:Nat):Int)by rw[Ok (by omega) (by omega)];omega,if_pos (by omega),BI,A9o _ (by rw[BF];omega),R.ok_bind]),R.ok_bind]
 have D:=Atx (b:=Ct λG O=>Aar G O) A0w 16 64 (λj o h1 h2=>A9k j h1 h2 o) (λo=>rfl) 48 16 ((List.range' 0 (List.range 16).length).foldl (λo j=>Sf o j (Am5 (b.drop (4*j)))) (G3 64 0)) (AF _) rfl;rw[show((16:Nat):Int)=16 from rfl]at D;rw[D,R.ok_bind,Bfr];rfl
def Yn:Nat->List Int->Vector Int 8->Vector Int 8
 |0,_,s=>s
 |n+1,l,s=>Yn n (l.drop 64) (Aqj (l.take 64) s)
def A00:∀(m n:Nat) (l:List Int) (s:Vector Int 8),Yn (m+n) l s=Yn n (l.drop (64*m)) (Yn m l s)
 |0,n,l,s=>by rw[AE];rfl
 |m+1,n,l,s=>by rw[show m+1+n=(m+n)+1 by omega];show Yn (m+n) (l.drop 64) (Aqj (l.take 64) s)=Yn n _ (Yn m (l.drop 64) (Aqj (l.take 64) s));rw[A00 m n,GE,show 64+64*m=64*(m+1)by omega]
def A0s:∀(n:Nat) (l r:List Int) (s:Vector Int 8),64*n<=l.length->Yn n (l++r) s=Yn n l s
 |0,_,_,_,_=>rfl
 |n+1,l,r,s,h=>by show Yn n ((l++r).drop 64) (Aqj ((l++r).take 64) s)=Yn n (l.drop 64) (Aqj (l.take 64) s);rw[GT (by omega),FR (by omega),A0s n _ _ _ (by rw[BF];omega)]
def A2e:∀(n:Nat) (l:List Int) (s:Vector Int 8),64*n<=l.length->l.length<64*n+64->loop (Ct λrest o=>Ao3 rest o) (l,s)=.ok (l.drop (64*n),Yn n l s)
 |0,l,s,h1,h2=>by rw[Ms];show(Ao3 l s).bind _=_;unfold Ao3;rw[if_neg (by omega),R.ok_bind];rfl
 |n+1,l,s,h1,h2=>by rw[Ms];show(Ao3 l s).bind _=_;unfold Ao3;rw[if_pos (by omega),if_pos (by omega),show Int.toNat 64=64 from rfl,Aw8 _ _ (by rw[BS];omega),R.ok_bind,if_pos (by omega),R.ok_bind];show loop (Ct λrest o=>Ao3 rest o) (l.drop 64,Aqj (l.take 64) s)=_;rw[A2e n _ _ (by rw[BF];omega) (by rw[BF];omega),GE,show 64+64*n=64*(n+1)by omega,Yn]
def Axg:∀(n:Nat) (l:List Int) (s:Vector Int 8),l.length=64*n->loop (Ct λz D=>Aov z D) (l,s)=.ok (Yn n l s)
 |0,l,s,h=>by rw[Ms];show(Aov l s).bind _=_;unfold Aov;rw[if_neg (by omega),R.ok_bind];rfl
 |n+1,l,s,h=>by rw[Ms];show(Aov l s).bind _=_;unfold Aov;rw[if_pos (by omega),if_pos (by omega),show Int.toNat 64=64 from rfl,Aw8 _ _ (by rw[BS];omega),R.ok_bind,if_pos (by omega),R.ok_bind];show loop (Ct λz D=>Aov z D) (l.drop 64,Aqj (l.take 64) s)=_;rw[Axg n _ _ (by rw[BF];omega),Yn]
def Fx (n:Int)(j:Nat):Int:=IntKind.wrap .u8 (Aa7 .u64 n ((8*j:Nat):Int))
def Aom (n:Int):List Int:=[Fx n 7,Fx n 6,Fx n 5,Fx n 4,Fx n 3,Fx n 2,Fx n 1,Fx n 0]
def A8w (c:Nat)(n:Int)(s:Vector Int 128):Vector Int 128:=(List.range' 0 8).foldl (λo j=>Sf o (c+(7-j)) (Fx n j)) s
def A2i (c cp:Nat)(n:Int)(s:Vector Int 128):Ah9 c cp n s=.ok (A8w c n s):=by
 unfold Ah9;rw[Xg (λj o=>Sf o (c+(7-j)) (Fx n j)) (List.range 8) 0 s (λj a o hj=>by
  have hj:j<8:=by have:=(BZ.1 hj).1;rw[EI]at this;exact this
  unfold Aoy;rw[AE,show IntKind.wrap .i64 (8*(j:Int))=((8*j:Nat):Int)by rw[Ok (by omega) (by omega)];omega,show IntKind.wrap .i64 (7-(j:Int))=((7-j:Nat):Int)by rw[Ok (by omega) (by omega)];omega,if_pos (by omega),if_pos (by omega),BI];rfl),R.ok_bind]
 rfl
variable{c:Nat}
def Um{A B:List Int}(h:A.length=c)(k:Nat)(x:Int):(A++B).set (c+k) x=A++B.set k x:=by rw[List.set_append_right _ _ (by omega),show c+k-A.length=k by omega]
variable{n:Nat}
def Km(v:Vector Int n)(i:Nat)(x:Int):(Sf v i x).toList=v.toList.set i x:=by simp[Sf]
def A49{n:Int}{s:Vector Int 128}{A Z:List Int}(z:s.toList=A++(List.replicate 8 0++Z))(h:A.length=c):(A8w c n s).toList=A++(Aom n++Z):=by show(Sf (Sf (Sf (Sf (Sf (Sf (Sf (Sf s (c+7) (Fx n 0)) (c+6) (Fx n 1)) (c+5) (Fx n 2)) (c+4) (Fx n 3)) (c+3) (Fx n 4)) (c+2) (Fx n 5)) (c+1) (Fx n 6)) (c+0) (Fx n 7)).toList=_;rw[Km,Km,Km,Km,Km,Km,Km,Km,z,Um h,Um h,Um h,Um h,Um h,Um h,Um h,Um h];rfl
def A98 (r:List Int)(h:r.length<=64):(Sf (Agx (G3 128 (0:Int)) 0 r) r.length 128).toList=r++(128::List.replicate (127-r.length) 0):=by rw[Km,A3p _ _ _ (by omega)];simp only[G3,Vector.toList_replicate,FB,CM,AE,List.drop_replicate];have:=Um (A:=r) (B:=List.replicate (128-r.length) 0) rfl 0 128;rw[CL]at this;rw[this,show 128-r.length=(127-r.length)+1 by omega];rfl
def A2q (r:List Int)(n:Int)(c z:Nat)(h:r.length+1+z=c)(D:c<=120)(hr:r.length<=64):((A8w c n (Sf (Agx (G3 128 (0:Int)) 0 r) r.length 128)).toList.take (c+8))=r++(128::List.replicate z 0)++Aom n:=by
 have e:(Sf (Agx (G3 128 (0:Int)) 0 r) r.length 128).toList=(r++(128::List.replicate z 0))++(List.replicate 8 0++List.replicate (120-c) 0):=by rw[A98 r hr,show 127-r.length=z+(8+(120-c))by omega,<-FH,<-FH];simp
 rw[A49 e (by simp;omega),<-BX];rw[FR (by simp[Aom];omega),DD (by simp[Aom];omega)]
def A1f (c:Nat)(n:Int)(s:Vector Int 32):Vector Int 32:=(List.range' 0 4).foldl (λo j=>Sf o (c+(3-j)) (Fx n j)) s
def Bad (c cp:Nat)(n:Int)(s:Vector Int 32):Ac6 c cp n s=.ok (A1f c n s):=by
 unfold Ac6;rw[Xg (λj o=>Sf o (c+(3-j)) (Fx n j)) (List.range 4) 0 s (λj a o z=>by
  have z:j<4:=by have:=(BZ.1 z).1;rw[EI]at this;exact this
  unfold Ak9;rw[AE,show IntKind.wrap .i64 (8*(j:Int))=((8*j:Nat):Int)by rw[Ok (by omega) (by omega)];omega,show IntKind.wrap .i64 (3-(j:Int))=((3-j:Nat):Int)by rw[Ok (by omega) (by omega)];omega,if_pos (by omega),if_pos (by omega),BI];rfl),R.ok_bind]
 rfl
def A30 (o:Vector Int 8):Vector Int 32:=(List.range' 0 8).foldl (λd j=>A1f (4*j) (IntKind.wrap .u64 (Ap o j 0)) d) (G3 32 0)
def Bgu (o:Vector Int 8):Agp o=.ok (A30 o):=by
 unfold Agp;rw[Xg (λj d=>A1f (4*j) (IntKind.wrap .u64 (Ap o j 0)) d) (List.range 8) 0 (G3 32 0) (λj a d z=>by
  have z:j<8:=by have:=(BZ.1 z).1;rw[EI]at this;exact this
  unfold Ao2;rw[AE,show IntKind.wrap .i64 (4*(j:Int))=((4*j:Nat):Int)by rw[Ok (by omega) (by omega)];omega,Ok (n:=((4*j:Nat):Int)+4) (by omega) (by omega),if_pos ⟨rfl,by omega,by omega⟩,BI,Bad,R.ok_bind]),R.ok_bind]
 rfl
def Ai7 (b:List Int):List Int:=b++(128::List.replicate ((119-b.length%64)%64) 0)++Aom (IntKind.wrap .u64 (IntKind.wrap .u64 (b.length:Int)*8))
def Aqf (b:List Int):Vector Int 32:=A30 (Yn ((Ai7 b).length/64) (Ai7 b) Alb)
def A1v (b:List Int):Ah3 b=.ok (Aqf b):=by
 have G:=A2e (b.length/64) b Alb (by omega) (by omega);unfold Ah3;rw[G,R.ok_bind];show Aha b (b.drop (64*(b.length/64))) (Yn (b.length/64) b Alb)=_;have D:(b.drop (64*(b.length/64))).length=b.length%64:=by rw[BF];omega
 have key:∀n z:Nat,(b.length%64)+1+z+8=64*n->z=(119-b.length%64)%64->Agp (Yn n (b.drop (64*(b.length/64))++(128::List.replicate z 0)++Aom (IntKind.wrap .u64 (IntKind.wrap .u64 (b.length:Int)*8))) (Yn (b.length/64) b Alb))=.ok (Aqf b):=λn z h hz=>by
  rw[Bgu];unfold Aqf;have hp:(Ai7 b).length/64=b.length/64+n:=by unfold Ai7;rw[<-hz];simp[Aom];omega
  rw[hp,A00,show Ai7 b=b++((128::List.replicate z 0)++Aom (IntKind.wrap .u64 (IntKind.wrap .u64 (b.length:Int)*8)))by unfold Ai7;rw[<-hz,BX],A0s _ b _ _ (by omega),GT (by omega),BX]
 unfold Aha;rw[if_pos (by omega),if_pos ⟨by omega,by omega⟩,BI];split
 .rename_i h;rw[A2i,R.ok_bind,A2q _ _ 120 (120-1-b.length%64) (by omega) (by omega) (by omega),Axg 2 _ _ (by simp[Aom,D];omega),R.ok_bind];exact key 2 _ (by omega) (by omega)
 .rename_i h;rw[B6g,B5r,A2i,R.ok_bind,A2q _ _ 56 (56-1-b.length%64) (by omega) (by omega) (by omega),Axg 1 _ _ (by simp[Aom,D];omega),R.ok_bind];exact key 1 _ (by omega) (by omega)
def A4u (z:Al)(b:List Int)(ht:z.length<=16)(D:b.length<=100000000):Ahc z b=.ok (Aqf ((Aqf (Wq z)).toList++b)):=by unfold Ahc;rw[if_pos (by unfold Bj;omega),A1v,R.ok_bind,B36 _ _ (by rw[Vector.length_toList];omega),R.ok_bind,A1v];rfl
def Ad9:Nat->Int->List Int
 |0,u=>[IntKind.wrap .u8 u]
 |k+1,u=>if u>=128 then Rn .u8 (IntKind.wrap .u8 u) 128::Ad9 k (Int.fdiv u 128)else[IntKind.wrap .u8 u]
variable{u:Int}
def A2z(k:Nat)(h:u<128):Ad9 k u=[IntKind.wrap .u8 u]:=by
 cases k with
 |zero=>rfl
 |succ k=>show(if u>=128 then _ else _)=_;rw[if_neg (by omega)]
def Aqu{l:List Int}(h0:0<=u)(h1:u<18446744073709551616)(S:l.length<=10000000):As (Lp u l) λr=>r=l++Ad9 10 u/\r.length<=l.length+11:=by
 unfold Lp;refine(Aa1 (λs:Int×List Int=>s.1.toNat) (λs=>0<=s.1/\∃k,s.1<128^k/\s.2.length+k<=l.length+10/\s.2++Ad9 k s.1=l++Ad9 10 u) (λs=>s.2.length<=l.length+10/\s.2++[IntKind.wrap .u8 s.1]=l++Ad9 10 u) ?_ _ (u,l) (AF _) ⟨h0,10,by show u<_;omega,AF _,rfl⟩).bind ?_
 .rintro⟨D,b⟩ ⟨h2,k,z,O,G⟩;show As (S2 D b) _;simp only at h2 z O G;have hf:Int.fdiv D 128=D/128:=BN _ (by decide);unfold S2;refine EC (λh=>?_) λh=>.ok ⟨by show b.length<=_;omega,by rw[A2z k (by omega)]at G;exact G⟩;refine EN (by simp only[AC];unfold Bj;omega) (.ok ⟨⟨?_,?_⟩,?_⟩)
  .show 0<=Int.fdiv D 128;omega
  .match k,z,O,G with
   |0,z,_,_=>simp at z;omega
   |1,z,_,_=>simp at z;omega
   |k+1+1,z,O,G=>
    refine⟨k+1,?_,by simp only[AG,AC];omega,?_⟩
    .show Int.fdiv D 128<128^(k+1);rw[Int.pow_succ]at z;omega
    .rw[Ad9,if_pos h]at G;rw[<-G];simp
  .show(Int.fdiv D 128).toNat<D.toNat;omega
 .rintro⟨R,b1⟩ ⟨h,h'⟩;show As (Tl R b1) _;simp only at h h';unfold Tl;exact EN (by simp only[AC];unfold Bj;omega) (.ok ⟨h',by simp only[AG,AC];omega⟩)
def uns (n:Int):Int:=Eg .u64 (X0 .u64 (IntKind.wrap .u64 n) 1) (IntKind.wrap .u64 (Int.fdiv n 9223372036854775808))
def Pw:Nat->Value->List Int
 |0,v=>1::Ad9 10 (uns v.N)
 |n+1,v=>if v.Kind=1 then 1::Ad9 10 (uns v.N)else 3::Ad9 10 (IntKind.wrap .u64 (v.L.length:Int))++v.L.flatMap (Pw n)
variable{v:Value}
def Ajm(n:Nat)(h:v.Kind=1):Pw n v=1::Ad9 10 (uns v.N):=by
 cases n with
 |zero=>rfl
 |succ n=>rw[Pw,if_pos h]
def Be3 (v:Value){l:List Int}(z:l.length<=9000000):As (It v l) λr=>r=l++(1::Ad9 10 (uns v.N))/\r.length<=l.length+12:=by
 unfold It;refine EN (by simp only[AC];unfold Bj;omega) ?_;unfold Aeb;rw[R.ok_bind];refine(Aqu (Bmv _).1 (Bmv _).2 (by simp only[AG,AC];omega)).bind λr hr=>.ok ⟨?_,?_⟩
 .rw[hr.1,BX];rfl
 .have hr:=hr.2;simp only[AG,AC]at hr;omega
variable{d:Nat}{m:Nat}
def A53{g:Value->List Int->R (List Int)}{W_:Value->List Int->R (List Int)}{a:Value}{b:List Int}(O:g a b=if a.Kind=0 then .bad else if a.Kind=1 then(It a b).bind λz=>.ok z else if a.Kind=2 then(Iu a b).bind λD=>.ok D else if a.Kind=3 then(W_ a b).bind λG=>.ok G else .bad)(h:EB d m a)(S:b.length<=9000000)(U:a.Kind=3->As (W_ a b) λr=>r=b++Pw n a/\r.length<=b.length+m):As (g a b) λr=>r=b++Pw n a/\r.length<=b.length+m:=by
 rw[O];have leaf:a.Kind=1->As (if a.Kind=0 then .bad else if a.Kind=1 then(It a b).bind λz=>.ok z else if a.Kind=2 then(Iu a b).bind λD=>.ok D else if a.Kind=3 then(W_ a b).bind λG=>.ok G else .bad) λr=>r=b++Pw n a/\r.length<=b.length+m:=by intro h1;rw[Ajm n h1,h1,if_neg (by decide),if_pos rfl];have:=h.len;exact(Be3 a S).bind λr hr=>.ok ⟨hr.1,by have:=hr.2;omega⟩
 cases d with
 |zero=>exact leaf h.1
 |succ d=>
  rcases h with h'|⟨h1,_⟩
  .exact leaf h'.1
  .have e:∀r,(r=b++Pw n a/\r.length<=b.length+m)->(r=b++Pw n a/\r.length<=b.length+m):=λ_ h=>h;rw[if_neg (by rw[h1];decide),if_neg (by rw[h1];decide),if_neg (by rw[h1];decide),if_pos h1];exact(U h1).bind λr hr=>.ok hr
def Awn:∀(n d k:Nat) (v:Value) (l:List Int),d<n->EB (d+1) k v->v.Kind=3->l.length+k<=9000000->As (J5 n v l) λr=>r=l++Pw n v/\r.length<=l.length+k
 |0,d,k,v,l,hd,_,_,_=>absurd hd (DN _)
 |n+1,d,k,v,l,hd,hv,hK,hl=>by
  show As (Ob (J5 n) v l) _;unfold Ob;have hk:=hv.len;rcases hv with h|⟨h1,h2,h3,m,h4,h5⟩
  .exact absurd (h.1.symm.trans hK) (by decide)
  refine EN (by simp only[AC];unfold Bj;omega) ?_;refine(Aqu (Bmv _).1 (Bmv _).2 (by simp only[AG,AC];omega)).bind λb hb=>?_;obtain⟨hb0,hb⟩:=hb;simp only[AG,AC]at hb;refine ES (p:=λr:List Int=>r=b++(v.L.take v.L.length).flatMap (Pw n)/\r.length<=l.length+k) ((My (λj (s:List Int)=>s=b++(v.L.take j).flatMap (Pw n)/\s.length<=b.length+j*m) v.L 0 b (λj a s ha hs=>?_) ⟨by simp,by simp⟩).mono λr hr=>?_) λr hr=>.ok ⟨?_,hr.2⟩
  .have hj:=A6 ha;have hm:(j+1)*m<=v.L.length*m:=AZ _ hj;rw[AI,EP]at hm;simp only[AE]at hs ⊢;obtain⟨hs0,hs⟩:=hs;refine(A53 (n:=n) (W_:=J5 n) (g:=Zt (J5 n)) rfl (h4 a (AH ha)) (by omega) λhk3=>?_).mono λr hr=>⟨?_,?_⟩
   .cases d with
    |zero=>exact absurd ((h4 a (AH ha)).1.symm.trans hk3) (by decide)
    |succ d=>exact Awn n d m a s (by omega) (h4 a (AH ha)) hk3 (by omega)
   .rw[hr.1,hs0,DB,ha];simp
   .have:=hr.2;rw[AI,EP];omega
  .rw[AE]at hr;exact⟨hr.1,by have:=hr.2;omega⟩
  .rw[hr.1,DE,hb0,Pw,if_neg (by rw[hK];decide)];simp
def Atn{β:Type}{f g:α->List β}:∀(l:List α),(∀x∈l,f x=g x)->l.flatMap f=l.flatMap g
 |[],_=>rfl
 |x::l,h=>by rw[EX,EX,h x (BE ..),Atn l λy z=>h y (BC _ z)]
def A3j:∀(d n k:Nat) (v:Value),EB d k v->d<=n->Pw n v=Pw d v
 |0,n,k,v,h,_=>by rw[Ajm n h.1,Ajm 0 h.1]
 |d+1,0,k,v,_,z=>absurd z (by omega)
 |d+1,n+1,k,v,h,z=>by
  rcases h with h|⟨h1,h2,O,m,D,R⟩
  .rw[Ajm _ h.1,Ajm _ h.1]
  .rw[Pw,Pw,Atn v.L λx G=>A3j d n m x (D x G) (by omega)]
variable{k:Nat}
def A4w(h:EB 16 k v)(z:v.Kind=3)(hk:k<=8000000):As (Aj2 v) λr=>r.2=0/\r.1=Pw 16 v/\r.1.length<=k:=by
 rw[<-A3j 16 (Aot+1) k v h (by unfold Aot;decide)];unfold Aj2;rw[B6a h,R.ok_bind,if_neg (by decide)];unfold Uq;rw[R.ok_bind,if_neg (by rw[z];decide),if_neg (by rw[z];decide),if_neg (by rw[z];decide),if_pos z];have X:=h.len;unfold Yk;rcases h with h|⟨h1,h2,h3,m,W,h5⟩
 .exact absurd (h.1.symm.trans z) (by decide)
 refine ES (p:=λr:List Int=>r=Pw (Aot+1) v/\r.length<=k) ?_ λr hr=>.ok ⟨rfl,hr⟩;refine EN (by simp only[AC];unfold Bj;omega) ?_;refine(Aqu (Bmv _).1 (Bmv _).2 (by simp only[AC];omega)).bind λb G=>?_;obtain⟨O,G⟩:=G;simp only[AC]at G;refine ES (p:=λr:List Int=>r=b++(v.L.take v.L.length).flatMap (Pw Aot)/\r.length<=k) ((My (λj (s:List Int)=>s=b++(v.L.take j).flatMap (Pw Aot)/\s.length<=b.length+j*m) v.L 0 b (λj a s D S=>?_) ⟨by simp,by simp⟩).mono λr hr=>?_) λr hr=>.ok ⟨?_,hr.2⟩
 .have Y:=A6 D;have hm:(j+1)*m<=v.L.length*m:=AZ _ Y;rw[AI,EP]at hm;simp only[AE]at S ⊢;obtain⟨U,S⟩:=S;refine(A53 (n:=Aot) (W_:=V6) (g:=Abm) rfl (W a (AH D)) (by omega) λV=>?_).mono λr hr=>⟨?_,?_⟩
  .exact Awn Aot 14 m a s (by unfold Aot;decide) (W a (AH D)) V (by omega)
  .rw[hr.1,U,DB,D];simp
  .have:=hr.2;rw[AI,EP];omega
 .rw[AE]at hr;exact⟨hr.1,by have:=hr.2;omega⟩
 .rw[hr.1,DE,O,Pw,if_neg (by rw[z];decide)];simp
def vI (n:Int):Value:={Kind:=1,N:=n,S:=[],L:=[]}
def vL (l:List Value):Value:={Kind:=3,N:=0,S:=[],L:=l}
def EV (d m:Nat)(v0 v:Value):Prop:=v=v0/\EB d m v
def Adh{b:Nat->α->List Value->R (List Value)}{F:Nat->α->R Value}(f:α->Value)(S:∀j a y,b j a y=(F j a).bind λr=>if(y.length+[r].length)*56<=Bj then .ok (y++[r])else .bad)(l:List α)(V:l.length<=1000)(U:∀j,∀a∈l,As (F j a) (EV d m (f a))):As ((eachS b 0 l []).bind λy=>.ok y) λy=>y=l.map f/\∀x∈y,EB d m x:=by
 refine ES (p:=λy:List Value=>y=(l.take l.length).map f/\∀x∈y,EB d m x) ((My (λj (y:List Value)=>y=(l.take j).map f/\∀x∈y,EB d m x) l 0 [] (λj a y O z=>?_) ⟨by simp,λx D=>absurd D BW⟩).mono λy z=>by rwa[AE]at z) λy z=>.ok ⟨by rw[z.1,DE],z.2⟩;have W:=A6 O;rw[S];simp only[AE]at z ⊢;have G:y.length=j:=by rw[z.1,AL,BS];omega
 refine(U _ a (AH O)).bind λr hr=>?_;refine EN (by simp only[AC,G];unfold Bj;omega) (.ok ⟨by rw[z.1,hr.1,DB,O];simp,λx D=>?_⟩);rcases BG.1 D with D|D
 .exact z.2 x D
 .rw[AM.1 D];exact hr.2
def Ac7{m':R (List Value)}{z:List Value}(h:As m' λy=>y=z/\∀x∈y,EB d m x)(G:z.length<=k):As (m'.bind λr=>.ok ({Kind:=3,N:=0,S:=[],L:=r}:Value)) (EV (d+1) (12+k*m) (vL z)):=h.bind λy D=>.ok ⟨by rw[D.1];rfl,B4g D.2 (by rw[D.1];omega)⟩
def Ajf{f:AnyT->List Value->R (List Value)}(D:List (AnyT×Value))(Y:D.length<=100)(h:∀a∈D,∀y:List Value,y.length<=100->As (f a.1 y) λr=>r=y++[a.2]/\EB d m a.2):
  As ((eachS (λ_ a=>λl1=>f a l1) 0 (D.map (·.1)) []).bind ((λl1=>.ok ({Kind:=3,N:=0,S:=[],L:=l1}:Value)))) λv=>EV (d+1) (12+D.length*m) (vL (D.map (·.2))) v/\∀x∈v.L,EB d m x:=by
 refine ES (p:=λy:List Value=>y=(D.take D.length).map (·.2)/\∀x∈y,EB d m x) ((My (λj (y:List Value)=>y=(D.take j).map (·.2)/\∀x∈y,EB d m x) (D.map (·.1)) 0 [] (λj a y O G=>?_) ⟨by simp,λx X=>absurd X BW⟩).mono λy G=>by rwa[AE,AL]at G) λy G=>.ok ?_
 .have U:=A6 O;rw[AL]at U;simp only[AE]at G ⊢;have V:y.length=j:=by rw[G.1,AL,BS];omega
  rw[CJ]at O;have W:D[j]?=some D[j]:=AA U;rw[W]at O;have O:D[j].1=a:=by simpa using O
  rw[<-O];refine(h D[j] (BK U) y (by omega)).mono λr hr=>?_;refine⟨by rw[hr.1,G.1,DB,W,FQ];rfl,λz hz=>?_⟩;rw[hr.1]at hz;rcases BG.1 hz with hz|hz
  .exact G.2 z hz
  .rw[AM.1 hz];exact hr.2
 .rw[DE]at G;refine⟨⟨by rw[G.1];rfl,B4g G.2 (by rw[G.1];simp)⟩,G.2⟩
def vIs (l:List Int):Value:=vL (l.map vI)
def vSp (s:Span):Value:=vL [vI s.From,vI s.To]
def Ak2 (l:List Span):Value:=vL (l.map vSp)
def Axy (s:Sector):Value:=vL [vIs s.Volumes,vI s.Radar,vI s.Procedural]
def Axp (g:Leg):Value:=vL [vI g.Segment,vI g.Volume,vI g.Length,Ak2 g.Minutes]
def Awd (w:Way):Value:=vL [vI w.From,vI w.To,vL (w.Legs.map Axp)]
def Aug (k:Kind):Value:=vL [vI k.Slow,vI k.Fast,vI k.Places,vI k.Weight,vI k.Longest,vL (k.Curfews.map Ak2)]
def Avn (t:Tables):Value:=vL [vI t.Volumes,vL (t.Sectors.map Axy),vL (t.Configs.map λc=>vIs c.Sectors),vL (t.Ways.map Awd),vL (t.Modes.map vIs),vL (t.Kinds.map Aug)]
def EV.le{a:Value}(h:EV d n a v)(z:n<=m):EV d m a v:=⟨h.1,h.2.le z⟩
def Bac (l:List Int)(h:l.length<=20):As (Jq l) (EV 1 252 (vIs l)):=Ac7 (k:=20) (Adh vI (F:=λj a=>K0 (j:Int) a) (λ_ _ _=>rfl) l (by omega) λj a _=>⟨_,rfl,rfl,B1v 0 a⟩) (by rw[AL];exact h)
variable{y:List Value}
def Axs{x:Value}(D:y.length<=100)(z:EB d m x):As (if(y.length+[x].length)*56<=Bj then R.ok (y++[x])else .bad) λr=>r=y++[x]/\EB d m x:=EN (by simp only[AC];unfold Bj;omega) (.ok ⟨rfl,z⟩)
def A71 (s:Span):As (Abd s) (EV 1 36 (vSp s)):=by
 unfold Abd Aa8;refine(Ajf (d:=0) (m:=12) [(AnyT.a3 s.From,vI s.From),(AnyT.a3 s.To,vI s.To)] (by simp) λa z y D=>?_).bind λv G=>.ok (G.1.le (by simp));rcases AN.1 z with rfl|z
 .exact Axs D (B1v 0 _)
 .rw[AM.1 z];exact Axs D (B1v 0 _)
def A6b (l:List Span)(h:l.length<=10):As (Lc l) (EV 2 372 (Ak2 l)):=Ac7 (k:=10) (Adh vSp (F:=λj a=>Kt (j:Int) a) (λ_ _ _=>rfl) l (by omega) λj a _=>(A71 a).bind λr hr=>.ok hr) (by rw[AL];exact h)
def Ahm(n:Int)(z:y.length<=100)(D:12<=m):As (Ai6 (.a3 n) y) λr=>r=y++[vI n]/\EB d m (vI n):=Axs z ((B1v d n).le D)
def A04(l:List Int)(z:y.length<=100)(D:l.length<=20)(G:1<=d)(O:252<=m):As (Ai6 (.a55 l) y) λr=>r=y++[vIs l]/\EB d m (vIs l):=(Bac l D).bind λr hr=>by rw[hr.1];exact Axs z (((hr.1▸hr.2:EB 1 252 (vIs l)).ups G).le O)
def A3a(l:List Span)(z:y.length<=100)(D:l.length<=10)(G:2<=d)(O:372<=m):As (Ai6 (.a54 l) y) λr=>r=y++[Ak2 l]/\EB d m (Ak2 l):=(A6b l D).bind λr hr=>by rw[hr.1];exact Axs z (((hr.1▸hr.2:EB 2 372 (Ak2 l)).ups G).le O)
variable{v0:Value}
def As6{e:Nat}(h:EV e k v0 v)(z:y.length<=100)(D:e<=d)(G:k<=m):As (Ai6 (.a73 v) y) λr=>r=y++[v0]/\EB d m v0:=by have h1:=h.1;subst h1;exact Axs z ((h.2.ups D).le G)
def Bku (s:Sector)(h:s.Volumes.length<=10):As (Yx s) (EV 2 768 (Axy s)):=by
 unfold Yx Io;refine(Ajf (d:=1) (m:=252) [(AnyT.a55 s.Volumes,vIs s.Volumes),(AnyT.a3 s.Radar,vI s.Radar),(AnyT.a3 s.Procedural,vI s.Procedural)] (by simp) λa D y z=>?_).bind λv G=>.ok (G.1.le (by simp));simp only[AN,DL,or_false]at D;rcases D with rfl|rfl|rfl
 .exact A04 _ z (by omega) (AF _) (AF _)
 .exact Ahm _ z (by decide)
 .exact Ahm _ z (by decide)
def A85(z:v=vL [v0])(h:EB d m v0):As (Wd v) (EV d m v0):=by subst z;exact⟨v0,rfl,rfl,h⟩
def Axd(x:AnyT)(v0:Value)(h:∀y:List Value,y.length<=100->As (Ai6 x y) λr=>r=y++[v0]/\EB d m v0):As ((Io [x]).bind λr=>(Wd r).bind λr1=>.ok r1) (EV d m v0):=by unfold Io;refine(Ajf (d:=d) (m:=m) [(x,v0)] (by simp) λa D y G=>?_).bind λv z=>(A85 z.1.1 (z.2 v0 (by rw[z.1.1];exact BE ..))).bind λr hr=>.ok hr;rw[AM.1 D];exact h y G
def Bki (c:Config)(h:c.Sectors.length<=10):As (Yu c) (EV 1 252 (vIs c.Sectors)):=Axd _ _ λy z=>A04 _ z (by omega) (AF _) (AF _)
def Bid (l:List Int)(h:l.length<=20):As (Yr l) (EV 1 252 (vIs l)):=Axd _ _ λy z=>A04 _ z (by omega) (AF _) (AF _)
def Bj8 (l:List Span)(h:l.length<=10):As (Vk l) (EV 2 372 (Ak2 l)):=Axd _ _ λy z=>A3a _ z (by omega) (AF _) (AF _)
def Bkc (g:Leg)(h:g.Minutes.length<=10):As (U1 g) (EV 3 1500 (Axp g)):=by
 unfold U1 Io;refine(Ajf (d:=2) (m:=372) [(AnyT.a3 g.Segment,vI g.Segment),(AnyT.a3 g.Volume,vI g.Volume),(AnyT.a3 g.Length,vI g.Length),(AnyT.a54 g.Minutes,Ak2 g.Minutes)] (by simp) λa D y z=>?_).bind λv G=>.ok (G.1.le (by simp));simp only[AN,DL,or_false]at D;rcases D with rfl|rfl|rfl|rfl
 .exact Ahm _ z (by decide)
 .exact Ahm _ z (by decide)
 .exact Ahm _ z (by decide)
 .exact A3a _ z h (AF _) (AF _)
def Bh0 (l:List Leg)(h:l.length<=10)(z:∀g∈l,g.Minutes.length<=10):As (T5 l) (EV 4 15012 (vL (l.map Axp))):=Ac7 (k:=10) (Adh Axp (F:=λj a=>R5 (j:Int) a) (λ_ _ _=>rfl) l (by omega) λj a D=>(Bkc a (z a D)).bind λr hr=>.ok hr) (by rw[AL];exact h)
def Bk5 (w:Way)(h:w.Legs.length<=10)(G:∀g∈w.Legs,g.Minutes.length<=10):As (Yq w) (EV 5 45048 (Awd w)):=by
 unfold Yq;refine(Bh0 _ h G).bind λr hr=>?_;unfold Io;refine(Ajf (d:=4) (m:=15012) [(AnyT.a3 w.From,vI w.From),(AnyT.a3 w.To,vI w.To),(AnyT.a73 r,vL (w.Legs.map Axp))] (by simp) λa D y z=>?_).bind λv O=>.ok (O.1.le (by simp));simp only[AN,DL,or_false]at D;rcases D with rfl|rfl|rfl
 .exact Ahm _ z (by decide)
 .exact Ahm _ z (by decide)
 .exact As6 hr z (AF _) (AF _)
def Bir (k:Kind)(h:k.Curfews.length<=10)(G:∀c∈k.Curfews,c.length<=10):As (Yl k) (EV 4 22404 (Aug k)):=by
 unfold Yl;refine ES (p:=EV 3 3732 (vL (k.Curfews.map Ak2))) (Ac7 (k:=10) (Adh Ak2 (F:=λj a=>Qq (j:Int) a) (λ_ _ _=>rfl) k.Curfews (by omega) λj a D=>(Bj8 a (G a D)).bind λr hr=>.ok hr) (by rw[AL];exact h)) λr hr=>?_;unfold Io;refine(Ajf (d:=3) (m:=3732) [(AnyT.a3 k.Slow,vI k.Slow),(AnyT.a3 k.Fast,vI k.Fast),(AnyT.a3 k.Places,vI k.Places),(AnyT.a3 k.Weight,vI k.Weight),(AnyT.a3 k.Longest,vI k.Longest),(AnyT.a73 r,vL (k.Curfews.map Ak2))] (by simp) λa D y z=>?_).bind λv O=>.ok (O.1.le (by simp));simp only[AN,DL,or_false]at D;rcases D with rfl|rfl|rfl|rfl|rfl|rfl
 .exact Ahm _ z (by decide)
 .exact Ahm _ z (by decide)
 .exact Ahm _ z (by decide)
 .exact Ahm _ z (by decide)
 .exact Ahm _ z (by decide)
 .exact As6 hr z (AF _) (AF _)
def Bah (t:Tables):Vector Int 32:=Aqf ((Aqf (Wq [116,97,98,108,101,115])).toList++Pw 16 (Avn t))
def Aw2 (t:Tables)(h:TabF t)(Y:Ky t=.ok 0):Xo t=.ok (Bah t,0)/\EB 16 2162388 (Avn t):=by
 have key:As (Xo t) λr=>r=(Bah t,0)/\EB 16 2162388 (Avn t):=by
  unfold Xo;rw[Y,R.ok_bind];refine EC (λh0=>absurd h0 (by decide)) λh0=>?_;refine ES (p:=EV 3 9228 (vL (t.Sectors.map Axy))) (Ac7 (k:=12) (Adh Axy (F:=λj a=>Of (j:Int) a) (λ_ _ _=>rfl) t.Sectors (by have:=h.s;omega) λj a z=>(Bku a (h.sv a z)).bind λr hr=>.ok hr) (by rw[AL];exact h.s)) λr hr=>?_;refine ES (p:=EV 2 1776 (vL (t.Configs.map λc:Config=>vIs c.Sectors))) (Ac7 (k:=7) (Adh (λc:Config=>vIs c.Sectors) (F:=λj a=>Ql (j:Int) a) (λ_ _ _=>rfl) t.Configs (by have:=h.c;omega) λj a z=>(Bki a (h.cs a z)).bind λr hr=>.ok hr) (by rw[AL];exact h.c)) λr1 S=>?_;refine ES (p:=EV 6 360396 (vL (t.Ways.map Awd))) (Ac7 (k:=8) (Adh Awd (F:=λj a=>Ts (j:Int) a) (λ_ _ _=>rfl) t.Ways (by have:=h.w;omega) λj a z=>(Bk5 a (h.wl a z).1 (h.wl a z).2).bind λr hr=>.ok hr) (by rw[AL];exact h.w)) λr2 U=>?_;refine ES (p:=EV 2 1524 (vL (t.Modes.map vIs))) (Ac7 (k:=6) (Adh vIs (F:=λj a=>Tz (j:Int) a) (λ_ _ _=>rfl) t.Modes (by have:=h.m;omega) λj a z=>(Bid a (h.ml a z)).bind λr hr=>.ok hr) (by rw[AL];exact h.m)) λr3 V=>?_;refine ES (p:=EV 5 134436 (vL (t.Kinds.map Aug))) (Ac7 (k:=6) (Adh Aug (F:=λj a=>Sd (j:Int) a) (λ_ _ _=>rfl) t.Kinds (by have:=h.k;omega) λj a z=>(Bir a (h.kc a z).1 (h.kc a z).2).bind λr hr=>.ok hr) (by rw[AL];exact h.k)) λr4 W=>?_;refine ES (p:=EV 7 2162388 (Avn t)) (by
   unfold Io;refine(Ajf (d:=6) (m:=360396) [(AnyT.a3 t.Volumes,vI t.Volumes),(AnyT.a73 r,vL (t.Sectors.map Axy)),(AnyT.a73 r1,vL (t.Configs.map λc:Config=>vIs c.Sectors)),(AnyT.a73 r2,vL (t.Ways.map Awd)),(AnyT.a73 r3,vL (t.Modes.map vIs)),(AnyT.a73 r4,vL (t.Kinds.map Aug))] (by simp) λa z y G=>?_).mono λv O=>O.1.le (by simp);simp only[AN,DL,or_false]at z;rcases z with rfl|rfl|rfl|rfl|rfl|rfl
   .exact Ahm _ G (by decide)
   .exact As6 hr G (by decide) (by decide)
   .exact As6 S G (by decide) (by decide)
   .exact As6 U G (by decide) (by decide)
   .exact As6 V G (by decide) (by decide)
   .exact As6 W G (by decide) (by decide)) λv O=>?_
  have X:=O.1;subst X;refine(A4w (k:=2162388) (O.2.ups (by decide)) rfl (by decide)).bind λr5 D=>?_;refine EC (λh1=>absurd D.1 (by simpa using h1)) λh1=>?_;rw[A4u _ _ (by decide) (by have:=D.2.2;omega),R.ok_bind,D.2.1];exact .ok ⟨rfl,O.2.ups (by decide)⟩
 obtain⟨r,hr,rfl,h⟩:=key;exact⟨hr,h⟩
def Adx (v n:Int)(h0:0<=n)(h1:n<=32):Mx v n=.ok (Oj v n.toNat):=by unfold Mx Oj;rw[Ok (by omega) (by omega),if_pos h0,if_pos (by omega),A5s,GV h0]
def Bl4 (a:Int):X0 .u32 a 8=IntKind.wrap .u32 ((BitVec.ofInt 32 a<<<8:BitVec 32).toNat:Int):=by simp[X0,IntKind.wrap,IntKind.bits,IntKind.signed,BitVec.toNat_shiftLeft,BitVec.toNat_ofInt,HV];omega
def Bho (a:Int):X0 .u32 a 16=IntKind.wrap .u32 ((BitVec.ofInt 32 a<<<16:BitVec 32).toNat:Int):=by simp[X0,IntKind.wrap,IntKind.bits,IntKind.signed,BitVec.toNat_shiftLeft,BitVec.toNat_ofInt,HV];omega
def Bih (a:Int):X0 .u32 a 24=IntKind.wrap .u32 ((BitVec.ofInt 32 a<<<24:BitVec 32).toNat:Int):=by simp[X0,IntKind.wrap,IntKind.bits,IntKind.signed,BitVec.toNat_shiftLeft,BitVec.toNat_ofInt,HV];omega
def Bee (a b c d:BitVec 32):(((0#32<<<8|||a)<<<8|||b)<<<8|||c)<<<8|||d=((a<<<24|||b<<<16)|||c<<<8)|||d:=by simp only[BitVec.shiftLeft_or_distrib,<-BitVec.shiftLeft_add,BitVec.zero_shiftLeft,BitVec.zero_or]
def Bgm (a b c d:Int):Rn .u32 (X0 .u32 (Rn .u32 (X0 .u32 (Rn .u32 (X0 .u32 (Rn .u32 (X0 .u32 0 8) a) 8) b) 8) c) 8) d=Rn .u32 (Rn .u32 (Rn .u32 (X0 .u32 a 24) (X0 .u32 b 16)) (X0 .u32 c 8)) d:=by simp only[Az6,Bl4,Bho,Bih,A4v];rw[show BitVec.ofInt 32 0=0#32 from rfl,Bee]
def A9y (b:List Int)(h:4<=b.length):Aj8 b=.ok (Am5 b):=by
 match b,h with
 |a0::a1::a2::a3::r,_=>have i0:idx (a0::a1::a2::a3::r) 0=.ok a0:=Zo (j:=0) rfl;have z:idx (a0::a1::a2::a3::r) 1=.ok a1:=Zo (j:=1) rfl;have D:idx (a0::a1::a2::a3::r) 2=.ok a2:=Zo (j:=2) rfl;have G:idx (a0::a1::a2::a3::r) 3=.ok a3:=Zo (j:=3) rfl;unfold Aj8;rw[i0,z,D,G];simp only[R.ok_bind];rw[<-Bgm];rfl
def Bh7 (b:List Int)(O:b.length=64)(j:Nat)(S:j<16)(o:Vector Int 64):Agr b j o=.ok (Sf o j (Am5 (b.drop (4*j)))):=by
 unfold Agr;have z:IntKind.wrap .i64 (4*(j:Int))=((4*j:Nat):Int):=by rw[Ok (by omega) (by omega)];omega
 have D:IntKind.wrap .i64 (((4*j:Nat):Int)+4)=((4*j+4:Nat):Int):=by rw[Ok (by omega) (by omega)];omega
 rw[z,D,if_pos (by omega)];have G:cut b ((4*j:Nat):Int) ((4*j+4:Nat):Int)=(b.drop (4*j)).take 4:=by unfold cut;rw[BI,BI,show 4*j+4-4*j=4 by omega]
 rw[G,A9y _ (by rw[BS,BF];omega),R.ok_bind];unfold Am5;rw[List.take_take];rfl
def A7d (t:Nat)(h1:16<=t)(h2:t<64)(o:Vector Int 64):Aap (t:Int) o=.ok (.inl (((t+1:Nat):Int),A0w t o)):=by
 unfold Aap;have z:IntKind.wrap .i64 ((t:Int)-15)=((t-15:Nat):Int):=by rw[Ok (by omega) (by omega)];omega
 have G:IntKind.wrap .i64 ((t:Int)-2)=((t-2:Nat):Int):=by rw[Ok (by omega) (by omega)];omega
 have D:IntKind.wrap .i64 ((t:Int)-16)=((t-16:Nat):Int):=by rw[Ok (by omega) (by omega)];omega
 have O:IntKind.wrap .i64 ((t:Int)-7)=((t-7:Nat):Int):=by rw[Ok (by omega) (by omega)];omega
 have S:IntKind.wrap .i64 ((t:Int)+1)=((t+1:Nat):Int):=by rw[Ok (by omega) (by omega)];omega
 rw[z,G,D,O,S];rw[if_pos (by omega),if_pos (by omega),if_pos (by omega),if_pos (by omega),if_pos (by omega)];simp only[BI];rw[Adx _ 7 (by omega) (by omega),Adx _ 18 (by omega) (by omega),Adx _ 17 (by omega) (by omega),Adx _ 19 (by omega) (by omega)];simp only[R.ok_bind];rw[if_pos (by omega)];rfl
def Axo (s:St8):Int×Int×Int×Int×Int×Int×Int×Int:=(s.a,s.b,s.c,s.d,s.e,s.f,s.g,s.h)
theorem Bib (e:Int):BitVec.ofInt 32 (Eg .u32 4294967295 e) = ~~~ BitVec.ofInt 32 e:=by rw [A0v,A4v,show BitVec.ofInt 32 4294967295=BitVec.allOnes 32 from by decide,BitVec.allOnes_xor]
theorem A5y (w:Vector Int 64)(j:Nat)(s:St8):Ug w Aas j s.a s.b s.c s.d s.e s.f s.g s.h=.ok (Axo (At6 w j s)):=by obtain⟨a,b,c,d,e,f,g,h⟩:=s;unfold Ug;rw[Adx _ 6 (by omega) (by omega),Adx _ 11 (by omega) (by omega),Adx _ 25 (by omega) (by omega),Adx _ 2 (by omega) (by omega),Adx _ 13 (by omega) (by omega),Adx _ 22 (by omega) (by omega)];simp only[R.ok_bind];rw[←Bht e f g _ (Bib e),←Bf5 a b c];rfl
def A1e (w:Vector Int 64):∀(l:List Nat) (k:Nat) (s:St8),eachS (λX _=>un8 λz D G O S U V W=>Ug w Aas X z D G O S U V W) k l (Axo s)=.ok (Axo ((List.range' k l.length).foldl (λs j=>At6 w j s) s))
 |[],_,_=>rfl
 |_::l,k,s=>by rw[A72,show(un8 λz D G O S U V W=>Ug w Aas k z D G O S U V W) (Axo s)=.ok (Axo (At6 w k s))from A5y w k s,R.ok_bind,A1e w l (k+1)];rfl
def Bkp (a b c d e f g h:Int)(q:St8):(List.range 8).foldl (λo j=>A3w (Ap9 q) j o) #v[a,b,c,d,e,f,g,h]=#v[IntKind.wrap .u32 (a+q.a),IntKind.wrap .u32 (b+q.b),IntKind.wrap .u32 (c+q.c),IntKind.wrap .u32 (d+q.d),IntKind.wrap .u32 (e+q.e),IntKind.wrap .u32 (f+q.f),IntKind.wrap .u32 (g+q.g),IntKind.wrap .u32 (h+q.h)]:=by simp[GR,A3w,Sf,Ap,Ap9]
def Bci (s:Vector Int 8)(w:Vector Int 64):Acl s w=.ok (A4s w s):=by unfold Acl;rw[show Ait=.ok Aas from rfl,R.ok_bind];have h:=A1e w (List.range 64) 0 (Asj s);rw[show((Ap s 0 0),(Ap s 1 0),(Ap s 2 0),(Ap s 3 0),(Ap s 4 0),(Ap s 5 0),(Ap s 6 0),(Ap s 7 0))=Axo (Asj s)from rfl,h,R.ok_bind];unfold A4s;rw[show List.range' 0 (List.range 64).length=List.range 64 from rfl];generalize (List.range 64).foldl (λs j=>At6 w j s) (Asj s)=q;have z:=A2o s;generalize Asj s=p at z;subst z;exact(congrArg R.ok (Bkp p.a p.b p.c p.d p.e p.f p.g p.h q)).symm
def A7e (b:List Int)(s:Vector Int 8)(h:b.length=64):Aih s b=.ok (Aqj b s):=by
 unfold Aih;rw[show(#v[0,0,0,0,0,0,0,0,0,0,0,0,0,0,0,0,0,0,0,0,0,0,0,0,0,0,0,0,0,0,0,0,0,0,0,0,0,0,0,0,0,0,0,0,0,0,0,0,0,0,0,0,0,0,0,0,0,0,0,0,0,0,0,0]:Vector Int 64)=G3 64 0 from rfl];rw[Xg (λj o=>Sf o j (Am5 (b.drop (4*j)))) (List.range 16) 0 (G3 64 0) (λj a o z=>by
  have z:j<16:=by have:=(BZ.1 z).1;rw[EI]at this;exact this
  rw[AE,Bh7 b h j z]),R.ok_bind]
 have D:=Atx (b:=Ct λG O=>Aap G O) A0w 16 64 (λj o h1 h2=>A7d j h1 h2 o) (λo=>rfl) 48 16 ((List.range' 0 (List.range 16).length).foldl (λo j=>Sf o j (Am5 (b.drop (4*j)))) (G3 64 0)) (AF _) rfl;rw[show((16:Nat):Int)=16 from rfl]at D;rw[D,R.ok_bind,Bci];rfl
def Az8:∀(z:Nat) (l:List Int),(l.length+z)%64=56->z<64->l.length+z<=1000000000->loop (λout=>Mp out) l=.ok (l++List.replicate z 0)
 |0,l,h,_,_=>by
  rw[Ms];unfold Mp;have e:Int.tmod (l.length:Int) 64=56:=by rw[EU (by omega)];omega
  rw[e,if_neg (by decide),R.ok_bind];simp
 |z+1,l,h,hz,D=>by
  rw[Ms];unfold Mp;have e:Int.tmod (l.length:Int) 64≠56:=by rw[EU (by omega)];omega
  rw[if_pos (by simpa using e),if_pos (by simp only[AC];unfold Bj;omega),R.ok_bind];show loop (λout=>Mp out) (l++[0])=_;rw[Az8 z (l++[0]) (by simp only[AG,AC];omega) (by omega) (by simp only[AG,AC];omega),BX];rfl
def Bg5 (b:List Int)(i:Nat)(hi:i<8)(o:List Int)(z:o.length<=1000000000):H8 b (i:Int) o=.ok (.inl ((i:Int)-1,o++[Fx (IntKind.wrap .u64 (IntKind.wrap .u64 (b.length:Int)*8)) i])):=by
 unfold H8 Fx;have e:IntKind.wrap .i64 (8*(i:Int))=((8*i:Nat):Int):=by rw[Ok (by omega) (by omega)];omega
 rw[e,Ok (n:=(i:Int)-1) (by omega) (by omega),if_pos (by omega),if_pos (by omega),if_pos (by simp only[AC];unfold Bj;omega)]
def A1x (b:List Int):∀(i:Nat) (o:List Int),i<=8->o.length+i<=1000000000->loop (Ct λi z=>H8 b i z) ((i:Int)-1,o)=.ok (o++(List.range i).reverse.map (Fx (IntKind.wrap .u64 (IntKind.wrap .u64 (b.length:Int)*8))))
 |0,o,_,_=>by rw[Ms];show(H8 b _ o).bind _=_;unfold H8;rw[if_neg (by omega),R.ok_bind];simp
 |i+1,o,hi,D=>by rw[Ms];show(H8 b _ o).bind _=_;rw[show((i+1:Nat):Int)-1=(i:Int)by omega,Bg5 b i (by omega) o (by omega),R.ok_bind];show loop (Ct λi z=>H8 b i z) ((i:Int)-1,o++[Fx _ i])=_;rw[A1x b i _ (by omega) (by simp only[AG,AC];omega),GR,List.reverse_append,BX];rfl
def A4n (b:List Int)(z:b.length<=100000000):Abj b=.ok (Ai7 b):=by unfold Abj;rw[if_pos (by unfold Bj;omega),if_pos (by simp only[AC];unfold Bj;omega),Az8 ((119-b.length%64)%64) _ (by simp only[AG,AC];omega) (by omega) (by simp only[AG,AC];omega),R.ok_bind];unfold Xd;have:=A1x b 8 ((b++[128])++List.replicate ((119-b.length%64)%64) 0) (AF _) (by simp only[AG,AC,DO];omega);rw[show(((8:Nat):Int)-1)=7 from rfl]at this;rw[this,R.ok_bind];unfold Yb Ai7;congr 1;rw[BX b];rfl
def A6w (p:List Int):∀(n k:Nat) (o:Vector Int 8),p.length=64*(k+n)->p.length<=1000000000->loop (Ct λn o=>Q1 p n o) (((64*k:Nat):Int),o)=.ok (Yn n (p.drop (64*k)) o)
 |0,k,o,h,hp=>by rw[Ms];show(Q1 p _ o).bind _=_;unfold Q1;rw[if_neg (by omega),R.ok_bind];rfl
 |n+1,k,o,h,hp=>by
  rw[Ms];show(Q1 p _ o).bind _=_;unfold Q1;have e:IntKind.wrap .i64 (((64*k:Nat):Int)+64)=((64*(k+1):Nat):Int):=by rw[Ok (by omega) (by omega)];omega
  rw[e,if_pos (by omega),if_pos (by omega)];have z:cut p ((64*k:Nat):Int) ((64*(k+1):Nat):Int)=(p.drop (64*k)).take 64:=by unfold cut;rw[BI,BI,show 64*(k+1)-64*k=64 by omega]
  rw[z,A7e _ _ (by rw[BS,BF];omega),R.ok_bind,R.ok_bind];show loop (Ct λn o=>Q1 p n o) (((64*(k+1):Nat):Int),Aqj ((p.drop (64*k)).take 64) o)=_;rw[A6w p n (k+1) _ (by omega) hp,Yn,GE];rfl
def Anh (x:Int)(k:Nat):Int:=IntKind.wrap .u8 (Aa7 .u32 x (k:Int))
def Bd1 (x:Int):Anh x 0=Fx (IntKind.wrap .u64 x) 0:=by simp[Anh,Fx,Aa7,IntKind.wrap,IntKind.bits,IntKind.signed,BN]<;>omega
def Beh (x:Int):Anh x 8=Fx (IntKind.wrap .u64 x) 1:=by simp[Anh,Fx,Aa7,IntKind.wrap,IntKind.bits,IntKind.signed,BN]<;>omega
def Bdl (x:Int):Anh x 16=Fx (IntKind.wrap .u64 x) 2:=by simp[Anh,Fx,Aa7,IntKind.wrap,IntKind.bits,IntKind.signed,BN]<;>omega
def Bd0 (x:Int):Anh x 24=Fx (IntKind.wrap .u64 x) 3:=by simp[Anh,Fx,Aa7,IntKind.wrap,IntKind.bits,IntKind.signed,BN]<;>omega
def Azl(F:Nat->Int)(v:Vector Int n):∀(m:Nat),((List.range m).foldl (λo i=>Sf o i (F i)) v).toList=((List.range m).map F).take n++v.toList.drop m
 |0=>by simp
 |m+1=>by
  rw[GR,List.foldl_append,FY,List.foldl_nil,Km,Azl F v m,FQ];rcases CI m n with h|h
  .rw[DD (by simp;omega),DD (by simp;omega),List.set_append_right _ _ (by simp),BX];congr 1;rw[AL,EI,Nat.sub_self,EG (by simpa using h)];rfl
  .rw[CV (by simp;omega),CV (by simp;omega),GB,GB,FR (by simp;omega)];rw[List.set_eq_of_length_le (by simp;omega)]
def Azz (x:Int):List Int:=[Fx x 3,Fx x 2,Fx x 1,Fx x 0]
def Ata{β:Type}{f g:α->List β}:∀(l:List α),(∀x∈l,f x=g x)->l.flatMap f=l.flatMap g
 |[],_=>rfl
 |x::l,h=>by rw[EX,EX,h x (BE ..),Ata l λy z=>h y (BC _ z)]
def A7c{n:Int}{s:Vector Int 32}{A Z:List Int}(z:s.toList=A++(List.replicate 4 0++Z))(h:A.length=c):(A1f c n s).toList=A++(Azz n++Z):=by show(Sf (Sf (Sf (Sf s (c+3) (Fx n 0)) (c+2) (Fx n 1)) (c+1) (Fx n 2)) (c+0) (Fx n 3)).toList=_;rw[Km,Km,Km,Km,z,Um h,Um h,Um h,Um h];rfl
def A0x (o:Vector Int 8):∀(m k:Nat) (s:Vector Int 32) (A:List Int),s.toList=A++List.replicate (4*m) 0->A.length=4*k->((List.range' k m).foldl (λd j=>A1f (4*j) (IntKind.wrap .u64 (Ap o j 0)) d) s).toList=A++(List.range' k m).flatMap λj=>Azz (IntKind.wrap .u64 (Ap o j 0))
 |0,k,s,A,z,_=>by simpa using z
 |m+1,k,s,A,z,D=>by rw[FC,FY,EX,<-BX];refine A0x o m (k+1) _ _ ?_ (by simp[Azz,D];omega);rw[A7c (Z:=List.replicate (4*m) 0) (by rw[z,show 4*(m+1)=4+4*m by omega,<-FH]) D,BX]
def Bgn (F:Nat->Int):∀m:Nat,(List.range (4*m)).map F=(List.range m).flatMap λj=>[F (4*j),F (4*j+1),F (4*j+2),F (4*j+3)]
 |0=>rfl
 |m+1=>by rw[show 4*(m+1)=4*m+1+1+1+1 by omega];simp only[GR,FQ,FF,Bgn F m];simp
def Bd4 (o:Vector Int 8):Ae7 o=.ok (A30 o):=by
 unfold Ae7;rw[show(#v[0,0,0,0,0,0,0,0,0,0,0,0,0,0,0,0,0,0,0,0,0,0,0,0,0,0,0,0,0,0,0,0]:Vector Int 32)=G3 32 0 from rfl];rw[Xg (λi d=>Sf d i (Anh (Ap o (i/4) 0) (24-8*(i%4)))) (List.range 32) 0 (G3 32 0) (λj a d z=>by
  have z:j<32:=by have:=(BZ.1 z).1;rw[EI]at this;exact this
  unfold Ap7 Anh;rw[AE];have D:IntKind.wrap .i64 (Int.tdiv (j:Int) 4)=((j/4:Nat):Int):=by rw[HE (by omega),Ok (by omega) (by omega)];omega
  have G:IntKind.wrap .i64 (8*Int.tmod (j:Int) 4)=((8*(j%4):Nat):Int):=by rw[EU (by omega),Ok (by omega) (by omega)];omega
  have O:IntKind.wrap .i64 (24-((8*(j%4):Nat):Int))=((24-8*(j%4):Nat):Int):=by rw[Ok (by omega) (by omega)];omega
  rw[D,G,O,if_pos (by omega),if_pos (by omega),BI]),R.ok_bind]
 rw[show List.range' 0 (List.range 32).length=List.range 32 from rfl];refine congrArg R.ok (Vector.toList_inj.1 ?_);rw[Azl,DD (by simp),CV (by simp),GB];unfold A30;rw[A0x o 8 0 (G3 32 0) [] (by simp[G3]) rfl,CM,show(32:Nat)=4*8 from rfl,Bgn];refine Ata _ λj _=>?_;rw[show 4*j/4=j by omega,show(4*j+1)/4=j by omega,show(4*j+2)/4=j by omega,show(4*j+3)/4=j by omega,show 4*j%4=0 by omega,show(4*j+1)%4=1 by omega,show(4*j+2)%4=2 by omega,show(4*j+3)%4=3 by omega];unfold Azz;rw[<-Bd1,<-Beh,<-Bdl,<-Bd0]
def A0p (b:List Int)(D:b.length<=100000000):Ajh b=.ok (Aqf b):=by
 unfold Ajh;rw[A4n b D,R.ok_bind];have G:(Ai7 b).length=64*(0+(Ai7 b).length/64):=by unfold Ai7;simp[Aom];omega
 have z:(Ai7 b).length<=1000000000:=by unfold Ai7;simp[Aom];omega
 have h:=A6w (Ai7 b) ((Ai7 b).length/64) 0 Alb G z;rw[show((64*0:Nat):Int)=0 from rfl]at h;rw[show(#v[1779033703,3144134277,1013904242,2773480762,1359893119,2600822924,528734635,1541459225]:Vector Int 8)=Alb from rfl,h,R.ok_bind,Bd4];rfl
def A1g (z:Al)(b:List Int)(ht:z.length<=16)(D:b.length<=10000000):Aem z b=.ok (Aqf ((Aqf (Wq z)).toList++b)):=by unfold Aem;rw[if_pos (by unfold Bj;omega),A0p _ (by unfold Wq;rw[AL];omega),R.ok_bind,if_pos (by rw[Vector.length_toList];unfold Bj;omega),if_pos (by rw[Vector.length_toList];unfold Bj;omega),A0p _ (by rw[AG,Vector.length_toList];omega)];rfl
def A60 (a b:Int):Eg .u64 a b=IntKind.wrap .u64 ((BitVec.ofInt 64 a^^^BitVec.ofInt 64 b:BitVec 64).toNat:Int):=rfl
def Bdy (n:Int)(h0:0<=n)(h1:n<9223372036854775808):uns n=2*n:=by
 unfold uns;have e:Int.fdiv n 9223372036854775808=0:=by rw[BN _ (by decide)];omega
 rw[e,A60,show IntKind.wrap .u64 0=0 from rfl,show BitVec.ofInt 64 0=0#64 from rfl,BitVec.xor_zero];have z:X0 .u64 (IntKind.wrap .u64 n) 1=2*n:=by simp[X0,IntKind.wrap,IntKind.bits,IntKind.signed];omega
 rw[z];simp[IntKind.wrap,IntKind.bits,IntKind.signed,BitVec.toNat_ofInt];omega
def Bea (n:Int)(h0:n<0)(h1: -9223372036854775808<=n):uns n=2*(-(n+1))+1:=by
 unfold uns;have e:Int.fdiv n 9223372036854775808= -1:=by rw[BN _ (by decide)];omega
 rw[e,A60,show IntKind.wrap .u64 (-1)=18446744073709551615 from rfl,show BitVec.ofInt 64 18446744073709551615=BitVec.allOnes 64 from by decide,BitVec.xor_allOnes];have z:X0 .u64 (IntKind.wrap .u64 n) 1=2*n+18446744073709551616:=by simp[X0,IntKind.wrap,IntKind.bits,IntKind.signed];omega
 rw[z];simp[IntKind.wrap,IntKind.bits,IntKind.signed,BitVec.toNat_ofInt,BitVec.toNat_not];omega
def Bds:∀k:Fin 256,Rn .u8 (k.1:Int) 128=((k.1%128+128:Nat):Int):=by decide+kernel
def A6i (u:Int)(h:0<=u):Rn .u8 (IntKind.wrap .u8 u) 128=IntKind.wrap .u8 (u%128+128):=by
 have e:IntKind.wrap .u8 u=((u.toNat%256:Nat):Int):=by simp[IntKind.wrap,IntKind.bits,IntKind.signed];omega
 rw[e,Bds ⟨u.toNat%256,Nat.mod_lt _ (by decide)⟩];simp[IntKind.wrap,IntKind.bits,IntKind.signed];omega
def Y6 (n:Int):Prop:= -9223372036854775808<=n/\n<9223372036854775808
inductive VNI:Value->Prop
 |mk {v:Value} (h:Y6 v.N) (hl:∀x∈v.L,VNI x):VNI v
def Bdf (n:Int)(h:Y6 n):Acp n=.ok (uns n):=by
 obtain⟨h0,h1⟩:=h;unfold Acp;by_cases hn:n>=0
 .rw[if_pos hn,Bdy n hn h1];simp[IntKind.wrap,IntKind.bits,IntKind.signed];omega
 .rw[if_neg hn,Bea n (by omega) h0];simp[IntKind.wrap,IntKind.bits,IntKind.signed];omega
def A0f:∀(k n:Nat) (u:Int),k<n->k<=100->0<=u->u<128^(k+1)->u<18446744073709551616->Q3 n u=.ok (Ad9 k u)/\(Ad9 k u).length<=k+1
 |k,0,u,h,_,_,_,_=>absurd h (DN _)
 |k,n+1,u,h,hk,h0,h1,h2=>by
  show Xa (Q3 n) u=_/\_;unfold Xa;by_cases z:u<128
  .rw[if_pos z,A2z k z];exact⟨rfl,Nat.le_add_left _ _⟩
  .rw[if_neg z];cases k with
   |zero=>simp at h1;omega
   |succ k=>
    have D:IntKind.wrap .u64 (Int.tdiv u 128)=Int.fdiv u 128:=by rw[HE h0,BN _ (by decide)];simp[IntKind.wrap,IntKind.bits,IntKind.signed];omega
    have hf:Int.fdiv u 128=u/128:=BN _ (by decide);obtain⟨g1,O⟩:=A0f k n (Int.fdiv u 128) (by omega) (by omega) (by omega) (by rw[Int.pow_succ]at h1;omega) (by omega);have G:IntKind.wrap .u8 (IntKind.wrap .u64 (Int.tmod u 128+128))=Rn .u8 (IntKind.wrap .u8 u) 128:=by rw[A6i u h0,EU h0];simp[IntKind.wrap,IntKind.bits,IntKind.signed]<;>omega
    rw[D,g1,R.ok_bind,G,if_pos (by simp only[AC];unfold Bj;omega),Ad9,if_pos (by omega)];exact⟨rfl,by simp only[BV];omega⟩
def Aty (u:Int)(h0:0<=u)(h1:u<18446744073709551616):Ado u=.ok (Ad9 10 u)/\(Ad9 10 u).length<=11:=A0f 10 Aot u (by unfold Aot;decide) (by decide) h0 (by omega) h1
def Aux:∀(n d k:Nat) (v:Value),d<n->EB d k v->O7 n v=.ok true
 |0,d,k,v,G,_=>absurd G (DN _)
 |n+1,d,k,v,G,z=>by
  show Pt (O7 n) v=_;unfold Pt;have leaf:(v.Kind=1/\v.S=[]/\v.L=[])->Pt (O7 n) v=.ok true:=by rintro⟨h1,h2,D⟩;unfold Pt;simp only[h1,h2,D];rfl
  cases d with
  |zero=>exact leaf ⟨z.1,z.2.1,z.2.2.1⟩
  |succ d=>
   rcases z with h|⟨h1,h2,D,m,O,S⟩
   .exact leaf ⟨h.1,h.2.1,h.2.2.1⟩
   .simp only[h1,h2,D];rw[if_neg (by decide),if_neg (by decide),if_pos (by decide),A0i v.L 0 λj x R=>by unfold Akc;rw[Aux n d m x (by omega) (O x (AH R))];rfl];rfl
def Axb:∀(n d k:Nat) (v:Value),d<n->d<=100->EB d k v->As (Rq n v) λr=>0<=r/\r<=(d:Int)
 |0,d,k,v,z,_,_=>absurd z (DN _)
 |n+1,d,k,v,z,G,D=>by
  show As (Rd (Rq n) v) _;unfold Rd;have leaf:v.Kind=1->As (Rd (Rq n) v) λr=>0<=r/\r<=(d:Int):=by intro h1;unfold Rd;rw[h1,if_pos (by decide)];exact .ok ⟨EO _,by omega⟩
  cases d with
  |zero=>exact leaf D.1
  |succ d=>
   rcases D with h|⟨h1,h2,S,m,O,U⟩
   .exact leaf h.1
   .rw[h1,if_neg (by decide)];refine(My (λ_ (s:Int)=>0<=s/\s<=(d:Int)) v.L 0 0 (λj a s R V=>?_) ⟨EO _,by omega⟩).bind λr hr=>.ok ?_
    .unfold Al6;refine(Axb n d m a (by omega) (by omega) (O a (AH R))).bind λr hr=>.ok ?_;split<;>omega
    .rw[Ok (by omega) (by omega)];omega
def A50(h:EB 16 k v):Ah6 v=.ok 0:=by unfold Ah6 Apv Arc;rw[Aux Aot 16 k v (by unfold Aot;decide) h,R.ok_bind,if_pos rfl];obtain⟨r,hr,h0,h1⟩:=Axb Aot 16 k v (by unfold Aot;decide) (by decide) h;rw[hr,R.ok_bind,if_neg (by omega)]
def Az7:∀(n d k:Nat) (v:Value),d<n->EB d k v->VNI v->k<=8000000->As (Pv n v) λr=>r=Pw d v/\r.length<=k
 |0,d,k,v,V,_,_,_=>absurd V (DN _)
 |n+1,d,k,v,V,G,W,hk=>by
  show As (O3 (Pv n) v) _;have X:=G.len;have leaf:v.Kind=1->As (O3 (Pv n) v) λr=>r=Pw d v/\r.length<=k:=by
   intro h1;unfold O3;cases W with
   |mk Y hl=>have z:0<=uns v.N/\uns v.N<18446744073709551616:=Bmv _;obtain⟨g1,g2⟩:=Aty (uns v.N) z.1 z.2;rw[if_pos (by rw[h1];rfl),Bdf _ Y,R.ok_bind,g1,R.ok_bind,Ajm d h1];exact EN (by simp only[AC];unfold Bj;omega) (.ok ⟨rfl,by simp only[AG,AC];omega⟩)
  cases d with
  |zero=>exact leaf G.1
  |succ d=>
   rcases G with h|⟨h1,h2,h3,m,h4,h5⟩
   .exact leaf h.1
   .unfold O3;cases W with
    |mk Y hl=>
     have z:=Bmv (v.L.length:Int);obtain⟨g1,g2⟩:=Aty _ z.1 z.2;rw[if_neg (by rw[h1];decide),if_neg (by rw[h1];decide),g1,R.ok_bind];refine EN (by simp only[AC];unfold Bj;omega) ?_;refine(My (λj (s:List Int)=>s=(3::Ad9 10 (IntKind.wrap .u64 (v.L.length:Int)))++(v.L.take j).flatMap (Pw d)/\s.length<=12+j*m) v.L 0 _ (λj a s O S=>?_) ⟨by simp,by simp only[AG,AC];omega⟩).bind λr hr=>.ok ?_
     .have hj:=A6 O;have hm:(j+1)*m<=v.L.length*m:=AZ _ hj;rw[AI,EP]at hm;simp only[AE]at S ⊢;obtain⟨U,S⟩:=S;have D:=AH O;unfold Akb;refine(Az7 n d m a (by omega) (h4 a D) (hl a D) (by omega)).bind λr hr=>EN (by unfold Bj;omega) (.ok ⟨?_,?_⟩)
      .rw[hr.1,U,DB,O];simp
      .have:=hr.2;simp only[AG,AI,EP];omega
     .rw[AE,DE]at hr;refine⟨?_,by have:=hr.2;omega⟩;rw[hr.1,Pw,if_neg (by rw[h1];decide)]
def A1j(h:EB 16 k v)(z:VNI v)(hk:k<=8000000):As (Ae8 v) λr=>r.2=0/\r.1=Pw 16 v/\r.1.length<=k:=by unfold Ae8 Ap4;rw[A50 h,R.ok_bind,if_neg (by decide)];exact(Az7 Aot 16 k v (by unfold Aot;decide) h z hk).bind λr hr=>.ok ⟨rfl,hr⟩
def Ads{b:Nat->α->List Value->R (List Value)}(f:α->Value):∀(l:List α) (k:Nat) (y:List Value),(∀j,∀a∈l,∀y,y.length<=1000->b j a y=.ok (y++[f a]))->y.length+l.length<=1000->eachS b k l y=.ok (y++l.map f)
 |[],k,y,_,_=>by simp[eachS]
 |a::l,k,y,z,h=>by rw[A72,z k a (BE ..) y (by omega),R.ok_bind,Ads f l (k+1) _ (λj x D=>z j x (BC _ D)) (by simp only[AG,AC,BV,CW]at h ⊢;omega),BX];rfl
def push{x:Value}(z:y.length<=1000):(if(y.length+[x].length)*56<=Bj then R.ok (y++[x])else .bad)=.ok (y++[x]):=if_pos (by simp only[AC];unfold Bj;omega)
def At5 (l:List Int)(h:l.length<=1000):J6 l=.ok (vIs l):=by unfold J6;rw[Ads (b:=λ_ a l1=>Ao0 a l1) vI l 0 [] (λj a _ y z=>push z) (by simpa using h)];rfl
def Axc (l:List Span)(h:l.length<=1000):Q4 l=.ok (Ak2 l):=by unfold Q4;rw[Ads (b:=λ_ a l1=>Amq a l1) vSp l 0 [] (λj a _ y z=>push z) (by simpa using h)];rfl
def A8t (w:Way)(h:w.Legs.length<=1000)(z:∀g∈w.Legs,g.Minutes.length<=1000):Abh w=.ok (Awd w):=by unfold Abh;rw[Ads Axp w.Legs 0 [] (λj a D y G=>by show Ai0 a y=_;unfold Ai0;rw[Axc _ (z a D)];exact push G) (by simpa using h)];rfl
def Azn (t:Tables)(h:TabF t):Q9 t=.ok (Avn t):=by unfold Q9;have S:=h.s;have G:=h.c;have hw:=h.w;have U:=h.m;have hk:=h.k;rw[Ads Axy t.Sectors 0 [] (λj a z y D=>by show Z3 a y=_;unfold Z3;rw[At5 _ (by have:=h.sv a z;omega)];exact push D) (by simp only[CW];omega),R.ok_bind];rw[Ads (λc:Config=>vIs c.Sectors) t.Configs 0 [] (λj a z y D=>by show Ahq a y=_;unfold Ahq;rw[At5 _ (by have:=h.cs a z;omega)];exact push D) (by simp only[CW];omega),R.ok_bind];rw[Ads Awd t.Ways 0 [] (λj a z y D=>by show Aho a y=_;unfold Aho;rw[A8t _ (by have:=(h.wl a z).1;omega) λg O=>by have:=(h.wl a z).2 g O;omega];exact push D) (by simp only[CW];omega),R.ok_bind];rw[Ads vIs t.Modes 0 [] (λj a z y D=>by show Ahs a y=_;unfold Ahs;rw[At5 _ (by have:=h.ml a z;omega)];exact push D) (by simp only[CW];omega),R.ok_bind];rw[Ads Aug t.Kinds 0 [] (λj a z y D=>by show Z1 a y=_;unfold Z1;rw[Ads Ak2 a.Curfews 0 [] (λj c G y D=>by show Z8 c y=_;unfold Z8;rw[Axc _ (by have:=(h.kc a z).2 c G;omega)];exact push D) (by have:=(h.kc a z).1;simp only[CW];omega)];exact push D) (by simp only[CW];omega)];rfl
structure RngT (t:Tables):Prop where
 v:Y6 t.Volumes
 s:∀x∈t.Sectors,(∀v∈x.Volumes,Y6 v)/\Y6 x.Radar/\Y6 x.Procedural
 c:∀x∈t.Configs,∀v∈x.Sectors,Y6 v
 w:∀x∈t.Ways,Y6 x.From/\Y6 x.To/\∀g∈x.Legs,Y6 g.Segment/\Y6 g.Volume/\Y6 g.Length/\∀s∈g.Minutes,Y6 s.From/\Y6 s.To
 m:∀x∈t.Modes,∀v∈x,Y6 v
 k:∀x∈t.Kinds,Y6 x.Slow/\Y6 x.Fast/\Y6 x.Places/\Y6 x.Weight/\Y6 x.Longest/\∀l∈x.Curfews,∀s∈l,Y6 s.From/\Y6 s.To
def Mz {n:Int}(h:Y6 n):VNI (vI n):=.mk h λx z=>absurd z BW
variable{l:List Value}
def As5(h:∀x∈l,VNI x):VNI (vL l):=.mk (show Y6 0 from⟨by decide,by decide⟩) h
def Acg{l:List α}{f:α->Value}(h:∀x∈l,VNI (f x)):VNI (vL (l.map f)):=As5 λy z=>by obtain⟨x,D,rfl⟩:=CC.1 z;exact h x D
def Aph:∀x∈([]:List Value),VNI x:=λx z=>absurd z BW
def N1(h:VNI v)(D:∀x∈l,VNI x):∀x∈v::l,VNI x:=λx z=>by
 rcases AN.1 z with rfl|z
 .exact h
 .exact D x z
def A1t {l:List Span}(h:∀s∈l,Y6 s.From/\Y6 s.To):VNI (Ak2 l):=Acg λs z=>As5 (N1 (Mz (h s z).1) (N1 (Mz (h s z).2) Aph))
variable{t:Tables}
def Bdh(h:RngT t):VNI (Avn t):=by
 refine As5 (N1 (Mz h.v) (N1 (Acg λx z=>?_) (N1 (Acg λx z=>?_) (N1 (Acg λx z=>?_) (N1 (Acg λx z=>?_) (N1 (Acg λx z=>?_) Aph))))))
 .obtain⟨h1,h2,D⟩:=h.s x z;exact As5 (N1 (Acg λv G=>Mz (h1 v G)) (N1 (Mz h2) (N1 (Mz D) Aph)))
 .exact Acg λv G=>Mz (h.c x z v G)
 .obtain⟨h1,h2,D⟩:=h.w x z;refine As5 (N1 (Mz h1) (N1 (Mz h2) (N1 (Acg λg O=>?_) Aph)));obtain⟨g1,R,g3,S⟩:=D g O;exact As5 (N1 (Mz g1) (N1 (Mz R) (N1 (Mz g3) (N1 (A1t S) Aph))))
 .exact Acg λv G=>Mz (h.m x z v G)
 .obtain⟨h1,h2,D,U,V,W⟩:=h.k x z;exact As5 (N1 (Mz h1) (N1 (Mz h2) (N1 (Mz D) (N1 (Mz U) (N1 (Mz V) (N1 (Acg λl X=>A1t (W l X)) Aph))))))
def Dp:Nat->Value->Prop
 |0,v=>v.L=[]
 |n+1,v=>∀x∈v.L,Dp n x
def Dp.up:Dp n v->Dp (n+1) v:=by
 induction n generalizing v with
 |zero=>intro h x z;rw[show v.L=[]from h]at z;cases z
 |succ n D=>intro h x z;exact D (h x z)
def lS (s:Sector):Sector:={Name:=[],Names:=[],Volumes:=s.Volumes,Radar:=s.Radar,Procedural:=s.Procedural}
def lC (c:Config):Config:={Name:=[],Names:=[],Sectors:=c.Sectors}
structure Lowd (a:Airspace)(t:Tables):Prop where
 check:Sr a=.ok 0
 stuck:P0 a=.ok 0
 rules:Tv a=.ok 0
 reason:P3 a=.ok 0
 passable:Qc a=.ok 0
 blocked:P6 a=.ok 0
 vol:t.Volumes=(a.Volumes.length:Int)
 sec:t.Sectors=a.Sectors.map lS
 con:t.Configs=a.Configs.map lC
 way:Ls a.Routes a=.ok t.Ways
 mod:Oo a.Airports=.ok t.Modes
 kin:Kv a.Classes a=.ok t.Kinds
 tab:Ky t=.ok 0
def wu (n:Nat)(h:n<18446744073709551616):IntKind.wrap .u64 (n:Int)=(n:Int):=by simp[IntKind.wrap,IntKind.bits,IntKind.signed];omega
def bvo (n:Nat)(h:n<18446744073709551616):(BitVec.ofInt 64 (n:Int)).toNat=n:=by rw[BitVec.toNat_ofInt];omega
def B37 (x y:Nat)(z:x<18446744073709551616)(D:y<18446744073709551616):Dk .u64 (x:Int) (y:Int)=((x&&& y:Nat):Int):=by
 unfold Dk;have e:((BitVec.ofInt IntKind.u64.bits (x:Int)&&& BitVec.ofInt IntKind.u64.bits (y:Int)).toNat)=x&&& y:=by show((BitVec.ofInt 64 (x:Int)&&& BitVec.ofInt 64 (y:Int)).toNat)=x&&& y;rw[BitVec.toNat_and,bvo x z,bvo y D]
 rw[e];exact wu _ (Nat.lt_of_le_of_lt Nat.and_le_left z)
def B4h (x y:Nat)(z:x<18446744073709551616)(D:y<18446744073709551616):Rn .u64 (x:Int) (y:Int)=((x|||y:Nat):Int)/\x|||y<18446744073709551616:=by
 unfold Rn;have e:((BitVec.ofInt IntKind.u64.bits (x:Int)|||BitVec.ofInt IntKind.u64.bits (y:Int)).toNat)=x|||y:=by show((BitVec.ofInt 64 (x:Int)|||BitVec.ofInt 64 (y:Int)).toNat)=x|||y;rw[BitVec.toNat_or,bvo x z,bvo y D]
 have G:x|||y<18446744073709551616:=Nat.or_lt_two_pow (n:=64) z D;rw[e];exact⟨wu _ G,G⟩
def Cax (v:Nat)(h:v<64):X0 .u64 1 (v:Int)=((2^v:Nat):Int)/\2^v<18446744073709551616:=by have z:2^v<18446744073709551616:=Nat.pow_lt_pow_right (a:=2) (by decide) h;refine⟨?_,z⟩;unfold X0;rw[show min ((v:Int).toNat) IntKind.u64.bits=v from by show min _ 64=v;omega];rw[show(1:Int)*2^v=((2^v:Nat):Int)from by simp];exact wu _ z
def Bits (n:Nat)(x:Int)(vs:List Int):Prop:=∃m:Nat,x=(m:Int)/\m<18446744073709551616/\(∀i,m.testBit i=true↔(i:Int)∈vs)/\vs.Nodup/\∀v∈vs,0<=v/\v<(n:Int)
def Bits.nil (n:Nat):Bits n 0 []:=⟨0,rfl,by decide,λi=>by simp,GZ,λv z=>absurd z BW⟩
def B8h (m v:Nat):(m&&& 2^v)≠0↔m.testBit v=true:=by
 constructor
 .intro h;cases z:m.testBit v with
  |true=>rfl
  |false=>
   refine absurd (FV λi=>?_) h;rw[GS,GY,HW];by_cases hi:v=i
   .subst hi;simp[z]
   .simp[hi]
 .intro h h0;have:=congrArg (λx=>x.testBit v) h0;simp[GS,GY,h]at this
variable{x:Int}{vs:List Int}
def Bits.put{v:Int}(hn:n<=64)(h:Bits n x vs)(h0:0<=v)(h1:v<(n:Int))(D:Dk .u64 x (X0 .u64 1 v)=0):Bits n (Rn .u64 x (X0 .u64 1 v)) (vs++[v]):=by
 obtain⟨m,rfl,S,U,G,hr⟩:=h;obtain⟨w,rfl⟩:=BY h0;obtain⟨X,V⟩:=Cax w (by omega);rw[X]at D ⊢;rw[B37 m _ S V]at D;obtain⟨Y,e4⟩:=B4h m _ S V;have O:m.testBit w=false:=by
  cases R:m.testBit w with
  |false=>rfl
  |true=>exact absurd (by exact_mod_cast D) ((B8h m w).2 R)
 refine⟨m|||2^w,Y,e4,λi=>?_,?_,λu z=>?_⟩
 .rw[Nat.testBit_or,GY,BG,AM,BU,U i,BB];constructor
  .rintro(h|rfl)
   .exact .inl h
   .exact .inr rfl
  .rintro(h|h)
   .exact .inl h
   .exact .inr (by omega)
 .rw[DF];refine⟨G,by simp,λa W c R=>?_⟩;rw[AM.1 R];rintro rfl;rw[<-U w,O]at W;cases W
 .rcases BG.1 z with z|z
  .exact hr u z
  .rw[AM.1 z];exact⟨h0,h1⟩
variable{ws:List Int}
def Bits.join{y:Int}(h:Bits n x vs)(g:Bits n y ws)(D:Dk .u64 x y=0):Bits n (Rn .u64 x y) (vs++ws):=by
 obtain⟨m,rfl,S,U,G,hr⟩:=h;obtain⟨p,rfl,hp,V,O,X⟩:=g;rw[B37 m p S hp]at D;have D:m&&& p=0:=by exact_mod_cast D
 obtain⟨Y,e4⟩:=B4h m p S hp;refine⟨m|||p,Y,e4,λi=>?_,?_,λu z=>?_⟩
 .rw[Nat.testBit_or,BG,BU,U i,V i]
 .rw[DF];refine⟨G,O,λa W c R=>?_⟩;rintro rfl;obtain⟨w,rfl⟩:=BY (hr a W).1;have:=congrArg (λx=>x.testBit w) D;simp[GS,(U w).2 W,(V w).2 R]at this
 .rcases BG.1 z with z|z
  .exact hr u z
  .exact X u z
def Aso (a:Airspace)(k:Int):List Int:=((a.Sectors[k.toNat]?).map (·.Volumes)).getD []
def B6y(h1:1<=n)(G:n<=64)(h:Bits n (Aa7 .u64 18446744073709551615 (IntKind.wrap .i64 (64-(n:Int)))) vs):∀v:Int,0<=v->v<(n:Int)->v∈vs:=by
 obtain⟨m,e,O,z,_,_⟩:=h;intro v h0 R;obtain⟨w,rfl⟩:=BY h0;rw[<-z w];have hw:IntKind.wrap .i64 (64-(n:Int))=((64-n:Nat):Int):=by rw[Ok (by omega) (by omega)];omega
 rw[hw]at e;unfold Aa7 at e;rw[show min ((64-n:Nat):Int).toNat IntKind.u64.bits=64-n from by show min _ 64=_;omega]at e;rw[BN _ (by exact_mod_cast DA _)]at e;have D:m=18446744073709551615/2^(64-n):=by
  have:((m:Nat):Int)=((18446744073709551615/2^(64-n):Nat):Int):=by rw[<-e];simp
  exact_mod_cast this
 rw[D,<-HK,Nat.testBit_shiftRight,show(18446744073709551615:Nat)=2^64-1 from rfl,HC];simp;omega
structure Divs (a:Airspace):Prop where
 v1:1<=a.Volumes.length
 v2:a.Volumes.length<=64
 con:∀c∈a.Configs,(∀k∈c.Sectors,0<=k/\k<(a.Sectors.length:Int))/\(c.Sectors.flatMap (Aso a)).Nodup/\∀v:Int,(0<=v/\v<(a.Volumes.length:Int))↔v∈c.Sectors.flatMap (Aso a)
 secs:a.Sectors.length<=64
 cons:a.Configs.length<=32
structure SecOk (n:Nat)(s:Sector):Prop where
 ne:s.Volumes≠[]
 nd:s.Volumes.Nodup
 rg:∀v∈s.Volumes,0<=v/\v<(n:Int)
structure ConOk (a:Airspace)(c:Config):Prop where
 rg:∀k∈c.Sectors,0<=k/\k<(a.Sectors.length:Int)
 nd:(c.Sectors.flatMap (Aso a)).Nodup
 all:∀v:Int,0<=v->v<(a.Volumes.length:Int)->v∈c.Sectors.flatMap (Aso a)
structure CGood (a:Airspace):Prop where
 v1:1<=a.Volumes.length
 v2:a.Volumes.length<=64
 s2:a.Sectors.length<=64
 c1:1<=a.Configs.length
 c2:a.Configs.length<=32
 sec:∀s∈a.Sectors,SecOk a.Volumes.length s
 con:∀c∈a.Configs,ConOk a c
def Bits.has{v:Int}(U:n<=64)(h:Bits n x vs)(h0:0<=v)(h1:v<(n:Int))(z:Dk .u64 x (X0 .u64 1 v)≠0):v∈vs:=by obtain⟨m,rfl,D,G,O,hr⟩:=h;obtain⟨w,rfl⟩:=BY h0;obtain⟨R,S⟩:=Cax w (by omega);rw[R,B37 m _ D S]at z;refine(G w).1 ((B8h m w).1 λh=>z ?_);rw[h];rfl
def Bits.meet{y:Int}(h:Bits n x vs)(g:Bits n y ws)(z:Dk .u64 x y≠0):¬(vs++ws).Nodup:=by
 obtain⟨m,rfl,D,G,O,hr⟩:=h;obtain⟨p,rfl,hp,R,S,V⟩:=g;rw[B37 m p D hp]at z;intro U;refine z ?_;have:m&&& p=0:=FV λi=>by
  rw[GS,HW];cases h1:m.testBit i with
  |false=>rfl
  |true=>
   cases h2:p.testBit i with
   |false=>rfl
   |true=>exact absurd rfl ((DF.1 U).2.2 _ ((G i).1 h1) _ ((R i).1 h2))
 rw[this];rfl
def Bits.zero(h:Bits n x vs):x=0↔vs=[]:=by
 obtain⟨m,rfl,G,z,D,hr⟩:=h;constructor
 .intro e;have e:m=0:=by exact_mod_cast e
  subst e;cases vs with
  |nil=>rfl
  |cons v vs=>obtain⟨w,rfl⟩:=BY (hr v BE).1;have:=(z w).2 BE;simp at this
 .rintro rfl;have:m=0:=FV λi=>by
   rw[HW];cases h:m.testBit i with
   |false=>rfl
   |true=>exact absurd ((z i).1 h) BW
  rw[this];rfl
def Bits.full(h1:1<=n)(G:n<=64)(h:Bits n x vs):x=Aa7 .u64 18446744073709551615 (IntKind.wrap .i64 (64-(n:Int)))↔∀v:Int,0<=v->v<(n:Int)->v∈vs:=by
 constructor
 .intro e;exact B6y h1 G (e▸h)
 .intro z;obtain⟨m,rfl,U,D,O,hr⟩:=h;have hw:IntKind.wrap .i64 (64-(n:Int))=((64-n:Nat):Int):=by rw[Ok (by omega) (by omega)];omega
  rw[hw];unfold Aa7;rw[show min ((64-n:Nat):Int).toNat IntKind.u64.bits=64-n from by show min _ 64=_;omega];rw[BN _ (by exact_mod_cast DA _)];have R:m=18446744073709551615/2^(64-n):=by
   rw[<-HK];refine FV λi=>?_;rw[Nat.testBit_shiftRight,show(18446744073709551615:Nat)=2^64-1 from rfl,HC];by_cases hi:i<n
   .rw[(D i).2 (z i (by omega) (by omega))];simp;omega
   .have:m.testBit i=false:=by
     cases S:m.testBit i with
     |false=>rfl
     |true=>have:=hr _ ((D i).1 S);omega
    rw[this];simp;omega
  rw[R];simp
def A5b (a:Airspace)(h:a.Sectors.length<=64)(hv:a.Volumes.length<=64):As (Yv a) λr=>
  (r.2=true->(∀s∈a.Sectors,SecOk a.Volumes.length s)/\r.1.length=a.Sectors.length/\∀(j:Nat) (s:Sector),a.Sectors[j]?=some s->∃x,r.1[j]?=some x/\Bits a.Volumes.length x s.Volumes)/\(r.2=false->¬∀s∈a.Sectors,SecOk a.Volumes.length s):=by
 unfold Yv
 refine HX (I:=λ(l:List Int)=>(∀s∈a.Sectors,SecOk a.Volumes.length s)/\l.length=a.Sectors.length/\∀(j:Nat) (s:Sector),a.Sectors[j]?=some s->∃x,l[j]?=some x/\Bits a.Volumes.length x s.Volumes) (J:=λ(e:List Int×Bool)=>e.2=false/\¬∀s∈a.Sectors,SecOk a.Volumes.length s)
  ((Lu (λk (l:List Int)=>l.length=k/\∀(j:Nat) (s:Sector),j<k->a.Sectors[j]?=some s->SecOk a.Volumes.length s/\∃x,l[j]?=some x/\Bits a.Volumes.length x s.Volumes) (λ(e:List Int×Bool)=>e.2=false/\¬∀s∈a.Sectors,SecOk a.Volumes.length s) a.Sectors 0 [] (λj s l O D=>?_) ⟨rfl,λj s V=>absurd V (DN _)⟩).mono λr hr=>?_) (λl D=>.ok ⟨λ_=>D,λh=>(by cases h)⟩) λe W=>.ok ⟨λh=>(by rw[W.1]at h;cases h),λ_=>W.2⟩
 .rw[AE]at D ⊢;have V:=A6 O;have X:=AH O;unfold Sw;refine HX (I:=λx=>Bits a.Volumes.length x s.Volumes) (J:=λ(e:List Int×Bool)=>e.2=false/\¬SecOk a.Volumes.length s) ((Lu (λn (x:Int)=>Bits a.Volumes.length x (s.Volumes.take n)) (λ(e:List Int×Bool)=>e.2=false/\¬SecOk a.Volumes.length s) s.Volumes 0 0 (λi v x hi S=>?_) (Bits.nil _)).mono λr hr=>by
    cases r with
    |inl x=>have hr:Bits a.Volumes.length x (s.Volumes.take (0+s.Volumes.length)):=hr;rwa[AE,DE]at hr
    |inr e=>exact hr) (λx S=>?_) λe W=>.ok ⟨W.1,λz=>W.2 (z s X)⟩
  .rw[AE]at S ⊢;have Y:=AH hi;have et:s.Volumes.take (i+1)=s.Volumes.take i++[v]:=by rw[DB,hi];rfl
   unfold Acy;by_cases hr:0<=v/\v<(a.Volumes.length:Int)
   .rw[if_neg (by simp;omega),if_pos hr.1,R.ok_bind];refine EC (λhb=>.ok ⟨rfl,λU=>?_⟩) λhb=>EN hr.1 (.ok ?_)
    .have hm:=S.has hv hr.1 hr.2 (by simpa using hb);have G:=U.nd;rw[<-DH (i+1) s.Volumes,et]at G;exact absurd rfl ((DF.1 (DF.1 G).1).2.2 _ hm _ (AM.2 rfl))
    .rw[et];exact S.put hv hr.1 hr.2 (by simpa using hb)
   .rw[if_pos (by simp;omega),R.ok_bind];exact EC (λ_=>.ok ⟨rfl,λU=>hr (U.rg v Y)⟩) λh=>absurd rfl h
  .refine EC (λh0=>.ok ⟨rfl,λz=>(z s X).ne (S.zero.1 (by simpa using h0))⟩) λh0=>EN (Atw ?_) (.ok ⟨?_,λi q hi hq=>?_⟩)
   .simp only[AC];have:=D.1;omega
   .rw[AG,AC,D.1]
   .rcases CI i j with h'|h'
    .obtain⟨g1,y,g2,g3⟩:=D.2 i q h' hq;exact⟨g1,y,by rw[CT (by rw[D.1];exact h')];exact g2,g3⟩
    .have:i=j:=by omega
     subst this
     rw[O]at hq;cases hq
     obtain⟨m,hm,_,_,G,aa⟩:=id S
     exact⟨⟨λe=>h0 (by rw[S.zero.2 e];rfl),G,aa⟩,x,by rw[CO (by rw[D.1];exact AF _),D.1];simp,S⟩
 .cases r with
  |inl l=>obtain⟨h1,h2⟩:l.length=0+a.Sectors.length/\_:=hr;rw[AE]at h1;refine⟨λs O=>?_,h1,λj s O=>(h2 j s (by have:=A6 O;omega) O).2⟩;obtain⟨j,V⟩:=DI.1 O;exact(h2 j s (by have:=A6 V;omega) V).1
  |inr e=>exact hr
def A1k (a:Airspace):As (Sr a) λe=>(e=0/\CGood a)\/(e=100/\¬CGood a):=by
 unfold Sr;refine ES (p:=λr=>(r.2=true/\CGood a)\/(r.2=false/\¬CGood a)) ?_ λr hr=>?_
 .unfold Mq;refine EC (λO=>.ok (.inr ⟨rfl,λg=>?_⟩)) λO=>?_
  .have:=g.v1;have:=g.v2;have:=g.s2;have:=g.c1;have:=g.c2;simp only[BU,BB]at O;omega
  simp only[BU,BB,not_or]at O;obtain⟨⟨⟨⟨h1,h2⟩,h3⟩,h4⟩,h5⟩:=O;refine(A5b a (by omega) (by omega)).bind λr hr=>EC (λh=>?_) λh=>.ok (.inr ⟨rfl,λg=>hr.2 (by simpa using h) g.sec⟩);obtain⟨q0,q1,q2⟩:=hr.1 h;have hw:IntKind.wrap .i64 (64-(a.Volumes.length:Int))=64-(a.Volumes.length:Int):=Ok (by omega) (by omega);refine EN (by rw[hw];omega) ?_;refine HX (I:=λ_=>∀c∈a.Configs,ConOk a c) (J:=λ(e:List (List (Int×Bool))×Bool)=>e.2=false/\¬∀c∈a.Configs,ConOk a c) ((Lu (λk (l:List (List (Int×Bool)))=>l.length=k/\∀(j:Nat) (c:Config),j<k->a.Configs[j]?=some c->ConOk a c) (λ(e:List (List (Int×Bool))×Bool)=>e.2=false/\¬∀c∈a.Configs,ConOk a c) a.Configs 0 [] (λj c l O V=>?_) ⟨rfl,λj c X=>absurd X (DN _)⟩).mono λx D=>?_) (λl V=>.ok (.inl ⟨rfl,by omega,by omega,by omega,by omega,by omega,q0,V⟩)) λe Y=>.ok (.inr ⟨Y.1,λg=>Y.2 g.con⟩)
  .rw[AE]at V ⊢;have X:=A6 O;have aa:=AH O;unfold L8;refine HX (I:=λ(x:Int×List (Int×Bool))=>(∀k∈c.Sectors,0<=k/\k<(a.Sectors.length:Int))/\Bits a.Volumes.length x.1 (c.Sectors.flatMap (Aso a))) (J:=λ(e:List (List (Int×Bool))×Bool)=>e.2=false/\¬ConOk a c)
    ((Lu (λn (x:Int×List (Int×Bool))=>(∀k∈c.Sectors.take n,0<=k/\k<(a.Sectors.length:Int))/\Bits a.Volumes.length x.1 ((c.Sectors.take n).flatMap (Aso a))) (λ(e:List (List (Int×Bool))×Bool)=>e.2=false/\¬ConOk a c) c.Sectors 0 (0,[]) (λi k x hi D=>?_) ⟨λk hk=>by simp at hk,Bits.nil _⟩).mono λx D=>by
     cases x with
     |inl x=>obtain⟨g1,g2⟩:(∀k∈c.Sectors.take (0+c.Sectors.length),0<=k/\k<(a.Sectors.length:Int))/\Bits a.Volumes.length x.1 ((c.Sectors.take (0+c.Sectors.length)).flatMap (Aso a)):=D;rw[AE,DE]at g1 g2;exact⟨g1,g2⟩
     |inr e=>exact D) (λx D=>?_) λe Y=>.ok ⟨Y.1,λG=>Y.2 (G c aa)⟩
   .obtain⟨ab,m⟩:=x;rw[AE]at D ⊢;simp only at D;have ae:=AH hi;have et:c.Sectors.take (i+1)=c.Sectors.take i++[k]:=by rw[DB,hi];rfl
    simp only[Ct];unfold V4;by_cases hk:0<=k/\k<(a.Sectors.length:Int)
    .obtain⟨w,rfl⟩:=BY hk.1;have ac:w<a.Sectors.length:=by omega
     obtain⟨z,hz,ad⟩:=q2 w a.Sectors[w] (AA ac);have af:Aso a ((w:Nat):Int)=a.Sectors[w].Volumes:=by unfold Aso;rw[BI,AA ac];rfl
     rw[if_neg (by simp;omega),Zo hz];simp only[R.ok_bind];have ef:(c.Sectors.take (i+1)).flatMap (Aso a)=(c.Sectors.take i).flatMap (Aso a)++a.Sectors[w].Volumes:=by rw[et,FF];simp[af]
     refine EC (λhb=>.ok ⟨rfl,λU=>?_⟩) λhb=>.ok ⟨λu W=>?_,?_⟩
     .have S:=U.nd;rw[<-DH (i+1) c.Sectors,FF,ef]at S;exact D.2.meet ad (by simpa using hb) (DF.1 S).1
     .rw[et]at W;rcases BG.1 W with W|W
      .exact D.1 u W
      .rw[AM.1 W];exact hk
     .rw[ef];exact D.2.join ad (by simpa using hb)
    .rw[if_pos (by simp;omega),R.ok_bind];exact EC (λ_=>.ok ⟨rfl,λU=>hk (U.rg k ae)⟩) λh=>absurd rfl h
   .obtain⟨ab,m⟩:=x;simp only at D;simp only[Ct];have hB:Bits a.Volumes.length ab (c.Sectors.flatMap (Aso a)):=D.2;refine EC (λhm=>.ok ⟨rfl,λG=>?_⟩) λhm=>EN (Atw ?_) (.ok ⟨?_,λi d hi hd=>?_⟩)
    .have:=(hB.full (by omega) (by omega)).2 (G c aa).all;rw[this]at hm;simp at hm
    .simp only[AC];have:=V.1;omega
    .rw[AG,AC,V.1]
    .rcases CI i j with h'|h'
     .exact V.2 i d h' hd
     .have:i=j:=by omega
      subst this
      rw[O]at hd;cases hd
      obtain⟨_,_,_,_,S,_⟩:=id hB
      exact⟨D.1,S,(hB.full (by omega) (by omega)).1 (by simpa using hm)⟩
  .cases x with
   |inl l=>obtain⟨g1,g2⟩:l.length=0+a.Configs.length/\_:=D;intro c O;obtain⟨j,X⟩:=DI.1 O;exact g2 j c (by have:=A6 X;omega) X
   |inr e=>exact D
 .rcases hr with⟨h,g⟩|⟨h,g⟩
  .exact EN h (.ok (.inl ⟨rfl,g⟩))
  .rw[if_neg (by rw[h];decide)];exact .ok (.inr ⟨rfl,g⟩)
def B1z (v:Int):∀(l:List Int) (k:Nat),∃j:Nat,each (λj a=>λ_=>Hu v j a) k l ()=.ok (if l.contains v then .inr (j:Int)else .inl ())
 |[],k=>⟨0,rfl⟩
 |a::l,k=>by
  rw[Abg];by_cases h:v=a
  .subst h;exact⟨k,by simp[Hu]⟩
  .have h1:(v==a)=false:=by simpa using h
   obtain⟨j,z⟩:=B1z v l (k+1)
   refine⟨j,?_⟩
   rw[show Hu v k a=.ok (.inl ())by unfold Hu;rw[h1];rfl,R.ok_bind,List.contains_cons,h1]
   exact z
def B28 (l:List Int)(v:Int):Jt l v=.ok (l.contains v):=by
 unfold Jt Kr;obtain⟨j,z⟩:=B1z v l 0;rw[z];cases h:l.contains v
 .simp only[BD,if_false,R.ok_bind];rfl
 .simp only[if_true,R.ok_bind];simp
variable{a:Airspace}
def B8l{k v:Int}(hk:0<=k/\k<(a.Sectors.length:Int)):Ahl a v k=if v∈Aso a k then .ok (.inr (k,true))else .ok (.inl ()):=by
 obtain⟨w,rfl⟩:=BY hk.1;have hw:w<a.Sectors.length:=by omega
 unfold Ahl Aso;rw[if_pos (by simp;omega),Zo (AA hw),R.ok_bind,B28,R.ok_bind,R.ok_bind,BI,AA hw];simp only[AQ,BH,DP]
def Ane (a:Airspace)(v s:Int):Bool:=(decide (s>=0)&&decide (s<(a.Sectors.length:Int)))&&(Aso a s).contains v
def Bf6 (a:Airspace)(z v:Int):Int×Bool:=if decide (z<0)||decide (z>=(a.Configs.length:Int))then(0,false)else match((a.Configs[z.toNat]?.map (·.Sectors)).getD []).find? (Ane a v)with|some s=>(s,true)|none=>(0,false)
def A5v (a:Airspace)(v s:Int):Ahl a v s=if Ane a v s then .ok (.inr (s,true))else .ok (.inl ()):=by
 by_cases h:0<=s/\s<(a.Sectors.length:Int)
 .rw[B8l h];unfold Ane;rw[DW (show s>=0 from h.1),DW h.2];simp only[FW,DP]
 .have h':(decide (s>=0)&&decide (s<(a.Sectors.length:Int)))=false:=by
   simp only[Bool.and_eq_false_iff,DJ];omega
  unfold Ahl Ane
  rw[h',IB,if_neg (by decide),R.ok_bind]
def A0y (a:Airspace)(v:Int):∀(l:List Int) (k:Nat),each (λ_ z=>λ_=>Ahl a v z) k l ()=.ok (match l.find? (Ane a v)with|some s=>.inr (s,true)|none=>.inl ())
 |[],_=>rfl
 |s::l,k=>by
  rw[Abg,A5v,FP];cases Ane a v s
  .rw[if_neg (by decide),R.ok_bind];exact A0y a v l (k+1)
  .rw[if_pos rfl,R.ok_bind]
def A1n (a:Airspace)(z v:Int):Aek a z v=.ok (Bf6 a z v):=by
 unfold Aek Bf6;by_cases h:(decide (z<0)||decide (z>=(a.Configs.length:Int)))=true
 .rw[if_pos h,if_pos h]
 .rw[if_neg h,if_neg h];simp only[BU,BB]at h;obtain⟨w,rfl⟩:=BY (show 0<=z by omega);have hw:w<a.Configs.length:=by omega
  rw[Zo (AA hw),R.ok_bind,A0y,R.ok_bind,BI,AA hw];simp only[AQ,BH];cases List.find? (Ane a v) a.Configs[w].Sectors<;>rfl
abbrev Dv:=List (List (Int×Bool))
def E (l:Dv)(x y:Nat):Prop:=x≠y/\∃p q,l[x]?=some p/\l[y]?=some q/\X9 p q=.ok true
inductive Rch (l:Dv)(a:Nat):Nat→Prop
 |nil:Rch l a a
 |cons {b c:Nat}:Rch l a b→E l b c→Rch l a c
def Ge (d:List Int)(i:Nat):Prop:=∃v,d[i]?=some v/\0<=v
def B5z (p q:List (Int×Bool)):∃m n,Pl p q=.ok m/\Pl q p=.ok n/\X9 p q=.ok ((((m==0)&&(n==0))||((m==1)&&(n==2)))||((m==2)&&(n==1))):=by obtain⟨m,z,_⟩:=Ash p q;obtain⟨n,D,_⟩:=Ash q p;exact⟨m,n,z,D,by unfold X9;rw[z,D];rfl⟩
def B6f {p q:List (Int×Bool)}(h:X9 p q=.ok true):X9 q p=.ok true:=by obtain⟨m,n,h1,h2,z⟩:=B5z p q;rw[z]at h;injection h with h;unfold X9;rw[h2,h1,R.ok_bind,R.ok_bind];congr 1;simp only[BU,AK,CX]at h ⊢;omega
theorem E.symm {l:Dv}{x y:Nat}(h:E l x y):E l y x:=by obtain⟨h1,p,q,h2,z,D⟩:=h;exact⟨λe=>h1 e.symm,q,p,z,h2,B6f D⟩
def Ge.set {d:List Int}{i j:Nat}{v:Int}(z:0<=v)(h:Ge d i):Ge (d.set j v) i:=by
 obtain⟨w,h1,h2⟩:=h;by_cases e:j=i
 .subst e;exact⟨v,by rw[BO (A6 h1)],z⟩
 .exact⟨w,by rw[EY e];exact h1,h2⟩
structure Nx (l:Dv)(x:Nat)(d q:List Int)(k:Nat)(s:List Int×List Int):Prop where
 up:∀i,Ge d i→Ge s.1 i
 new:∀i,Ge s.1 i→Ge d i∨(E l x i∧(i:Int)∈s.2)
 que:∀v∈q,v∈s.2
 bac:∀v∈s.2,v∈q∨Ge s.1 v.toNat
 all:∀j,j<k→E l x j→Ge s.1 j
structure Fnd (l:Dv)(x:Nat)(d:List Int):Prop where
 len:d.length=l.length
 low:∀v∈d,-1<=v
 at_:Ge d x
 clo:∀i j,Ge d i->E l i j->Ge d j
 rch:∀i,Ge d i->Rch l x i
def Fnd.fwd {l:Dv}{x a b:Nat}{d:List Int}(h:Fnd l x d)(r:Rch l a b)(z:Ge d a):Ge d b:=by
 induction r with
 |nil=>exact z
 |cons _ e D=>exact h.clo _ _ D e
def Fnd.bwd {l:Dv}{x a b:Nat}{d:List Int}(h:Fnd l x d)(r:Rch l a b)(z:Ge d b):Ge d a:=by
 induction r with
 |nil=>exact z
 |cons _ e D=>exact D (h.clo _ _ z e.symm)
def Fnd.all {l:Dv}{x:Nat}{d e:List Int}(h0:Fnd l 0 e)(z:∀i,i<l.length->Ge e i)(h:Fnd l x d)(D:x<l.length):∀i,i<l.length->Ge d i:=λi hi=>h.fwd (h0.rch i (z i hi)) (h.bwd (h0.rch x (z x D)) h.at_)
variable{F:α→R Bool}
def B54{b:Nat->α->Unit->R (Unit ⊕ Int)}(f:α->Bool)(z:∀j a,b j a ()=(F a).bind λr=>if r then .ok (.inr ((j:Int)))else .ok (.inl ()))(l:List α)(D:∀a,F a=.ok (f a)):
  ((each b 0 l ()).bind (alt (λ_=>.ok (-1)) (λr=>.ok r))).bind (λr=>.ok (decide (r>=0)))=.ok (l.any f):=by
 have key:∀(l:List α) (k:Nat),(∃j:Nat,each b k l ()=.ok (.inr (j:Int))/\l.any f=true)\/(each b k l ()=.ok (.inl ())/\l.any f=false):=by
  intro l;induction l with
  |nil=>intro k;exact .inr ⟨rfl,rfl⟩
  |cons a l G=>
   intro k;rw[Abg,z,D,R.ok_bind];cases h:f a with
   |true=>exact .inl ⟨k,rfl,by simp[h]⟩
   |false=>
    rcases G (k+1)with⟨j,h1,h2⟩|⟨h1,h2⟩
    .exact .inl ⟨j,h1,by simp[h2]⟩
    .exact .inr ⟨h1,by simp[h,h2]⟩
 rcases key l 0 with⟨j,h1,h2⟩|⟨h1,h2⟩
 .rw[h1,h2];show R.ok (decide ((j:Int)>=0))=_;rw[DW (by omega)]
 .rw[h1,h2];rfl
def Bgq{b:Nat->α->Unit->R (Unit ⊕ Int)}(f:α->Bool)(z:∀j a,b j a ()=(F a).bind λr=>if r then .ok (.inr ((j:Int)))else .ok (.inl ()))(l:List α)(D:∀a,F a=.ok (!f a)):
  (((each b 0 l ()).bind (alt (λ_=>.ok (-1)) (λr=>.ok r))).bind (λr=>.ok (decide (r>=0)))).bind (λr=>.ok (!r))=.ok (l.all f):=by
 rw[B54 (λa=>!f a) z l D,R.ok_bind]
 congr 1
 induction l with
 |nil=>rfl
 |cons a l G=>simp only[List.any_cons,DU,Bool.not_or,Bool.not_not,G]
def M6 (n a b:Int):Bool:=(decide (n>=a))&&(decide (n<=b))
def Bzy (n a b:Int):Hj n a b=.ok (M6 n a b):=rfl
def A5m {c d:Bool}{m:R Bool}(h:m=.ok d):(if c=true then m else R.ok false)=.ok (c&&d):=by
 cases c with
 |true=>rw[if_pos rfl,h];rfl
 |false=>rfl
def A2d (s:Span):Bool:=!(((decide (s.From<0))||(decide (s.From>=s.To)))||(decide (s.To>1440)))
def B12 (l:List Span):T4 l=.ok (if l.all A2d then 0 else 50):=by
 unfold T4 Jl L9;rw[B54 (F:=Y5) (λs=>!A2d s) (λ_ _=>rfl) l λs=>by unfold Y5 A2d;rw[Bool.not_not],R.ok_bind];have:(l.any λs=>!A2d s)=!l.all A2d:=by
  induction l with
  |nil=>rfl
  |cons a l z=>simp only[List.any_cons,DU,Bool.not_and,z]
 rw[this];cases l.all A2d<;>rfl
def As4 (s:Sector):Bool:=M6 s.Radar 0 64&&M6 s.Procedural 0 s.Radar
def A3l (l:List Sector):J2 l=.ok (l.all As4):=by unfold J2 Ia Kk;refine Bgq (F:=Il) As4 (λ_ _=>rfl) l λs=>?_;unfold Il Uw;simp only[Bzy,R.ok_bind,A5m (rfl:R.ok (M6 s.Procedural 0 s.Radar)=_)];rfl
def Aq4 (l:List Int):Bool:=M6 (l.length:Int) 1 16&&l.all λn=>M6 n 0 64
def A1h (l:List (List Int)):Jj l=.ok (l.all Aq4):=by unfold Jj Ga Ju;refine Bgq (F:=Gl) Aq4 (λ_ _=>rfl) l λs=>?_;unfold Gl Uv Sa Kg Nd;rw[Bgq (F:=La) (λn=>M6 n 0 64) (λ_ _=>rfl) s λn=>by unfold La Qr;rfl];simp only[Bzy,R.ok_bind,A5m (rfl:R.ok (s.all λn=>M6 n 0 64)=_)];rfl
def B3p (t:Tables)(g:Leg):Bool:=(((M6 g.Segment 0 127&&M6 g.Volume 0 (IntKind.wrap .i64 (t.Volumes-1)))&&M6 g.Length 1 4096)&&decide ((g.Minutes.length:Int)>0))&&g.Minutes.all A2d
def B46 (g:Leg)(t:Tables):P1 g t=.ok (B3p t g):=by
 unfold P1;have e:∀b:Bool,((if b=true then(0:Int)else 50)==0)=b:=λb=>by cases b<;>rfl
 simp only[Bzy,B12,R.ok_bind,e,A5m (rfl:R.ok (M6 g.Volume 0 (IntKind.wrap .i64 (t.Volumes-1)))=_),A5m (rfl:R.ok (M6 g.Length 1 4096)=_),A5m (rfl:R.ok (g.Minutes.all A2d)=_)];rfl
def apB (t:Tables)(n:Int):Bool:=M6 n 0 (IntKind.wrap .i64 ((t.Modes.length:Int)-1))
def B1d (t:Tables)(w:Way):Bool:=((apB t w.From&&apB t w.To)&&M6 (w.Legs.length:Int) 1 8)&&w.Legs.all (B3p t)
def B5p (l:List Way)(t:Tables):Nr l t=.ok (l.all (B1d t)):=by unfold Nr Ki Ni;refine Bgq (F:=λw=>Ny w t) (B1d t) (λ_ _=>rfl) l λw=>?_;show Ny w t=_;unfold Ny Uu Mr R8 Kd Na;rw[Bgq (F:=λg=>Ns g t) (B3p t) (λ_ _=>rfl) w.Legs λg=>by show Ns g t=_;unfold Ns;rw[B46];rfl];simp only[Bzy,R.ok_bind,A5m (rfl:R.ok (M6 w.To 0 (IntKind.wrap .i64 ((t.Modes.length:Int)-1)))=_),A5m (rfl:R.ok (M6 (w.Legs.length:Int) 1 8)=_),A5m (rfl:R.ok (w.Legs.all (B3p t))=_)];rfl
def A86:List (Int×Int×Int)->List Int
 |[]=>[]
 |(x,lo,hi)::l=>x::lo::hi::A86 l
def Bzw:∀l,(A86 l).length=3*l.length
 |[]=>rfl
 |(x,lo,hi)::l=>by simp only[A86,BV,Bzw l];omega
def B23:∀(l:List (Int×Int×Int)) (k:Nat) (x lo hi:Int),l[k]?=some (x,lo,hi)->(A86 l)[3*k]?=some x/\(A86 l)[3*k+1]?=some lo/\(A86 l)[3*k+2]?=some hi
 |[],k,x,lo,hi,h=>by simp at h
 |(y,a,b)::l,0,x,lo,hi,h=>by simp at h;obtain⟨rfl,rfl,rfl⟩:=h;exact⟨rfl,rfl,rfl⟩
 |(y,a,b)::l,k+1,x,lo,hi,h=>by have:=B23 l k x lo hi (by simpa using h);rw[show 3*(k+1)=3*k+1+1+1 by omega];simpa[A86]using this
def ok3 (t:Int×Int×Int):Bool:=!(decide (t.1<t.2.1))&&!(decide (t.1>t.2.2))
def B02 (ts:List (Int×Int×Int))(z:ts.length<=100):∀(n k:Nat),k+n=ts.length->loop (λi=>Acx (A86 ts) i) ((3*k:Nat):Int)=.ok (if(ts.drop k).all ok3 then .inl ()else .inr false)
 |0,k,h=>by rw[Ms];unfold Acx;rw[Ok (by omega) (by omega),if_neg (by rw[Bzw];omega),CV (by omega)];rfl
 |n+1,k,h=>by
  have hk:k<ts.length:=by omega
  obtain⟨g1,D,g3⟩:=B23 ts k ts[k].1 ts[k].2.1 ts[k].2.2 (AA hk);have G:=B02 ts z n (k+1) (by omega);rw[EG hk,DU];rw[Ms];unfold Acx;have O:IntKind.wrap .i64 (((3*k:Nat):Int)+1)=((3*k+1:Nat):Int):=by rw[Ok (by omega) (by omega)];omega
  have S:IntKind.wrap .i64 (((3*k:Nat):Int)+2)=((3*k+2:Nat):Int):=by rw[Ok (by omega) (by omega)];omega
  have U:IntKind.wrap .i64 (((3*k:Nat):Int)+3)=((3*(k+1):Nat):Int):=by rw[Ok (by omega) (by omega)];omega
  rw[O,S,if_pos (by rw[Bzw];omega),Zo g1,R.ok_bind,Zo D,R.ok_bind];unfold Pe;rw[U,Zo g3];simp only[R.ok_bind,ok3];by_cases h1:ts[k].1<ts[k].2.1
  .simp only[DW h1,if_true,HD,IB,BD,if_false];rfl
  .simp only[DZ h1,if_false,Bool.not_false,FW,BD];by_cases h2:ts[k].1>ts[k].2.2
   .simp only[DW h2,if_true,HD,IB,BD,if_false];rfl
   .simp only[DZ h2,if_false,Bool.not_false,FW,BD];exact G
def B1w (ts:List (Int×Int×Int))(z:ts.length<=100):Yw (A86 ts)=.ok (ts.all ok3):=by unfold Yw;rw[show(0:Int)=((3*0:Nat):Int)from rfl,B02 ts z ts.length 0 (AE _),DV];cases ts.all ok3<;>rfl
def Bk1 (k:Kind):Bool:=([(k.Slow,1,64),(k.Fast,k.Slow,64),(k.Places,1,8),(k.Weight,1,8),(k.Longest,0,60),((k.Curfews.length:Int),0,16)].all ok3&&!((Int.tmod k.Longest 10)!=0))&&k.Curfews.all λl=>l.all A2d
def B43 (k:Kind):Ae1 k=.ok (if Bk1 k then 0 else 120):=by
 unfold Ae1 V2 Er E6;have e:∀b:Bool,((if b=true then(0:Int)else 50)!=0)=!b:=λb=>by cases b<;>rfl
 rw[show([k.Slow,1,64,k.Fast,k.Slow,64,k.Places,1,8,k.Weight,1,8,k.Longest,0,60,(k.Curfews.length:Int),0,16]:List Int)=A86 [(k.Slow,1,64),(k.Fast,k.Slow,64),(k.Places,1,8),(k.Weight,1,8),(k.Longest,0,60),((k.Curfews.length:Int),0,16)]from rfl,B1w _ (by simp)];rw[Bgq (F:=Nt) (λl=>l.all A2d) (λ_ _=>rfl) k.Curfews λl=>by unfold Nt;rw[B12,R.ok_bind,e]];simp only[R.ok_bind];unfold Bk1;generalize [(k.Slow,1,64),(k.Fast,k.Slow,64),(k.Places,1,8),(k.Weight,1,8),(k.Longest,0,60),((k.Curfews.length:Int),0,16)].all ok3=b;generalize (k.Curfews.all λl=>l.all A2d)=c;cases b<;>cases c<;>cases((Int.tmod k.Longest 10)!=0)<;>rfl
def B4e (l:List Kind)(t:Tables):L3 l t=.ok (l.all λk=>Bk1 k&&((k.Curfews.length:Int)==(t.Modes.length:Int))):=by unfold L3 Ji Ml;refine Bgq (F:=λw=>Lv w t) (λk=>Bk1 k&&((k.Curfews.length:Int)==(t.Modes.length:Int))) (λ_ _=>rfl) l λk=>?_;show Lv k t=_;unfold Lv Ul;rw[B43];cases Bk1 k<;>rfl
def Avj (t:Tables):Airspace:={Volumes:=(List.replicate (Int.toNat t.Volumes) Auw),Sectors:=t.Sectors,Configs:=t.Configs,Segments:=[],Routes:=[],Airports:=[],Classes:=[],Rules:=[]}
def A4t (t:Tables):∃e,Sr (Avj t)=.ok e/\Ky t=.ok (if((((((M6 t.Volumes 1 64&&e==0)&&t.Sectors.all As4)&&!(decide ((t.Modes.length:Int)>16)))&&t.Modes.all Aq4)&&(!(decide ((t.Ways.length:Int)>64))&&t.Ways.all (B1d t)))&&(!(decide ((t.Kinds.length:Int)>8))&&t.Kinds.all λk=>Bk1 k&&((k.Curfews.length:Int)==(t.Modes.length:Int))))=true then 0 else 140):=by
 obtain⟨e,z,_⟩:=Axf (Avj t);refine⟨e,z,?_⟩;unfold Ky;rw[Bzy,R.ok_bind];have h1:(if(!M6 t.Volumes 1 64)=true then R.ok true else(Vw t).bind λr1=>(Sr r1).bind λr2=>R.ok (r2 !=0))=.ok (!(M6 t.Volumes 1 64&&e==0)):=by
  cases D:M6 t.Volumes 1 64 with
  |false=>rfl
  |true=>
   have O:t.Volumes>=1/\t.Volumes<=64:=by unfold M6 at D;simpa using D
   have G:Vw t=.ok (Avj t):=by unfold Vw;rw[if_pos (⟨by omega,EO _,Zl (by omega)⟩:(0:Int)<=t.Volumes/\(t.Volumes:Int)<=t.Volumes/\(Int.toNat t.Volumes)*40<=Bj)];rfl
   rw[G];simp only[HD,BD,if_false,R.ok_bind,z,FW];rfl
 rw[h1];simp only[A3l,A1h,B5p,B4e,R.ok_bind];generalize (M6 t.Volumes 1 64&&e==0)=b1;generalize t.Sectors.all As4=b2;generalize decide ((t.Modes.length:Int)>16)=b3;generalize t.Modes.all Aq4=b4;generalize decide ((t.Ways.length:Int)>64)=b5;generalize t.Ways.all (B1d t)=b6;generalize decide ((t.Kinds.length:Int)>8)=b7;generalize (t.Kinds.all λk=>Bk1 k&&((k.Curfews.length:Int)==(t.Modes.length:Int)))=b8;cases b1<;>cases b2<;>cases b3<;>cases b4<;>cases b5<;>cases b6<;>cases b7<;>cases b8<;>rfl
structure Valid (t:Tables):Prop where
 way:∀w∈t.Ways,B1d t w=true
 kin:∀k∈t.Kinds,Bk1 k=true
def Ah1{ε:Type}{b:Nat->α->Unit->R (Unit ⊕ ε)}(f:α->Bool)(z:ε)(D:∀j a,b j a ()=.ok (if f a=true then .inl ()else .inr z)):∀(l:List α) (k:Nat),each b k l ()=.ok (if l.all f=true then .inl ()else .inr z)
 |[],_=>rfl
 |a::l,k=>by
  rw[Abg,D,R.ok_bind,DU];cases f a
  .rfl
  .exact Ah1 f z D l (k+1)
def Apf (n a b:Int):Oe n a b=.ok (M6 n a b):=rfl
def A91 (s:Sector):Aci s=.ok (if As4 s=true then .inl ()else .inr 140):=by
 unfold Aci As4;rw[Apf,R.ok_bind];cases M6 s.Radar 0 64
 .rfl
 .rw[if_neg (by decide),Apf,R.ok_bind];cases M6 s.Procedural 0 s.Radar<;>rfl
def A65 (l:List Int):Ae4 l=.ok (Aq4 l):=by
 unfold Ae4 Aq4;rw[Ah1 (b:=λ_ a=>λ_=>X1 a) (λn=>M6 n 0 64) false (λj a=>by show X1 a=_;unfold X1;rw[Apf,R.ok_bind];cases M6 a 0 64<;>rfl),R.ok_bind];cases l.all λn=>M6 n 0 64
 .rw[Bool.and_false];rfl
 .rw[Bool.and_true];rfl
def Ayl (l:List Span):Ad8 l=.ok (if l.all A2d=true then 0 else 50):=by unfold Ad8;rw[Ah1 (b:=λ_ a=>λ_=>Aay a) A2d 50 (λj a=>by show Aay a=_;unfold Aay Uk A2d;cases decide (a.From<0)<;>cases decide (a.From>=a.To)<;>cases decide (a.To>1440)<;>rfl),R.ok_bind];cases l.all A2d<;>rfl
def Bd7(l:List α):((l.length:Int)==0)=!decide ((l.length:Int)>0):=by
 cases l with
 |nil=>rfl
 |cons a l=>rw[DW (by simp only[BV];omega)];simp;omega
def Ban (t:Tables)(g:Leg):Aa4 t g=.ok (if B3p t g=true then .inl ()else .inr false):=by unfold Aa4 B3p;simp only[Apf,Ayl,R.ok_bind,Bd7];cases M6 g.Segment 0 127<;>cases M6 g.Volume 0 (IntKind.wrap .i64 (t.Volumes-1))<;>cases M6 g.Length 1 4096<;>cases decide ((g.Minutes.length:Int)>0)<;>cases g.Minutes.all A2d<;>rfl
def Bfk (t:Tables)(w:Way):Ah4 t w=.ok (B1d t w):=by unfold Ah4 B1d;rw[Ah1 (b:=λ_ a=>λ_=>Aa4 t a) (B3p t) false (λj a=>Ban t a)];simp only[Apf,R.ok_bind];unfold apB;cases M6 w.From 0 (IntKind.wrap .i64 ((t.Modes.length:Int)-1))<;>cases M6 w.To 0 (IntKind.wrap .i64 ((t.Modes.length:Int)-1))<;>cases M6 (w.Legs.length:Int) 1 8<;>cases w.Legs.all (B3p t)<;>rfl
def A7a (k:Kind):Aii k=.ok (if Bk1 k=true then 0 else 120):=by
 unfold Aii Bk1;rw[Ah1 (b:=λ_ a=>λ_=>Ab6 a) (λl:List Span=>l.all A2d) 120 (λj a=>by show Ab6 a=_;unfold Ab6;rw[Ayl,R.ok_bind];cases a.all A2d<;>rfl)];have e:((((((((((((decide (k.Slow<1))||(decide (k.Slow>64)))||(decide (k.Fast<k.Slow)))||(decide (k.Fast>64)))||(decide (k.Places<1)))||(decide (k.Places>8)))||(decide (k.Weight<1)))||(decide (k.Weight>8)))||(decide (k.Longest<0)))||(decide (k.Longest>60)))||((Int.tmod k.Longest 10)!=0))||(decide ((k.Curfews.length:Int)>16)))=!([(k.Slow,1,64),(k.Fast,k.Slow,64),(k.Places,1,8),(k.Weight,1,8),(k.Longest,0,60),((k.Curfews.length:Int),0,16)].all ok3&&!((Int.tmod k.Longest 10)!=0)):=by simp only[DU,List.all_nil,ok3,DZ (show ¬(k.Curfews.length:Int)<0 by omega)];cases decide (k.Slow<1)<;>cases decide (k.Slow>64)<;>cases decide (k.Fast<k.Slow)<;>cases decide (k.Fast>64)<;>simp[Bool.or_assoc,Bool.or_comm,Bool.or_left_comm]
 rw[e];generalize ([(k.Slow,1,64),(k.Fast,k.Slow,64),(k.Places,1,8),(k.Weight,1,8),(k.Longest,0,60),((k.Curfews.length:Int),0,16)].all ok3&&!((Int.tmod k.Longest 10)!=0))=b;cases b<;>cases(k.Curfews.all λl=>l.all A2d)<;>rfl
def A33 (t:Tables)(k:Kind):Ac2 t k=.ok (if(Bk1 k&&((k.Curfews.length:Int)==(t.Modes.length:Int)))=true then .inl ()else .inr 140):=by unfold Ac2;rw[A7a,R.ok_bind];unfold Aab;have e:((k.Curfews.length:Int)!=(t.Modes.length:Int))=!((k.Curfews.length:Int)==(t.Modes.length:Int)):=rfl;rw[e];cases Bk1 k<;>cases((k.Curfews.length:Int)==(t.Modes.length:Int))<;>rfl
def Bdm (t:Tables){e:Int}(G:N4 (Avj t)=.ok e):Ue t=.ok (if((((((M6 t.Volumes 1 64&&e==0)&&t.Sectors.all As4)&&!(decide ((t.Modes.length:Int)>16)))&&t.Modes.all Aq4)&&(!(decide ((t.Ways.length:Int)>64))&&t.Ways.all (B1d t)))&&(!(decide ((t.Kinds.length:Int)>8))&&t.Kinds.all λk=>Bk1 k&&((k.Curfews.length:Int)==(t.Modes.length:Int))))=true then 0 else 140):=by
 unfold Ue;have h1:((R0 t).bind λr=>(if(!r.2)then R.ok true else(N4 r.1).bind λr1=>R.ok (r1 !=0)))=.ok (!(M6 t.Volumes 1 64&&e==0)):=by
  unfold R0;rw[Apf,R.ok_bind];cases D:M6 t.Volumes 1 64 with
  |false=>rfl
  |true=>
   have O:t.Volumes>=1/\t.Volumes<=64:=by unfold M6 at D;simpa using D
   rw[if_pos rfl,if_pos (⟨by omega,EO _,Zl (by omega)⟩:(0:Int)<=t.Volumes/\(t.Volumes:Int)<=t.Volumes/\(Int.toNat t.Volumes)*40<=Bj),R.ok_bind];rw[show(({Volumes:=(List.replicate (Int.toNat t.Volumes) Auw),Sectors:=t.Sectors,Configs:=t.Configs,Segments:=[],Routes:=[],Airports:=[],Classes:=[],Rules:=[]}:Airspace),true)=(Avj t,true)from rfl];rw[if_neg (by simp)];show(N4 (Avj t)).bind _=_;rw[G,R.ok_bind,FW];rfl
 have h2:∀F:Bool->R Int,((R0 t).bind λr=>(if(!r.2)then R.ok true else(N4 r.1).bind λr1=>R.ok (r1 !=0)).bind F)=F (!(M6 t.Volumes 1 64&&e==0)):=λF=>by
  cases z:R0 t with
  |ok r=>rw[z,R.ok_bind]at h1;rw[R.ok_bind,h1,R.ok_bind]
  |pan v=>rw[z]at h1;cases h1
  |bad=>rw[z]at h1;cases h1
 rw[h2];rw[Ah1 (b:=λ_ a=>λ_=>Aci a) As4 140 (λj a=>A91 a)];rw[Ah1 (b:=λ_ a=>λ_=>Ac5 a) Aq4 140 (λj a=>by show Ac5 a=_;unfold Ac5;rw[A65,R.ok_bind];cases Aq4 a<;>rfl)];rw[Ah1 (b:=λ_ a=>λ_=>Abc t a) (B1d t) 140 (λj a=>by show Abc t a=_;unfold Abc;rw[Bfk,R.ok_bind];cases B1d t a<;>rfl)];rw[Ah1 (b:=λ_ a=>λ_=>Ac2 t a) (λk:Kind=>Bk1 k&&((k.Curfews.length:Int)==(t.Modes.length:Int))) 140 (λj a=>A33 t a)];generalize (M6 t.Volumes 1 64&&e==0)=b1;generalize t.Sectors.all As4=b2;generalize decide ((t.Modes.length:Int)>16)=b3;generalize t.Modes.all Aq4=b4;generalize decide ((t.Ways.length:Int)>64)=b5;generalize t.Ways.all (B1d t)=b6;generalize decide ((t.Kinds.length:Int)>8)=b7;generalize (t.Kinds.all λk=>Bk1 k&&((k.Curfews.length:Int)==(t.Modes.length:Int)))=b8;cases b1<;>cases b2<;>cases b3<;>cases b4<;>cases b5<;>cases b6<;>cases b7<;>cases b8<;>rfl
def Avb (l:List Int)(n:Int):Aeo l n=.ok (l.contains n):=by
 unfold Aeo;rw[Ah1 (b:=λ_ a=>λ_=>Afr n a) (λa=>!(a==n)) true (λj a=>by show Afr n a=_;unfold Afr;cases(a==n)<;>rfl),R.ok_bind];have:(l.all λa=>!(a==n))=!l.contains n:=by
  induction l with
  |nil=>rfl
  |cons a l z=>rw[DU,z,List.contains_cons,Bool.not_or,Bool.beq_comm]
 rw[this];cases l.contains n<;>rfl
def Ass (l:List Int)(n:Nat):Prop:=l.Nodup/\∀v∈l,0<=v/\v<(n:Int)
def Atr (l:List Int)(n:Nat):As (U9 l (n:Int)) λb=>b=true↔Ass l n:=by
 unfold U9;refine HX (I:=λ_=>Ass l n) (J:=λ(e:Bool)=>e=false/\¬Ass l n) ((Lu (λk (_:Unit)=>Ass (l.take k) n) (λ(e:Bool)=>e=false/\¬Ass l n) l 0 () (λj v u O S=>?_) ⟨by simp,λv X=>by simp at X⟩).mono λr hr=>?_) (λ_ h=>.ok ⟨λ_=>h,λ_=>rfl⟩) λe V=>.ok ⟨λh=>absurd (V.1.symm.trans h) (by decide),λh=>absurd h V.2⟩
 .rw[AE]at S ⊢;have D:=AH O;have Y:=A6 O;have et:l.take (j+1)=l.take j++[v]:=by rw[DB,O];rfl
  unfold Aja Pm;refine EC (λh=>.ok ⟨rfl,λg=>?_⟩) λh=>EC (λh'=>.ok ⟨rfl,λg=>?_⟩) λh'=>EN (by omega) ?_
  .have:=g.2 v D;simp only[BB]at h;omega
  .have:=g.2 v D;simp only[BB]at h';omega
  .rw[Avb,R.ok_bind,BI];simp only[BB]at h h';refine EC (λU=>.ok ⟨rfl,λg=>?_⟩) λU=>.ok ⟨?_,λu z=>?_⟩
   .have G:=g.1;rw[<-DH (j+1) l,et]at G;exact absurd rfl ((DF.1 (DF.1 G).1).2.2 _ (DP.1 U) _ (AM.2 rfl))
   .rw[et];refine DF.2 ⟨S.1,by simp,λx W y hy=>?_⟩;rintro rfl;rw[AM.1 hy]at W;exact U (DP.2 W)
   .rw[et]at z;rcases BG.1 z with z|z
    .exact S.2 u z
    .rw[AM.1 z];omega
 .cases r with
  |inl u=>have hr:Ass (l.take (0+l.length)) n:=hr;rwa[AE,DE]at hr
  |inr e=>exact hr
def Aws{k:Int}(h0:0<=k)(h1:k<(a.Sectors.length:Int)):∃s,idx a.Sectors k=.ok s/\s∈a.Sectors/\Aso a k=s.Volumes:=by
 obtain⟨w,rfl⟩:=BY h0;have hw:w<a.Sectors.length:=by omega
 exact⟨_,Zo (AA hw),BK hw,by unfold Aso;rw[BI,AA hw];rfl⟩
theorem Bdk(hs:∀s∈a.Sectors,SecOk a.Volumes.length s){c:Config}(h:ConOk a c):Ass c.Sectors a.Sectors.length:=by
 refine⟨?_,h.rg⟩;have:∀l:List Int,(∀k∈l,0≤k∧k<(a.Sectors.length:Int))→(l.flatMap (Aso a)).Nodup→l.Nodup:=by
  intro l;induction l with
  |nil=>intro _ _;exact GZ
  |cons k l ih=>intro hr hn;rw[EX]at hn;obtain⟨h1,h2,h3⟩:=DF.1 hn;refine DY.2 ⟨λhk=>?_,ih (λx hx=>hr x (BC _ hx)) h2⟩;obtain⟨s,_,hsm,hv⟩:=Aws (hr k (BE ..)).1 (hr k (BE ..)).2;obtain⟨v,hv'⟩:=HH _ (hs s hsm).ne;rw[←hv]at hv';exact h3 v hv' v (HS.2 ⟨k,hk,hv'⟩) rfl
 exact this _ h.rg h.nd
def A9q(S:∀s∈a.Sectors,SecOk a.Volumes.length s){c:Config}(hc:c.Sectors.length<=1000):As (Adj a c) λb=>b=true↔ConOk a c:=by
 unfold Adj;refine(Atr c.Sectors a.Sectors.length).bind λr hr=>EC (λh=>?_) λh=>.ok ⟨λh'=>(by cases h'),λh'=>absurd (hr.2 (Bdk S h')) h⟩;obtain⟨aa,z⟩:=hr.1 h;have one:ConOk a c->∀v:Int,0<=v->v<(a.Volumes.length:Int)->(c.Sectors.flatMap (Aso a)).count v=1:=λg v h0 h1=>by have e1:=List.nodup_iff_count.1 g.nd v;have e2:=List.count_pos_iff.2 (g.all v h0 h1);omega
 have U:∀(j:Nat),As (eachS (λ_ a2=>λn=>Adb a j a2 n) 0 c.Sectors 0) λn=>n=((c.Sectors.flatMap (Aso a)).count (j:Int):Int):=λj=>by
  refine(My (λi (n:Int)=>n=(((c.Sectors.take i).flatMap (Aso a)).count (j:Int):Int)/\n<=(i:Int)) c.Sectors 0 0 (λi k n hi D=>?_) ⟨by simp,by simp⟩).mono λn D=>by have:=D.1;rwa[AE,DE]at this
  rw[AE]at D ⊢;have ab:=A6 hi;obtain⟨s,h1,h2,h3⟩:=Aws (z k (AH hi)).1 (z k (AH hi)).2;have et:c.Sectors.take (i+1)=c.Sectors.take i++[k]:=by rw[DB,hi];rfl
  have ec:((c.Sectors.take (i+1)).flatMap (Aso a)).count (j:Int)=((c.Sectors.take i).flatMap (Aso a)).count (j:Int)+if(j:Int)∈s.Volumes then 1 else 0:=by rw[et,FF,List.count_append];simp[h3,(S s h2).nd.count]
  unfold Adb;rw[h1,R.ok_bind,Avb,R.ok_bind,ec];obtain⟨ac,ad⟩:=D;refine EC (λG=>.ok ?_) λG=>.ok ?_
  .rw[if_pos (DP.1 G),Ok (by omega) (by omega)];omega
  .rw[if_neg λh=>G (DP.2 h)];omega
 refine HX (I:=λ_=>ConOk a c) (J:=λ(e:Bool)=>e=false/\¬ConOk a c) ((Lu (λk (_:Unit)=>∀v:Int,0<=v->v<(k:Int)->(c.Sectors.flatMap (Aso a)).count v=1) (λ(e:Bool)=>e=false/\¬ConOk a c) a.Volumes 0 () (λj v u hj Y=>?_) (λv h0 h1=>by omega)).mono λr hr=>?_) (λ_ h=>.ok ⟨λ_=>h,λ_=>rfl⟩) λe he=>.ok ⟨λh=>absurd (he.1.symm.trans h) (by decide),λh=>absurd h he.2⟩
 .rw[AE]at Y ⊢;have ae:=A6 hj;unfold Ai2;refine(U j).bind λn D=>EC (λh=>.ok ⟨rfl,λg=>?_⟩) λh=>.ok λw h0 h1=>?_
  .rw[D,one g (j:Int) (by omega) (by omega)]at h;exact absurd h (by decide)
  .rcases Int.lt_or_le w (j:Int)with hw|hw
   .exact Y w h0 hw
   .have e:w=(j:Int):=by omega
    rw[D]at h
    rw[e]
    have h:((c.Sectors.flatMap (Aso a)).count (j:Int):Int)=1:=by simpa using h
    exact_mod_cast h
 .cases r with
  |inr e=>exact hr
  |inl u=>
   have hr:∀v:Int,0<=v->v<((0+a.Volumes.length:Nat):Int)->(c.Sectors.flatMap (Aso a)).count v=1:=hr;rw[AE]at hr;refine⟨z,List.nodup_iff_count.2 λv=>?_,λv h0 h1=>List.count_pos_iff.1 (by rw[hr v h0 h1];decide)⟩;by_cases V:0<=v/\v<(a.Volumes.length:Int)
   .rw[hr v V.1 V.2];exact AF _
   .have:(c.Sectors.flatMap (Aso a)).count v=0:=List.count_eq_zero.2 λG=>by
     obtain⟨k,hk,O⟩:=HS.1 G
     obtain⟨s,_,W,X⟩:=Aws (z k hk).1 (z k hk).2
     rw[X]at O
     exact V ((S s W).rg v O)
    rw[this];exact DA _
def Bc4 (a:Airspace)(W:∀c∈a.Configs,c.Sectors.length<=1000):As (N4 a) λe=>(e=0/\CGood a)\/(e=100/\¬CGood a):=by
 unfold N4;refine EC (λh=>.ok (.inr ⟨rfl,λg=>?_⟩)) λh=>?_
 .have:=g.v1;have:=g.v2;have:=g.s2;have:=g.c1;have:=g.c2;simp only[BU,BB]at h;omega
 simp only[BU,BB,not_or]at h;obtain⟨⟨⟨⟨h1,h2⟩,h3⟩,h4⟩,h5⟩:=h;refine HX (I:=λ_=>∀s∈a.Sectors,SecOk a.Volumes.length s) (J:=λ(e:Int)=>e=100/\¬CGood a) ((Lu (λk (_:Unit)=>∀s∈a.Sectors.take k,SecOk a.Volumes.length s) (λ(e:Int)=>e=100/\¬CGood a) a.Sectors 0 () (λj s u O R=>?_) (λs G=>by simp at G)).mono λr hr=>?_) (λ_ G=>?_) λe V=>.ok (.inr V)
 .rw[AE]at R ⊢;have D:=AH O;have et:a.Sectors.take (j+1)=a.Sectors.take j++[s]:=by rw[DB,O];rfl
  unfold Ama Abf;refine EC (λh=>.ok ⟨rfl,λg=>(g.sec s D).ne ?_⟩) λh=>(Atr s.Volumes a.Volumes.length).bind λr hr=>EC (λh'=>.ok ⟨rfl,λg=>?_⟩) λh'=>.ok λq z=>?_
  .cases X:s.Volumes with
   |nil=>rfl
   |cons x l=>rw[X]at h;simp at h;omega
  .have:r=true:=hr.2 ⟨(g.sec s D).nd,(g.sec s D).rg⟩;rw[this]at h';exact absurd h' (by decide)
  .rw[et]at z;rcases BG.1 z with z|z
   .exact R q z
   .rw[AM.1 z];obtain⟨g1,Y⟩:=hr.1 (by simpa using h');exact⟨λe=>h (by rw[e];rfl),g1,Y⟩
 .cases r with
  |inr e=>exact hr
  |inl u=>have hr:∀s∈a.Sectors.take (0+a.Sectors.length),SecOk a.Volumes.length s:=hr;rwa[AE,DE]at hr
 .refine HX (I:=λ_=>∀c∈a.Configs,ConOk a c) (J:=λ(e:Int)=>e=100/\¬CGood a) ((Lu (λk (_:Unit)=>∀c∈a.Configs.take k,ConOk a c) (λ(e:Int)=>e=100/\¬CGood a) a.Configs 0 () (λj c u O R=>?_) (λs G=>by simp at G)).mono λr hr=>?_) (λ_ S=>.ok (.inl ⟨rfl,by omega,by omega,by omega,by omega,by omega,G,S⟩)) λe V=>.ok (.inr V)
  .rw[AE]at R ⊢;have U:=AH O;have et:a.Configs.take (j+1)=a.Configs.take j++[c]:=by rw[DB,O];rfl
   unfold Al9;refine(A9q G (W c U)).bind λr hr=>EC (λh=>.ok λq z=>?_) λh=>.ok ⟨rfl,λg=>h (hr.2 (g.con c U))⟩;rw[et]at z;rcases BG.1 z with z|z
   .exact R q z
   .rw[AM.1 z];exact hr.1 h
  .cases r with
   |inr e=>exact hr
   |inl u=>have hr:∀c∈a.Configs.take (0+a.Configs.length),ConOk a c:=hr;rwa[AE,DE]at hr
def Bgp (a:Airspace)(z:∀c∈a.Configs,c.Sectors.length<=1000):N4 a=Sr a:=by
 obtain⟨e,D,h⟩:=Bc4 a z;obtain⟨f,hf,g⟩:=A1k a;rw[D,hf];rcases h with⟨rfl,h⟩|⟨rfl,h⟩<;>rcases g with⟨rfl,g⟩|⟨rfl,g⟩
 .rfl
 .exact absurd h g
 .exact absurd g h
 .rfl
def A9t (t:Tables)(z:∀c∈t.Configs,c.Sectors.length<=1000):Ue t=Ky t:=by obtain⟨e,h1,h2⟩:=A4t t;rw[h2,Bdm t ((Bgp (Avj t) z).trans h1)]
def Ayk (a:Airspace)(v:Int):∀(l:List Int) (k:Nat),each (λ_ z=>λ_=>Xc a v z) k l ()=each (λ_ z=>λ_=>Ahl a v z) k l ()
 |[],_=>rfl
 |s::l,k=>by
  rw[Abg,Abg,A5v];have:Xc a v s=if Ane a v s then .ok (.inr (s,true))else .ok (.inl ()):=by
   unfold Xc Q2 Ane;by_cases h0:s>=0
   .rw[if_pos (by simpa using h0),DW h0];by_cases h1:s<(a.Sectors.length:Int)
    .rw[if_pos (by simpa using h1),DW h1];obtain⟨q,g1,_,D⟩:=Aws h0 h1;rw[g1,R.ok_bind,Avb,R.ok_bind,D];rfl
    .rw[if_neg (by simpa using h1),DZ h1];rfl
   .rw[if_neg (by simpa using h0),DZ h0];rfl
  rw[this];cases Ane a v s
  .rw[if_neg (by decide),R.ok_bind];exact Ayk a v l (k+1)
  .rw[if_pos rfl,R.ok_bind,R.ok_bind]
def A3u (a:Airspace)(z v:Int):Afd a z v=Aek a z v:=by unfold Afd Aek;simp only[Ayk]
def A5k (t:Tables)(z v:Int):Ae6 t z v=Xh t z v:=by unfold Ae6 Xh;rw[A3u]
variable{b:Nat→α→Unit→R (Unit ⊕ Bool)}{P:Nat→α→Prop}
def B5g(D:∀j a,b j a ()=.ok (.inr false)\/(b j a ()=.ok (.inl ())/\P j a)):∀(l:List α) (k:Nat),
  each b k l ()=.ok (.inr false)\/(each b k l ()=.ok (.inl ())/\∀j a,l[j]?=some a->P (k+j) a)
 |[],k=>.inr ⟨rfl,λj a h=>by simp at h⟩
 |a::l,k=>by
  rcases D k a with h|⟨h,G⟩
  .left;rw[Abg,h];rfl
  .rcases B5g D l (k+1)with h2|⟨h2,O⟩
   .left;rw[Abg,h];exact h2
   .refine .inr ⟨by rw[Abg,h];exact h2,λj x z=>?_⟩;cases j with
    |zero=>simp at z;subst z;exact G
    |succ j=>have:=O j x (by simpa using z);rwa[show k+(j+1)=k+1+j by omega]
def B1u(z:∀j a,b j a ()=.ok (.inr false)\/(b j a ()=.ok (.inl ())/\P j a))(l:List α){g:Unit->R Bool}{Q:Prop}(D:(∀j a,l[j]?=some a->P j a)->As (g ()) λr=>r=true->Q):As ((each b 0 l ()).bind (alt g (λr=>.ok r))) λr=>r=true->Q:=by
 rcases B5g z l 0 with h|⟨h,G⟩
 .rw[h];exact .ok λh=>by cases h
 .rw[h];exact D λj a O=>by have:=G j a O;rwa[AE]at this
variable{p:Nat→α→Bool}
def B3a(z:∀j a,b j a ()=if p j a=true then .ok (.inr false)else .ok (.inl ()))(j:Nat)(a:α):b j a ()=.ok (.inr false)\/(b j a ()=.ok (.inl ())/\p j a=false):=by
 rw[z];cases p j a with
 |true=>exact .inl rfl
 |false=>exact .inr ⟨rfl,rfl⟩
def B7m{c:Nat->α->Unit->R (Unit ⊕ Bool)}(l:List α)(z:∀j a,c j a ()=if p j a=true then .ok (.inr false)else .ok (.inl ())):
  (each c 0 l ()).bind (alt (λ_=>.ok (.inl ())) (λr=>.ok (.inr r)))=(.ok (.inr false):R (Unit ⊕ Bool))\/((each c 0 l ()).bind (alt (λ_=>.ok (.inl ())) (λr=>.ok (.inr r)))=(.ok (.inl ()):R (Unit ⊕ Bool))/\∀j a,l[j]?=some a->p j a=false):=by
 rcases B5g (B3a z) l 0 with h|⟨h,D⟩
 .left;rw[h];rfl
 .exact .inr ⟨by rw[h];rfl,λj a G=>by have:=D j a G;rwa[AE]at this⟩
def ten{l:List α}{q:α->Bool}(h:∀(j:Nat) a,l[j]?=some a->(decide ((j:Int)>=10)||q a)=false):l.length<=10/\∀a∈l,q a=false:=by
 constructor
 .rcases CI 10 l.length with h1|h1
  .have:=h 10 l[10] (AA h1);simp at this
  .exact h1
 .intro a z;obtain⟨j,D⟩:=DI.1 z;have:=h j a D;simp only[Bool.or_eq_false_iff]at this;exact this.2
def B8o (t:Tables):As (Bli t) λb=>b=true->TabF t:=by
 unfold Bli;refine B1u (P:=λ_ (a:Way)=>∀(j:Nat) g,a.Legs[j]?=some g->(decide ((j:Int)>=10)||decide ((g.Minutes.length:Int)>10))=false) (λj a=>B7m a.Legs λ_ _=>rfl) t.Ways λh1=>?_;refine B1u (P:=λ_ (a:Kind)=>∀(j:Nat) g,a.Curfews[j]?=some g->(decide ((j:Int)>=10)||decide ((g.length:Int)>10))=false) (λj a=>B7m a.Curfews λ_ _=>rfl) t.Kinds λh2=>?_;refine B1u (B3a (p:=λ_ a=>decide ((a.length:Int)>20)) λj a=>by simp only[Bmy,BB]) t.Modes λS=>?_;refine ES (p:=λb=>b=true->(t.Sectors.length<=12/\(∀x∈t.Sectors,x.Volumes.length<=10))/\t.Configs.length<=7/\∀x∈t.Configs,x.Sectors.length<=10) ?_ λb G=>.ok λh=>?_
 .refine EC (λ_=>?_) λ_=>.ok λh=>by cases h
  refine ES (p:=λb=>b=true->(t.Sectors.length<=12/\(∀x∈t.Sectors,x.Volumes.length<=10))/\t.Configs.length<=7/\∀x∈t.Configs,x.Sectors.length<=10) ?_ λb G=>.ok G
  unfold Af5
  refine B1u (B3a (p:=λ_ a=>decide ((a.Volumes.length:Int)>10)) λj a=>by simp only[Aiv,BB]) _ λU=>?_
  refine B1u (B3a (p:=λ_ a=>decide ((a.Sectors.length:Int)>10)) λj a=>by simp only[Aka,BB]) _ λV=>.ok λh=>?_
  simp only[AK,BB]at h
  refine⟨⟨by omega,λx z=>?_⟩,by omega,λx z=>?_⟩
  .obtain⟨j,D⟩:=DI.1 z;have:=U j x D;simp only[DJ]at this;omega
  .obtain⟨j,D⟩:=DI.1 z;have:=V j x D;simp only[DJ]at this;omega
 .simp only[AK,BB]at h;obtain⟨⟨⟨O,h6⟩,h7⟩,h8⟩:=h;obtain⟨⟨W,X⟩,Y,q4⟩:=G O;refine⟨W,X,Y,q4,by omega,λx z=>?_,by omega,λx z=>?_,by omega,λx z=>?_⟩
  .obtain⟨j,D⟩:=DI.1 z;obtain⟨a,b⟩:=ten (h1 j x D);exact⟨a,λg R=>by have:=b g R;simp only[DJ]at this;omega⟩
  .obtain⟨j,D⟩:=DI.1 z;have:=S j x D;simp only[DJ]at this;omega
  .obtain⟨j,D⟩:=DI.1 z;obtain⟨a,b⟩:=ten (h2 j x D);exact⟨a,λg R=>by have:=b g R;simp only[DJ]at this;omega⟩
def Nv {n:Int}(h:(Cj .i64).good n):Y6 n:=by have h:(Lit.int .i64 n).wf=true:=h;simp[Lit.wf,IntKind.min,IntKind.max,IntKind.bits,IntKind.signed]at h;unfold Y6;omega
def Bcz(h:B0t.good t):RngT t:=by
 obtain⟨h1,h2,V,W,X,Y,_⟩:=h;refine⟨Nv h1,λx z=>?_,λx z v D=>?_,λx z=>?_,λx z v D=>Nv (X x z v D),λx z=>?_⟩
 .obtain⟨_,_,g1,G,g3,_⟩:=h2 x z;exact⟨λv D=>Nv (g1 v D),Nv G,Nv g3⟩
 .obtain⟨_,_,g1,_⟩:=V x z;exact Nv (g1 v D)
 .obtain⟨g1,G,g3,_⟩:=W x z;refine⟨Nv g1,Nv G,λg hg=>?_⟩;obtain⟨q1,q2,q3,R,_⟩:=g3 g hg;exact⟨Nv q1,Nv q2,Nv q3,λs O=>⟨Nv (R s O).1,Nv (R s O).2.1⟩⟩
 .obtain⟨g1,G,g3,g4,g5,S,_⟩:=Y x z;exact⟨Nv g1,Nv G,Nv g3,Nv g4,Nv g5,λl U s O=>⟨Nv (S l U s O).1,Nv (S l U s O).2.1⟩⟩
def A1q (t:Tables)(h:TabF t)(hr:RngT t)(z:Ue t=.ok 0)(D:EB 16 2162388 (Avn t)):Up t=.ok (Bah t,0):=by unfold Up;obtain⟨r,h1,h2,G,O⟩:=A1j D (Bdh hr) (by decide);rw[z,R.ok_bind,if_neg (by decide),Azn t h,R.ok_bind,h1,R.ok_bind,A1g _ _ (by decide) (by omega),R.ok_bind,G];rfl
def law_AirspaceCheckSpec (V:Acu=.ok true):M7:=by
 intro t z v W _ _ X;unfold Ov;rw[V,R.ok_bind,if_pos rfl];obtain⟨b,Y,D⟩:=B8o t;rw[Y,R.ok_bind];cases b with
 |false=>rfl
 |true=>
  have D:=D rfl;have O:=A9t t λc O=>by have:=D.cs c O;omega
  rw[if_pos rfl];obtain⟨e,G,_⟩:=A7g t;have hd:Xo t=Up t:=by
   by_cases h0:e=0
   .subst h0;rw[(Aw2 t D G).1,A1q t D (Bcz W) (O.trans G) (Aw2 t D G).2]
   .unfold Xo Up;rw[O,G,R.ok_bind,R.ok_bind,if_pos (by simpa using h0),if_pos (by simpa using h0)];rfl
  obtain⟨d,S,_⟩:=B5f t D G;obtain⟨s,U⟩:∃s,Xh t z v=.ok s:=by unfold Xh;rw[A1n,R.ok_bind];exact⟨_,rfl⟩
  rw[<-hd,S,R.ok_bind,R.ok_bind,A5k,U,R.ok_bind,R.ok_bind,O,G];simp
def law14_sane_ok:Acu=.ok true:=by kernel_rfl
end Go.Am

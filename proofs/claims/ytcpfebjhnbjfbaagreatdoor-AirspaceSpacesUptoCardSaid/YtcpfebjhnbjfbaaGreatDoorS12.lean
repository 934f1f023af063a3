import Derived.Test.YtcpfebjhnbjfbaaGreatDoorS11
import Derived.Test.YtcpfebjhnbjfbaaGreatDoorRows
import Derived.Test.YtcpfebjhnbjfbaaGreatDoorCards
import Derived.Test.YtcpfebjhnbjfbaaGreatDoorTie
import Derived.SevenTiedAt
import Derived.LaidSub
set_option linter.all false
set_option maxHeartbeats 4000000
set_option maxRecDepth 100000
open Go.Proofs.Tryz
namespace Go.Am
open Go Go.Proofs Go.Proofs.Tryz
abbrev CI:=@List.getElem?_eq_some_iff
abbrev CN:=@List.takeWhile_cons
abbrev CV:=@beq_eq_false_iff_ne
abbrev DK:=@of_decide_eq_true
abbrev DM:=@decide_eq_true
abbrev DV:=@List.forall_mem_cons
abbrev DW:=@Int.le_refl
abbrev ER:=@decide_eq_false
abbrev FW:=@List.contains_cons
abbrev GU:=@Bool.or_false
abbrev HD:=@List.countP_le_length
abbrev HJ:=@Nat.testBit_two_pow
abbrev HN:=@Bool.false_and
abbrev HU:=@List.mem_replicate
abbrev HW:=@List.sum_cons
abbrev HY:=@List.nodup_append
abbrev HZ:=@List.contains_nil
abbrev IG:=@Nat.sub_le
abbrev IM:=@LR.one
abbrev IN:=@List.set_set
abbrev IP:=@List.suffix_refl
abbrev IR:=@Nat.testBit_and
abbrev IU:=@Nat.mul_le_mul
attribute [local irreducible] WR WO WP WU Nu
instance Bi7:CP prog 8 [] (Acu) AV.bool:=by
 refine ci 157 8 func8 Acu.eq_1 λh0 ids hI hF=>Ah<|Cm (.B false)<|Ad<|Ah<|oc ((A8g [118,111,108,117,109,101,32,118,59,32,115,101,99,116,111,114,32,115,32,61,32,118,32,114,97,100,97,114,32,52,32,112,114,111,99,101,100,117,114,97,108,32,50,59,32,99,111,110,102,105,103,32,99,32,61,32,115,59,32,115,101,103,109,101,110,116,32,103,32,105,110,32,118,32,108,101,110,103,116,104,32,53,48,32,111,112,101,110,32,48,32,116,111,32,54,48,48,59,32,97,105,114,112,111,114,116,32,112,32,109,111,100,101,32,109,32,57,59,32,97,105,114,112,111,114,116,32,113,32,109,111,100,101,32,109,32,51,59,32,114,111,117,116,101,32,114,32,102,114,111,109,32,112,32,116,111,32,113,32,118,105,97,32,103,59,32,99,108,97,115,115,32,107,32,115,108,111,119,32,53,32,102,97,115,116,32,49,48,32,112,108,97,99,101,115,32,50,59,32,99,117,114,102,101,119,32,107,32,97,116,32,113,32,48,32,116,111,32,51,48,48,59,32,119,101,105,103,104,116,32,107,32,51,59]) _) λr _=>Ao 4 [] [(29,.I r.2.2),(28,.I r.2.1),(27,.A (B9 r.1))]<|D9 0 Az3.eq λg=>Gk (.A (B9 r.1)) ?_;refine Ao 2 [] [(3,.I r.2.2),(2,.I r.2.1)]<|Ad<|Bv ?_;refine Ah<|oc ((A8g []) _) λr1 _=>Ao 4 [] [(34,.I r1.2.2),(33,.I r1.2.1),(32,.A (B9 r1.1))]<|D9 1 Az3.eq λg1=>Gk (.A (B9 r1.1)) ?_;refine Ao 2 [] [(6,.I r1.2.2)]<|Ad<|Bv ?_;refine Ah<|oc ((A8g [118,111,108,117,109,101]) _) λr2 _=>Ao 4 [] [(39,.I r2.2.2),(38,.I r2.2.1),(37,.A (B9 r2.1))]<|D9 2 Az3.eq λg2=>Gk (.A (B9 r2.1)) ?_;refine Ao 2 [] [(9,.I r2.2.2),(8,.I r2.2.1)]<|Ad<|Bv ?_;refine Ah<|oc ((A8g [118,111,108,117,109,101,32,118,32,99,108,111,115,101,100,32,48,32,116,111,32,49,52,52,48,59,32,115,101,99,116,111,114,32,115,32,61,32,118,32,114,97,100,97,114,32,52,32,112,114,111,99,101,100,117,114,97,108,32,50,59,32,99,111,110,102,105,103,32,99,32,61,32,115,59,32,115,101,103,109,101,110,116,32,103,32,105,110,32,118,32,108,101,110,103,116,104,32,53,48,59]) _) λA _=>Ao 4 [] [(44,.I A.2.2),(43,.I A.2.1),(42,.A (B9 A.1))]<|D9 3 Az3.eq λg3=>Gk (.A (B9 A.1)) ?_;refine Ao 2 [] [(12,.I A.2.2)]<|Ad<|Bv ?_;refine Ah<|Bl (.A [.emp,.emp,.emp,.emp,.emp,.emp,.emp,.emp])<|oc (λhb=>FL (.cons (.aggL (.cons (.emp _) (.cons (.emp _) (.cons (.emp _) (.cons (.emp _) (.cons (.emp _) (.cons (.emp _) (.cons (.emp _) (.cons (.emp _) .nil))))))))) .nil) ((Arv ({Volumes:=[],Sectors:=[],Configs:=[],Segments:=[],Routes:=[],Airports:=[],Classes:=[],Rules:=[]}:Airspace)) _ hb)) λr4 _=>Ao 3 [] [(49,.I r4.2),(48,.A (B9 r4.1))]<|D9 4 Az3.eq λg4=>Gk (.A (B9 r4.1)) ?_;refine Cm (.I r4.2)<|Ad<|Bv ?_;refine Ah<|Ao 1 [0] [(51,.A (B9 r.1))]<|oc ((Aq0 r.1 0 0) _) λz _=>Ao 5 [] [(16,.B z.2),(15,.I z.1)]<|Ad<|Ah<|Bl (.A [.I 0,.emp,.emp,.emp,.emp,.emp])<|oc (λhb=>FL (.cons (.aggL (.s (.cons (.emp _) (.cons (.emp _) (.cons (.emp _) (.cons (.emp _) (.cons (.emp _) .nil))))))) .s2) ((Aq0 ({Volumes:=0,Sectors:=[],Configs:=[],Ways:=[],Modes:=[],Kinds:=[]}:Tables) 0 0) _ hb)) λr6 _=>Ao 5 [] [(18,.B r6.2)]<|Ad<|Ah<|Ao 1 [0] [(61,.A (B9 r.1))]<|oc ((Af1 r.1) _) λD _=>Ao 3 [] [(64,.I D.2),(63,.A (rU D.1))]<|O0 (j:=5) (row:=(rU (G3 32 0))) hI O O O O Bwb.eq (Wm (n:=32) (e:=(rI .u8)) (E:=(AV.int .u8)) (λ_=>O) _).symm ((Oz (λx=>Dw x) O) _) λg5=>Cw (Hm (v:=(.A (rU D.1))) hI O O O Bwb.eq O O O (((Oz (λx=>Dw x) O) _).1) O)<|Cm (.I D.2)<|Ad ?_;refine Bv ?_;refine Ah<|Bl (.A [.I 0,.I 600])<|Ch (e:=Ax) (L:=[({From:=0,To:=600}:Span)]) (st:=2) (rows:=[[.I 0,.I 600]]) O Ot.eq Byj.eq O O O O O (.cons .s2 .nil) (λx=>Gu x) O O<|Cm (.L 2 Ax [({From:=0,To:=600}:Span)])<|Ad<|Ah<|Ch (e:=rJ) (L:=[0]) (st:=1) (rows:=[[.I 0]]) O Byu.eq Dn.eq O O O O O (.cons (AC _) .nil) (λx=>Dw x) O O<|Bl (.A [.str [],.emp,.K [0],.I 4,.I 2])<|Ch (e:=Br) (L:=[({Name:=[],Names:=[],Volumes:=[0],Radar:=4,Procedural:=2}:Sector)]) (st:=5) (rows:=[[.str [],.emp,.K [0],.I 4,.I 2]]) O Tt.eq Bxl.eq O O O O O (.cons (.s (.cons (.emp _) (.s .s2))) .nil) (λx=>Vs x) O O<|Ch (e:=rJ) (L:=[0]) (st:=1) (rows:=[[.I 0]]) O Byu.eq Dn.eq O O O O O (.cons (AC _) .nil) (λx=>Dw x) O O<|Bl (.A [.str [],.emp,.K [0]])<|Ch (e:=Bz) (L:=[({Name:=[],Names:=[],Sectors:=[0]}:Config)]) (st:=3) (rows:=[[.str [],.emp,.K [0]]]) O Xv.eq Bx3.eq O O O O O (.cons (.s (.cons (.emp _) .s1)) .nil) (λx=>Vp x) O O<|Ao 2 [] [(74,.A [.I 0,.I 0,.I 50,.L 2 Ax [({From:=0,To:=600}:Span)]])]<|Ch (e:=If) (L:=[({Segment:=0,Volume:=0,Length:=50,Minutes:=[({From:=0,To:=600}:Span)]}:Leg)]) (st:=4) (rows:=[[.I 0,.I 0,.I 50,.L 2 Ax [({From:=0,To:=600}:Span)]]]) O Bxi.eq Bxq.eq O O O O O (.cons (.s (.s .s2)) .nil) (λx=>A1z x) O O<|Bl (.A [.I 0,.I 1,.L 4 If [({Segment:=0,Volume:=0,Length:=50,Minutes:=[({From:=0,To:=600}:Span)]}:Leg)]])<|Ch (e:=Ks) (L:=[({From:=0,To:=1,Legs:=[({Segment:=0,Volume:=0,Length:=50,Minutes:=[({From:=0,To:=600}:Span)]}:Leg)]}:Way)]) (st:=3) (rows:=[[.I 0,.I 1,.L 4 If [({Segment:=0,Volume:=0,Length:=50,Minutes:=[({From:=0,To:=600}:Span)]}:Leg)]]]) O B0m.eq Byb.eq O O O O O (.cons (.s .s2) .nil) (λx=>Azs x) O O<|Ch (e:=rJ) (L:=[9]) (st:=1) (rows:=[[.I 9]]) O Byu.eq Dn.eq O O O O O (.cons (AC _) .nil) (λx=>Dw x) O O<|Ch (e:=rJ) (L:=[3]) (st:=1) (rows:=[[.I 3]]) O Byu.eq Dn.eq O O O O O (.cons (AC _) .nil) (λx=>Dw x) O O<|Ch (e:=(rL 1 rJ)) (L:=[[9],[3]]) (st:=1) (rows:=[[.K [9]],[.K [3]]]) O Bxg.eq Byu.eq O O O O O (.cons (AC _) (.cons (AC _) .nil)) (λx=>Ate x) O O ?_;refine Bl (.A [.I 0,.I 300])<|Ch (e:=Ax) (L:=[({From:=0,To:=300}:Span)]) (st:=2) (rows:=[[.I 0,.I 300]]) O Ot.eq Byj.eq O O O O O (.cons .s2 .nil) (λx=>Gu x) O O<|Ch (e:=(rL 2 Ax)) (L:=[[],[({From:=0,To:=300}:Span)]]) (st:=1) (rows:=[[.emp],[.L 2 Ax [({From:=0,To:=300}:Span)]]]) O B2k.eq Ot.eq O O O O O (.cons (.cons (.emp _) .nil) (.cons (AC _) .nil)) (λx=>Ate x) O O<|Bl (.A [.I 5,.I 10,.I 2,.I 3,.I 60,.L 1 (rL 2 Ax) [[],[({From:=0,To:=300}:Span)]]])<|Ch (e:=Gi) (L:=[({Slow:=5,Fast:=10,Places:=2,Weight:=3,Longest:=60,Curfews:=[[],[({From:=0,To:=300}:Span)]]}:Kind)]) (st:=6) (rows:=[[.I 5,.I 10,.I 2,.I 3,.I 60,.L 1 (rL 2 Ax) [[],[({From:=0,To:=300}:Span)]]]]) O Byi.eq Byg.eq O O O O O (.cons (.s (.s (.s (.s .s2)))) .nil) (λx=>Awg x) O O<|Bl (.A [.I 1,.L 5 Br [({Name:=[],Names:=[],Volumes:=[0],Radar:=4,Procedural:=2}:Sector)],.L 3 Bz [({Name:=[],Names:=[],Sectors:=[0]}:Config)],.L 3 Ks [({From:=0,To:=1,Legs:=[({Segment:=0,Volume:=0,Length:=50,Minutes:=[({From:=0,To:=600}:Span)]}:Leg)]}:Way)],.L 1 (rL 1 rJ) [[9],[3]],.L 6 Gi [({Slow:=5,Fast:=10,Places:=2,Weight:=3,Longest:=60,Curfews:=[[],[({From:=0,To:=300}:Span)]]}:Kind)]])<|D9 6 Az3.eq λg6=>Gk (.A [.I 1,.L 5 Br [({Name:=[],Names:=[],Volumes:=[0],Radar:=4,Procedural:=2}:Sector)],.L 3 Bz [({Name:=[],Names:=[],Sectors:=[0]}:Config)],.L 3 Ks [({From:=0,To:=1,Legs:=[({Segment:=0,Volume:=0,Length:=50,Minutes:=[({From:=0,To:=600}:Span)]}:Leg)]}:Way)],.L 1 (rL 1 rJ) [[9],[3]],.L 6 Gi [({Slow:=5,Fast:=10,Places:=2,Weight:=3,Longest:=60,Curfews:=[[],[({From:=0,To:=300}:Span)]]}:Kind)]]) ?_;refine Ad<|Bv ?_;refine Ah<|Ao 1 [6] [(88,.A [.I 1,.L 5 Br [({Name:=[],Names:=[],Volumes:=[0],Radar:=4,Procedural:=2}:Sector)],.L 3 Bz [({Name:=[],Names:=[],Sectors:=[0]}:Config)],.L 3 Ks [({From:=0,To:=1,Legs:=[({Segment:=0,Volume:=0,Length:=50,Minutes:=[({From:=0,To:=600}:Span)]}:Leg)]}:Way)],.L 1 (rL 1 rJ) [[9],[3]],.L 6 Gi [({Slow:=5,Fast:=10,Places:=2,Weight:=3,Longest:=60,Curfews:=[[],[({From:=0,To:=300}:Span)]]}:Kind)]])]<|oc (λhb=>FL (.cons (.aggL (.s (.s (.s (.s .s2))))) .nil) ((Af1 ({Volumes:=1,Sectors:=[({Name:=[],Names:=[],Volumes:=[0],Radar:=4,Procedural:=2}:Sector)],Configs:=[({Name:=[],Names:=[],Sectors:=[0]}:Config)],Ways:=[({From:=0,To:=1,Legs:=[({Segment:=0,Volume:=0,Length:=50,Minutes:=[({From:=0,To:=600}:Span)]}:Leg)]}:Way)],Modes:=[[9],[3]],Kinds:=[({Slow:=5,Fast:=10,Places:=2,Weight:=3,Longest:=60,Curfews:=[[],[({From:=0,To:=300}:Span)]]}:Kind)]}:Tables)) _ hb)) λR _=>Ao 3 [] [(91,.I R.2),(90,.A (rU R.1))]<|O0 (j:=7) (row:=(rU (G3 32 0))) hI O O O O Bwb.eq (Wm (n:=32) (e:=(rI .u8)) (E:=(AV.int .u8)) (λ_=>O) _).symm ((Oz (λx=>Dw x) O) _) λg7=>Cw (Hm (v:=(.A (rU R.1))) hI O O O Bwb.eq O O O (((Oz (λx=>Dw x) O) _).1) O)<|Cm (.I R.2)<|Ad<|Bv ?_;refine Ah<|Ao 3 [] [(94,.B (r.2.2==0))]<|Oc 3 94 97 [1,6,8,9,12,14,15,16,18,19,20,22,23,24] (.B ((r.2.2==0)&&(r.2.1==0))) O ?_ (λaf _ hJ=>?_) (λaf _ hJ=>?_)
 ·refine Bp (.B ((r.2.2==0)&&(r.2.1==0)))<|G9 4 98 102 [1,6,8,9,12,14,15,16,18,19,20,23,24] .bool O ?_ (λay _ ag=>?_) (λay _ ag=>?_)
  ·intro b;refine Bp (.B b)<|Oc 3 103 106 [1,8,9,12,14,15,16,18,19,20,23,24] (.B (b&&(r1.2.2==100))) O ?_ (λah _ ai=>?_) (λah _ ai=>?_)
   ·refine Bp (.B (b&&(r1.2.2==100)))<|Oc 3 107 110 [1,8,12,14,15,16,18,19,20,23,24] (.B ((b&&(r1.2.2==100))&&(r2.2.2==80))) O ?_ (λaj _ ak=>?_) (λaj _ ak=>?_)
    ·refine Bp (.B ((b&&(r1.2.2==100))&&(r2.2.2==80)))<|Oc 3 111 114 [1,12,14,15,16,18,19,20,23,24] (.B (((b&&(r1.2.2==100))&&(r2.2.2==80))&&(r2.2.1==6))) O ?_ (λal _ am=>?_) (λal _ am=>?_)
     ·refine Bp (.B (((b&&(r1.2.2==100))&&(r2.2.2==80))&&(r2.2.1==6)))<|Oc 3 115 118 [1,14,15,16,18,19,20,23,24] (.B ((((b&&(r1.2.2==100))&&(r2.2.2==80))&&(r2.2.1==6))&&(A.2.2==110))) O ?_ (λS _ an=>?_) (λS _ an=>?_)
      ·refine Bp (.B ((((b&&(r1.2.2==100))&&(r2.2.2==80))&&(r2.2.1==6))&&(A.2.2==110)))<|Oc 3 119 122 [1,15,16,18,19,20,23,24] (.B (((((b&&(r1.2.2==100))&&(r2.2.2==80))&&(r2.2.1==6))&&(A.2.2==110))&&(r4.2==100))) O ?_ (λT _ ao=>?_) (λT _ ao=>?_)
       ·refine Bp (.B (((((b&&(r1.2.2==100))&&(r2.2.2==80))&&(r2.2.1==6))&&(A.2.2==110))&&(r4.2==100)))<|Oc 2 123 125 [1,15,18,19,20,23,24] (.B ((((((b&&(r1.2.2==100))&&(r2.2.2==80))&&(r2.2.1==6))&&(A.2.2==110))&&(r4.2==100))&&z.2)) O ?_ (λU _ ap=>?_) (λU _ ap=>?_)
        ·refine Bp (.B ((((((b&&(r1.2.2==100))&&(r2.2.2==80))&&(r2.2.1==6))&&(A.2.2==110))&&(r4.2==100))&&z.2))<|Oc 3 126 129 [1,18,19,20,23,24] (.B (((((((b&&(r1.2.2==100))&&(r2.2.2==80))&&(r2.2.1==6))&&(A.2.2==110))&&(r4.2==100))&&z.2)&&(z.1==0))) O ?_ (λV _ aq=>?_) (λV _ aq=>?_)
         ·refine Bp (.B (((((((b&&(r1.2.2==100))&&(r2.2.2==80))&&(r2.2.1==6))&&(A.2.2==110))&&(r4.2==100))&&z.2)&&(z.1==0)))<|Oc 3 130 133 [1,19,20,23,24] (.B ((((((((b&&(r1.2.2==100))&&(r2.2.2==80))&&(r2.2.1==6))&&(A.2.2==110))&&(r4.2==100))&&z.2)&&(z.1==0))&&(!r6.2))) O ?_ (λW _ ar=>?_) (λW _ ar=>?_)
          ·refine Bp (.B ((((((((b&&(r1.2.2==100))&&(r2.2.2==80))&&(r2.2.1==6))&&(A.2.2==110))&&(r4.2==100))&&z.2)&&(z.1==0))&&(!r6.2)))<|Oc 3 134 137 [1,19,23,24] (.B (((((((((b&&(r1.2.2==100))&&(r2.2.2==80))&&(r2.2.1==6))&&(A.2.2==110))&&(r4.2==100))&&z.2)&&(z.1==0))&&(!r6.2))&&(D.2==0))) O ?_ (λX _ Y=>?_) (λX _ Y=>?_)
           ·refine Bp (.B (((((((((b&&(r1.2.2==100))&&(r2.2.2==80))&&(r2.2.1==6))&&(A.2.2==110))&&(r4.2==100))&&z.2)&&(z.1==0))&&(!r6.2))&&(D.2==0)))<|Oc 3 138 141 [1,19,23] (.B ((((((((((b&&(r1.2.2==100))&&(r2.2.2==80))&&(r2.2.1==6))&&(A.2.2==110))&&(r4.2==100))&&z.2)&&(z.1==0))&&(!r6.2))&&(D.2==0))&&(R.2==0))) O ?_ (λZ _ aa=>?_) (λZ _ aa=>?_)
            ·refine Bp (.B ((((((((((b&&(r1.2.2==100))&&(r2.2.2==80))&&(r2.2.1==6))&&(A.2.2==110))&&(r4.2==100))&&z.2)&&(z.1==0))&&(!r6.2))&&(D.2==0))&&(R.2==0)))<|Oc 4 142 146 [1] (.B (((((((((((b&&(r1.2.2==100))&&(r2.2.2==80))&&(r2.2.1==6))&&(A.2.2==110))&&(r4.2==100))&&z.2)&&(z.1==0))&&(!r6.2))&&(D.2==0))&&(R.2==0))&&(D.1==R.1))) O ?_ (λab _ ac=>?_) (λab _ ac=>?_)
             ·refine Bp (.B (((((((((((b&&(r1.2.2==100))&&(r2.2.2==80))&&(r2.2.1==6))&&(A.2.2==110))&&(r4.2==100))&&z.2)&&(z.1==0))&&(!r6.2))&&(D.2==0))&&(R.2==0))&&(D.1==R.1)))<|G9 4 147 151 [] .bool O ?_ (λau _ ad=>?_) (λau _ ad=>?_)
              ·intro b1;refine Bp (.B b1)<|G9 4 152 156 [] .bool O ?_ (λav _ ae=>?_) (λav _ ae=>?_)
               ·intro b2;refine Cm (.B b2)<|Ad<|rt
               ·refine F5 (tj:=152) (.A [.I 0,.emp,.emp,.emp,.emp,.emp]) O O O (Ai4 (A6y Az3.eq Ca1.eq O))<|oc (λhb=>FL (.cons (.aggL (.s (.cons (.emp _) (.cons (.emp _) (.cons (.emp _) (.cons (.emp _) (.cons (.emp _) .nil))))))) .nil) ((Ahn ({Volumes:=0,Sectors:=[],Configs:=[],Ways:=[],Modes:=[],Kinds:=[]}:Tables)) _ hb)) λaw _=>Ao 2 [] [(156,.B (aw==140))]<|A6m (ae (aw==140))
               refine Ao 4 [] [(156,.B false)]<|A6m (ae false)
              ·refine Ao 1 [0] [(148,.A (B9 r.1))]<|oc ((Ahn r.1) _) λax _=>Ao 2 [] [(151,.B (ax==0))]<|A6m (ad (ax==0))
              refine Ao 4 [] [(151,.B false)]<|A6m (ad false)
             ·refine Ao 2 [5,7] [(144,.A (rU R.1)),(143,.A (rU D.1))]<|F5 (tj:=142) (.B (D.1==R.1)) O O O (Bb (B2c O O) O (Bhb Bwb.eq Ln.eq))<|Bl (.B (D.1==R.1))<|Ib ac (.r (.cons (Afb ab) .nil))
             refine Ao 4 [] [(146,.B false)]<|Ib ac (.r (.cons (Afc ab) .nil))
            ·refine Ao 3 [] [(141,.B (R.2==0))]<|Ib aa (.r2 (.r (.cons (Afb Z) .nil)))
            refine Ao 3 [] [(141,.B false)]<|Ib aa (.r2 (.r (.cons (Afc Z) .nil)))
           ·refine Ao 3 [] [(137,.B (D.2==0))]<|Ib Y (.r4 (.cons (Afb X) .nil))
           refine Ao 3 [] [(137,.B false)]<|Ib Y (.r4 (.cons (Afc X) .nil))
          ·refine Ao 3 [] [(133,.B (!r6.2))]<|Ib ar (.r4 (.r (.cons (Afb W) .nil)))
          refine Ao 3 [] [(133,.B false)]<|Ib ar (.r4 (.r (.cons (Afc W) .nil)))
         ·refine Ao 3 [] [(129,.B (z.1==0))]<|Ib aq (.r4 (.r2 (.cons (Afb V) .nil)))
         refine Ao 3 [] [(129,.B false)]<|Ib aq (.r4 (.r2 (.cons (Afc V) .nil)))
        ·refine Ao 2 [] [(125,.B z.2)]<|Ib ap (.r4 (.r2 (.r (.cons (Afb U) .nil))))
        refine Ao 2 [] [(125,.B false)]<|Ib ap (.r4 (.r2 (.r (.cons (Afc U) .nil))))
       ·refine Ao 3 [] [(122,.B (r4.2==100))]<|Ib ao (.r4 (.r4 (.cons (Afb T) .nil)))
       refine Ao 3 [] [(122,.B false)]<|Ib ao (.r4 (.r4 (.cons (Afc T) .nil)))
      ·refine Ao 3 [] [(118,.B (A.2.2==110))]<|Ib an (.r4 (.r4 (.r (.cons (Afb S) .nil))))
      refine Ao 3 [] [(118,.B false)]<|Ib an (.r4 (.r4 (.r (.cons (Afc S) .nil))))
     ·refine Ao 3 [] [(114,.B (r2.2.1==6))]<|Ib am (.r4 (.r4 (.r2 (.cons (Afb al) .nil))))
     refine Ao 3 [] [(114,.B false)]<|Ib am (.r4 (.r4 (.r2 (.cons (Afc al) .nil))))
    ·refine Ao 3 [] [(110,.B (r2.2.2==80))]<|Ib ak (.r4 (.r4 (.r2 (.r (.cons (Afb aj) .nil)))))
    refine Ao 3 [] [(110,.B false)]<|Ib ak (.r4 (.r4 (.r2 (.r (.cons (Afc aj) .nil)))))
   ·refine Ao 3 [] [(106,.B (r1.2.2==100))]<|Ib ai (.r4 (.r4 (.r4 (.cons (Afb ah) .nil))))
   refine Ao 3 [] [(106,.B false)]<|Ib ai (.r4 (.r4 (.r4 (.cons (Afc ah) .nil))))
  ·refine Ao 2 [0,6] [(100,.A [.I 1,.L 5 Br [({Name:=[],Names:=[],Volumes:=[0],Radar:=4,Procedural:=2}:Sector)],.L 3 Bz [({Name:=[],Names:=[],Sectors:=[0]}:Config)],.L 3 Ks [({From:=0,To:=1,Legs:=[({Segment:=0,Volume:=0,Length:=50,Minutes:=[({From:=0,To:=600}:Span)]}:Leg)]}:Way)],.L 1 (rL 1 rJ) [[9],[3]],.L 6 Gi [({Slow:=5,Fast:=10,Places:=2,Weight:=3,Longest:=60,Curfews:=[[],[({From:=0,To:=300}:Span)]]}:Kind)]]),(99,.A (B9 r.1))]<|oc (λhb=>FL (.s (.cons (.aggL (.s (.s (.s (.s .s2))))) .nil)) ((Ahe r.1 ({Volumes:=1,Sectors:=[({Name:=[],Names:=[],Volumes:=[0],Radar:=4,Procedural:=2}:Sector)],Configs:=[({Name:=[],Names:=[],Sectors:=[0]}:Config)],Ways:=[({From:=0,To:=1,Legs:=[({Segment:=0,Volume:=0,Length:=50,Minutes:=[({From:=0,To:=600}:Span)]}:Leg)]}:Way)],Modes:=[[9],[3]],Kinds:=[({Slow:=5,Fast:=10,Places:=2,Weight:=3,Longest:=60,Curfews:=[[],[({From:=0,To:=300}:Span)]]}:Kind)]}:Tables)) _ hb)) λr9 _=>Bl (.B r9)<|A6m (ag r9)
  refine Ao 4 [] [(102,.B false)]<|A6m (ag false)
 ·refine Ao 3 [] [(97,.B (r.2.1==0))]<|Ib hJ (.r4 (.r4 (.r4 (.r2 (.cons (Afb af) .nil)))))
 refine Ao 3 [] [(97,.B false)]<|Ib hJ (.r4 (.r4 (.r4 (.r2 (.cons (Afc af) .nil)))))
instance Bk3 (a):CP prog 27 [.A (Aj a)] (Af5 a) AV.bool:=by
 refine ci 51 1 func27 (Af5.eq_1 _) λh0 ids D O=>go ?_;intro g;refine Ph [1] 3 (λ_=>[]) (λ_=>[Ab g 8 [Aj a]]) ?_ ?_
 ·rintro j a1 _ z _ W _;refine Ae (Aiv.eq_1 _)<|gc
 rintro _;refine go ?_;intro _;refine Ph [1] 4 (λ_=>[]) (λ_=>[Ab g 8 [Aj a]]) ?_ ?_
 ·rintro R S _ A _ W _;refine Ae (Aka.eq_1 _)<|gc
 rintro _;exact gc
end Go.Am
namespace Go.Am
open Go
theorem law14_sane_ok:Acu=.ok true:=by kernel_rfl
end Go.Am
namespace Go.Proofs.YtcpfebjhnbjfbaaGreatDoor.laws
open Go Go.Am Go.ChangeShapes Go.WideShapes Go.ChangeAt Go.RowKit
theorem own:ownKnob prog.godebug=none:=by kernel_rfl
theorem A46:laidOutB prog=true:=by kernel_rfl
theorem Ba9:([1779033703,3144134277,1013904242,2773480762,1359893119,2600822924,528734635,1541459225]:List Int).map (.int .u32)=A1n:=by kernel_rfl
theorem A9g:([1116352408,1899447441,3049323471,3921009573,961987163,1508970993,2453635748,2870763221,3624381080,310598401,607225278,1426881987,1925078388,2162078206,2614888103,3248222580,3835390401,4022224774,264347078,604807628,770255983,1249150122,1555081692,1996064986,2554220882,2821834349,2952996808,3210313671,3336571891,3584528711,113926993,338241895,666307205,773529912,1294757372,1396182291,1695183700,1986661051,2177026350,2456956037,2730485921,2820302411,3259730800,3345764771,3516065817,3600352804,4094571909,275423344,430227734,506948616,659060556,883997877,958139571,1322822218,1537002063,1747873779,1955562222,2024104815,2227730452,2361852424,2428436474,2756734187,3204031479,3329325298]:List Int).map (.int .u32)=Azm:=by kernel_rfl
def Bfn:DataW Unit:=match(Rows.laid_overflight_syntax_definitions:DataW Unit)with
 |.iface _ d=>d
 |d=>d
theorem Bg4 {W:World} (h0:laidMetH Tryz.prog [("math/bits.deBruijn32tab",Rows.laid_math_bits_deBruijn32tab),("math/bits.deBruijn64tab",Rows.laid_math_bits_deBruijn64tab),("internal/strconv.uint64pow10",Rows.laid_internal_strconv_uint64pow10),("overflight/digest.start",Rows.laid_overflight_digest_start),("overflight/digest.numbers",Rows.laid_overflight_digest_numbers),("strconv.ErrRange",Rows.laid_strconv_ErrRange),("strconv.ErrSyntax",Rows.laid_strconv_ErrSyntax),("overflight/syntax.definitions",Rows.laid_overflight_syntax_definitions)] W):GW.n Tryz.prog≤W.heap.size∧GW.G Tryz.prog W.heap.size W:=by have h:=(laidMetH_iff.1 h0).1;rw[show(List.filter (fun x=>x.2.handleName?.isNone) [("math/bits.deBruijn32tab",Rows.laid_math_bits_deBruijn32tab),("math/bits.deBruijn64tab",Rows.laid_math_bits_deBruijn64tab),("internal/strconv.uint64pow10",Rows.laid_internal_strconv_uint64pow10),("overflight/digest.start",Rows.laid_overflight_digest_start),("overflight/digest.numbers",Rows.laid_overflight_digest_numbers),("strconv.ErrRange",Rows.laid_strconv_ErrRange),("strconv.ErrSyntax",Rows.laid_strconv_ErrSyntax),("overflight/syntax.definitions",Rows.laid_overflight_syntax_definitions)])=[("math/bits.deBruijn32tab",Rows.laid_math_bits_deBruijn32tab),("math/bits.deBruijn64tab",Rows.laid_math_bits_deBruijn64tab),("internal/strconv.uint64pow10",Rows.laid_internal_strconv_uint64pow10),("overflight/digest.start",Rows.laid_overflight_digest_start),("overflight/digest.numbers",Rows.laid_overflight_digest_numbers),("strconv.ErrRange",Rows.laid_strconv_ErrRange),("strconv.ErrSyntax",Rows.laid_strconv_ErrSyntax)]by kernel_rfl]at h;have hn:=Blh (g:=8) (by kernel_rfl) (Lib.laidMet.reads h (n:="math/bits.deBruijn64tab") (d:=Rows.laid_math_bits_deBruijn64tab) (by repeat (first|exact List.mem_cons_self ..|apply List.mem_cons_of_mem)));exact⟨hn,⟨(Aw9 (g:=4) (t:=241) (by kernel_rfl) (by kernel_rfl) Tryz.underlying241 (Lib.laidMet.reads h (n:="strconv.ErrRange") (d:=Rows.laid_strconv_ErrRange) (by repeat (first|exact List.mem_cons_self ..|apply List.mem_cons_of_mem)))),(Aw9 (g:=3) (t:=241) (by kernel_rfl) (by kernel_rfl) Tryz.underlying241 (Lib.laidMet.reads h (n:="strconv.ErrSyntax") (d:=Rows.laid_strconv_ErrSyntax) (by repeat (first|exact List.mem_cons_self ..|apply List.mem_cons_of_mem)))),(Ave (g:=6) (t:=420) (by kernel_rfl) (by kernel_rfl) Tryz.underlying420 Tryz.underlying225 (by kernel_rfl) (by kernel_rfl) (Lib.laidMet.reads h (n:="internal/strconv.uint64pow10") (d:=Rows.laid_internal_strconv_uint64pow10) (by repeat (first|exact List.mem_cons_self ..|apply List.mem_cons_of_mem))))⟩,Bh1 (d:=Bfn) (l:=Uy) (laidMetH.funcs h0 (n:="overflight/syntax.definitions") (d:=Bfn) (by repeat (first|exact List.mem_cons_self ..|apply List.mem_cons_of_mem))) (by kernel_rfl) (by kernel_rfl) (by kernel_rfl) Tryz.underlying236 Tryz.underlying9 Tryz.underlying234 (by kernel_rfl) (by decide+kernel),(Ba9▸A4c (g:=1) (by kernel_rfl) (Ave (g:=1) (t:=361) (by kernel_rfl) (by kernel_rfl) Tryz.underlying361 Tryz.underlying360 (by kernel_rfl) (by kernel_rfl) (Lib.laidMet.reads h (n:="overflight/digest.start") (d:=Rows.laid_overflight_digest_start) (by repeat (first|exact List.mem_cons_self ..|apply List.mem_cons_of_mem))))),(A9g▸A4c (g:=2) (by kernel_rfl) (Ave (g:=2) (t:=401) (by kernel_rfl) (by kernel_rfl) Tryz.underlying401 Tryz.underlying360 (by kernel_rfl) (by kernel_rfl) (Lib.laidMet.reads h (n:="overflight/digest.numbers") (d:=Rows.laid_overflight_digest_numbers) (by repeat (first|exact List.mem_cons_self ..|apply List.mem_cons_of_mem)))))⟩
theorem Bd9 {H:Type}:Bulk (H:=H) Rows.uptoBulk Rows.uptoBulkAll:=⟨λd=>by cases d with|lit l=>cases l<;>simp[Rows.uptoBulk]|_=>simp[Rows.uptoBulk],λl=>by simp[Rows.uptoBulk],λe s=>by simp only[Rows.uptoBulk];omega,λl=>by simp[Rows.uptoBulk],by simp[Rows.uptoBulkAll],λd l=>by simp[Rows.uptoBulkAll]⟩
theorem on9:Bfl prog 9 A1i:=Ba5 underlying9
end Go.Proofs.YtcpfebjhnbjfbaaGreatDoor.laws
namespace Go.Am
open Go
variable{α:Type}
def As(m:R α)(p:α→Prop):Prop:=∃a,m=.ok a∧p a
variable{p:α→Prop}
theorem As.ok{a:α}(h:p a):As (.ok a) p:=⟨a,rfl,h⟩
variable{β:Type}{m:R α}{f:α→R β}
theorem As.bind{q:β→Prop}(h:As m p)(hf:∀a,p a→As (f a) q):As (m.bind f) q:=by obtain⟨a,rfl,z⟩:=h;exact hf a z
theorem As.mono{q:α→Prop}(h:As m p)(z:∀a,p a→q a):As m q:=let ⟨a,h1,h2⟩:=h;⟨a,h1,z a h2⟩
theorem As.np(h:As m p):As m.np p:=by obtain⟨a,rfl,z⟩:=h;exact⟨a,rfl,z⟩
variable{c:Prop}{a:R α}
theorem As.ite[Decidable c]{b:R α}(h1:c→As a p)(h2:¬c→As b p):As (if c then a else b) p:=by
 split
 ·exact h1 ‹_›
 ·exact h2 ‹_›
theorem As.need[Decidable c]{b:R α}(z:c)(h1:As a p):As (if c then a else b) p:=by rw[if_pos z];exact h1
theorem As.idx{l:List α}{i:Int}{p:β→Prop}(h0:0≤i)(h1:i<(l.length:Int))(hf:∀a,l[i.toNat]?=some a→As (f a) p):As ((idx l i).bind f) p:=by
 obtain⟨n,rfl⟩:=CE h0;have z:n<l.length:=by omega
 rw[Zo (AA z)];exact hf _ (AA z)
variable{σ:Type}{ε:Type}
def Sm(I:σ→Prop)(J:ε→Prop):σ ⊕ ε→Prop
 |.inl s=>I s
 |.inr e=>J e
theorem As.alt{m:R (σ ⊕ ε)}{f:σ→R β}{g:ε→R β}{I:σ→Prop}{J:ε→Prop}{p:β→Prop}(h:As m (Sm I J))(hf:∀s,I s→As (f s) p)(A:∀e,J e→As (g e) p):As (m.bind (alt f g)) p:=
 h.bind λa z=>by
  cases a with
  |inl s=>exact hf s z
  |inr e=>exact A e z
theorem My{b:Nat→α→σ→R σ}(I:Nat→σ→Prop):∀(l:List α) (k:Nat) (s:σ),(∀j a s,l[j]?=some a→I (k+j) s→As (b (k+j) a s) (I (k+j+1)))→I k s→As (eachS b k l s) (I (k+l.length))
 |[],k,s,_,z=>.ok z
 |a::l,k,s,D,z=>by rw[Ic];refine(D 0 a s rfl z).bind λs' A=>?_;have:=My I l (k+1) s' (λj x t O ht=>by have:=D (j+1) x t (by simpa using O) (by rw[show k+(j+1)=k+1+j by omega];exact ht);rwa[show k+(j+1)=k+1+j by omega]at this) A;rw[AF,show k+(l.length+1)=k+1+l.length by omega];exact this
theorem Lu{b:Nat→α→σ→R (σ ⊕ ε)}(I:Nat→σ→Prop)(J:ε→Prop):∀(l:List α) (k:Nat) (s:σ),(∀j a s,l[j]?=some a→I (k+j) s→As (b (k+j) a s) (Sm (I (k+j+1)) J))→I k s→As (each b k l s) (Sm (I (k+l.length)) J)
 |[],k,s,_,z=>.ok z
 |a::l,k,s,A,z=>by
  simp only[each];refine(A 0 a s rfl z).bind λr hr=>?_;cases r with
  |inr e=>exact .ok hr
  |inl s'=>have:=Lu I J l (k+1) s' (λj x t D ht=>by have:=A (j+1) x t (by simpa using D) (by rw[show k+(j+1)=k+1+j by omega];exact ht);rwa[show k+(j+1)=k+1+j by omega]at this) hr;rw[AF,show k+(l.length+1)=k+1+l.length by omega];exact this
theorem Aue{b:α→σ→R σ}(I:σ→Prop)(D:∀a s,I s→As (b a s) I):∀(l:List α) (s:σ),I s→As (Lf b l s) I
 |[],s,z=>.ok z
 |a::l,s,z=>(D a s z).bind λs' A=>Aue I D l s' A
theorem Aa1{b:σ→R (σ ⊕ ε)}(μ:σ→Nat)(I:σ→Prop)(J:ε→Prop)(A:∀s,I s→As (b s) (Sm (λs'=>I s'∧μ s'<μ s) J)):∀(n:Nat) (s:σ),μ s≤n→I s→As (loop b s) J:=by
 intro n;induction n with
 |zero=>
  intro s D z;rw[Ms];refine(A s z).bind λr hr=>?_;cases r with
  |inl s'=>exact absurd hr.2 (by omega)
  |inr e=>exact .ok hr
 |succ n O=>
  intro s D z;rw[Ms];refine(A s z).bind λr hr=>?_;cases r with
  |inl s'=>exact O s' (by have:=hr.2;omega) hr.1
  |inr e=>exact .ok hr
abbrev T1:α→Prop:=λ_=>True
variable{b:Nat→α→Unit→R (Unit ⊕ Int)}
theorem Am9(l:List α)(A:∀j a,l[j]?=some a→As (b j a ()) (Sm T1 λi=>i=(j:Int))):
  As ((each b 0 l ()).bind (alt (λ_=>.ok (-1)) (λr=>.ok r))) λi=>i= -1∨(0≤i∧i<(l.length:Int)):=by
 refine As.alt (I:=T1) (J:=λi=>0≤i∧i<(l.length:Int)) ((Lu (λ_ _=>True) (λi=>0≤i∧i<(l.length:Int)) l 0 () (λj a s z _=>?_) trivial).mono λr hr=>by
  cases r with
  |inl u=>trivial
  |inr i=>exact hr) (λ_ _=>.ok (.inl rfl)) λi hi=>.ok (.inr hi)
 rw[AG]
 have D:j<l.length:=(CI.1 z).1
 refine(A j a z).mono λr hr=>?_
 cases r with
 |inl u=>trivial
 |inr i=>exact⟨by have:i=(j:Int):=hr;omega,by have:i=(j:Int):=hr;omega⟩
theorem Aoa (l:List Span):As (T4 l) T1:=by unfold T4 Jl L9;refine As.bind (p:=T1) (As.bind (Am9 l λj a _=>?_) λi _=>.ok trivial) λb _=>As.ite (λ_=>.ok trivial) λ_=>.ok trivial;unfold Oh Y5;simp only[R.ok_bind];exact As.ite (λ_=>.ok rfl) λ_=>.ok trivial
variable{n:Nat}
theorem Zl{c:Nat}(h:n*c≤140737488355328):n*c≤Bj:=h
def opn (s:Segment):List Span:=if s.Open.length=0 then[{From:=0,To:=1440}]else s.Open
def Aat (a:Airspace)(n:Int):Option (Segment×Volume):=
 if 0≤n then(match a.Segments[n.toNat]? with
  |none=>none
  |some s=>if 0≤s.Volume then(match a.Volumes[s.Volume.toNat]? with|none=>none|some v=>some (s,v))else none)else none
def A01 (p:Segment×Volume):List Span:=Zr (opn p.1) p.2.Closed
def Aid (a:Airspace)(n:Int):Option Leg:=(Aat a n).map λp=>{Segment:=n,Volume:=p.1.Volume,Length:=p.1.Length,Minutes:=A01 p}
def Alw(f:α→Option β):List α→Option (List β)
 |[]=>some []
 |x::l=>match f x,Alw f l with
  |some y,some r=>some (y::r)
  |_,_=>none
def Wj (a:Airspace)(r:Int):Option (List Leg):=if 0≤r then(match a.Routes[r.toNat]? with|none=>none|some rt=>Alw (Aid a) rt.Segments)else none
structure OpSmall (a:Airspace):Prop where
 seg:a.Segments.length≤1048576
 vol:a.Volumes.length≤1048576
 rt:a.Routes.length≤1048576
 rs:∀r∈a.Routes,r.Segments.length≤1048576
def Abz (z:List Leg):Bool:=z.any λg=>(g.Minutes.length:Int)==0
def Ayr (a:Airspace):List Route→Nat→List Int→Option (List Int)
 |[],_,x=>some x
 |_::rs,k,x=>match Wj a (k:Int)with
  |none=>none
  |some z=>Ayr a rs (k+1) (if Abz z then x++[(k:Int)]else x)
def blk (a:Airspace):Option (List Int):=Ayr a a.Routes 0 []
theorem min2:Zr [{From:=0,To:=1440}] [{From:=0,To:=1440}]=[]:=by decide+kernel
@[irreducible] def NN:Nat:=1048576
theorem Ab6:NN=1048576:=by unfold NN;rfl
theorem Atw{c:Nat}(h:n*c≤140737488355328):n*c≤Bj:=h
theorem Bcq (a:Airspace)(h:a.Sectors.length≤1048576):As (Yv a) T1:=by
 unfold Yv;refine As.alt (I:=T1) (J:=T1) ((Lu (λk (l:List Int)=>l.length≤k) T1 a.Sectors 0 [] (λj x s A O=>?_) (AI _)).mono λr hr=>by cases r<;>trivial) (λs _=>.ok trivial) (λe _=>.ok trivial);unfold Sw;have S:j<a.Sectors.length:=(CI.1 A).1;refine As.alt (I:=T1) (J:=T1) ((Lu (λ_ _=>True) T1 x.Volumes 0 0 (λT z s2 _ _=>?_) trivial).mono λr hr=>by cases r<;>trivial) (λD _=>?_) (λe _=>.ok trivial)
 ·unfold Acy;by_cases h0:0≤z
  ·by_cases h1:z≥(a.Volumes.length:Int)
   ·simp only[DM h1,Bool.or_true,if_true,R.ok_bind];exact .ok trivial
   ·simp only[ER h1,ER (show ¬z<0 by omega),GU,AE,if_false,if_pos h0,R.ok_bind];exact As.ite (λ_=>.ok trivial) λ_=>.ok trivial
  ·simp only[DM (show z<0 by omega),Bool.true_or,if_true,R.ok_bind];exact .ok trivial
 ·refine As.ite (λ_=>.ok trivial) λ_=>As.need (Atw ?_) (.ok ?_)
  ·simp only[AB];omega
  ·show(s++[D]).length≤_;rw[AJ,AB];omega
theorem Ao6 (a:Airspace):As (Mq a) λr=>r.2=true→1≤r.1.length∧r.1.length≤32∧r.1.length=a.Configs.length:=by
 unfold Mq;refine As.ite (λ_=>.ok λh=>by cases h) λT=>?_;simp only[BQ,AK,not_or]at T;obtain⟨⟨⟨⟨h1,h2⟩,W⟩,X⟩,Y⟩:=T;refine(Bcq a (by omega)).bind λr _=>As.ite (λ_=>?_) λ_=>.ok λh=>by cases h
 have hw:IntKind.wrap .i64 (64-(a.Volumes.length:Int))=64-(a.Volumes.length:Int):=Ok (by omega) (by omega);refine As.need (by rw[hw];omega) ?_;refine As.alt (I:=λ(l:List (List (Int×Bool)))=>l.length=a.Configs.length) (J:=λ(e:List (List (Int×Bool))×Bool)=>e.2=false) ((Lu (λk (l:List (List (Int×Bool)))=>l.length=k) (λ(e:List (List (Int×Bool))×Bool)=>e.2=false) a.Configs 0 [] (λj x s U Z=>?_) rfl).mono λq D=>by
   cases q with
   |inl l=>exact D.trans (AG _)
   |inr e=>exact D) (λl hl=>.ok λ_=>by simp only;omega) (λe O=>.ok λh=>by rw[O]at h;cases h)
 unfold L8;have hj:j<a.Configs.length:=(CI.1 U).1;refine As.alt (I:=T1) (J:=λ(e:List (List (Int×Bool))×Bool)=>e.2=false) ((Lu (λ_ _=>True) (λ(e:List (List (Int×Bool))×Bool)=>e.2=false) x.Sectors 0 (0,[]) (λj2 A s2 _ _=>?_) trivial).mono λq D=>by
   cases q with
   |inl l=>trivial
   |inr e=>exact D) (λy _=>?_) (λe O=>.ok O)
 ·obtain⟨S,m⟩:=s2;simp only[Ct];unfold V4;by_cases h0:0≤A∧A<(r.1.length:Int)
  ·simp only[ER (show ¬A<0 by omega),ER (show ¬A≥(r.1.length:Int)by omega),GU,AE,if_false,R.bind_assoc,R.ok_bind];refine As.idx h0.1 h0.2 λz hz=>?_;refine As.ite (λ_=>.ok rfl) λ_=>As.idx h0.1 h0.2 λz2 V=>.ok trivial
  ·have:(decide (A<0)||decide (A≥(r.1.length:Int)))=true:=by
    rw[BQ,AK,AK];omega
   simp only[this,if_true,R.ok_bind]
   exact .ok rfl
 ·obtain⟨S,m⟩:=y;simp only[Ct];refine As.ite (λ_=>.ok rfl) λ_=>As.need (Atw ?_) (.ok ?_)
  ·simp only[AB];omega
  ·show(s++[m]).length=_;rw[AJ,AB];omega
theorem Axf (a:Airspace):As (Sr a) T1:=by unfold Sr;exact(Ao6 a).bind λr _=>As.ite (λ_=>.ok trivial) λ_=>.ok trivial
theorem Ash (d o:List (Int×Bool)):As (Pl d o) T1:=by unfold Pl;refine(Aue T1 (λx s _=>?_) d 0 trivial).bind λn _=>.ok trivial;unfold Gs;exact As.ite (λ_=>.ok trivial) λ_=>.ok trivial
theorem Biu:∀n:Fin 33,(match Su (IntKind.wrap .u64 1) (IntKind.wrap .u64 ((n.val:Nat):Int))with|.ok p=>p==(0,((n.val:Nat):Int))|_=>false)=true:=by decide+kernel
theorem mul_one (n:Nat)(h:n≤32):Su (IntKind.wrap .u64 1) (IntKind.wrap .u64 (n:Int))=.ok (0,(n:Int)):=by
 have:=Biu ⟨n,by omega⟩;revert this;cases Su (IntKind.wrap .u64 1) (IntKind.wrap .u64 ((n:Nat):Int))with
 |ok p=>intro h;simp only[BN]at h;rw[h]
 |bad=>intro h;cases h
 |pan v=>intro h;cases h
def neg (l:List Int):Nat:=l.countP (·<0)
structure Srch (n M:Nat)(s:List Int×List Int):Prop where
 len:s.1.length=n
 val:∀v∈s.1,-1≤v∧v+(neg s.1:Int)≤(n:Int)
 que:∀q∈s.2,0≤q∧q<(n:Int)
 mes:2*neg s.1+s.2.length≤M
structure LowOk (a:Airspace):Prop extends OpSmall a where
 sec:a.Sectors.length≤NN
 secv:∀s∈a.Sectors,s.Volumes.length≤NN
 con:a.Configs.length≤NN
 cons:∀s∈a.Configs,s.Sectors.length≤NN
 air:a.Airports.length≤NN
 mod:∀s∈a.Airports,s.Modes.length≤NN
 cla:a.Classes.length≤NN
structure TabOk (t:Tables):Prop where
 sec:t.Sectors.length≤NN
 secv:∀s∈t.Sectors,s.Volumes.length≤NN
 con:t.Configs.length≤NN
 cons:∀s∈t.Configs,s.Sectors.length≤NN
 way:t.Ways.length≤NN
 legs:∀w∈t.Ways,w.Legs.length≤NN∧∀g∈w.Legs,g.Minutes.length≤NN
 mod:t.Modes.length≤NN
 mods:∀m∈t.Modes,m.length≤NN
 kin:t.Kinds.length≤NN
 cur:∀k∈t.Kinds,k.Curfews.length≤NN∧∀c∈k.Curfews,c.length≤NN
theorem Afa (n a b:Int):Hj n a b=.ok ((decide (n≥a))&&(decide (n≤b))):=rfl
theorem Aba{F:α→R Bool}(z:∀j a,b j a ()=(F a).bind λr=>if r then .ok (.inr ((j:Int)))else .ok (.inl ()))(l:List α)(A:∀a∈l,As (F a) T1): As ((each b 0 l ()).bind (alt (λ_=>.ok (-1)) (λr=>.ok r))) T1:=(Am9 l λj a D=>by rw[z];exact(A a (AP D)).bind λr _=>As.ite (λ_=>.ok rfl) λ_=>.ok trivial).mono λ_ _=>trivial
theorem Y7 {c:Bool}{m:R Bool}(h:As m T1):As (if c=true then m else R.ok false) T1:=As.ite (λ_=>h) λ_=>.ok trivial
theorem Hp {m:R Bool}(h:As m T1):As (m.bind λr=>.ok (!r)) T1:=h.bind λ_ _=>.ok trivial
theorem Pu {m:R Bool}(h:As m T1):As (m.bind λr=>.ok r) T1:=h.bind λ_ _=>.ok trivial
theorem Bjd (l:List Sector):As (J2 l) T1:=by unfold J2 Ia Kk;refine Hp (As.bind (Aba (F:=Il) (λ_ _=>rfl) l λs _=>?_) λ_ _=>.ok trivial);unfold Il Uw;refine Hp ?_;rw[Afa];exact Pu (Y7 (by rw[Afa];exact .ok trivial))
theorem Bix (l:List (List Int)):As (Oe l) T1:=by unfold Oe I3 Oj;refine Hp (As.bind (Aba (F:=Jj) (λ_ _=>rfl) l λs _=>?_) λ_ _=>.ok trivial);unfold Jj Uv;refine Hp ?_;rw[Afa];refine Pu (Y7 (Pu ?_));unfold Sa Kg Nd;refine Hp (As.bind (Aba (F:=La) (λ_ _=>rfl) s λs _=>?_) λ_ _=>.ok trivial);unfold La Qr;rw[Afa];exact .ok trivial
theorem Bk4 (g:Leg)(t:Tables):As (P1 g t) T1:=by unfold P1;rw[Afa,R.ok_bind];refine As.bind (p:=T1) (Y7 (Pu (by rw[Afa];exact .ok trivial))) λb _=>As.bind (p:=T1) (Y7 (Pu (by rw[Afa];exact .ok trivial))) λb1 _=>Pu (Y7 ((Aoa _).bind λ_ _=>.ok trivial))
theorem Bj0 (l:List Way)(t:Tables):As (Nr l t) T1:=by
 unfold Nr Ki Ni;refine Hp (As.bind (Aba (F:=λw=>Ny w t) (λ_ _=>rfl) l λw _=>?_) λ_ _=>.ok trivial);unfold Ny Uu;have z:∀n,As (Mr n t) T1:=λn=>by unfold Mr;rw[Afa];exact .ok trivial
 refine Hp ((z _).bind λr _=>As.bind (p:=T1) (Y7 (Pu (z _))) λb _=>As.bind (p:=T1) (Y7 (Pu (by rw[Afa];exact .ok trivial))) λb1 _=>Pu (Y7 (Pu ?_)));unfold R8 Kd Na;refine Hp (As.bind (Aba (F:=λg=>Ns g t) (λ_ _=>rfl) w.Legs λg _=>?_) λ_ _=>.ok trivial);unfold Ns;exact Hp (Bk4 g t)
theorem A7t (l:List Int)(h:l.length≤1000):As (Yw l) T1:=by
 unfold Yw;refine As.alt (I:=T1) (J:=T1) ((Aa1 (λi=>2000-i.toNat) (λi=>0≤i∧i≤1010) T1 (λi hi=>?_) 2000 0 (IG _ _) ⟨DW _,by omega⟩).mono λr _=>by cases r<;>trivial) (λ_ _=>.ok trivial) λ_ _=>.ok trivial;unfold Acx;have h1:IntKind.wrap .i64 (i+1)=i+1:=Ok (by omega) (by omega);have h2:IntKind.wrap .i64 (i+2)=i+2:=Ok (by omega) (by omega);have A:IntKind.wrap .i64 (i+3)=i+3:=Ok (by omega) (by omega);rw[h1,h2];refine As.ite (λD=>?_) λ_=>.ok trivial;have z:∀b,As (Pe i b) (Sm (λs'=>(0≤s'∧s'≤1010)∧2000-s'.toNat<2000-i.toNat) T1):=λb=>by unfold Pe;refine As.ite (λ_=>.ok trivial) λ_=>.ok ?_;rw[A];exact⟨⟨by omega,by omega⟩,by omega⟩
 refine As.idx (by omega) (by omega) λa _=>As.idx (by omega) (by omega) λa1 _=>As.ite (λ_=>z _) λ_=>As.idx (by omega) (by omega) λO _=>z _
theorem Bhi (l:List Kind)(t:Tables):As (L3 l t) T1:=by unfold L3 Ji Ml;refine Hp (As.bind (Aba (F:=λw=>Lv w t) (λ_ _=>rfl) l λk _=>?_) λ_ _=>.ok trivial);unfold Lv Ul Ae1;refine Hp (As.bind (p:=T1) (As.bind (p:=T1) ?_ λb _=>As.ite (λ_=>.ok trivial) λ_=>.ok trivial) λ_ _=>.ok trivial);unfold V2;refine(A7t _ (by simp)).bind λr _=>As.ite (λ_=>.ok trivial) λ_=>Hp ?_;unfold Er E6;refine As.bind (Aba (F:=Nt) (λ_ _=>rfl) _ λs _=>?_) λ_ _=>.ok trivial;unfold Nt;exact(Aoa _).bind λ_ _=>.ok trivial
theorem Aiq {c:Bool}{m:R Bool}(h:c=false→As m T1):As (if c=true then R.ok true else m) T1:=As.ite (λ_=>.ok trivial) λz=>h (by simpa using z)
theorem A7g (t:Tables):As (Ky t) T1:=by unfold Ky;rw[Afa];simp only[R.ok_bind];refine As.bind (p:=T1) (Aiq λhr=>?_) λb _=>As.bind (p:=T1) (Aiq λ_=>Hp (Bjd _)) λb1 _=>As.ite (λ_=>.ok trivial) λ_=>As.bind (p:=T1) (Aiq λ_=>Hp (Bix _)) λz _=>As.bind (p:=T1) (Aiq λ_=>Hp (Bj0 _ _)) λA _=>As.bind (p:=T1) (Aiq λ_=>Hp (Bhi _ _)) λD _=>As.ite (λ_=>.ok trivial) λ_=>.ok trivial;simp only[Bool.not_eq_false',AH,AK]at hr;unfold Vw;rw[if_pos (⟨by omega,DW _,Zl (by omega)⟩:(0:Int)≤t.Volumes∧(t.Volumes:Int)≤t.Volumes∧(Int.toNat t.Volumes)*40≤Bj)];simp only[R.ok_bind];exact(Axf _).bind λ_ _=>.ok trivial
def Dp:Nat→Value→Prop
 |0,v=>v.L=[]
 |n+1,v=>∀x∈v.L,Dp n x
variable{v:Value}
theorem Dp.up:Dp n v→Dp (n+1) v:=by
 induction n generalizing v with
 |zero=>intro h x z;rw[show v.L=[]from h]at z;cases z
 |succ n A=>intro h x z;exact A (h x z)
abbrev p90:PV:=⟨39,.int .i64 90⟩
theorem A5b (b:Bool)(e:Int):Iv b e=if b then .ok ()else .pan ⟨39,.int .i64 e⟩:=rfl
def Xc (M:List (Al×Int))(ns:List Al):Prop:=∀x,Dq M x=(pos ns x).map λi=>(i:Int)
def H2 (ns:List Al)(x:Al):Bool:=(pos ns x).isSome
theorem of_eq {M:List (Al×Int)}{ns:List Al}(h:Xc M ns)(x:Al):Dc M x=if H2 ns x then .ok (Ac2 ns x)else .pan p90:=by unfold Dc H2 Ac2;rw[h x,A5b];cases pos ns x<;>simp
def Aq3 (vs:List Al)(s:Sector):Sector:={s with Volumes:=s.Names.map (Ac2 vs)}
def Aqt (ss:List Al)(s:Config):Config:={s with Sectors:=s.Names.map (Ac2 ss)}
def Auy (vs:List Al)(s:Segment):Segment:={s with Volume:=Ac2 vs s.In}
def As4 (gs Up:List Al)(r:Route):Route:={r with From:=Ac2 Up r.A,To:=Ac2 Up r.B,Segments:=r.Names.map (Ac2 gs)}
def A5y (Up cs:List Al)(r:Rule):Rule:={r with Class:=Ac2 cs r.C,Airport:=if r.Kind==1 then Ac2 Up r.A else 0}
def As9 (vs:List Al)(s:Sector):Bool:=s.Names.all (H2 vs)
def As6 (ss:List Al)(s:Config):Bool:=s.Names.all (H2 ss)
def Aqo (vs:List Al)(s:Segment):Bool:=H2 vs s.In
def Avj (gs Up:List Al)(r:Route):Bool:=H2 Up r.A&&H2 Up r.B&&r.Names.all (H2 gs)
def A1f (Up cs:List Al)(r:Rule):Bool:=H2 cs r.C&&(!(r.Kind==1)||H2 Up r.A)
structure Small (N:Nat)(a:Airspace):Prop where
 v:a.Volumes.length≤N
 s:a.Sectors.length≤N
 c:a.Configs.length≤N
 g:a.Segments.length≤N
 r:a.Routes.length≤N
 p:a.Airports.length≤N
 k:a.Classes.length≤N
 u:a.Rules.length≤N
 sn:∀x∈a.Sectors,x.Names.length≤N
 cn:∀x∈a.Configs,x.Names.length≤N
 rn:∀x∈a.Routes,x.Names.length≤N
 pm:∀x∈a.Airports,x.Modes.length≤N
def vs (a:Airspace):List Al:=a.Volumes.map (·.Name)
def ss (a:Airspace):List Al:=a.Sectors.map (·.Name)
def cs (a:Airspace):List Al:=a.Configs.map (·.Name)
def gs (a:Airspace):List Al:=a.Segments.map (·.Name)
def rs (a:Airspace):List Al:=a.Routes.map (·.Name)
def Up (a:Airspace):List Al:=a.Airports.map (·.Name)
def ks (a:Airspace):List Al:=a.Classes.map (·.Name)
def Bbu:Airspace:={Volumes:=[],Sectors:=[],Configs:=[],Segments:=[],Routes:=[],Airports:=[],Classes:=[],Rules:=[]}
def Adb (a:Airspace):Prop:=(vs a).Nodup∧(ss a).Nodup∧(cs a).Nodup∧(gs a).Nodup∧(rs a).Nodup∧(Up a).Nodup∧(ks a).Nodup∧∀p∈a.Airports,(p.Modes.map (·.Name)).Nodup
instance (a:Airspace):Decidable (Adb a):=by unfold Adb;infer_instance
def An9 (a:Airspace):Bool:=a.Sectors.all (As9 (vs a))&&a.Configs.all (As6 (ss a))&&a.Segments.all (Aqo (vs a))&&a.Routes.all (Avj (gs a) (Up a))&&a.Rules.all (A1f (Up a) (ks a))
def Pw (a:Airspace):Airspace:={a with Sectors:=a.Sectors.map (Aq3 (vs a)),Configs:=a.Configs.map (Aqt (ss a)),Segments:=a.Segments.map (Auy (vs a)),Routes:=a.Routes.map (As4 (gs a) (Up a)),Rules:=a.Rules.map (A5y (Up a) (ks a))}
def resolve (a:Airspace):Airspace×Int:=if Adb a then(if An9 a then(Pw a,0)else(Bbu,90))else(Bbu,91)
structure Bd (a:Airspace):Prop where
 v:a.Volumes.length≤1000
 s:a.Sectors.length≤1000
 c:a.Configs.length≤1000
 g:a.Segments.length≤1000
 r:a.Routes.length≤1000
 p:a.Airports.length≤1000
 k:a.Classes.length≤1000
 u:a.Rules.length≤1000
 sn:∀x∈a.Sectors,x.Names.length≤1000
 cn:∀x∈a.Configs,x.Names.length≤1000
 rn:∀x∈a.Routes,x.Names.length≤1000
 pm:∀x∈a.Airports,x.Modes.length≤1000
 sv:∀x∈a.Sectors,x.Volumes.length≤1000
 cv:∀x∈a.Configs,x.Sectors.length≤1000
 rg:∀x∈a.Routes,x.Segments.length≤1000
theorem Bd.low {a:Airspace}(h:Bd a):LowOk (Pw a) where
 seg:=by have:=h.g;simp only[Pw,AL];omega
 vol:=by have:=h.v;simp only[Pw];omega
 rt:=by have:=h.r;simp only[Pw,AL];omega
 rs:=λx z=>by obtain⟨y,A,rfl⟩:=CK.1 z;have:=h.rn y A;simp only[As4,AL];omega
 sec:=by have:=Ab6;have:=h.s;simp only[Pw,AL];omega
 secv:=λx z=>by obtain⟨y,A,rfl⟩:=CK.1 z;have:=Ab6;have:=h.sn y A;simp only[Aq3,AL];omega
 con:=by have:=Ab6;have:=h.c;simp only[Pw,AL];omega
 cons:=λx z=>by obtain⟨y,A,rfl⟩:=CK.1 z;have:=Ab6;have:=h.cn y A;simp only[Aqt,AL];omega
 air:=by have:=Ab6;have:=h.p;simp only[Pw];omega
 mod:=λx z=>by have:=Ab6;have:=h.pm x z;omega
 cla:=by have:=Ab6;have:=h.k;simp only[Pw];omega
def lS (s:Sector):Sector:={Name:=[],Names:=[],Volumes:=s.Volumes,Radar:=s.Radar,Procedural:=s.Procedural}
def lC (c:Config):Config:={Name:=[],Names:=[],Sectors:=c.Sectors}
structure Lowd (a:Airspace)(t:Tables):Prop where
 check:Sr a=.ok 0
 stuck:P0 a=.ok 0
 rules:Tv a=.ok 0
 reason:P3 a=.ok 0
 passable:Qc a=.ok 0
 blocked:P6 a=.ok 0
 vol:t.Volumes=(a.Volumes.length:Int)
 sec:t.Sectors=a.Sectors.map lS
 con:t.Configs=a.Configs.map lC
 way:Ls a.Routes a=.ok t.Ways
 mod:Fv a.Airports=.ok t.Modes
 kin:Kv a.Classes a=.ok t.Kinds
 tab:Ky t=.ok 0
theorem wu (n:Nat)(h:n<18446744073709551616):IntKind.wrap .u64 (n:Int)=(n:Int):=by simp[IntKind.wrap,IntKind.bits,IntKind.signed];omega
theorem bvo (n:Nat)(h:n<18446744073709551616):(BitVec.ofInt 64 (n:Int)).toNat=n:=by rw[BitVec.toNat_ofInt];omega
theorem B37 (x y:Nat)(z:x<18446744073709551616)(A:y<18446744073709551616):Dk .u64 (x:Int) (y:Int)=((x&&& y:Nat):Int):=by
 unfold Dk;have e:((BitVec.ofInt IntKind.u64.bits (x:Int)&&& BitVec.ofInt IntKind.u64.bits (y:Int)).toNat)=x&&& y:=by show((BitVec.ofInt 64 (x:Int)&&& BitVec.ofInt 64 (y:Int)).toNat)=x&&& y;rw[BitVec.toNat_and,bvo x z,bvo y A]
 rw[e];exact wu _ (Nat.lt_of_le_of_lt Nat.and_le_left z)
theorem B4h (x y:Nat)(z:x<18446744073709551616)(A:y<18446744073709551616):Rn .u64 (x:Int) (y:Int)=((x|||y:Nat):Int)∧x|||y<18446744073709551616:=by
 unfold Rn;have e:((BitVec.ofInt IntKind.u64.bits (x:Int)|||BitVec.ofInt IntKind.u64.bits (y:Int)).toNat)=x|||y:=by show((BitVec.ofInt 64 (x:Int)|||BitVec.ofInt 64 (y:Int)).toNat)=x|||y;rw[BitVec.toNat_or,bvo x z,bvo y A]
 have D:x|||y<18446744073709551616:=Nat.or_lt_two_pow (n:=64) z A;rw[e];exact⟨wu _ D,D⟩
theorem Cax (v:Nat)(h:v<64):X0 .u64 1 (v:Int)=((2^v:Nat):Int)∧2^v<18446744073709551616:=by have z:2^v<18446744073709551616:=Nat.pow_lt_pow_right (a:=2) (by decide) h;refine⟨?_,z⟩;unfold X0;rw[show min ((v:Int).toNat) IntKind.u64.bits=v from by show min _ 64=v;omega];rw[show(1:Int)*2^v=((2^v:Nat):Int)from by simp];exact wu _ z
def Bits (n:Nat)(x:Int)(vs:List Int):Prop:=∃m:Nat,x=(m:Int)∧m<18446744073709551616∧(∀i,m.testBit i=true↔(i:Int)∈vs)∧vs.Nodup∧∀v∈vs,0≤v∧v<(n:Int)
theorem Bits.nil (n:Nat):Bits n 0 []:=⟨0,rfl,by decide,λi=>by simp,HK,λv z=>absurd z BU⟩
theorem B8h (m v:Nat):(m&&& 2^v)≠0↔m.testBit v=true:=by
 constructor
 ·intro h;cases z:m.testBit v with
  |true=>rfl
  |false=>
   refine absurd (Nat.eq_of_testBit_eq λi=>?_) h;rw[IR,HJ,Nat.zero_testBit];by_cases hi:v=i
   ·subst hi;simp[z]
   ·simp[hi]
 ·intro h h0;have:=congrArg (λx=>x.testBit v) h0;simp[IR,HJ,h]at this
theorem Bits.put{x:Int}{vs:List Int}{v:Int}(Z:n≤64)(h:Bits n x vs)(h0:0≤v)(h1:v<(n:Int))(A:Dk .u64 x (X0 .u64 1 v)=0):Bits n (Rn .u64 x (X0 .u64 1 v)) (vs++[v]):=by
 obtain⟨m,rfl,S,T,D,hr⟩:=h;obtain⟨w,rfl⟩:=CE h0;obtain⟨W,U⟩:=Cax w (by omega);rw[W]at A ⊢;rw[B37 m _ S U]at A;obtain⟨X,Y⟩:=B4h m _ S U;have O:m.testBit w=false:=by
  cases R:m.testBit w with
  |false=>rfl
  |true=>exact absurd (by exact_mod_cast A) ((B8h m w).2 R)
 refine⟨m|||2^w,X,Y,λi=>?_,?_,λu z=>?_⟩
 ·rw[Nat.testBit_or,HJ,BG,AY,BQ,T i,AK];constructor
  ·rintro(h|rfl)
   ·exact .inl h
   ·exact .inr rfl
  ·rintro(h|h)
   ·exact .inl h
   ·exact .inr (by omega)
 ·rw[HY];refine⟨D,by simp,λa V c R=>?_⟩;rw[AY.1 R];rintro rfl;rw[←T w,O]at V;cases V
 ·rcases BG.1 z with z|z
  ·exact hr u z
  ·rw[AY.1 z];exact⟨h0,h1⟩
def Aso (a:Airspace)(k:Int):List Int:=((a.Sectors[k.toNat]?).map (·.Volumes)).getD []
structure Divs (a:Airspace):Prop where
 v1:1≤a.Volumes.length
 v2:a.Volumes.length≤64
 con:∀c∈a.Configs,(∀k∈c.Sectors,0≤k∧k<(a.Sectors.length:Int))∧(c.Sectors.flatMap (Aso a)).Nodup∧∀v:Int,(0≤v∧v<(a.Volumes.length:Int))↔v∈c.Sectors.flatMap (Aso a)
 secs:a.Sectors.length≤64
 cons:a.Configs.length≤32
def EB:Nat→Nat→Value→Prop
 |0,n,v=>v.Kind=1∧v.S=[]∧v.L=[]∧12≤n
 |d+1,n,v=>(v.Kind=1∧v.S=[]∧v.L=[]∧12≤n)∨(v.Kind=3∧v.N=0∧v.S=[]∧∃m,(∀x∈v.L,EB d m x)∧12+v.L.length*m≤n)
theorem EB.up{d:Nat}:EB d n v→EB (d+1) n v:=by
 induction d generalizing n v with
 |zero=>exact λh=>.inl h
 |succ d z=>
  rintro(h|⟨h1,h2,A,m,D,O⟩)
  ·exact .inl h
  ·exact .inr ⟨h1,h2,A,m,λx R=>z (D x R),O⟩
theorem EB.le{d m:Nat}(h:EB d n v)(z:n≤m):EB d m v:=by
 cases d with
 |zero=>exact⟨h.1,h.2.1,h.2.2.1,BT h.2.2.2 z⟩
 |succ d=>
  rcases h with h|⟨h1,h2,A,k,D,O⟩
  ·exact .inl ⟨h.1,h.2.1,h.2.2.1,BT h.2.2.2 z⟩
  ·exact .inr ⟨h1,h2,A,k,D,BT O z⟩
theorem EB.len{d:Nat}(h:EB d n v):12≤n:=by
 cases d with
 |zero=>exact h.2.2.2
 |succ d=>
  rcases h with h|⟨_,_,_,m,_,z⟩
  ·exact h.2.2.2
  ·omega
abbrev Ud(m:R α)(P:α→Prop):Prop:=As m P
variable{P:α→Prop}
theorem Ud.ok{a:α}(h:P a):Ud (.ok a) P:=As.ok h
variable{Q:β→Prop}
theorem Ud.bind(h:Ud m P)(k:∀a,P a→Ud (f a) Q):Ud (m.bind f) Q:=As.bind h k
theorem Ud.mono{q:α→Prop}(h:Ud m p)(z:∀a,p a→q a):Ud m q:=As.mono h z
theorem Ud.ite[Decidable c]{b:R α}(h1:c→Ud a p)(h2:¬c→Ud b p):Ud (if c then a else b) p:=As.ite h1 h2
theorem Ud.eachS{b:Nat→α→σ→R σ}{I:Nat→σ→Prop}(l:List α)(k:Nat)(s:σ)(h:I k s)(z:∀(j:Nat) a s,l[j]?=some a→I (k+j) s→Ud (b (k+j) a s) (I (k+j+1))):Ud (eachS b k l s) (I (k+l.length)):=My I l k s z h
theorem Ud.loop{b:σ→R (σ ⊕ ε)}{I:σ→Prop}{E:ε→Prop}(μ:σ→Nat)(A:∀s,I s→Ud (b s) λx=>match x with|.inl s'=>I s'∧μ s'<μ s|.inr e=>E e)(n:Nat)(s:σ)(D:μ s≤n)(z:I s):Ud (loop b s) E:=
 Aa1 μ I E (λs z=>(A s z).mono λx O=>by cases x<;>exact O) n s D z
abbrev Pq(m:R α):Prop:=Ud m λ_=>True
theorem Pq.ok(a:α):Pq (.ok a):=⟨a,rfl,trivial⟩
theorem Pq.bind(h:Pq m)(k:∀a,Ud (f a) Q):Ud (m.bind f) Q:=Ud.bind h λa _=>k a
theorem Pq.eachS{b:Nat→α→σ→R σ}(l:List α)(k:Nat)(s:σ)(z:∀(j:Nat) a s,l[j]?=some a→Pq (b (k+j) a s)):Pq (eachS b k l s):=Ud.eachS (I:=λ_ _=>True) l k s trivial λj a s A _=>z j a s A
structure TabF (t:Tables):Prop where
 s:t.Sectors.length≤12
 sv:∀x∈t.Sectors,x.Volumes.length≤10
 c:t.Configs.length≤7
 cs:∀x∈t.Configs,x.Sectors.length≤10
 w:t.Ways.length≤8
 wl:∀x∈t.Ways,x.Legs.length≤10∧∀g∈x.Legs,g.Minutes.length≤10
 m:t.Modes.length≤6
 ml:∀x∈t.Modes,x.length≤20
 k:t.Kinds.length≤6
 kc:∀x∈t.Kinds,x.Curfews.length≤10∧∀c∈x.Curfews,c.length≤10
def Brs (S s:List Span):Prop:=∀x∈S,x∈s
theorem B19 (a:Span):∀S:List Span,∃A:List Span,(∀x∈A,x∈S∧x≠a)∧(∀x∈S,x=a∨x∈A)∧A.length≤S.length∧(a∈S→A.length<S.length)
 |[]=>⟨[],λx z=>(by cases z),λx z=>(by cases z),AI _,λh=>(by cases h)⟩
 |b::S=>by
  obtain⟨A,h1,h2,O,D⟩:=B19 a S;by_cases e:b=a
  ·subst e;exact⟨A,λx z=>⟨BC _ (h1 x z).1,(h1 x z).2⟩,λx z=>(AM.1 z).elim .inl (h2 x),by simp only[AF];omega,λ_=>by simp only[AF];omega⟩
  ·refine⟨b::A,λx z=>?_,λx z=>?_,by simp only[AF];omega,λh=>?_⟩
   ·rcases AM.1 z with rfl|z
    ·exact⟨BM,e⟩
    ·exact⟨BC _ (h1 x z).1,(h1 x z).2⟩
   ·rcases AM.1 z with rfl|z
    ·exact .inr BM
    ·exact(h2 x z).imp id (BC _)
   ·rcases AM.1 h with h|h
    ·exact absurd h.symm e
    ·have:=D h;simp only[AF];omega
theorem pick:∀(r S:List Span),Brs S r→S≠[]→∃(j:Nat) (a:Span) (z:List Span),r[j]?=some a∧Brs z (r.drop (j+1))∧z.length+1≤S.length∧∀x∈S,x=a∨x∈z
 |[],S,h,A=>by
  cases S with
  |nil=>exact absurd rfl A
  |cons x S=>exact absurd (h x (by simp)) (by simp)
 |a::r,S,h,A=>by
  by_cases R:a∈S
  ·obtain⟨z,h1,h2,T,O⟩:=B19 a S;refine⟨0,a,z,rfl,λx D=>?_,O R,h2⟩;obtain⟨g1,U⟩:=h1 x D;rcases AM.1 (h x g1)with h|h
   ·exact absurd h U
   ·simpa using h
  ·obtain⟨j,b,z,h1,h2,T,O⟩:=pick r S (λx D=>by
    rcases AM.1 (h x D)with e|e
    ·exact absurd (e▸D) R
    ·exact e) A
   exact⟨j+1,b,z,by simpa using h1,by simpa using h2,T,O⟩
abbrev Dv:=List (List (Int×Bool))
def E (l:Dv)(x y:Nat):Prop:=x≠y∧∃p q,l[x]?=some p∧l[y]?=some q∧X9 p q=.ok true
inductive Rch (l:Dv)(a:Nat):Nat→Prop
 |nil:Rch l a a
 |cons {b c:Nat}:Rch l a b→E l b c→Rch l a c
def Ge (d:List Int)(i:Nat):Prop:=∃v,d[i]?=some v∧0≤v
theorem B5z (p q:List (Int×Bool)):∃m n,Pl p q=.ok m∧Pl q p=.ok n∧X9 p q=.ok ((((m==0)&&(n==0))||((m==1)&&(n==2)))||((m==2)&&(n==1))):=by obtain⟨m,z,_⟩:=Ash p q;obtain⟨n,A,_⟩:=Ash q p;exact⟨m,n,z,A,by unfold X9;rw[z,A];rfl⟩
theorem B6f {p q:List (Int×Bool)}(h:X9 p q=.ok true):X9 q p=.ok true:=by obtain⟨m,n,h1,h2,z⟩:=B5z p q;rw[z]at h;injection h with h;unfold X9;rw[h2,h1,R.ok_bind,R.ok_bind];congr 1;simp only[BQ,AH,BN]at h ⊢;omega
variable{l:Dv}{x:Nat}
theorem E.symm{y:Nat}(h:E l x y):E l y x:=by obtain⟨h1,p,q,h2,z,A⟩:=h;exact⟨λe=>h1 e.symm,q,p,z,h2,B6f A⟩
variable{d:List Int}
theorem Ge.set{i j:Nat}{v:Int}(z:0≤v)(h:Ge d i):Ge (d.set j v) i:=by
 obtain⟨w,h1,h2⟩:=h;by_cases e:j=i
 ·subst e;exact⟨v,by rw[AZ (A6 h1)],z⟩
 ·exact⟨w,by rw[EP e];exact h1,h2⟩
structure Nx (l:Dv)(x:Nat)(d q:List Int)(k:Nat)(s:List Int×List Int):Prop where
 up:∀i,Ge d i→Ge s.1 i
 new:∀i,Ge s.1 i→Ge d i∨(E l x i∧(i:Int)∈s.2)
 que:∀v∈q,v∈s.2
 bac:∀v∈s.2,v∈q∨Ge s.1 v.toNat
 all:∀j,j<k→E l x j→Ge s.1 j
structure Fnd (l:Dv)(x:Nat)(d:List Int):Prop where
 len:d.length=l.length
 low:∀v∈d,-1≤v
 at_:Ge d x
 clo:∀i j,Ge d i→E l i j→Ge d j
 rch:∀i,Ge d i→Rch l x i
theorem Fnd.fwd{a b:Nat}(h:Fnd l x d)(r:Rch l a b)(z:Ge d a):Ge d b:=by
 induction r with
 |nil=>exact z
 |cons _ e A=>exact h.clo _ _ A e
theorem Fnd.bwd{a b:Nat}(h:Fnd l x d)(r:Rch l a b)(z:Ge d b):Ge d a:=by
 induction r with
 |nil=>exact z
 |cons _ e A=>exact A (h.clo _ _ z e.symm)
theorem Fnd.all{e:List Int}(h0:Fnd l 0 e)(z:∀i,i<l.length→Ge e i)(h:Fnd l x d)(A:x<l.length):∀i,i<l.length→Ge d i:=λi hi=>h.fwd (h0.rch i (z i hi)) (h.bwd (h0.rch x (z x A)) h.at_)
def inB (n a b:Int):Bool:=(decide (n≥a))&&(decide (n≤b))
def A2d (s:Span):Bool:=!(((decide (s.From<0))||(decide (s.From≥s.To)))||(decide (s.To>1440)))
def B3p (t:Tables)(g:Leg):Bool:=(((inB g.Segment 0 127&&inB g.Volume 0 (IntKind.wrap .i64 (t.Volumes-1)))&&inB g.Length 1 4096)&&decide ((g.Minutes.length:Int)>0))&&g.Minutes.all A2d
def apB (t:Tables)(n:Int):Bool:=inB n 0 (IntKind.wrap .i64 ((t.Modes.length:Int)-1))
def B1d (t:Tables)(w:Way):Bool:=((apB t w.From&&apB t w.To)&&inB (w.Legs.length:Int) 1 8)&&w.Legs.all (B3p t)
def ok3 (t:Int×Int×Int):Bool:=!(decide (t.1<t.2.1))&&!(decide (t.1>t.2.2))
def Bk1 (k:Kind):Bool:=([(k.Slow,1,64),(k.Fast,k.Slow,64),(k.Places,1,8),(k.Weight,1,8),(k.Longest,0,60),((k.Curfews.length:Int),0,16)].all ok3&&!((Int.tmod k.Longest 10)!=0))&&k.Curfews.all λl=>l.all A2d
structure Valid (t:Tables):Prop where
 way:∀w∈t.Ways,B1d t w=true
 kin:∀k∈t.Kinds,Bk1 k=true
def Ab8 (a:Nat)(s:Al):Nat:=s.foldl (λa c=>a*10+(c.toNat-48)) a
def val (s:Al):Nat:=Ab8 0 s
def at' (p:Nat)(t:Token):Token:={t with At:=p}
inductive Lx where
 |ok (l:List Token)
 |wrong (e:Nat)
 deriving DecidableEq
def Lx.add (o:Option Token)(p:Nat):Lx→Lx
 |.ok l=>.ok ((o.map (at' p)).toList++l)
 |.wrong e=>.wrong e
@[simp] theorem Lx.add_none (p:Nat)(x:Lx):x.add none p=x:=by cases x<;>rfl
def out:Lx→List Token×Int×Int
 |.ok l=>(l,0,0)
 |.wrong e=>([],(e:Int),70)
abbrev PR (α:Type):=Except (List Token×Int) (α×List Token)
abbrev Rd (α:Type):=List Token→PR α
namespace Rd
def bind (p:Rd α)(f:α→Rd β):Rd β:=λl=>match p l with
 |.error x=>.error x
 |.ok (a,r)=>f a r
def pure (a:α):Rd α:=λl=>.ok (a,l)
end Rd
def Awi (E:Int):List Token→Int
 |[]=>E
 |t::_=>t.At
def run(E:Int):PR α→R (α×List Token)
 |.ok x=>.ok x
 |.error (l,e)=>.pan ⟨161,.two .i64 .i64 (Awi E l) e⟩
def tup (x:Airspace×List Token):List Token×List Volume×List Sector×List Config×List Segment×List Route×List Airport×List Class×List Rule:=(x.2,x.1.Volumes,x.1.Sectors,x.1.Configs,x.1.Segments,x.1.Routes,x.1.Airports,x.1.Classes,x.1.Rules)
def ps (A:Airspace)(l:List Token):=(l,A.Airports,A.Classes,A.Configs,A.Rules,A.Routes,A.Sectors,A.Segments,A.Volumes)
def B31(q:α→β→Bool):List α→List β→Bool
 |[],[]=>true
 |a::l,b::m=>q a b&&B31 q l m
 |_,_=>false
def key (a b:Token):Bool:=(a.Kind==b.Kind)&&(a.Text==b.Text)&&(a.N==b.N)
def same (a b:List Token):Bool:=B31 key a b
def equal (a b:List Token):Bool:=same a b&&B31 (λx y:Token=>x.At==y.At) a b
def Lx.pre (l:List Token):Lx→Lx
 |.ok r=>.ok (l++r)
 |.wrong e=>.wrong e
def Lx.seq (x:Lx)(y:Lx):Lx:=match x with
 |.ok l=>y.pre l
 |.wrong e=>.wrong e
end Go.Am

/- Written by shrink.py from texts of ours: comments struck, what is not reached left out, names short. -/
import Derived.Test.YthpjjoanecpemaaGreatDoorU10
set_option linter.unusedSimpArgs false
set_option linter.unusedVariables false
set_option linter.unusedSectionVars false
set_option linter.defProp false
set_option maxHeartbeats 4000000
set_option maxRecDepth 100000
open Go.Proofs.Tryz
namespace Go.Am
open Go Go.Proofs Go.Proofs.Tryz
attribute [local irreducible] WR WO WP WU Nu
instance Bi7:CP prog 4 [] (Acu) AV.bool:=by
 refine ci 157 8 func4 Acu.eq_1 λh0 ids hI hF=>Ah<|Cm (.B false)<|Ad<|Ah<|oc ((A8g [118,111,108,117,109,101,32,118,59,32,115,101,99,116,111,114,32,115,32,61,32,118,32,114,97,100,97,114,32,52,32,112,114,111,99,101,100,117,114,97,108,32,50,59,32,99,111,110,102,105,103,32,99,32,61,32,115,59,32,115,101,103,109,101,110,116,32,103,32,105,110,32,118,32,108,101,110,103,116,104,32,53,48,32,111,112,101,110,32,48,32,116,111,32,54,48,48,59,32,97,105,114,112,111,114,116,32,112,32,109,111,100,101,32,109,32,57,59,32,97,105,114,112,111,114,116,32,113,32,109,111,100,101,32,109,32,51,59,32,114,111,117,116,101,32,114,32,102,114,111,109,32,112,32,116,111,32,113,32,118,105,97,32,103,59,32,99,108,97,115,115,32,107,32,115,108,111,119,32,53,32,102,97,115,116,32,49,48,32,112,108,97,99,101,115,32,50,59,32,99,117,114,102,101,119,32,107,32,97,116,32,113,32,48,32,116,111,32,51,48,48,59,32,119,101,105,103,104,116,32,107,32,51,59]) _) λr _=>Ao 4 [] [(29,.I r.2.2),(28,.I r.2.1),(27,.A (B9 r.1))]<|D9 0 An3.eq λg=>Gk (.A (B9 r.1)) ?_;refine Ao 2 [] [(3,.I r.2.2),(2,.I r.2.1)]<|Ad<|Bv ?_;refine Ah<|oc ((A8g []) _) λr1 _=>Ao 4 [] [(34,.I r1.2.2),(33,.I r1.2.1),(32,.A (B9 r1.1))]<|D9 1 An3.eq λg1=>Gk (.A (B9 r1.1)) ?_;refine Ao 2 [] [(6,.I r1.2.2)]<|Ad<|Bv ?_;refine Ah<|oc ((A8g [118,111,108,117,109,101]) _) λr2 _=>Ao 4 [] [(39,.I r2.2.2),(38,.I r2.2.1),(37,.A (B9 r2.1))]<|D9 2 An3.eq λg2=>Gk (.A (B9 r2.1)) ?_;refine Ao 2 [] [(9,.I r2.2.2),(8,.I r2.2.1)]<|Ad<|Bv ?_;refine Ah<|oc ((A8g [118,111,108,117,109,101,32,118,32,99,108,111,115,101,100,32,48,32,116,111,32,49,52,52,48,59,32,115,101,99,116,111,114,32,115,32,61,32,118,32,114,97,100,97,114,32,52,32,112,114,111,99,101,100,117,114,97,108,32,50,59,32,99,111,110,102,105,103,32,99,32,61,32,115,59,32,115,101,103,109,101,110,116,32,103,32,105,110,32,118,32,108,101,110,103,116,104,32,53,48,59]) _) λA _=>Ao 4 [] [(44,.I A.2.2),(43,.I A.2.1),(42,.A (B9 A.1))]<|D9 3 An3.eq λg3=>Gk (.A (B9 A.1)) ?_;refine Ao 2 [] [(12,.I A.2.2)]<|Ad<|Bv ?_;refine Ah<|Bl (.A [.emp,.emp,.emp,.emp,.emp,.emp,.emp,.emp])<|oc (λhb=>Bs.weak (.cons (.aggL (.cons (.emp _) (.cons (.emp _) (.cons (.emp _) (.cons (.emp _) (.cons (.emp _) (.cons (.emp _) (.cons (.emp _) (.cons (.emp _) .nil))))))))) .nil) ((Arv ({Volumes:=[],Sectors:=[],Configs:=[],Segments:=[],Routes:=[],Airports:=[],Classes:=[],Rules:=[]}:Airspace)) _ hb)) λr4 _=>Ao 3 [] [(49,.I r4.2),(48,.A (B9 r4.1))]<|D9 4 An3.eq λg4=>Gk (.A (B9 r4.1)) ?_;refine Cm (.I r4.2)<|Ad<|Bv ?_;refine Ah<|Ao 1 [0] [(51,.A (B9 r.1))]<|oc ((Aq0 r.1 0 0) _) λz _=>Ao 5 [] [(16,.B z.2),(15,.I z.1)]<|Ad<|Ah<|Bl (.A [.I 0,.emp,.emp,.emp,.emp,.emp])<|oc (λhb=>Bs.weak (.cons (.aggL (.s (.cons (.emp _) (.cons (.emp _) (.cons (.emp _) (.cons (.emp _) (.cons (.emp _) .nil))))))) .s2) ((Aq0 ({Volumes:=0,Sectors:=[],Configs:=[],Ways:=[],Modes:=[],Kinds:=[]}:Tables) 0 0) _ hb)) λr6 _=>Ao 5 [] [(18,.B r6.2)]<|Ad<|Ah<|Ao 1 [0] [(61,.A (B9 r.1))]<|oc ((Af1 r.1) _) λD _=>Ao 3 [] [(64,.I D.2),(63,.A (rU D.1))]<|O0 (j:=5) (row:=(rU (G3 32 0))) hI O O O O Px.eq (Wm (n:=32) (e:=(rI .u8)) (E:=(λx:Int=>(AV.int .u8 x))) (λ_=>O) _).symm ((Oz (λx=>Dw x) O) _) λg5=>Cw (Hm (v:=(.A (rU D.1))) hI O O O Px.eq O O O (((Oz (λx=>Dw x) O) _).1) O)<|Cm (.I D.2)<|Ad ?_;refine Bv ?_;refine Ah<|Bl (.A [.I 0,.I 600])<|Ch (e:=Ax) (L:=[({From:=0,To:=600}:Span)]) (st:=2) (rows:=[[.I 0,.I 600]]) O H4.eq Oo.eq O O O O O (.cons .s2 .nil) (λx=>Gu x) O O<|Cm (.sl 2 (List.map Ax [({From:=0,To:=600}:Span)]))<|Ad<|Ah<|Ch (e:=rJ) (L:=[0]) (st:=1) (rows:=[[.I 0]]) O C9.eq Dn.eq O O O O O (.cons (RowSim.refl _) .nil) (λx=>Dw x) O O<|Bl (.A [.str [],.emp,.K [0],.I 4,.I 2])<|Ch (e:=Br) (L:=[({Name:=[],Names:=[],Volumes:=[0],Radar:=4,Procedural:=2}:Sector)]) (st:=5) (rows:=[[.str [],.emp,.K [0],.I 4,.I 2]]) O Xv.eq Yb.eq O O O O O (.cons (.s (.cons (.emp _) (.s .s2))) .nil) (λx=>Vs x) O O<|Ch (e:=rJ) (L:=[0]) (st:=1) (rows:=[[.I 0]]) O C9.eq Dn.eq O O O O O (.cons (RowSim.refl _) .nil) (λx=>Dw x) O O<|Bl (.A [.str [],.emp,.K [0]])<|Ch (e:=Bz) (L:=[({Name:=[],Names:=[],Sectors:=[0]}:Config)]) (st:=3) (rows:=[[.str [],.emp,.K [0]]]) O Vb.eq Xg.eq O O O O O (.cons (.s (.cons (.emp _) .s1)) .nil) (λx=>Vp x) O O<|Ao 2 [] [(74,.A [.I 0,.I 0,.I 50,.sl 2 (List.map Ax [({From:=0,To:=600}:Span)])])]<|Ch (e:=If) (L:=[({Segment:=0,Volume:=0,Length:=50,Minutes:=[({From:=0,To:=600}:Span)]}:Leg)]) (st:=4) (rows:=[[.I 0,.I 0,.I 50,.sl 2 (List.map Ax [({From:=0,To:=600}:Span)])]]) O As7.eq Avr.eq O O O O O (.cons (.s (.s .s2)) .nil) (λx=>A1z x) O O<|Bl (.A [.I 0,.I 1,.sl 4 (List.map If [({Segment:=0,Volume:=0,Length:=50,Minutes:=[({From:=0,To:=600}:Span)]}:Leg)])])<|Ch (e:=Ks) (L:=[({From:=0,To:=1,Legs:=[({Segment:=0,Volume:=0,Length:=50,Minutes:=[({From:=0,To:=600}:Span)]}:Leg)]}:Way)]) (st:=3) (rows:=[[.I 0,.I 1,.sl 4 (List.map If [({Segment:=0,Volume:=0,Length:=50,Minutes:=[({From:=0,To:=600}:Span)]}:Leg)])]]) O A2e.eq A08.eq O O O O O (.cons (.s .s2) .nil) (λx=>Azs x) O O<|Ch (e:=rJ) (L:=[9]) (st:=1) (rows:=[[.I 9]]) O C9.eq Dn.eq O O O O O (.cons (RowSim.refl _) .nil) (λx=>Dw x) O O<|Ch (e:=rJ) (L:=[3]) (st:=1) (rows:=[[.I 3]]) O C9.eq Dn.eq O O O O O (.cons (RowSim.refl _) .nil) (λx=>Dw x) O O<|Ch (e:=(rL 1 rJ)) (L:=[[9],[3]]) (st:=1) (rows:=[[.K [9]],[.K [3]]]) O Az3.eq C9.eq O O O O O (.cons (RowSim.refl _) (.cons (RowSim.refl _) .nil)) (λx=>Ate x) O O ?_;refine Bl (.A [.I 0,.I 300])<|Ch (e:=Ax) (L:=[({From:=0,To:=300}:Span)]) (st:=2) (rows:=[[.I 0,.I 300]]) O H4.eq Oo.eq O O O O O (.cons .s2 .nil) (λx=>Gu x) O O<|Ch (e:=(rL 2 Ax)) (L:=[[],[({From:=0,To:=300}:Span)]]) (st:=1) (rows:=[[.emp],[.sl 2 (List.map Ax [({From:=0,To:=300}:Span)])]]) O A0i.eq H4.eq O O O O O (.cons (.cons (.emp _) .nil) (.cons (RowSim.refl _) .nil)) (λx=>Ate x) O O<|Bl (.A [.I 5,.I 10,.I 2,.I 3,.I 60,.sl 1 (List.map (rL 2 Ax) [[],[({From:=0,To:=300}:Span)]])])<|Ch (e:=Gi) (L:=[({Slow:=5,Fast:=10,Places:=2,Weight:=3,Longest:=60,Curfews:=[[],[({From:=0,To:=300}:Span)]]}:Kind)]) (st:=6) (rows:=[[.I 5,.I 10,.I 2,.I 3,.I 60,.sl 1 (List.map (rL 2 Ax) [[],[({From:=0,To:=300}:Span)]])]]) O A2a.eq Ata.eq O O O O O (.cons (.s (.s (.s (.s .s2)))) .nil) (λx=>Awg x) O O<|Bl (.A [.I 1,.sl 5 (List.map Br [({Name:=[],Names:=[],Volumes:=[0],Radar:=4,Procedural:=2}:Sector)]),.sl 3 (List.map Bz [({Name:=[],Names:=[],Sectors:=[0]}:Config)]),.sl 3 (List.map Ks [({From:=0,To:=1,Legs:=[({Segment:=0,Volume:=0,Length:=50,Minutes:=[({From:=0,To:=600}:Span)]}:Leg)]}:Way)]),.sl 1 (List.map (rL 1 rJ) [[9],[3]]),.sl 6 (List.map Gi [({Slow:=5,Fast:=10,Places:=2,Weight:=3,Longest:=60,Curfews:=[[],[({From:=0,To:=300}:Span)]]}:Kind)])])<|D9 6 An3.eq λg6=>Gk (.A [.I 1,.sl 5 (List.map Br [({Name:=[],Names:=[],Volumes:=[0],Radar:=4,Procedural:=2}:Sector)]),.sl 3 (List.map Bz [({Name:=[],Names:=[],Sectors:=[0]}:Config)]),.sl 3 (List.map Ks [({From:=0,To:=1,Legs:=[({Segment:=0,Volume:=0,Length:=50,Minutes:=[({From:=0,To:=600}:Span)]}:Leg)]}:Way)]),.sl 1 (List.map (rL 1 rJ) [[9],[3]]),.sl 6 (List.map Gi [({Slow:=5,Fast:=10,Places:=2,Weight:=3,Longest:=60,Curfews:=[[],[({From:=0,To:=300}:Span)]]}:Kind)])]) ?_;refine Ad<|Bv ?_;refine Ah<|Ao 1 [6] [(88,.A [.I 1,.sl 5 (List.map Br [({Name:=[],Names:=[],Volumes:=[0],Radar:=4,Procedural:=2}:Sector)]),.sl 3 (List.map Bz [({Name:=[],Names:=[],Sectors:=[0]}:Config)]),.sl 3 (List.map Ks [({From:=0,To:=1,Legs:=[({Segment:=0,Volume:=0,Length:=50,Minutes:=[({From:=0,To:=600}:Span)]}:Leg)]}:Way)]),.sl 1 (List.map (rL 1 rJ) [[9],[3]]),.sl 6 (List.map Gi [({Slow:=5,Fast:=10,Places:=2,Weight:=3,Longest:=60,Curfews:=[[],[({From:=0,To:=300}:Span)]]}:Kind)])])]<|oc (λhb=>Bs.weak (.cons (.aggL (.s (.s (.s (.s .s2))))) .nil) ((Af1 ({Volumes:=1,Sectors:=[({Name:=[],Names:=[],Volumes:=[0],Radar:=4,Procedural:=2}:Sector)],Configs:=[({Name:=[],Names:=[],Sectors:=[0]}:Config)],Ways:=[({From:=0,To:=1,Legs:=[({Segment:=0,Volume:=0,Length:=50,Minutes:=[({From:=0,To:=600}:Span)]}:Leg)]}:Way)],Modes:=[[9],[3]],Kinds:=[({Slow:=5,Fast:=10,Places:=2,Weight:=3,Longest:=60,Curfews:=[[],[({From:=0,To:=300}:Span)]]}:Kind)]}:Tables)) _ hb)) λR _=>Ao 3 [] [(91,.I R.2),(90,.A (rU R.1))]<|O0 (j:=7) (row:=(rU (G3 32 0))) hI O O O O Px.eq (Wm (n:=32) (e:=(rI .u8)) (E:=(λx:Int=>(AV.int .u8 x))) (λ_=>O) _).symm ((Oz (λx=>Dw x) O) _) λg7=>Cw (Hm (v:=(.A (rU R.1))) hI O O O Px.eq O O O (((Oz (λx=>Dw x) O) _).1) O)<|Cm (.I R.2)<|Ad<|Bv ?_;refine Ah<|Ao 3 [] [(94,.B (r.2.2==0))]<|Oc 3 94 97 [1,6,8,9,12,14,15,16,18,19,20,22,23,24] (.B ((r.2.2==0)&&(r.2.1==0))) O ?_ (λaf _ hJ=>?_) (λaf _ hJ=>?_)
 ·refine Bp (.B ((r.2.2==0)&&(r.2.1==0)))<|G9 4 98 102 [1,6,8,9,12,14,15,16,18,19,20,23,24] .bool O ?_ (λay _ ag=>?_) (λay _ ag=>?_)
  ·intro b;refine Bp (.B b)<|Oc 3 103 106 [1,8,9,12,14,15,16,18,19,20,23,24] (.B (b&&(r1.2.2==100))) O ?_ (λah _ ai=>?_) (λah _ ai=>?_)
   ·refine Bp (.B (b&&(r1.2.2==100)))<|Oc 3 107 110 [1,8,12,14,15,16,18,19,20,23,24] (.B ((b&&(r1.2.2==100))&&(r2.2.2==80))) O ?_ (λaj _ ak=>?_) (λaj _ ak=>?_)
    ·refine Bp (.B ((b&&(r1.2.2==100))&&(r2.2.2==80)))<|Oc 3 111 114 [1,12,14,15,16,18,19,20,23,24] (.B (((b&&(r1.2.2==100))&&(r2.2.2==80))&&(r2.2.1==6))) O ?_ (λal _ am=>?_) (λal _ am=>?_)
     ·refine Bp (.B (((b&&(r1.2.2==100))&&(r2.2.2==80))&&(r2.2.1==6)))<|Oc 3 115 118 [1,14,15,16,18,19,20,23,24] (.B ((((b&&(r1.2.2==100))&&(r2.2.2==80))&&(r2.2.1==6))&&(A.2.2==110))) O ?_ (λS _ an=>?_) (λS _ an=>?_)
      ·refine Bp (.B ((((b&&(r1.2.2==100))&&(r2.2.2==80))&&(r2.2.1==6))&&(A.2.2==110)))<|Oc 3 119 122 [1,15,16,18,19,20,23,24] (.B (((((b&&(r1.2.2==100))&&(r2.2.2==80))&&(r2.2.1==6))&&(A.2.2==110))&&(r4.2==100))) O ?_ (λT _ ao=>?_) (λT _ ao=>?_)
       ·refine Bp (.B (((((b&&(r1.2.2==100))&&(r2.2.2==80))&&(r2.2.1==6))&&(A.2.2==110))&&(r4.2==100)))<|Oc 2 123 125 [1,15,18,19,20,23,24] (.B ((((((b&&(r1.2.2==100))&&(r2.2.2==80))&&(r2.2.1==6))&&(A.2.2==110))&&(r4.2==100))&&z.2)) O ?_ (λU _ ap=>?_) (λU _ ap=>?_)
        ·refine Bp (.B ((((((b&&(r1.2.2==100))&&(r2.2.2==80))&&(r2.2.1==6))&&(A.2.2==110))&&(r4.2==100))&&z.2))<|Oc 3 126 129 [1,18,19,20,23,24] (.B (((((((b&&(r1.2.2==100))&&(r2.2.2==80))&&(r2.2.1==6))&&(A.2.2==110))&&(r4.2==100))&&z.2)&&(z.1==0))) O ?_ (λV _ aq=>?_) (λV _ aq=>?_)
         ·refine Bp (.B (((((((b&&(r1.2.2==100))&&(r2.2.2==80))&&(r2.2.1==6))&&(A.2.2==110))&&(r4.2==100))&&z.2)&&(z.1==0)))<|Oc 3 130 133 [1,19,20,23,24] (.B ((((((((b&&(r1.2.2==100))&&(r2.2.2==80))&&(r2.2.1==6))&&(A.2.2==110))&&(r4.2==100))&&z.2)&&(z.1==0))&&(!r6.2))) O ?_ (λW _ ar=>?_) (λW _ ar=>?_)
          ·refine Bp (.B ((((((((b&&(r1.2.2==100))&&(r2.2.2==80))&&(r2.2.1==6))&&(A.2.2==110))&&(r4.2==100))&&z.2)&&(z.1==0))&&(!r6.2)))<|Oc 3 134 137 [1,19,23,24] (.B (((((((((b&&(r1.2.2==100))&&(r2.2.2==80))&&(r2.2.1==6))&&(A.2.2==110))&&(r4.2==100))&&z.2)&&(z.1==0))&&(!r6.2))&&(D.2==0))) O ?_ (λX _ Y=>?_) (λX _ Y=>?_)
           ·refine Bp (.B (((((((((b&&(r1.2.2==100))&&(r2.2.2==80))&&(r2.2.1==6))&&(A.2.2==110))&&(r4.2==100))&&z.2)&&(z.1==0))&&(!r6.2))&&(D.2==0)))<|Oc 3 138 141 [1,19,23] (.B ((((((((((b&&(r1.2.2==100))&&(r2.2.2==80))&&(r2.2.1==6))&&(A.2.2==110))&&(r4.2==100))&&z.2)&&(z.1==0))&&(!r6.2))&&(D.2==0))&&(R.2==0))) O ?_ (λZ _ aa=>?_) (λZ _ aa=>?_)
            ·refine Bp (.B ((((((((((b&&(r1.2.2==100))&&(r2.2.2==80))&&(r2.2.1==6))&&(A.2.2==110))&&(r4.2==100))&&z.2)&&(z.1==0))&&(!r6.2))&&(D.2==0))&&(R.2==0)))<|Oc 4 142 146 [1] (.B (((((((((((b&&(r1.2.2==100))&&(r2.2.2==80))&&(r2.2.1==6))&&(A.2.2==110))&&(r4.2==100))&&z.2)&&(z.1==0))&&(!r6.2))&&(D.2==0))&&(R.2==0))&&(D.1==R.1))) O ?_ (λab _ ac=>?_) (λab _ ac=>?_)
             ·refine Bp (.B (((((((((((b&&(r1.2.2==100))&&(r2.2.2==80))&&(r2.2.1==6))&&(A.2.2==110))&&(r4.2==100))&&z.2)&&(z.1==0))&&(!r6.2))&&(D.2==0))&&(R.2==0))&&(D.1==R.1)))<|G9 4 147 151 [] .bool O ?_ (λau _ ad=>?_) (λau _ ad=>?_)
              ·intro b1;refine Bp (.B b1)<|G9 4 152 156 [] .bool O ?_ (λav _ ae=>?_) (λav _ ae=>?_)
               ·intro b2;refine Cm (.B b2)<|Ad<|rt
               ·refine F5 (tj:=152) (.A [.I 0,.emp,.emp,.emp,.emp,.emp]) O O O (Ai4 (A6y An3.eq Bnl.eq O))<|oc (λhb=>Bs.weak (.cons (.aggL (.s (.cons (.emp _) (.cons (.emp _) (.cons (.emp _) (.cons (.emp _) (.cons (.emp _) .nil))))))) .nil) ((Ahn ({Volumes:=0,Sectors:=[],Configs:=[],Ways:=[],Modes:=[],Kinds:=[]}:Tables)) _ hb)) λaw _=>Ao 2 [] [(156,.B (aw==140))]<|A6m (ae (aw==140))
               refine Ao 4 [] [(156,.B false)]<|A6m (ae false)
              ·refine Ao 1 [0] [(148,.A (B9 r.1))]<|oc ((Ahn r.1) _) λax _=>Ao 2 [] [(151,.B (ax==0))]<|A6m (ad (ax==0))
              refine Ao 4 [] [(151,.B false)]<|A6m (ad false)
             ·refine Ao 2 [5,7] [(144,.A (rU R.1)),(143,.A (rU D.1))]<|F5 (tj:=142) (.B (D.1==R.1)) O O O (Bb (Bkk O O) O (Bhb Px.eq Ln.eq))<|Bl (.B (D.1==R.1))<|Ib ac (.r (.cons (Afb ab) .nil))
             refine Ao 4 [] [(146,.B false)]<|Ib ac (.r (.cons (Afc ab) .nil))
            ·refine Ao 3 [] [(141,.B (R.2==0))]<|Ib aa (.r2 (.r (.cons (Afb Z) .nil)))
            refine Ao 3 [] [(141,.B false)]<|Ib aa (.r2 (.r (.cons (Afc Z) .nil)))
           ·refine Ao 3 [] [(137,.B (D.2==0))]<|Ib Y (.r4 (.cons (Afb X) .nil))
           refine Ao 3 [] [(137,.B false)]<|Ib Y (.r4 (.cons (Afc X) .nil))
          ·refine Ao 3 [] [(133,.B (!r6.2))]<|Ib ar (.r4 (.r (.cons (Afb W) .nil)))
          refine Ao 3 [] [(133,.B false)]<|Ib ar (.r4 (.r (.cons (Afc W) .nil)))
         ·refine Ao 3 [] [(129,.B (z.1==0))]<|Ib aq (.r4 (.r2 (.cons (Afb V) .nil)))
         refine Ao 3 [] [(129,.B false)]<|Ib aq (.r4 (.r2 (.cons (Afc V) .nil)))
        ·refine Ao 2 [] [(125,.B z.2)]<|Ib ap (.r4 (.r2 (.r (.cons (Afb U) .nil))))
        refine Ao 2 [] [(125,.B false)]<|Ib ap (.r4 (.r2 (.r (.cons (Afc U) .nil))))
       ·refine Ao 3 [] [(122,.B (r4.2==100))]<|Ib ao (.r4 (.r4 (.cons (Afb T) .nil)))
       refine Ao 3 [] [(122,.B false)]<|Ib ao (.r4 (.r4 (.cons (Afc T) .nil)))
      ·refine Ao 3 [] [(118,.B (A.2.2==110))]<|Ib an (.r4 (.r4 (.r (.cons (Afb S) .nil))))
      refine Ao 3 [] [(118,.B false)]<|Ib an (.r4 (.r4 (.r (.cons (Afc S) .nil))))
     ·refine Ao 3 [] [(114,.B (r2.2.1==6))]<|Ib am (.r4 (.r4 (.r2 (.cons (Afb al) .nil))))
     refine Ao 3 [] [(114,.B false)]<|Ib am (.r4 (.r4 (.r2 (.cons (Afc al) .nil))))
    ·refine Ao 3 [] [(110,.B (r2.2.2==80))]<|Ib ak (.r4 (.r4 (.r2 (.r (.cons (Afb aj) .nil)))))
    refine Ao 3 [] [(110,.B false)]<|Ib ak (.r4 (.r4 (.r2 (.r (.cons (Afc aj) .nil)))))
   ·refine Ao 3 [] [(106,.B (r1.2.2==100))]<|Ib ai (.r4 (.r4 (.r4 (.cons (Afb ah) .nil))))
   refine Ao 3 [] [(106,.B false)]<|Ib ai (.r4 (.r4 (.r4 (.cons (Afc ah) .nil))))
  ·refine Ao 2 [0,6] [(100,.A [.I 1,.sl 5 (List.map Br [({Name:=[],Names:=[],Volumes:=[0],Radar:=4,Procedural:=2}:Sector)]),.sl 3 (List.map Bz [({Name:=[],Names:=[],Sectors:=[0]}:Config)]),.sl 3 (List.map Ks [({From:=0,To:=1,Legs:=[({Segment:=0,Volume:=0,Length:=50,Minutes:=[({From:=0,To:=600}:Span)]}:Leg)]}:Way)]),.sl 1 (List.map (rL 1 rJ) [[9],[3]]),.sl 6 (List.map Gi [({Slow:=5,Fast:=10,Places:=2,Weight:=3,Longest:=60,Curfews:=[[],[({From:=0,To:=300}:Span)]]}:Kind)])]),(99,.A (B9 r.1))]<|oc (λhb=>Bs.weak (.s (.cons (.aggL (.s (.s (.s (.s .s2))))) .nil)) ((Ahe r.1 ({Volumes:=1,Sectors:=[({Name:=[],Names:=[],Volumes:=[0],Radar:=4,Procedural:=2}:Sector)],Configs:=[({Name:=[],Names:=[],Sectors:=[0]}:Config)],Ways:=[({From:=0,To:=1,Legs:=[({Segment:=0,Volume:=0,Length:=50,Minutes:=[({From:=0,To:=600}:Span)]}:Leg)]}:Way)],Modes:=[[9],[3]],Kinds:=[({Slow:=5,Fast:=10,Places:=2,Weight:=3,Longest:=60,Curfews:=[[],[({From:=0,To:=300}:Span)]]}:Kind)]}:Tables)) _ hb)) λr9 _=>Bl (.B r9)<|A6m (ag r9)
  refine Ao 4 [] [(102,.B false)]<|A6m (ag false)
 ·refine Ao 3 [] [(97,.B (r.2.1==0))]<|Ib hJ (.r4 (.r4 (.r4 (.r2 (.cons (Afb af) .nil)))))
 refine Ao 3 [] [(97,.B false)]<|Ib hJ (.r4 (.r4 (.r4 (.r2 (.cons (Afc af) .nil)))))
instance Bcb (l):CP prog 111 [.sl 1 (List.map rS l)] (N4 l) AV.bool:=by
 refine ci 19 0 func111 (N4.eq_1 _) λh0 ids z A=>go ?_;refine Ph [0] 3 (λ_=>[]) (λ_=>[]) ?_ ?_
 ·rintro j a _ D _ W _;refine Ae (Zx.eq_1 _)<|gc
 rintro _;exact gc
instance Bj8 (a):CP prog 17 [.A (Aj a)] (Af9 a) AV.bool:=by
 refine ci 178 1 func17 (Af9.eq_1 _) λh0 ids hI hF=>go ?_;intro g _;refine Bo O (λT=>?_) (λT=>?_)
 ·exact gc
 refine go ?_;refine Ui [1] 4 (λx=>[(3,.I x)]) (λx=>[Ab g 8 [Aj a]]) ?_ ?_
 ·rintro j a1 x U _ W _;refine Ae (Aq4.eq_1 _ _)<|gc
 rintro x;refine go ?_;intro _;refine Ph [1] 5 (λA=>[(3,.I A)]) (λA=>[Ab g 8 [Aj a]]) ?_ ?_
 ·rintro j1 a2 A V _ W _;refine Ae (Ap9.eq_1 _ _)<|gc
 rintro A;refine go ?_;intro _;refine Ph [1] 6 (λD=>[(3,.I D)]) (λD=>[Ab g 8 [Aj a]]) ?_ ?_
 ·rintro j2 a3 D X _ W _;refine Ae (Aql.eq_1 _ _)<|gc
 rintro D;refine go ?_;intro _;refine Ui [1] 7 (λR=>[(3,.I R)]) (λR=>[Ab g 8 [Aj a]]) ?_ ?_
 ·rintro j3 a4 R Y _ W _;refine Ae (Apn.eq_1 _ _)<|gc
 rintro R;refine go ?_;intro _;refine Ph [1] 8 (λS=>[(3,.I S)]) (λS=>[Ab g 8 [Aj a]]) ?_ ?_
 ·rintro j4 a5 S Z _ W _;refine Ae (Aqi.eq_1 _ _)<|gc
 rintro S;refine go ?_;intro _;refine Ui [1] 9 (λz=>[(3,.I z)]) (λz=>[Ab g 8 [Aj a]]) ?_ ?_
 ·rintro j5 a6 z aa _ W _;refine Ae (Aqr.eq_1 _ _)<|gc
 rintro z;exact gc
instance Bk3 (a):CP prog 18 [.A (Aj a)] (Af5 a) AV.bool:=by
 refine ci 51 1 func18 (Af5.eq_1 _) λh0 ids D O=>go ?_;intro g;refine Ph [1] 3 (λ_=>[]) (λ_=>[Ab g 8 [Aj a]]) ?_ ?_
 ·rintro j a1 _ z _ W _;refine Ae (Aiv.eq_1 _)<|gc
 rintro _;refine go ?_;intro _;refine Ph [1] 4 (λ_=>[]) (λ_=>[Ab g 8 [Aj a]]) ?_ ?_
 ·rintro R S _ A _ W _;refine Ae (Aka.eq_1 _)<|gc
 rintro _;exact gc
instance Bkg (a):CP prog 19 [.A (Aj a)] (Afx a) AV.bool:=by
 refine ci 175 1 func19 (Afx.eq_1 _) λh0 ids V X=>go ?_;intro g _;refine Bo O (λz=>?_) (λz=>?_)
 ·exact gc
 refine go ?_;refine Ph [1] 3 (λ_=>[]) (λ_=>[Ab g 8 [Aj a]]) ?_ ?_
 ·rintro j a1 _ A _ W _;refine Ae (Aj8.eq_1 _)<|gc
 rintro _;refine go ?_;intro _;refine Ph [1] 4 (λ_=>[]) (λ_=>[Ab g 8 [Aj a]]) ?_ ?_
 ·rintro Y Z _ D _ W _;refine Ae (Ap4.eq_1 _)<|gc
 rintro _;refine go ?_;intro _;refine Ph [1] 5 (λ_=>[]) (λ_=>[Ab g 8 [Aj a]]) ?_ ?_
 ·rintro j2 a3 _ R _ W _;refine Ae (Aq5.eq_1 _)<|gc
 rintro _;refine go ?_;intro _;refine Ph [1] 6 (λ_=>[]) (λ_=>[Ab g 8 [Aj a]]) ?_ ?_
 ·rintro j3 a4 _ S _ W _;refine Ae (Ajf.eq_1 _)<|gc
 rintro _;refine go ?_;intro _;refine Ph [1] 7 (λ_=>[]) (λ_=>[Ab g 8 [Aj a]]) ?_ ?_
 ·rintro j4 a5 _ T _ W _;refine Ae (Aqc.eq_1 _)<|gc
 rintro _;refine go ?_;intro _;refine Ph [1] 8 (λ_=>[]) (λ_=>[Ab g 8 [Aj a]]) ?_ ?_
 ·rintro j5 a6 _ U _ W _;refine Ae (Aiz.eq_1 _)<|gc
 rintro _;exact gc
instance Bi4 (a r):CP prog 180 [.A (Aj a),.A (Bk r)] (Aao a r) AV.bool:=by
 refine ci 104 2 func180 (Aao.eq_1 _ _) λh0 ids Y Z=>go ?_;intro g g1;refine Bo O (λX=>?_) (λX=>?_)
 ·exact gc
 refine go ?_;refine Bo O (λS=>?_) (λS=>?_)
 ·exact gc
 refine go ?_;refine Bo O (λT=>?_) (λT=>?_)
 ·exact gc
 refine go ?_;refine Bo O (λU=>?_) (λU=>?_)
 ·exact gc
 refine go ?_;refine Bo O (λV=>?_) (λV=>?_)
 ·exact gc
 refine go ?_;refine Bo O (λW=>?_) (λW=>?_)
 ·refine Ah<|Ao 4 [1] [(93,.B (decide (r.N≥0)))]<|Oc 4 93 97 [3] (.B ((decide (r.N≥0))&&(decide (r.N≤60)))) O ?_ (λz _ A=>?_) (λz _ A=>?_)
  ·refine Bp (.B ((decide (r.N≥0))&&(decide (r.N≤60))))<|Oc 5 98 103 [] (.B (((decide (r.N≥0))&&(decide (r.N≤60)))&&((Int.tmod r.N 10)==0))) O ?_ (λD _ R=>?_) (λD _ R=>?_)
   ·exact gc
   ·refine Ao 2 [1] [(100,.I r.N)]<|F5 (tj:=98) (.I (Int.tmod r.N 10)) O O O (Bb O O (Amc O (by decide)))<|gc
   exact gc
  ·refine Ao 4 [1] [(97,.B (decide (r.N≤60)))]<|Ib A (.r (.cons (Afb z) .nil))
  refine Ao 4 [] [(97,.B false)]<|Ib A (.r (.cons (Afc z) .nil))
 exact gc
instance Bhm (a):CP prog 112 [.A (Aj a)] (Ae8 a) (.int .i64):=by
 refine ci 23 1 func112 (Ae8.eq_1 _) λh0 ids D R=>go ?_;intro g _;refine E4 O (λz=>?_) (λz=>?_)
 ·exact gc
 refine go ?_;refine Ph [1] 3 (λ_=>[]) (λ_=>[Ab g 8 [Aj a]]) ?_ ?_
 ·rintro j a1 _ A _ W _;refine Ae (Ad9.eq_1 _ _)<|gc
 rintro _;exact gc
instance Blc (a):CP prog 20 [.A (Aj a)] (Afd a) AV.bool:=by refine ci 30 1 func20 (Afd.eq_1 _) λh0 ids z A=>gc
instance Bir (a):CP prog 6 [.A (Aj a)] (Aab a) AV.bool:=by refine ci 35 1 func6 (Aab.eq_1 _) λh0 ids z A=>gc
instance Akq (src):CP prog 3 [.str src] (Q1 src) AV.bool:=by
 refine ci 88 4 func3 (Q1.eq_1 _) λh0 ids hI hF=>go ?_;intro r _;refine N8 O (λhc=>?_) (λhc=>?_)
 ·refine go ?_;refine E4 O (λT=>?_) (λT=>?_)
  ·exact gc
  refine go ?_;intro r1 _ g b;refine Bo O (λU=>?_) (λU=>?_)
  ·exact gc
  refine go ?_;intro z _ g1;refine Bo O (λV=>?_) (λV=>?_)
  ·refine Ah<|Ao 4 [] [(42,.B (z.2.2==r1.2.2))]<|Oc 4 42 46 [6] (.B ((z.2.2==r1.2.2)&&(z.2.1==r1.2.1))) O ?_ (λA _ D=>?_) (λA _ D=>?_)
   ·refine Bp (.B ((z.2.2==r1.2.2)&&(z.2.1==r1.2.1)))<|G9 4 47 51 [] .bool O ?_ (λW _ X=>?_) (λW _ X=>?_)
    ·intro b1;refine Cm (.B b1)<|Ad<|rt
    ·refine Ao 2 [1] [(49,.A [.I 0,.emp,.emp,.emp,.emp,.emp]),(48,.A (B9 z.1))]<|oc (λY=>Bs.weak (.s (.cons (.aggL (.s (.cons (.emp _) (.cons (.emp _) (.cons (.emp _) (.cons (.emp _) (.cons (.emp _) .nil))))))) .nil)) ((Ahe z.1 ({Volumes:=0,Sectors:=[],Configs:=[],Ways:=[],Modes:=[],Kinds:=[]}:Tables)) _ Y)) λr4 _=>gc
    exact gc
   ·refine Ao 4 [] [(46,.B (z.2.1==r1.2.1))]<|Ib D (.r (.cons (Afb A) .nil))
   refine Ao 4 [] [(46,.B false)]<|Ib D (.r (.cons (Afc A) .nil))
  refine go ?_;intro Z _ g2;refine Bo O (λaa=>?_) (λaa=>?_)
  ·refine Ah<|Ao 4 [] [(62,.B (z.2.2==Z.2))]<|Oc 3 62 65 [6] (.B ((z.2.2==Z.2)&&(z.2.1==0))) O ?_ (λR _ S=>?_) (λR _ S=>?_)
   ·refine Bp (.B ((z.2.2==Z.2)&&(z.2.1==0)))<|G9 4 66 70 [] .bool O ?_ (λab _ ac=>?_) (λab _ ac=>?_)
    ·intro b2;refine Cm (.B b2)<|Ad<|rt
    ·refine Ao 2 [1] [(68,.A [.I 0,.emp,.emp,.emp,.emp,.emp]),(67,.A (B9 z.1))]<|oc (λY=>Bs.weak (.s (.cons (.aggL (.s (.cons (.emp _) (.cons (.emp _) (.cons (.emp _) (.cons (.emp _) (.cons (.emp _) .nil))))))) .nil)) ((Ahe z.1 ({Volumes:=0,Sectors:=[],Configs:=[],Ways:=[],Modes:=[],Kinds:=[]}:Tables)) _ Y)) λr6 _=>gc
    exact gc
   ·refine Ao 3 [] [(65,.B (z.2.1==0))]<|Ib S (.r (.cons (Afb R) .nil))
   refine Ao 3 [] [(65,.B false)]<|Ib S (.r (.cons (Afc R) .nil))
  exact gc
 exact gc
end Go.Am

/- Written by shrink.py from texts of ours: comments struck, what is not reached left out, names short. -/
import Derived.Test.YtlephacmljbibaaGreatDoorU5
namespace Go.Am
open Go Go.Proofs
set_option maxRecDepth 100000
set_option maxHeartbeats 4000000
set_option linter.unusedSimpArgs false
set_option linter.unusedVariables false
theorem Aec (a:Airspace)(b:Airspace):CP Tryz.prog 10 [(.agg (Ax a)),(.agg (Ax b))] (O3 a b) (fun(x:Bool)=>(AV.bool x)):=by
 refine C8 (n:=422) 12 Tryz.func10 J (by decide) J J fun h0 ids hI=>Bk (Al (O3.eq_1 _ _) ?_)
 refine Y<|O<|Ck (v:=(.agg (Ax a))) (j:=0) hI J J J J J J J fun g=>Ck (v:=(.agg (Ax b))) (j:=1) hI J J J J J J J fun g1=>Aa (.bool false) J Aj<|Z<|Ak ?_
 refine Y<|Y<|O<|Ac 2 [0] [(25,(.sl 2 (List.map Ar a.Volumes)))] ?_
 refine Aa (.I (a.Volumes.length:Int)) J (Ay (A8 H7))<|Ac 2 [1] [(28,(.sl 2 (List.map Ar b.Volumes)))] ?_
 refine Aa (.I (b.Volumes.length:Int)) J (Ay (A8 H7))<|Ac 2 [] [(31,(.bool ((a.Volumes.length:Int) != (b.Volumes.length:Int))))] ?_
 refine B9 8 [(2,(.q ids 0 g)),(3,(.q ids 1 g1)),(39,(.bool (((a.Volumes.length:Int) != (b.Volumes.length:Int))||((a.Sectors.length:Int) != (b.Sectors.length:Int)))))] ?_ fun hJ=>Bz ((a.Volumes.length:Int) != (b.Volumes.length:Int)) (fun hb1=>?_) (fun hb1=>?_)
 ·refine Aa (.bool (((a.Volumes.length:Int) != (b.Volumes.length:Int))||((a.Sectors.length:Int) != (b.Sectors.length:Int)))) J Ae<|B9 8 [(2,(.q ids 0 g)),(3,(.q ids 1 g1)),(48,(.bool ((((a.Volumes.length:Int) != (b.Volumes.length:Int))||((a.Sectors.length:Int) != (b.Sectors.length:Int)))||((a.Configs.length:Int) != (b.Configs.length:Int)))))] ?_ fun hJ1=>Bz (((a.Volumes.length:Int) != (b.Volumes.length:Int))||((a.Sectors.length:Int) != (b.Sectors.length:Int))) (fun hb3=>?_) (fun hb3=>?_)
  ·refine Aa (.bool ((((a.Volumes.length:Int) != (b.Volumes.length:Int))||((a.Sectors.length:Int) != (b.Sectors.length:Int)))||((a.Configs.length:Int) != (b.Configs.length:Int)))) J Ae<|B9 8 [(2,(.q ids 0 g)),(3,(.q ids 1 g1)),(57,(.bool (((((a.Volumes.length:Int) != (b.Volumes.length:Int))||((a.Sectors.length:Int) != (b.Sectors.length:Int)))||((a.Configs.length:Int) != (b.Configs.length:Int)))||((a.Segments.length:Int) != (b.Segments.length:Int)))))] ?_ fun hJ2=>Bz ((((a.Volumes.length:Int) != (b.Volumes.length:Int))||((a.Sectors.length:Int) != (b.Sectors.length:Int)))||((a.Configs.length:Int) != (b.Configs.length:Int))) (fun hb5=>?_) (fun hb5=>?_)
   ·refine Aa (.bool (((((a.Volumes.length:Int) != (b.Volumes.length:Int))||((a.Sectors.length:Int) != (b.Sectors.length:Int)))||((a.Configs.length:Int) != (b.Configs.length:Int)))||((a.Segments.length:Int) != (b.Segments.length:Int)))) J Ae<|B9 8 [(2,(.q ids 0 g)),(3,(.q ids 1 g1)),(66,(.bool ((((((a.Volumes.length:Int) != (b.Volumes.length:Int))||((a.Sectors.length:Int) != (b.Sectors.length:Int)))||((a.Configs.length:Int) != (b.Configs.length:Int)))||((a.Segments.length:Int) != (b.Segments.length:Int)))||((a.Routes.length:Int) != (b.Routes.length:Int)))))] ?_ fun hJ3=>Bz (((((a.Volumes.length:Int) != (b.Volumes.length:Int))||((a.Sectors.length:Int) != (b.Sectors.length:Int)))||((a.Configs.length:Int) != (b.Configs.length:Int)))||((a.Segments.length:Int) != (b.Segments.length:Int))) (fun hb7=>?_) (fun hb7=>?_)
    ·refine Aa (.bool ((((((a.Volumes.length:Int) != (b.Volumes.length:Int))||((a.Sectors.length:Int) != (b.Sectors.length:Int)))||((a.Configs.length:Int) != (b.Configs.length:Int)))||((a.Segments.length:Int) != (b.Segments.length:Int)))||((a.Routes.length:Int) != (b.Routes.length:Int)))) J Ae<|B9 8 [(2,(.q ids 0 g)),(3,(.q ids 1 g1)),(75,(.bool (((((((a.Volumes.length:Int) != (b.Volumes.length:Int))||((a.Sectors.length:Int) != (b.Sectors.length:Int)))||((a.Configs.length:Int) != (b.Configs.length:Int)))||((a.Segments.length:Int) != (b.Segments.length:Int)))||((a.Routes.length:Int) != (b.Routes.length:Int)))||((a.Airports.length:Int) != (b.Airports.length:Int)))))] ?_ fun hJ4=>Bz ((((((a.Volumes.length:Int) != (b.Volumes.length:Int))||((a.Sectors.length:Int) != (b.Sectors.length:Int)))||((a.Configs.length:Int) != (b.Configs.length:Int)))||((a.Segments.length:Int) != (b.Segments.length:Int)))||((a.Routes.length:Int) != (b.Routes.length:Int))) (fun hb9=>?_) (fun hb9=>?_)
     ·refine Aa (.bool (((((((a.Volumes.length:Int) != (b.Volumes.length:Int))||((a.Sectors.length:Int) != (b.Sectors.length:Int)))||((a.Configs.length:Int) != (b.Configs.length:Int)))||((a.Segments.length:Int) != (b.Segments.length:Int)))||((a.Routes.length:Int) != (b.Routes.length:Int)))||((a.Airports.length:Int) != (b.Airports.length:Int)))) J Ae<|B9 8 [(2,(.q ids 0 g)),(3,(.q ids 1 g1)),(84,(.bool ((((((((a.Volumes.length:Int) != (b.Volumes.length:Int))||((a.Sectors.length:Int) != (b.Sectors.length:Int)))||((a.Configs.length:Int) != (b.Configs.length:Int)))||((a.Segments.length:Int) != (b.Segments.length:Int)))||((a.Routes.length:Int) != (b.Routes.length:Int)))||((a.Airports.length:Int) != (b.Airports.length:Int)))||((a.Classes.length:Int) != (b.Classes.length:Int)))))] ?_ fun hJ5=>Bz (((((((a.Volumes.length:Int) != (b.Volumes.length:Int))||((a.Sectors.length:Int) != (b.Sectors.length:Int)))||((a.Configs.length:Int) != (b.Configs.length:Int)))||((a.Segments.length:Int) != (b.Segments.length:Int)))||((a.Routes.length:Int) != (b.Routes.length:Int)))||((a.Airports.length:Int) != (b.Airports.length:Int))) (fun hb11=>?_) (fun hb11=>?_)
      ·refine Aa (.bool ((((((((a.Volumes.length:Int) != (b.Volumes.length:Int))||((a.Sectors.length:Int) != (b.Sectors.length:Int)))||((a.Configs.length:Int) != (b.Configs.length:Int)))||((a.Segments.length:Int) != (b.Segments.length:Int)))||((a.Routes.length:Int) != (b.Routes.length:Int)))||((a.Airports.length:Int) != (b.Airports.length:Int)))||((a.Classes.length:Int) != (b.Classes.length:Int)))) J Ae<|B9 8 [(2,(.q ids 0 g)),(3,(.q ids 1 g1)),(93,(.bool (((((((((a.Volumes.length:Int) != (b.Volumes.length:Int))||((a.Sectors.length:Int) != (b.Sectors.length:Int)))||((a.Configs.length:Int) != (b.Configs.length:Int)))||((a.Segments.length:Int) != (b.Segments.length:Int)))||((a.Routes.length:Int) != (b.Routes.length:Int)))||((a.Airports.length:Int) != (b.Airports.length:Int)))||((a.Classes.length:Int) != (b.Classes.length:Int)))||((a.Rules.length:Int) != (b.Rules.length:Int)))))] ?_ fun hJ6=>Bz ((((((((a.Volumes.length:Int) != (b.Volumes.length:Int))||((a.Sectors.length:Int) != (b.Sectors.length:Int)))||((a.Configs.length:Int) != (b.Configs.length:Int)))||((a.Segments.length:Int) != (b.Segments.length:Int)))||((a.Routes.length:Int) != (b.Routes.length:Int)))||((a.Airports.length:Int) != (b.Airports.length:Int)))||((a.Classes.length:Int) != (b.Classes.length:Int))) (fun hb13=>?_) (fun hb13=>?_)
       ·refine Z<|Co J (fun hc=>?_) (fun hc=>?_)
        ·refine Y<|O<|Aa (.bool false) J Aj<|Z<|B8 (a:=false) (vs:=[(.bool false)]) Tryz.func10 hI J (.same _)
        refine A0<|Y<|Y<|O<|Aa (.I 0) J Aj<|Z<|A3 ?_
        refine Db [(2,(.q ids 0 g)),(3,(.q ids 1 g1)),(5,(.I 0))] (FI J)<|Ga (P:=Tryz.prog) a.Volumes (fun j a1=>fun _=>R8 b j a1) ((Dv (fun _=>(each (fun j1 a3=>fun _=>Pz b j1 a3) 0 a.Sectors ()).bind (Dv (fun _=>(each (fun j2 a5=>fun _=>Ob b j2 a5) 0 a.Configs ()).bind (Dv (fun _=>(each (fun j3 a7=>fun _=>Ml b j3 a7) 0 a.Segments ()).bind (Dv (fun _=>(each (fun j4 a9=>fun _=>K5 b j4 a9) 0 a.Routes ()).bind (Dv (fun _=>(each (fun j5 a11=>fun _=>Jn b j5 a11) 0 a.Airports ()).bind (Dv (fun _=>(each (fun j7 a15=>fun _=>Ie b j7 a15) 0 a.Classes ()).bind (Dv (fun _=>(each (fun j8 a17=>fun _=>G1 b j8 a17) 0 a.Rules ()).bind (Dv (fun _=>.ok true) (fun r=>.ok r))) (fun r=>.ok r))) (fun r=>.ok r))) (fun r=>.ok r))) (fun r=>.ok r))) (fun r=>.ok r))) (fun r=>.ok r))) (fun r=>.ok r)):(Unit ⊕ Bool)→R Bool) (fun j=>fun _=>fun(fr:Nat→AV) (h:Af)=>fr=A2 [(2,(.q ids 0 g)),(3,(.q ids 1 g1)),(5,(.I (j:Int)))]∧h=hp h0 ids [(some (.rows g 8 [(Ax a)])),(some (.rows g1 8 [(Ax b)])),none,none,none,none,none,none,none,none,none,none]) () ?_ ?_ ?_
        ·exact⟨J,J⟩
        ·rintro j a1 ha1 W hW _ fr h ⟨rfl,rfl⟩
         refine Al (m':=R8 b j a1) J (Al (R8.eq_1 _ _ _) ?_)
         refine Y<|Y<|O<|Ac 3 [0] [(96,(.sl 2 (List.map Ar a.Volumes))),(94,(.I (j:Int)))] ?_
         refine Aa (.I (a.Volumes.length:Int)) J (Ay (A8 H7))<|Aa (.bool (decide ((j:Int)<(a.Volumes.length:Int)))) J (Ba J J J)<|Z<|Dn (t:=96) (L:=a.Volumes) J fun hlim1=>Ch J (Int.ofNat_lt.2 (Av ha1))<|A0<|Y ?_
         refine A3<|Y<|D3 (fun x1=>R4 x1) (fun x1=>fun(fr:Nat→AV) (h:Af)=>fr=A2 [(2,(.q ids 0 g)),(3,(.q ids 1 g1)),(5,(.I (j:Int))),(129,(.bool x1))]∧h=hp h0 ids [(some (.rows g 8 [(Ax a)])),(some (.rows g1 8 [(Ax b)])),none,none,none,none,none,none,none,none,none,none]) ?_ fun hJ7=>?_
         ·rintro x1 fr h ⟨rfl,rfl⟩
          refine Al (R4.eq_1 _)<|Co J (fun hc1=>?_) (fun hc1=>?_)
          ·refine Y<|O<|Aa (.bool false) J Aj<|Z<|G2<|Jg<|B8 (a:=false) (vs:=[(.bool false)]) Tryz.func10 hI J (.same _)
          refine A0<|Bf<|O<|Ac 3 [] [(5,(.I (IntKind.wrap .i64 ((j:Int)+1))))] ?_
          refine Z<|Bp (G4 (hW () _ _ ⟨J,J⟩)) (.cons J (.cons J (.cons (C3 (Av ha1) hlim1) .nil)))
         refine C6 Fl [[],[0],[],[0,1,2],[0,1,2,3],[0,1,2,3,4],[],[6],[],[6,7,8],[6,7,8,9],[6,7,8,9,10],[0,1,2,3,4,5,6,7,8,9,10,11],[0,1,2,3,4,5,6,7,8,9,10,11,12],[0,1,2,3,4,5,6,7,8,9,10,11,12,13],[0,1,2,3,4,5,6,7,8,9,10,11,12,13,14],[0,1,2,3,4,5,6,7,8,9,10,11,12,13],[0,1,2,3,4,5,6,7,8,9,10,11,12,13,14,15,16],[0,1,2,3,4,5,6,7,8,9,10,11,12,13,14,15,16,17],[0,1,2,3,4,5,6,7,8,9,10,11,12,13,14,15,16,17,18],[0,1,2,3,4,5,6,7,8,9,10,11,12,13],[0,1,2,3,4,5,6,7,8,9,10,11,12,13,20],[0,1,2,3,4,5,6,7,8,9,10,11,12,13],[0,1,2,3,4,5,6,7,8,9,10,11,12,13,20,21,22],[0,1,2,3,4,5,6,7,8,9,10,11,12,13,20,21,22,23],[0,1,2,3,4,5,6,7,8,9,10,11,12,13,20,21,22,23,24],[0,1,2,3,4,5,6,7,8,9,10,11,12,13,14,15,16,17,18,19,20,21,22,23,24,25],[0,1,2,3,4,5,6,7,8,9,10,11,12,13,14,15,16,17,18,19,20,21,22,23,24,25,26],[0,1,2,3,4,5,6,7,8,9,10,11,12,13,14,15,16,17,18,19,20,21,22,23,24,25,26,27]] [(false,0),(false,1),(false,2),(false,3),(false,4),(false,5),(false,6),(false,7),(false,8),(false,9),(false,10),(false,11),(false,12),(false,13),(false,14),(false,15),(false,16),(false,17),(false,18),(false,19),(false,20),(false,21),(false,22),(false,23),(false,24),(false,25),(true,26),(false,27),(false,28)] (by kernel_rfl)<|Ag (.q ids 0 g) J J (Bw (Bq (c:=0) (off:=0) (i:=0) Df J H7 J))<|Ag (.sl 2 (List.map Ar a.Volumes)) J J (As (A7 hI J J J H7 J))<|Ag (.I (j:Int)) J J Ae<|Ag (.cp (Ar a1) 0) J J (Bt (Ct H7 Lb J ha1))<|Ag (.cp (Ar a1) 0) J J (Bw (Adj (c:=0) (off:=0) (i:=0) Lb J Cf J))<|Ag (.str a1.Name) J J (As (Dh Cf J)) ?_
         refine Ag (.q ids 1 g1) J J (Bw (Bq (c:=0) (off:=0) (i:=0) Df J H7 J))<|Ag (.sl 2 (List.map Ar b.Volumes)) J J (As (A7 hI J J J H7 J))<|Ag (.I (j:Int)) J J Ae<|Aab fun a2 hz hx1=>Ag (.cp (Ar a2) 0) J J (Bt (Eg H7 Lb J hz hx1))<|Ag (.cp (Ar a2) 0) J J (Bw (Adj (c:=0) (off:=0) (i:=0) Lb J Cf J))<|Ag (.str a2.Name) J J (As (Dh Cf J)) ?_
         refine Ag (.bool (!(a1.Name==a2.Name))) J J (Ba J J J)<|Ag (.bool (!(a1.Name==a2.Name))) J J Ae<|N8 (fun hb14=>?_) (fun hb14=>?_)
         ·refine Ln (tj:=114) (b:=true) J J (congrArg AV.bool hb14) J J<|Ln (tj:=114) (b:=true) J J (congrArg AV.bool hb14) J J<|Ln (tj:=114) (b:=true) J J (congrArg AV.bool hb14) J J<|Ln (tj:=114) (b:=true) J J (congrArg AV.bool hb14) J J<|Ln (tj:=114) (b:=true) J J (congrArg AV.bool hb14) J J<|Ln (tj:=114) (b:=true) J J (congrArg AV.bool hb14) J J<|Ln (tj:=114) (b:=true) J J (congrArg AV.bool hb14) J J ?_
          refine Ln (tj:=114) (b:=true) J J (congrArg AV.bool hb14) J J<|Ln (tj:=114) (b:=true) J J (congrArg AV.bool hb14) J J<|Ln (tj:=114) (b:=true) J J (congrArg AV.bool hb14) J J<|Ln (tj:=114) (b:=true) J J (congrArg AV.bool hb14) J J<|Ln (tj:=114) (b:=true) J J (congrArg AV.bool hb14) J J<|Aub (tj:=114) (b:=true) J J (congrArg AV.bool hb14) J J<|Ln (tj:=114) (b:=true) J J (congrArg AV.bool hb14) J J ?_
          refine Ag (.bool true) J J (Sl (t:=true) (congrArg AV.bool hb14) J)<|Cu<|Bp (hJ7 true _ _ ⟨J,J⟩)
         refine Je (tj:=114) (.q ids 0 g) J J (congrArg AV.bool hb14) J (Bw (Bq (c:=0) (off:=0) (i:=0) Df J H7 J))<|Je (tj:=114) (.sl 2 (List.map Ar a.Volumes)) J J (congrArg AV.bool hb14) J (As (A7 hI J J J H7 J))<|Je (tj:=114) (.I (j:Int)) J J (congrArg AV.bool hb14) J Ae<|Je (tj:=114) (.cp (Ar a1) 0) J J (congrArg AV.bool hb14) J (Bt (Ct H7 Lb J ha1))<|Je (tj:=114) (.cp (Ar a1) 1) J J (congrArg AV.bool hb14) J (Bw (Adj (c:=0) (off:=1) (i:=1) Lb J Pu J))<|Je (tj:=114) (.sl 2 (List.map C0 a1.Closed)) J J (congrArg AV.bool hb14) J (As (Dh Pu J))<|Je (tj:=114) (.q ids 1 g1) J J (congrArg AV.bool hb14) J (Bw (Bq (c:=0) (off:=0) (i:=0) Df J H7 J)) ?_
         refine Je (tj:=114) (.sl 2 (List.map Ar b.Volumes)) J J (congrArg AV.bool hb14) J (As (A7 hI J J J H7 J))<|Je (tj:=114) (.I (j:Int)) J J (congrArg AV.bool hb14) J Ae<|Je (tj:=114) (.cp (Ar a2) 0) J J (congrArg AV.bool hb14) J (Bt (Eg H7 Lb J hz hx1))<|Je (tj:=114) (.cp (Ar a2) 1) J J (congrArg AV.bool hb14) J (Bw (Adj (c:=0) (off:=1) (i:=1) Lb J Pu J))<|Je (tj:=114) (.sl 2 (List.map C0 a2.Closed)) J J (congrArg AV.bool hb14) J (As (Dh Pu J))<|Pc [(.sl 2 (List.map C0 a1.Closed)),(.sl 2 (List.map C0 a2.Closed))] J (Er (tj:=114) J (congrArg AV.bool hb14)) J J J ((Yd a1.Closed a2.Closed) _) (fun v _ _ _=>Cy Tryz.func10 hI) (Ab J (Ab J (Ab J (Ab J (Ab J (Ab J (Ab J (Ab J (Ab J (Ab J (Ab J (Ab J (Ab J (Ab J (Ab J (Ab J (Ab J (Ab J (Ab J (Ab J (Ab J (Ab J (Ab J (Ab J (Ab J (Ab J Bm)))))))))))))))))))))))))) fun r _=>Je (tj:=114) (.bool (!r)) J J (congrArg AV.bool hb14) J (Xk J) ?_
         refine Ag (.bool (!r)) J J (Sl (t:=false) (congrArg AV.bool hb14) J)<|Cu<|Bp (hJ7 (!r) _ _ ⟨J,J⟩)
        rintro _ fr h ⟨rfl,rfl⟩
        refine Al (Hz _ _ _)<|Y<|Y<|O<|Ac 3 [0] [(96,(.sl 2 (List.map Ar a.Volumes))),(94,(.I (a.Volumes.length:Int)))] ?_
        refine Aa (.I (a.Volumes.length:Int)) J (Ay (A8 H7))<|Aa (.bool (decide ((a.Volumes.length:Int)<(a.Volumes.length:Int)))) J (Ba J J J)<|Z<|Cg J (Int.lt_irrefl _)<|Cl J<|Y<|Y ?_
        refine O<|Aa (.I 0) J Aj<|Z<|A3<|Db [(2,(.q ids 0 g)),(3,(.q ids 1 g1)),(6,(.I 0))] (FI J)<|Ga (P:=Tryz.prog) a.Sectors (fun j1 a3=>fun _=>Pz b j1 a3) ((Dv (fun _=>(each (fun j2 a5=>fun _=>Ob b j2 a5) 0 a.Configs ()).bind (Dv (fun _=>(each (fun j3 a7=>fun _=>Ml b j3 a7) 0 a.Segments ()).bind (Dv (fun _=>(each (fun j4 a9=>fun _=>K5 b j4 a9) 0 a.Routes ()).bind (Dv (fun _=>(each (fun j5 a11=>fun _=>Jn b j5 a11) 0 a.Airports ()).bind (Dv (fun _=>(each (fun j7 a15=>fun _=>Ie b j7 a15) 0 a.Classes ()).bind (Dv (fun _=>(each (fun j8 a17=>fun _=>G1 b j8 a17) 0 a.Rules ()).bind (Dv (fun _=>.ok true) (fun r=>.ok r))) (fun r=>.ok r))) (fun r=>.ok r))) (fun r=>.ok r))) (fun r=>.ok r))) (fun r=>.ok r))) (fun r=>.ok r)):(Unit ⊕ Bool)→R Bool) (fun j1=>fun _=>fun(fr:Nat→AV) (h:Af)=>fr=A2 [(2,(.q ids 0 g)),(3,(.q ids 1 g1)),(6,(.I (j1:Int)))]∧h=hp h0 ids [(some (.rows g 8 [(Ax a)])),(some (.rows g1 8 [(Ax b)])),none,none,none,none,none,none,none,none,none,none]) () ?_ ?_ ?_
        ·exact⟨J,J⟩
        ·rintro j1 a3 ha3 W hW1 _ fr h ⟨rfl,rfl⟩
         refine Al (m':=Pz b j1 a3) J (Al (Pz.eq_1 _ _ _) ?_)
         refine Y<|Y<|O<|Ac 3 [0] [(132,(.sl 5 (List.map A9 a.Sectors))),(130,(.I (j1:Int)))] ?_
         refine Aa (.I (a.Sectors.length:Int)) J (Ay (A8 Fp))<|Aa (.bool (decide ((j1:Int)<(a.Sectors.length:Int)))) J (Ba J J J)<|Z<|Dn (t:=132) (L:=a.Sectors) J fun hlim3=>Ch J (Int.ofNat_lt.2 (Av ha3))<|A0<|Y ?_
         refine A3<|Y<|O<|Ac 3 [0] [(139,(.I (j1:Int))),(138,(.sl 5 (List.map A9 a.Sectors)))] ?_
         refine Aa (.cp (A9 a3) 0) J (Bt (Ct Fp Gg J ha3))<|Aa (.agg (A9 a3)) J (As (Dh Gg J))<|Bl (j:=2) hI J J J J Gg J fun g2=>Au (A4 (v:=(.agg (A9 a3))) hI J J J J Gg J J J J J)<|Z<|Ak ?_
         refine Y<|O<|Ac 3 [1] [(144,(.I (j1:Int))),(143,(.sl 5 (List.map A9 b.Sectors)))] ?_
         refine Ed fun a4 hz1 hx2=>Aa (.cp (A9 a4) 0) J (Bt (Eg Fp Gg J hz1 hx2))<|Aa (.agg (A9 a4)) J (As (Dh Gg J))<|Bl (j:=3) hI J J J J Gg J fun g3=>Au (A4 (v:=(.agg (A9 a4))) hI J J J J Gg J J J J J)<|Z<|Ak ?_
         refine Y<|O<|Ac 6 [2,3] [(152,(.bool (!(a3.Name==a4.Name))))] ?_
         refine E0 7 ((fun(b1:Bool)=>(if b1 then R.ok true else(Hi a3.Volumes a4.Volumes).bind fun r2=>R.ok (!r2)).bind (fun(b2:Bool)=>if((b2||(a3.Radar != a4.Radar))||(a3.Procedural != a4.Procedural)) then(.ok (.inr (false))) else(.ok (.inl ())))):Bool→R (Unit ⊕ Bool)) (fun(b1:Bool) (fr:Nat→AV) (h:Af)=>fr=A2 [(2,(.q ids 0 g)),(3,(.q ids 1 g1)),(6,(.I (j1:Int))),(7,(.q ids 2 g2)),(8,(.q ids 3 g3)),(159,(.bool b1))]∧h=hp h0 ids [(some (.rows g 8 [(Ax a)])),(some (.rows g1 8 [(Ax b)])),(some (.rows g2 5 [(A9 a3)])),(some (.rows g3 5 [(A9 a4)])),none,none,none,none,none,none,none,none]) ?_ fun hJ8=>Gi (fun hb16=>?_) (fun hb16=>?_)
         ·rintro b1 fr h ⟨rfl,rfl⟩
          refine Aa (.bool b1) J Ae<|E0 7 ((fun(b2:Bool)=>if((b2||(a3.Radar != a4.Radar))||(a3.Procedural != a4.Procedural)) then(.ok (.inr (false))) else(.ok (.inl ()))):Bool→R (Unit ⊕ Bool)) (fun(b2:Bool) (fr:Nat→AV) (h:Af)=>fr=A2 [(2,(.q ids 0 g)),(3,(.q ids 1 g1)),(6,(.I (j1:Int))),(7,(.q ids 2 g2)),(8,(.q ids 3 g3)),(167,(.bool b2))]∧h=hp h0 ids [(some (.rows g 8 [(Ax a)])),(some (.rows g1 8 [(Ax b)])),(some (.rows g2 5 [(A9 a3)])),(some (.rows g3 5 [(A9 a4)])),none,none,none,none,none,none,none,none]) ?_ fun hJ9=>Gi (fun hb18=>?_) (fun hb18=>?_)
          ·rintro b2 fr h ⟨rfl,rfl⟩
           refine Aa (.bool b2) J Ae<|B9 6 [(2,(.q ids 0 g)),(3,(.q ids 1 g1)),(6,(.I (j1:Int))),(7,(.q ids 2 g2)),(8,(.q ids 3 g3)),(174,(.bool (b2||(a3.Radar != a4.Radar))))] ?_ fun hJ10=>Bz b2 (fun hb20=>?_) (fun hb20=>?_)
           ·refine Aa (.bool (b2||(a3.Radar != a4.Radar))) J Ae<|B9 6 [(2,(.q ids 0 g)),(3,(.q ids 1 g1)),(6,(.I (j1:Int))),(181,(.bool ((b2||(a3.Radar != a4.Radar))||(a3.Procedural != a4.Procedural))))] ?_ fun hJ11=>Bz (b2||(a3.Radar != a4.Radar)) (fun hb22=>?_) (fun hb22=>?_)
            ·refine Z<|Co J (fun hc2=>?_) (fun hc2=>?_)
             ·refine Y<|O<|Aa (.bool false) J Aj<|Z<|G2<|Jg<|B8 (a:=false) (vs:=[(.bool false)]) Tryz.func10 hI J (.same _)
             refine A0<|Bf<|O<|Ac 3 [] [(6,(.I (IntKind.wrap .i64 ((j1:Int)+1))))] ?_
             refine Z<|Dr [(some (.rows g 8 [(Ax a)])),(some (.rows g1 8 [(Ax b)])),none,none,none,none,none,none,none,none,none,none] hI J (.keep (.keep (.drop (.drop (.keep (.keep (.keep (.keep (.keep (.keep (.keep (.keep .nil))))))))))))<|Bp (G4 (hW1 () _ _ ⟨J,J⟩)) (.cons J (.cons J (.cons (C3 (Av ha3) hlim3) .nil)))
            ·refine Bj (t:=175) hb22 J<|Ac 6 [] [(181,(.bool true)),(180,.und),(179,.und),(178,.und),(177,.und),(176,.und)] ?_
             exact Br hJ11 (.cons J (.cons J (.cons J (.cons (Fe hb22) .nil))))
            refine Bj (t:=175) hb22 J<|Ac 6 [2,3] [(181,(.bool (a3.Procedural != a4.Procedural))),(180,(.bool (a3.Procedural != a4.Procedural))),(179,(.I a4.Procedural)),(178,(.ptr (ix ids 3) g3 0 4)),(177,(.I a3.Procedural)),(176,(.ptr (ix ids 2) g2 0 4))] ?_
            exact Br hJ11 (.cons J (.cons J (.cons J (.cons (Fg hb22) .nil))))
           ·refine Bj (t:=168) hb20 J<|Ac 6 [] [(174,(.bool true)),(173,.und),(172,.und),(171,.und),(170,.und),(169,.und)] ?_
            exact Br hJ10 (.cons J (.cons J (.cons J (.cons J (.cons J (.cons (Fe hb20) .nil))))))
           refine Bj (t:=168) hb20 J<|Ac 6 [2,3] [(174,(.bool (a3.Radar != a4.Radar))),(173,(.bool (a3.Radar != a4.Radar))),(172,(.I a4.Radar)),(171,(.ptr (ix ids 3) g3 0 3)),(170,(.I a3.Radar)),(169,(.ptr (ix ids 2) g2 0 3))] ?_
           exact Br hJ10 (.cons J (.cons J (.cons J (.cons J (.cons J (.cons (Fg hb20) .nil))))))
          ·refine Bj (t:=160) hb18 J<|Ac 7 [] [(167,(.bool true)),(166,.und),(165,.und),(164,.und),(163,.und),(162,.und),(161,.und)] ?_
           refine Cd<|Dt [(2,(.q ids 0 g)),(3,(.q ids 1 g1)),(6,(.I (j1:Int))),(7,(.q ids 2 g2)),(8,(.q ids 3 g3)),(167,(.bool true))] (FI J)<|hJ9 true _ _ ⟨J,J⟩
          refine Bj (t:=160) hb18 J<|Ac 4 [2,3] [(164,(.sl 1 (List.map (rI .i64) a4.Volumes))),(163,(.ptr (ix ids 3) g3 0 2)),(162,(.sl 1 (List.map (rI .i64) a3.Volumes))),(161,(.ptr (ix ids 2) g2 0 2))] ?_
          refine Bv [(.sl 1 (List.map (rI .i64) a3.Volumes)),(.sl 1 (List.map (rI .i64) a4.Volumes))] J (Er (tj:=160) J J) J J ((Qy a3.Volumes a4.Volumes) _) (fun v _=>Cy Tryz.func10 hI) fun r2 _=>Ac 2 [] [(167,(.bool (!r2))),(166,(.bool (!r2)))] ?_
          refine Cd<|Dt [(2,(.q ids 0 g)),(3,(.q ids 1 g1)),(6,(.I (j1:Int))),(7,(.q ids 2 g2)),(8,(.q ids 3 g3)),(167,(.bool (!r2)))] (FI J)<|hJ9 (!r2) _ _ ⟨J,J⟩
         ·refine Bj (t:=152) hb16 J<|Ac 7 [] [(159,(.bool true)),(158,.und),(157,.und),(156,.und),(155,.und),(154,.und),(153,.und)] ?_
          refine Cd<|Dt [(2,(.q ids 0 g)),(3,(.q ids 1 g1)),(6,(.I (j1:Int))),(7,(.q ids 2 g2)),(8,(.q ids 3 g3)),(159,(.bool true))] (FI J)<|hJ8 true _ _ ⟨J,J⟩
         refine Bj (t:=152) hb16 J<|Ac 4 [2,3] [(156,(.sl 1 (List.map rS a4.Names))),(155,(.ptr (ix ids 3) g3 0 1)),(154,(.sl 1 (List.map rS a3.Names))),(153,(.ptr (ix ids 2) g2 0 1))] ?_
         refine Bv [(.sl 1 (List.map rS a3.Names)),(.sl 1 (List.map rS a4.Names))] J (Er (tj:=152) J J) J J ((Tg a3.Names a4.Names) _) (fun v _=>Cy Tryz.func10 hI) fun r1 _=>Ac 2 [] [(159,(.bool (!r1))),(158,(.bool (!r1)))] ?_
         refine Cd<|Dt [(2,(.q ids 0 g)),(3,(.q ids 1 g1)),(6,(.I (j1:Int))),(7,(.q ids 2 g2)),(8,(.q ids 3 g3)),(159,(.bool (!r1)))] (FI J)<|hJ8 (!r1) _ _ ⟨J,J⟩
        rintro _ fr h ⟨rfl,rfl⟩
        refine Al (Hz _ _ _)<|Y<|Y<|O<|Ac 3 [0] [(132,(.sl 5 (List.map A9 a.Sectors))),(130,(.I (a.Sectors.length:Int)))] ?_
        refine Aa (.I (a.Sectors.length:Int)) J (Ay (A8 Fp))<|Aa (.bool (decide ((a.Sectors.length:Int)<(a.Sectors.length:Int)))) J (Ba J J J)<|Z<|Cg J (Int.lt_irrefl _)<|Cl J<|Y<|Y ?_
        refine O<|Aa (.I 0) J Aj<|Z<|A3<|Db [(2,(.q ids 0 g)),(3,(.q ids 1 g1)),(9,(.I 0))] (FI J)<|Ga (P:=Tryz.prog) a.Configs (fun j2 a5=>fun _=>Ob b j2 a5) ((Dv (fun _=>(each (fun j3 a7=>fun _=>Ml b j3 a7) 0 a.Segments ()).bind (Dv (fun _=>(each (fun j4 a9=>fun _=>K5 b j4 a9) 0 a.Routes ()).bind (Dv (fun _=>(each (fun j5 a11=>fun _=>Jn b j5 a11) 0 a.Airports ()).bind (Dv (fun _=>(each (fun j7 a15=>fun _=>Ie b j7 a15) 0 a.Classes ()).bind (Dv (fun _=>(each (fun j8 a17=>fun _=>G1 b j8 a17) 0 a.Rules ()).bind (Dv (fun _=>.ok true) (fun r=>.ok r))) (fun r=>.ok r))) (fun r=>.ok r))) (fun r=>.ok r))) (fun r=>.ok r))) (fun r=>.ok r)):(Unit ⊕ Bool)→R Bool) (fun j2=>fun _=>fun(fr:Nat→AV) (h:Af)=>fr=A2 [(2,(.q ids 0 g)),(3,(.q ids 1 g1)),(9,(.I (j2:Int)))]∧h=hp h0 ids [(some (.rows g 8 [(Ax a)])),(some (.rows g1 8 [(Ax b)])),none,none,none,none,none,none,none,none,none,none]) () ?_ ?_ ?_
        ·exact⟨J,J⟩
        ·rintro j2 a5 ha5 W hW2 _ fr h ⟨rfl,rfl⟩
         refine Al (m':=Ob b j2 a5) J (Al (Ob.eq_1 _ _ _) ?_)
         refine Y<|Y<|O<|Ac 3 [0] [(184,(.sl 3 (List.map Bh a.Configs))),(182,(.I (j2:Int)))] ?_
         refine Aa (.I (a.Configs.length:Int)) J (Ay (A8 F7))<|Aa (.bool (decide ((j2:Int)<(a.Configs.length:Int)))) J (Ba J J J)<|Z<|Dn (t:=184) (L:=a.Configs) J fun hlim5=>Ch J (Int.ofNat_lt.2 (Av ha5))<|A0<|Y ?_
         refine A3<|Y<|O<|Ac 3 [0] [(191,(.I (j2:Int))),(190,(.sl 3 (List.map Bh a.Configs)))] ?_
         refine Aa (.cp (Bh a5) 0) J (Bt (Ct F7 Iq J ha5))<|Aa (.agg (Bh a5)) J (As (Dh Iq J))<|Bl (j:=4) hI J J J J Iq J fun g4=>Au (A4 (v:=(.agg (Bh a5))) hI J J J J Iq J J J J J)<|Z<|Ak ?_
         refine Y<|O<|Ac 3 [1] [(196,(.I (j2:Int))),(195,(.sl 3 (List.map Bh b.Configs)))] ?_
         refine Ed fun a6 hz2 hx3=>Aa (.cp (Bh a6) 0) J (Bt (Eg F7 Iq J hz2 hx3))<|Aa (.agg (Bh a6)) J (As (Dh Iq J))<|Bl (j:=5) hI J J J J Iq J fun g5=>Au (A4 (v:=(.agg (Bh a6))) hI J J J J Iq J J J J J)<|Z<|Ak ?_
         refine Y<|O<|Ac 6 [4,5] [(204,(.bool (!(a5.Name==a6.Name))))] ?_
         refine E0 7 ((fun(b3:Bool)=>(if b3 then R.ok true else(Hi a5.Sectors a6.Sectors).bind fun r4=>R.ok (!r4)).bind (fun(b4:Bool)=>if b4 then(.ok (.inr (false))) else(.ok (.inl ())))):Bool→R (Unit ⊕ Bool)) (fun(b3:Bool) (fr:Nat→AV) (h:Af)=>fr=A2 [(2,(.q ids 0 g)),(3,(.q ids 1 g1)),(9,(.I (j2:Int))),(10,(.q ids 4 g4)),(11,(.q ids 5 g5)),(211,(.bool b3))]∧h=hp h0 ids [(some (.rows g 8 [(Ax a)])),(some (.rows g1 8 [(Ax b)])),none,none,(some (.rows g4 3 [(Bh a5)])),(some (.rows g5 3 [(Bh a6)])),none,none,none,none,none,none]) ?_ fun hJ12=>Gi (fun hb24=>?_) (fun hb24=>?_)
         ·rintro b3 fr h ⟨rfl,rfl⟩
          refine Aa (.bool b3) J Ae<|E0 7 ((fun(b4:Bool)=>if b4 then(.ok (.inr (false))) else(.ok (.inl ()))):Bool→R (Unit ⊕ Bool)) (fun(b4:Bool) (fr:Nat→AV) (h:Af)=>fr=A2 [(2,(.q ids 0 g)),(3,(.q ids 1 g1)),(9,(.I (j2:Int))),(219,(.bool b4))]∧h=hp h0 ids [(some (.rows g 8 [(Ax a)])),(some (.rows g1 8 [(Ax b)])),none,none,(some (.rows g4 3 [(Bh a5)])),(some (.rows g5 3 [(Bh a6)])),none,none,none,none,none,none]) ?_ fun hJ13=>Gi (fun hb26=>?_) (fun hb26=>?_)
          ·rintro b4 fr h ⟨rfl,rfl⟩
           refine Z<|Co J (fun hc3=>?_) (fun hc3=>?_)
           ·refine Y<|O<|Aa (.bool false) J Aj<|Z<|G2<|Jg<|B8 (a:=false) (vs:=[(.bool false)]) Tryz.func10 hI J (.same _)
           refine A0<|Bf<|O<|Ac 3 [] [(9,(.I (IntKind.wrap .i64 ((j2:Int)+1))))] ?_
           refine Z<|Dr [(some (.rows g 8 [(Ax a)])),(some (.rows g1 8 [(Ax b)])),none,none,none,none,none,none,none,none,none,none] hI J (.keep (.keep (.keep (.keep (.drop (.drop (.keep (.keep (.keep (.keep (.keep (.keep .nil))))))))))))<|Bp (G4 (hW2 () _ _ ⟨J,J⟩)) (.cons J (.cons J (.cons (C3 (Av ha5) hlim5) .nil)))
          ·refine Bj (t:=212) hb26 J<|Ac 7 [] [(219,(.bool true)),(218,.und),(217,.und),(216,.und),(215,.und),(214,.und),(213,.und)] ?_
           refine Cd<|Dt [(2,(.q ids 0 g)),(3,(.q ids 1 g1)),(9,(.I (j2:Int))),(219,(.bool true))] (FI J)<|hJ13 true _ _ ⟨J,J⟩
          refine Bj (t:=212) hb26 J<|Ac 4 [4,5] [(216,(.sl 1 (List.map (rI .i64) a6.Sectors))),(215,(.ptr (ix ids 5) g5 0 2)),(214,(.sl 1 (List.map (rI .i64) a5.Sectors))),(213,(.ptr (ix ids 4) g4 0 2))] ?_
          refine Bv [(.sl 1 (List.map (rI .i64) a5.Sectors)),(.sl 1 (List.map (rI .i64) a6.Sectors))] J (Er (tj:=212) J J) J J ((Qy a5.Sectors a6.Sectors) _) (fun v _=>Cy Tryz.func10 hI) fun r4 _=>Ac 2 [] [(219,(.bool (!r4))),(218,(.bool (!r4)))] ?_
          refine Cd<|Dt [(2,(.q ids 0 g)),(3,(.q ids 1 g1)),(9,(.I (j2:Int))),(219,(.bool (!r4)))] (FI J)<|hJ13 (!r4) _ _ ⟨J,J⟩
         ·refine Bj (t:=204) hb24 J<|Ac 7 [] [(211,(.bool true)),(210,.und),(209,.und),(208,.und),(207,.und),(206,.und),(205,.und)] ?_
          refine Cd<|Dt [(2,(.q ids 0 g)),(3,(.q ids 1 g1)),(9,(.I (j2:Int))),(10,(.q ids 4 g4)),(11,(.q ids 5 g5)),(211,(.bool true))] (FI J)<|hJ12 true _ _ ⟨J,J⟩
         refine Bj (t:=204) hb24 J<|Ac 4 [4,5] [(208,(.sl 1 (List.map rS a6.Names))),(207,(.ptr (ix ids 5) g5 0 1)),(206,(.sl 1 (List.map rS a5.Names))),(205,(.ptr (ix ids 4) g4 0 1))] ?_
         refine Bv [(.sl 1 (List.map rS a5.Names)),(.sl 1 (List.map rS a6.Names))] J (Er (tj:=204) J J) J J ((Tg a5.Names a6.Names) _) (fun v _=>Cy Tryz.func10 hI) fun r3 _=>Ac 2 [] [(211,(.bool (!r3))),(210,(.bool (!r3)))] ?_
         refine Cd<|Dt [(2,(.q ids 0 g)),(3,(.q ids 1 g1)),(9,(.I (j2:Int))),(10,(.q ids 4 g4)),(11,(.q ids 5 g5)),(211,(.bool (!r3)))] (FI J)<|hJ12 (!r3) _ _ ⟨J,J⟩
        rintro _ fr h ⟨rfl,rfl⟩
        refine Al (Hz _ _ _)<|Y<|Y<|O<|Ac 3 [0] [(184,(.sl 3 (List.map Bh a.Configs))),(182,(.I (a.Configs.length:Int)))] ?_
        refine Aa (.I (a.Configs.length:Int)) J (Ay (A8 F7))<|Aa (.bool (decide ((a.Configs.length:Int)<(a.Configs.length:Int)))) J (Ba J J J)<|Z<|Cg J (Int.lt_irrefl _)<|Cl J<|Y<|Y ?_
        refine O<|Aa (.I 0) J Aj<|Z<|A3<|Db [(2,(.q ids 0 g)),(3,(.q ids 1 g1)),(12,(.I 0))] (FI J)<|Ga (P:=Tryz.prog) a.Segments (fun j3 a7=>fun _=>Ml b j3 a7) ((Dv (fun _=>(each (fun j4 a9=>fun _=>K5 b j4 a9) 0 a.Routes ()).bind (Dv (fun _=>(each (fun j5 a11=>fun _=>Jn b j5 a11) 0 a.Airports ()).bind (Dv (fun _=>(each (fun j7 a15=>fun _=>Ie b j7 a15) 0 a.Classes ()).bind (Dv (fun _=>(each (fun j8 a17=>fun _=>G1 b j8 a17) 0 a.Rules ()).bind (Dv (fun _=>.ok true) (fun r=>.ok r))) (fun r=>.ok r))) (fun r=>.ok r))) (fun r=>.ok r))) (fun r=>.ok r)):(Unit ⊕ Bool)→R Bool) (fun j3=>fun _=>fun(fr:Nat→AV) (h:Af)=>fr=A2 [(2,(.q ids 0 g)),(3,(.q ids 1 g1)),(12,(.I (j3:Int)))]∧h=hp h0 ids [(some (.rows g 8 [(Ax a)])),(some (.rows g1 8 [(Ax b)])),none,none,none,none,none,none,none,none,none,none]) () ?_ ?_ ?_
        ·exact⟨J,J⟩
        ·rintro j3 a7 ha7 W hW3 _ fr h ⟨rfl,rfl⟩
         refine Al (m':=Ml b j3 a7) J (Al (Ml.eq_1 _ _ _) ?_)
         refine Y<|Y<|O<|Ac 3 [0] [(222,(.sl 5 (List.map Bc a.Segments))),(220,(.I (j3:Int)))] ?_
         refine Aa (.I (a.Segments.length:Int)) J (Ay (A8 Gl))<|Aa (.bool (decide ((j3:Int)<(a.Segments.length:Int)))) J (Ba J J J)<|Z<|Dn (t:=222) (L:=a.Segments) J fun hlim7=>Ch J (Int.ofNat_lt.2 (Av ha7))<|A0<|Y ?_
         refine A3<|Y<|O<|Ac 3 [0] [(229,(.I (j3:Int))),(228,(.sl 5 (List.map Bc a.Segments)))] ?_
         refine Aa (.cp (Bc a7) 0) J (Bt (Ct Gl Hd J ha7))<|Aa (.agg (Bc a7)) J (As (Dh Hd J))<|Bl (j:=6) hI J J J J Hd J fun g6=>Au (A4 (v:=(.agg (Bc a7))) hI J J J J Hd J J J J J)<|Z<|Ak ?_
         refine Y<|O<|Ac 3 [1] [(234,(.I (j3:Int))),(233,(.sl 5 (List.map Bc b.Segments)))] ?_
         refine Ed fun a8 hz3 hx4=>Aa (.cp (Bc a8) 0) J (Bt (Eg Gl Hd J hz3 hx4))<|Aa (.agg (Bc a8)) J (As (Dh Hd J))<|Bl (j:=7) hI J J J J Hd J fun g7=>Au (A4 (v:=(.agg (Bc a8))) hI J J J J Hd J J J J J)<|Z<|Ak ?_
         refine Y<|O<|Ac 6 [6,7] [(242,(.bool (!(a7.Name==a8.Name))))] ?_
         refine B9 6 [(2,(.q ids 0 g)),(3,(.q ids 1 g1)),(12,(.I (j3:Int))),(13,(.q ids 6 g6)),(14,(.q ids 7 g7)),(248,(.bool ((!(a7.Name==a8.Name))||(!(a7.In==a8.In)))))] ?_ fun hJ14=>Bz (!(a7.Name==a8.Name)) (fun hb28=>?_) (fun hb28=>?_)
         ·refine Aa (.bool ((!(a7.Name==a8.Name))||(!(a7.In==a8.In)))) J Ae<|B9 6 [(2,(.q ids 0 g)),(3,(.q ids 1 g1)),(12,(.I (j3:Int))),(13,(.q ids 6 g6)),(14,(.q ids 7 g7)),(255,(.bool (((!(a7.Name==a8.Name))||(!(a7.In==a8.In)))||(a7.Volume != a8.Volume))))] ?_ fun hJ15=>Bz ((!(a7.Name==a8.Name))||(!(a7.In==a8.In))) (fun hb30=>?_) (fun hb30=>?_)
          ·refine Aa (.bool (((!(a7.Name==a8.Name))||(!(a7.In==a8.In)))||(a7.Volume != a8.Volume))) J Ae<|B9 6 [(2,(.q ids 0 g)),(3,(.q ids 1 g1)),(12,(.I (j3:Int))),(13,(.q ids 6 g6)),(14,(.q ids 7 g7)),(262,(.bool ((((!(a7.Name==a8.Name))||(!(a7.In==a8.In)))||(a7.Volume != a8.Volume))||(a7.Length != a8.Length))))] ?_ fun hJ16=>Bz (((!(a7.Name==a8.Name))||(!(a7.In==a8.In)))||(a7.Volume != a8.Volume)) (fun hb32=>?_) (fun hb32=>?_)
           ·refine Aa (.bool ((((!(a7.Name==a8.Name))||(!(a7.In==a8.In)))||(a7.Volume != a8.Volume))||(a7.Length != a8.Length))) J Ae<|E0 7 ((fun(b5:Bool)=>if b5 then(.ok (.inr (false))) else(.ok (.inl ()))):Bool→R (Unit ⊕ Bool)) (fun(b5:Bool) (fr:Nat→AV) (h:Af)=>fr=A2 [(2,(.q ids 0 g)),(3,(.q ids 1 g1)),(12,(.I (j3:Int))),(270,(.bool b5))]∧h=hp h0 ids [(some (.rows g 8 [(Ax a)])),(some (.rows g1 8 [(Ax b)])),none,none,none,none,(some (.rows g6 5 [(Bc a7)])),(some (.rows g7 5 [(Bc a8)])),none,none,none,none]) ?_ fun hJ17=>Gi (fun hb34=>?_) (fun hb34=>?_)
            ·rintro b5 fr h ⟨rfl,rfl⟩
             refine Z<|Co J (fun hc4=>?_) (fun hc4=>?_)
             ·refine Y<|O<|Aa (.bool false) J Aj<|Z<|G2<|Jg<|B8 (a:=false) (vs:=[(.bool false)]) Tryz.func10 hI J (.same _)
             refine A0<|Bf<|O<|Ac 3 [] [(12,(.I (IntKind.wrap .i64 ((j3:Int)+1))))] ?_
             refine Z<|Dr [(some (.rows g 8 [(Ax a)])),(some (.rows g1 8 [(Ax b)])),none,none,none,none,none,none,none,none,none,none] hI J (.keep (.keep (.keep (.keep (.keep (.keep (.drop (.drop (.keep (.keep (.keep (.keep .nil))))))))))))<|Bp (G4 (hW3 () _ _ ⟨J,J⟩)) (.cons J (.cons J (.cons (C3 (Av ha7) hlim7) .nil)))
            ·refine Bj (t:=263) hb34 J<|Ac 7 [] [(270,(.bool true)),(269,.und),(268,.und),(267,.und),(266,.und),(265,.und),(264,.und)] ?_
             refine Cd<|Dt [(2,(.q ids 0 g)),(3,(.q ids 1 g1)),(12,(.I (j3:Int))),(270,(.bool true))] (FI J)<|hJ17 true _ _ ⟨J,J⟩
            refine Bj (t:=263) hb34 J<|Ac 4 [6,7] [(267,(.sl 2 (List.map C0 a8.Open))),(266,(.ptr (ix ids 7) g7 0 4)),(265,(.sl 2 (List.map C0 a7.Open))),(264,(.ptr (ix ids 6) g6 0 4))] ?_
            refine Bv [(.sl 2 (List.map C0 a7.Open)),(.sl 2 (List.map C0 a8.Open))] J (Er (tj:=263) J J) J J ((Yd a7.Open a8.Open) _) (fun v _=>Cy Tryz.func10 hI) fun r5 _=>Ac 2 [] [(270,(.bool (!r5))),(269,(.bool (!r5)))] ?_
            refine Cd<|Dt [(2,(.q ids 0 g)),(3,(.q ids 1 g1)),(12,(.I (j3:Int))),(270,(.bool (!r5)))] (FI J)<|hJ17 (!r5) _ _ ⟨J,J⟩
           ·refine Bj (t:=256) hb32 J<|Ac 6 [] [(262,(.bool true)),(261,.und),(260,.und),(259,.und),(258,.und),(257,.und)] ?_
            exact Br hJ16 (.cons J (.cons J (.cons J (.cons J (.cons J (.cons (Fe hb32) .nil))))))
           refine Bj (t:=256) hb32 J<|Ac 6 [6,7] [(262,(.bool (a7.Length != a8.Length))),(261,(.bool (a7.Length != a8.Length))),(260,(.I a8.Length)),(259,(.ptr (ix ids 7) g7 0 3)),(258,(.I a7.Length)),(257,(.ptr (ix ids 6) g6 0 3))] ?_
           exact Br hJ16 (.cons J (.cons J (.cons J (.cons J (.cons J (.cons (Fg hb32) .nil))))))
          ·refine Bj (t:=249) hb30 J<|Ac 6 [] [(255,(.bool true)),(254,.und),(253,.und),(252,.und),(251,.und),(250,.und)] ?_
           exact Br hJ15 (.cons J (.cons J (.cons J (.cons J (.cons J (.cons (Fe hb30) .nil))))))
          refine Bj (t:=249) hb30 J<|Ac 6 [6,7] [(255,(.bool (a7.Volume != a8.Volume))),(254,(.bool (a7.Volume != a8.Volume))),(253,(.I a8.Volume)),(252,(.ptr (ix ids 7) g7 0 2)),(251,(.I a7.Volume)),(250,(.ptr (ix ids 6) g6 0 2))] ?_
          exact Br hJ15 (.cons J (.cons J (.cons J (.cons J (.cons J (.cons (Fg hb30) .nil))))))
         ·refine Bj (t:=242) hb28 J<|Ac 6 [] [(248,(.bool true)),(247,.und),(246,.und),(245,.und),(244,.und),(243,.und)] ?_
          exact Br hJ14 (.cons J (.cons J (.cons J (.cons J (.cons J (.cons (Fe hb28) .nil))))))
         refine Bj (t:=242) hb28 J<|Ac 6 [6,7] [(248,(.bool (!(a7.In==a8.In)))),(247,(.bool (!(a7.In==a8.In)))),(246,(.str a8.In)),(245,(.ptr (ix ids 7) g7 0 1)),(244,(.str a7.In)),(243,(.ptr (ix ids 6) g6 0 1))] ?_
         exact Br hJ14 (.cons J (.cons J (.cons J (.cons J (.cons J (.cons (Fg hb28) .nil))))))
        rintro _ fr h ⟨rfl,rfl⟩
        refine Al (Hz _ _ _)<|Y<|Y<|O<|Ac 3 [0] [(222,(.sl 5 (List.map Bc a.Segments))),(220,(.I (a.Segments.length:Int)))] ?_
        refine Aa (.I (a.Segments.length:Int)) J (Ay (A8 Gl))<|Aa (.bool (decide ((a.Segments.length:Int)<(a.Segments.length:Int)))) J (Ba J J J)<|Z<|Cg J (Int.lt_irrefl _)<|Cl J<|Y<|Y ?_
        refine O<|Aa (.I 0) J Aj<|Z<|A3<|Db [(2,(.q ids 0 g)),(3,(.q ids 1 g1)),(15,(.I 0))] (FI J)<|Ga (P:=Tryz.prog) a.Routes (fun j4 a9=>fun _=>K5 b j4 a9) ((Dv (fun _=>(each (fun j5 a11=>fun _=>Jn b j5 a11) 0 a.Airports ()).bind (Dv (fun _=>(each (fun j7 a15=>fun _=>Ie b j7 a15) 0 a.Classes ()).bind (Dv (fun _=>(each (fun j8 a17=>fun _=>G1 b j8 a17) 0 a.Rules ()).bind (Dv (fun _=>.ok true) (fun r=>.ok r))) (fun r=>.ok r))) (fun r=>.ok r))) (fun r=>.ok r)):(Unit ⊕ Bool)→R Bool) (fun j4=>fun _=>fun(fr:Nat→AV) (h:Af)=>fr=A2 [(2,(.q ids 0 g)),(3,(.q ids 1 g1)),(15,(.I (j4:Int)))]∧h=hp h0 ids [(some (.rows g 8 [(Ax a)])),(some (.rows g1 8 [(Ax b)])),none,none,none,none,none,none,none,none,none,none]) () ?_ ?_ ?_
        ·exact⟨J,J⟩
        ·rintro j4 a9 ha9 W hW4 _ fr h ⟨rfl,rfl⟩
         refine Al (m':=K5 b j4 a9) J (Al (K5.eq_1 _ _ _) ?_)
         refine Y<|Y<|O<|Ac 3 [0] [(273,(.sl 7 (List.map Bs a.Routes))),(271,(.I (j4:Int)))] ?_
         refine Aa (.I (a.Routes.length:Int)) J (Ay (A8 H4))<|Aa (.bool (decide ((j4:Int)<(a.Routes.length:Int)))) J (Ba J J J)<|Z<|Dn (t:=273) (L:=a.Routes) J fun hlim9=>Ch J (Int.ofNat_lt.2 (Av ha9))<|A0<|Y ?_
         refine A3<|Y<|O<|Ac 3 [0] [(280,(.I (j4:Int))),(279,(.sl 7 (List.map Bs a.Routes)))] ?_
         refine Aa (.cp (Bs a9) 0) J (Bt (Ct H4 Gk J ha9))<|Aa (.agg (Bs a9)) J (As (Dh Gk J))<|Bl (j:=8) hI J J J J Gk J fun g8=>Au (A4 (v:=(.agg (Bs a9))) hI J J J J Gk J J J J J)<|Z<|Ak ?_
         refine Y<|O<|Ac 3 [1] [(285,(.I (j4:Int))),(284,(.sl 7 (List.map Bs b.Routes)))] ?_
         refine Ed fun a10 hz4 hx5=>Aa (.cp (Bs a10) 0) J (Bt (Eg H4 Gk J hz4 hx5))<|Aa (.agg (Bs a10)) J (As (Dh Gk J))<|Bl (j:=9) hI J J J J Gk J fun g9=>Au (A4 (v:=(.agg (Bs a10))) hI J J J J Gk J J J J J)<|Z<|Ak ?_
         refine Y<|O<|Ac 6 [8,9] [(293,(.bool (!(a9.Name==a10.Name))))] ?_
         refine B9 6 [(2,(.q ids 0 g)),(3,(.q ids 1 g1)),(15,(.I (j4:Int))),(16,(.q ids 8 g8)),(17,(.q ids 9 g9)),(299,(.bool ((!(a9.Name==a10.Name))||(!(a9.A==a10.A)))))] ?_ fun hJ18=>Bz (!(a9.Name==a10.Name)) (fun hb36=>?_) (fun hb36=>?_)
         ·refine Aa (.bool ((!(a9.Name==a10.Name))||(!(a9.A==a10.A)))) J Ae<|B9 6 [(2,(.q ids 0 g)),(3,(.q ids 1 g1)),(15,(.I (j4:Int))),(16,(.q ids 8 g8)),(17,(.q ids 9 g9)),(306,(.bool (((!(a9.Name==a10.Name))||(!(a9.A==a10.A)))||(!(a9.B==a10.B)))))] ?_ fun hJ19=>Bz ((!(a9.Name==a10.Name))||(!(a9.A==a10.A))) (fun hb38=>?_) (fun hb38=>?_)
          ·refine Aa (.bool (((!(a9.Name==a10.Name))||(!(a9.A==a10.A)))||(!(a9.B==a10.B)))) J Ae<|B9 6 [(2,(.q ids 0 g)),(3,(.q ids 1 g1)),(15,(.I (j4:Int))),(16,(.q ids 8 g8)),(17,(.q ids 9 g9)),(313,(.bool ((((!(a9.Name==a10.Name))||(!(a9.A==a10.A)))||(!(a9.B==a10.B)))||(a9.From != a10.From))))] ?_ fun hJ20=>Bz (((!(a9.Name==a10.Name))||(!(a9.A==a10.A)))||(!(a9.B==a10.B))) (fun hb40=>?_) (fun hb40=>?_)
           ·refine Aa (.bool ((((!(a9.Name==a10.Name))||(!(a9.A==a10.A)))||(!(a9.B==a10.B)))||(a9.From != a10.From))) J Ae<|B9 6 [(2,(.q ids 0 g)),(3,(.q ids 1 g1)),(15,(.I (j4:Int))),(16,(.q ids 8 g8)),(17,(.q ids 9 g9)),(320,(.bool (((((!(a9.Name==a10.Name))||(!(a9.A==a10.A)))||(!(a9.B==a10.B)))||(a9.From != a10.From))||(a9.To != a10.To))))] ?_ fun hJ21=>Bz ((((!(a9.Name==a10.Name))||(!(a9.A==a10.A)))||(!(a9.B==a10.B)))||(a9.From != a10.From)) (fun hb42=>?_) (fun hb42=>?_)
            ·refine Aa (.bool (((((!(a9.Name==a10.Name))||(!(a9.A==a10.A)))||(!(a9.B==a10.B)))||(a9.From != a10.From))||(a9.To != a10.To))) J Ae<|E0 7 ((fun(b6:Bool)=>(if b6 then R.ok true else(Hi a9.Segments a10.Segments).bind fun r7=>R.ok (!r7)).bind (fun(b7:Bool)=>if b7 then(.ok (.inr (false))) else(.ok (.inl ())))):Bool→R (Unit ⊕ Bool)) (fun(b6:Bool) (fr:Nat→AV) (h:Af)=>fr=A2 [(2,(.q ids 0 g)),(3,(.q ids 1 g1)),(15,(.I (j4:Int))),(16,(.q ids 8 g8)),(17,(.q ids 9 g9)),(328,(.bool b6))]∧h=hp h0 ids [(some (.rows g 8 [(Ax a)])),(some (.rows g1 8 [(Ax b)])),none,none,none,none,none,none,(some (.rows g8 7 [(Bs a9)])),(some (.rows g9 7 [(Bs a10)])),none,none]) ?_ fun hJ22=>Gi (fun hb44=>?_) (fun hb44=>?_)
             ·rintro b6 fr h ⟨rfl,rfl⟩
              refine Aa (.bool b6) J Ae<|E0 7 ((fun(b7:Bool)=>if b7 then(.ok (.inr (false))) else(.ok (.inl ()))):Bool→R (Unit ⊕ Bool)) (fun(b7:Bool) (fr:Nat→AV) (h:Af)=>fr=A2 [(2,(.q ids 0 g)),(3,(.q ids 1 g1)),(15,(.I (j4:Int))),(336,(.bool b7))]∧h=hp h0 ids [(some (.rows g 8 [(Ax a)])),(some (.rows g1 8 [(Ax b)])),none,none,none,none,none,none,(some (.rows g8 7 [(Bs a9)])),(some (.rows g9 7 [(Bs a10)])),none,none]) ?_ fun hJ23=>Gi (fun hb46=>?_) (fun hb46=>?_)
              ·rintro b7 fr h ⟨rfl,rfl⟩
               refine Z<|Co J (fun hc5=>?_) (fun hc5=>?_)
               ·refine Y<|O<|Aa (.bool false) J Aj<|Z<|G2<|Jg<|B8 (a:=false) (vs:=[(.bool false)]) Tryz.func10 hI J (.same _)
               refine A0<|Bf<|O<|Ac 3 [] [(15,(.I (IntKind.wrap .i64 ((j4:Int)+1))))] ?_
               refine Z<|Dr [(some (.rows g 8 [(Ax a)])),(some (.rows g1 8 [(Ax b)])),none,none,none,none,none,none,none,none,none,none] hI J (.keep (.keep (.keep (.keep (.keep (.keep (.keep (.keep (.drop (.drop (.keep (.keep .nil))))))))))))<|Bp (G4 (hW4 () _ _ ⟨J,J⟩)) (.cons J (.cons J (.cons (C3 (Av ha9) hlim9) .nil)))
              ·refine Bj (t:=329) hb46 J<|Ac 7 [] [(336,(.bool true)),(335,.und),(334,.und),(333,.und),(332,.und),(331,.und),(330,.und)] ?_
               refine Cd<|Dt [(2,(.q ids 0 g)),(3,(.q ids 1 g1)),(15,(.I (j4:Int))),(336,(.bool true))] (FI J)<|hJ23 true _ _ ⟨J,J⟩
              refine Bj (t:=329) hb46 J<|Ac 4 [8,9] [(333,(.sl 1 (List.map (rI .i64) a10.Segments))),(332,(.ptr (ix ids 9) g9 0 6)),(331,(.sl 1 (List.map (rI .i64) a9.Segments))),(330,(.ptr (ix ids 8) g8 0 6))] ?_
              refine Bv [(.sl 1 (List.map (rI .i64) a9.Segments)),(.sl 1 (List.map (rI .i64) a10.Segments))] J (Er (tj:=329) J J) J J ((Qy a9.Segments a10.Segments) _) (fun v _=>Cy Tryz.func10 hI) fun r7 _=>Ac 2 [] [(336,(.bool (!r7))),(335,(.bool (!r7)))] ?_
              refine Cd<|Dt [(2,(.q ids 0 g)),(3,(.q ids 1 g1)),(15,(.I (j4:Int))),(336,(.bool (!r7)))] (FI J)<|hJ23 (!r7) _ _ ⟨J,J⟩
             ·refine Bj (t:=321) hb44 J<|Ac 7 [] [(328,(.bool true)),(327,.und),(326,.und),(325,.und),(324,.und),(323,.und),(322,.und)] ?_
              refine Cd<|Dt [(2,(.q ids 0 g)),(3,(.q ids 1 g1)),(15,(.I (j4:Int))),(16,(.q ids 8 g8)),(17,(.q ids 9 g9)),(328,(.bool true))] (FI J)<|hJ22 true _ _ ⟨J,J⟩
             refine Bj (t:=321) hb44 J<|Ac 4 [8,9] [(325,(.sl 1 (List.map rS a10.Names))),(324,(.ptr (ix ids 9) g9 0 5)),(323,(.sl 1 (List.map rS a9.Names))),(322,(.ptr (ix ids 8) g8 0 5))] ?_
             refine Bv [(.sl 1 (List.map rS a9.Names)),(.sl 1 (List.map rS a10.Names))] J (Er (tj:=321) J J) J J ((Tg a9.Names a10.Names) _) (fun v _=>Cy Tryz.func10 hI) fun r6 _=>Ac 2 [] [(328,(.bool (!r6))),(327,(.bool (!r6)))] ?_
             refine Cd<|Dt [(2,(.q ids 0 g)),(3,(.q ids 1 g1)),(15,(.I (j4:Int))),(16,(.q ids 8 g8)),(17,(.q ids 9 g9)),(328,(.bool (!r6)))] (FI J)<|hJ22 (!r6) _ _ ⟨J,J⟩
            ·refine Bj (t:=314) hb42 J<|Ac 6 [] [(320,(.bool true)),(319,.und),(318,.und),(317,.und),(316,.und),(315,.und)] ?_
             exact Br hJ21 (.cons J (.cons J (.cons J (.cons J (.cons J (.cons (Fe hb42) .nil))))))
            refine Bj (t:=314) hb42 J<|Ac 6 [8,9] [(320,(.bool (a9.To != a10.To))),(319,(.bool (a9.To != a10.To))),(318,(.I a10.To)),(317,(.ptr (ix ids 9) g9 0 4)),(316,(.I a9.To)),(315,(.ptr (ix ids 8) g8 0 4))] ?_
            exact Br hJ21 (.cons J (.cons J (.cons J (.cons J (.cons J (.cons (Fg hb42) .nil))))))
           ·refine Bj (t:=307) hb40 J<|Ac 6 [] [(313,(.bool true)),(312,.und),(311,.und),(310,.und),(309,.und),(308,.und)] ?_
            exact Br hJ20 (.cons J (.cons J (.cons J (.cons J (.cons J (.cons (Fe hb40) .nil))))))
           refine Bj (t:=307) hb40 J<|Ac 6 [8,9] [(313,(.bool (a9.From != a10.From))),(312,(.bool (a9.From != a10.From))),(311,(.I a10.From)),(310,(.ptr (ix ids 9) g9 0 3)),(309,(.I a9.From)),(308,(.ptr (ix ids 8) g8 0 3))] ?_
           exact Br hJ20 (.cons J (.cons J (.cons J (.cons J (.cons J (.cons (Fg hb40) .nil))))))
          ·refine Bj (t:=300) hb38 J<|Ac 6 [] [(306,(.bool true)),(305,.und),(304,.und),(303,.und),(302,.und),(301,.und)] ?_
           exact Br hJ19 (.cons J (.cons J (.cons J (.cons J (.cons J (.cons (Fe hb38) .nil))))))
          refine Bj (t:=300) hb38 J<|Ac 6 [8,9] [(306,(.bool (!(a9.B==a10.B)))),(305,(.bool (!(a9.B==a10.B)))),(304,(.str a10.B)),(303,(.ptr (ix ids 9) g9 0 2)),(302,(.str a9.B)),(301,(.ptr (ix ids 8) g8 0 2))] ?_
          exact Br hJ19 (.cons J (.cons J (.cons J (.cons J (.cons J (.cons (Fg hb38) .nil))))))
         ·refine Bj (t:=293) hb36 J<|Ac 6 [] [(299,(.bool true)),(298,.und),(297,.und),(296,.und),(295,.und),(294,.und)] ?_
          exact Br hJ18 (.cons J (.cons J (.cons J (.cons J (.cons J (.cons (Fe hb36) .nil))))))
         refine Bj (t:=293) hb36 J<|Ac 6 [8,9] [(299,(.bool (!(a9.A==a10.A)))),(298,(.bool (!(a9.A==a10.A)))),(297,(.str a10.A)),(296,(.ptr (ix ids 9) g9 0 1)),(295,(.str a9.A)),(294,(.ptr (ix ids 8) g8 0 1))] ?_
         exact Br hJ18 (.cons J (.cons J (.cons J (.cons J (.cons J (.cons (Fg hb36) .nil))))))
        rintro _ fr h ⟨rfl,rfl⟩
        refine Al (Hz _ _ _)<|Y<|Y<|O<|Ac 3 [0] [(273,(.sl 7 (List.map Bs a.Routes))),(271,(.I (a.Routes.length:Int)))] ?_
        refine Aa (.I (a.Routes.length:Int)) J (Ay (A8 H4))<|Aa (.bool (decide ((a.Routes.length:Int)<(a.Routes.length:Int)))) J (Ba J J J)<|Z<|Cg J (Int.lt_irrefl _)<|Cl J<|Y<|Y ?_
        refine O<|Aa (.I 0) J Aj<|Z<|A3<|Db [(2,(.q ids 0 g)),(3,(.q ids 1 g1)),(18,(.I 0))] (FI J)<|Ga (P:=Tryz.prog) a.Airports (fun j5 a11=>fun _=>Jn b j5 a11) ((Dv (fun _=>(each (fun j7 a15=>fun _=>Ie b j7 a15) 0 a.Classes ()).bind (Dv (fun _=>(each (fun j8 a17=>fun _=>G1 b j8 a17) 0 a.Rules ()).bind (Dv (fun _=>.ok true) (fun r=>.ok r))) (fun r=>.ok r))) (fun r=>.ok r)):(Unit ⊕ Bool)→R Bool) (fun j5=>fun _=>fun(fr:Nat→AV) (h:Af)=>fr=A2 [(2,(.q ids 0 g)),(3,(.q ids 1 g1)),(18,(.I (j5:Int)))]∧h=hp h0 ids [(some (.rows g 8 [(Ax a)])),(some (.rows g1 8 [(Ax b)])),none,none,none,none,none,none,none,none,none,none]) () ?_ ?_ ?_
        ·exact⟨J,J⟩
        ·rintro j5 a11 ha11 W hW5 _ fr h ⟨rfl,rfl⟩
         refine Al (m':=Jn b j5 a11) J (Al (Jn.eq_1 _ _ _) ?_)
         refine Y<|Y<|O<|Ac 3 [0] [(339,(.sl 2 (List.map A5 a.Airports))),(337,(.I (j5:Int)))] ?_
         refine Aa (.I (a.Airports.length:Int)) J (Ay (A8 Lg))<|Aa (.bool (decide ((j5:Int)<(a.Airports.length:Int)))) J (Ba J J J)<|Z<|Dn (t:=339) (L:=a.Airports) J fun hlim11=>Ch J (Int.ofNat_lt.2 (Av ha11))<|A0<|Y ?_
         refine A3<|Y<|O<|Ac 3 [0] [(346,(.I (j5:Int))),(345,(.sl 2 (List.map A5 a.Airports)))] ?_
         refine Aa (.cp (A5 a11) 0) J (Bt (Ct Lg I8 J ha11))<|Aa (.agg (A5 a11)) J (As (Dh I8 J))<|Bl (j:=10) hI J J J J I8 J fun g10=>Au (A4 (v:=(.agg (A5 a11))) hI J J J J I8 J J J J J)<|Z<|Ak ?_
         refine Y<|O<|Ac 3 [1] [(351,(.I (j5:Int))),(350,(.sl 2 (List.map A5 b.Airports)))] ?_
         refine Ed fun a12 hz5 hx6=>Aa (.cp (A5 a12) 0) J (Bt (Eg Lg I8 J hz5 hx6))<|Aa (.agg (A5 a12)) J (As (Dh I8 J))<|Bl (j:=11) hI J J J J I8 J fun g11=>Au (A4 (v:=(.agg (A5 a12))) hI J J J J I8 J J J J J)<|Z<|Ak ?_
         refine Y<|Y<|O<|Ac 6 [10,11] [(359,(.bool (!(a11.Name==a12.Name))))] ?_
         refine B9 8 [(2,(.q ids 0 g)),(3,(.q ids 1 g1)),(18,(.I (j5:Int))),(19,(.q ids 10 g10)),(20,(.q ids 11 g11)),(367,(.bool ((!(a11.Name==a12.Name))||((a11.Modes.length:Int) != (a12.Modes.length:Int)))))] ?_ fun hJ24=>Bz (!(a11.Name==a12.Name)) (fun hb48=>?_) (fun hb48=>?_)
         ·refine Z<|Co J (fun hc6=>?_) (fun hc6=>?_)
          ·refine Y<|O<|Aa (.bool false) J Aj<|Z<|G2<|Jg<|B8 (a:=false) (vs:=[(.bool false)]) Tryz.func10 hI J (.same _)
          refine A0<|Y<|O<|Aa (.I 0) J Aj<|Z<|A3<|Db [(2,(.q ids 0 g)),(3,(.q ids 1 g1)),(18,(.I (j5:Int))),(19,(.q ids 10 g10)),(20,(.q ids 11 g11)),(21,(.I 0))] (FI J) ?_
          refine Ga (P:=Tryz.prog) a11.Modes (fun j6 a13=>fun _=>R3 a12 j6 a13) ((Dv (fun _=>.ok (.inl ())) (fun r=>.ok (.inr (r)))):(Unit ⊕ Bool)→R (Unit ⊕ Bool)) (fun j6=>fun _=>fun(fr:Nat→AV) (h:Af)=>fr=A2 [(2,(.q ids 0 g)),(3,(.q ids 1 g1)),(18,(.I (j5:Int))),(19,(.q ids 10 g10)),(20,(.q ids 11 g11)),(21,(.I (j6:Int)))]∧h=hp h0 ids [(some (.rows g 8 [(Ax a)])),(some (.rows g1 8 [(Ax b)])),none,none,none,none,none,none,none,none,(some (.rows g10 2 [(A5 a11)])),(some (.rows g11 2 [(A5 a12)]))]) () ?_ ?_ ?_
          ·exact⟨J,J⟩
          ·rintro j6 a13 ha13 W hW6 _ fr h ⟨rfl,rfl⟩
           refine Al (m':=R3 a12 j6 a13) J (Al (R3.eq_1 _ _ _) ?_)
           refine Y<|Y<|O<|Ac 3 [10] [(370,(.sl 2 (List.map Dw a11.Modes))),(368,(.I (j6:Int)))] ?_
           refine Aa (.I (a11.Modes.length:Int)) J (Ay (A8 Px))<|Aa (.bool (decide ((j6:Int)<(a11.Modes.length:Int)))) J (Ba J J J)<|Z<|Dn (t:=370) (L:=a11.Modes) J fun hlim13=>Ch J (Int.ofNat_lt.2 (Av ha13))<|A0<|Y ?_
           refine A3<|Y<|C6 Fl [[],[0],[],[0,1,2],[0,1,2,3],[],[5],[],[5,6,7],[5,6,7,8],[0,1,2,3,4,5,6,7,8,9]] [(false,0),(false,1),(false,2),(false,3),(false,4),(false,5),(false,6),(false,7),(false,8),(false,9),(false,10)] (by kernel_rfl)<|Ag (.ptr (ix ids 10) g10 0 1) J J (Bw (Bq (c:=0) (off:=1) (i:=1) I8 J Px J))<|Ag (.sl 2 (List.map Dw a11.Modes)) J J (As (A7 hI J J J Px J))<|Ag (.I (j6:Int)) J J Ae<|Ag (.cp (Dw a13) 0) J J (Bt (Ct Px Q9 J ha13)) ?_
           refine Ag (.agg (Dw a13)) J J (As (Dh Q9 J))<|Ag (.ptr (ix ids 11) g11 0 1) J J (Bw (Bq (c:=0) (off:=1) (i:=1) I8 J Px J))<|Ag (.sl 2 (List.map Dw a12.Modes)) J J (As (A7 hI J J J Px J))<|Ag (.I (j6:Int)) J J Ae<|Aab fun a14 hz6 hx7=>Ag (.cp (Dw a14) 0) J J (Bt (Eg Px Q9 J hz6 hx7))<|Ag (.agg (Dw a14)) J J (As (Dh Q9 J)) ?_
           refine Ag (.bool (!((a13.Name==a14.Name)&&(a13.Places==a14.Places)))) J J (Ba (Awg J J) J Awt)<|Cu<|Fj J (fun hc7=>?_) (fun hc7=>?_)
           ·refine A0<|Bf<|O<|Ac 3 [] [(21,(.I (IntKind.wrap .i64 ((j6:Int)+1))))] ?_
            refine Z<|Bp (G4 (hW6 () _ _ ⟨J,J⟩)) (.cons J (.cons J (.cons J (.cons J (.cons J (.cons (C3 (Av ha13) hlim13) .nil))))))
           refine Y<|O<|Aa (.bool false) J Aj<|Z<|G2<|Jg<|G2 ?_
           refine Jg<|B8 (a:=false) (vs:=[(.bool false)]) Tryz.func10 hI J (.same _)
          rintro _ fr h ⟨rfl,rfl⟩
          refine Al (Hz _ _ _)<|Y<|Y<|O<|Ac 3 [10] [(370,(.sl 2 (List.map Dw a11.Modes))),(368,(.I (a11.Modes.length:Int)))] ?_
          refine Aa (.I (a11.Modes.length:Int)) J (Ay (A8 Px))<|Aa (.bool (decide ((a11.Modes.length:Int)<(a11.Modes.length:Int)))) J (Ba J J J)<|Z<|Cg J (Int.lt_irrefl _)<|Cl J<|Bf<|O ?_
          refine Ac 3 [] [(18,(.I (IntKind.wrap .i64 ((j5:Int)+1))))] ?_
          refine Z<|Dr [(some (.rows g 8 [(Ax a)])),(some (.rows g1 8 [(Ax b)])),none,none,none,none,none,none,none,none,none,none] hI J (.keep (.keep (.keep (.keep (.keep (.keep (.keep (.keep (.keep (.keep (.drop (.drop .nil))))))))))))<|Bp (G4 (hW5 () _ _ ⟨J,J⟩)) (.cons J (.cons J (.cons (C3 (Av ha11) hlim11) .nil)))
         ·refine Bj (t:=359) hb48 J<|Ac 8 [] [(367,(.bool true)),(366,.und),(365,.und),(364,.und),(363,.und),(362,.und),(361,.und),(360,.und)] ?_
          exact Br hJ24 (.cons J (.cons J (.cons J (.cons J (.cons J (.cons (Fe hb48) .nil))))))
         refine Bj (t:=359) hb48 J<|Ac 2 [10] [(361,(.sl 2 (List.map Dw a11.Modes))),(360,(.ptr (ix ids 10) g10 0 1))] ?_
         refine Bx (tj:=359) (.I (a11.Modes.length:Int)) J J J (Ay (A8 Px))<|Ac 2 [11] [(364,(.sl 2 (List.map Dw a12.Modes))),(363,(.ptr (ix ids 11) g11 0 1))] ?_
         refine Bx (tj:=359) (.I (a12.Modes.length:Int)) J J J (Ay (A8 Px))<|Ac 2 [] [(367,(.bool ((a11.Modes.length:Int) != (a12.Modes.length:Int)))),(366,(.bool ((a11.Modes.length:Int) != (a12.Modes.length:Int))))] ?_
         exact Br hJ24 (.cons J (.cons J (.cons J (.cons J (.cons J (.cons (Fg hb48) .nil))))))
        rintro _ fr h ⟨rfl,rfl⟩
        refine Al (Hz _ _ _)<|Y<|Y<|O<|Ac 3 [0] [(339,(.sl 2 (List.map A5 a.Airports))),(337,(.I (a.Airports.length:Int)))] ?_
        refine Aa (.I (a.Airports.length:Int)) J (Ay (A8 Lg))<|Aa (.bool (decide ((a.Airports.length:Int)<(a.Airports.length:Int)))) J (Ba J J J)<|Z<|Cg J (Int.lt_irrefl _)<|Cl J<|Y<|Y ?_
        refine O<|Aa (.I 0) J Aj<|Z<|A3<|Db [(2,(.q ids 0 g)),(3,(.q ids 1 g1)),(22,(.I 0))] (FI J)<|Ga (P:=Tryz.prog) a.Classes (fun j7 a15=>fun _=>Ie b j7 a15) ((Dv (fun _=>(each (fun j8 a17=>fun _=>G1 b j8 a17) 0 a.Rules ()).bind (Dv (fun _=>.ok true) (fun r=>.ok r))) (fun r=>.ok r)):(Unit ⊕ Bool)→R Bool) (fun j7=>fun _=>fun(fr:Nat→AV) (h:Af)=>fr=A2 [(2,(.q ids 0 g)),(3,(.q ids 1 g1)),(22,(.I (j7:Int)))]∧h=hp h0 ids [(some (.rows g 8 [(Ax a)])),(some (.rows g1 8 [(Ax b)])),none,none,none,none,none,none,none,none,none,none]) () ?_ ?_ ?_
        ·exact⟨J,J⟩
        ·rintro j7 a15 ha15 W hW7 _ fr h ⟨rfl,rfl⟩
         refine Al (m':=Ie b j7 a15) J (Al (Ie.eq_1 _ _ _) ?_)
         refine Y<|Y<|O<|Ac 3 [0] [(388,(.sl 4 (List.map Bn a.Classes))),(386,(.I (j7:Int)))] ?_
         refine Aa (.I (a.Classes.length:Int)) J (Ay (A8 Mn))<|Aa (.bool (decide ((j7:Int)<(a.Classes.length:Int)))) J (Ba J J J)<|Z<|Dn (t:=388) (L:=a.Classes) J fun hlim15=>Ch J (Int.ofNat_lt.2 (Av ha15))<|A0<|Y ?_
         refine A3<|Y<|C6 Fl [[],[0],[],[0,1,2],[0,1,2,3],[],[5],[],[5,6,7],[5,6,7,8],[0,1,2,3,4,5,6,7,8,9]] [(false,0),(false,1),(false,2),(false,3),(false,4),(false,5),(false,6),(false,7),(false,8),(false,9),(false,10)] (by kernel_rfl)<|Ag (.ptr (ix ids 0) g 0 6) J J (Bw (Bq (c:=0) (off:=6) (i:=6) Df J Mn J))<|Ag (.sl 4 (List.map Bn a.Classes)) J J (As (A7 hI J J J Mn J))<|Ag (.I (j7:Int)) J J Ae<|Ag (.cp (Bn a15) 0) J J (Bt (Ct Mn Lc J ha15)) ?_
         refine Ag (.agg (Bn a15)) J J (As (Dh Lc J))<|Ag (.ptr (ix ids 1) g1 0 6) J J (Bw (Bq (c:=0) (off:=6) (i:=6) Df J Mn J))<|Ag (.sl 4 (List.map Bn b.Classes)) J J (As (A7 hI J J J Mn J))<|Ag (.I (j7:Int)) J J Ae<|Aab fun a16 hz7 hx8=>Ag (.cp (Bn a16) 0) J J (Bt (Eg Mn Lc J hz7 hx8))<|Ag (.agg (Bn a16)) J J (As (Dh Lc J)) ?_
         refine Ag (.bool (!((a15.Name==a16.Name)&&((a15.Slow==a16.Slow)&&((a15.Fast==a16.Fast)&&(a15.Places==a16.Places)))))) J J (Ba (Axt J J) J Aw7)<|Cu<|Fj J (fun hc8=>?_) (fun hc8=>?_)
         ·refine A0<|Bf<|O<|Ac 3 [] [(22,(.I (IntKind.wrap .i64 ((j7:Int)+1))))] ?_
          refine Z<|Bp (G4 (hW7 () _ _ ⟨J,J⟩)) (.cons J (.cons J (.cons (C3 (Av ha15) hlim15) .nil)))
         refine Y<|O<|Aa (.bool false) J Aj<|Z<|G2<|Jg<|B8 (a:=false) (vs:=[(.bool false)]) Tryz.func10 hI J (.same _)
        rintro _ fr h ⟨rfl,rfl⟩
        refine Al (Hz _ _ _)<|Y<|Y<|O<|Ac 3 [0] [(388,(.sl 4 (List.map Bn a.Classes))),(386,(.I (a.Classes.length:Int)))] ?_
        refine Aa (.I (a.Classes.length:Int)) J (Ay (A8 Mn))<|Aa (.bool (decide ((a.Classes.length:Int)<(a.Classes.length:Int)))) J (Ba J J J)<|Z<|Cg J (Int.lt_irrefl _)<|Cl J<|Y<|Y ?_
        refine O<|Aa (.I 0) J Aj<|Z<|A3<|Db [(2,(.q ids 0 g)),(3,(.q ids 1 g1)),(23,(.I 0))] (FI J)<|Ga (P:=Tryz.prog) a.Rules (fun j8 a17=>fun _=>G1 b j8 a17) ((Dv (fun _=>.ok true) (fun r=>.ok r)):(Unit ⊕ Bool)→R Bool) (fun j8=>fun _=>fun(fr:Nat→AV) (h:Af)=>fr=A2 [(2,(.q ids 0 g)),(3,(.q ids 1 g1)),(23,(.I (j8:Int)))]∧h=hp h0 ids [(some (.rows g 8 [(Ax a)])),(some (.rows g1 8 [(Ax b)])),none,none,none,none,none,none,none,none,none,none]) () ?_ ?_ ?_
        ·exact⟨J,J⟩
        ·rintro j8 a17 ha17 W hW8 _ fr h ⟨rfl,rfl⟩
         refine Al (m':=G1 b j8 a17) J (Al (G1.eq_1 _ _ _) ?_)
         refine Y<|Y<|O<|Ac 3 [0] [(406,(.sl 8 (List.map Bd a.Rules))),(404,(.I (j8:Int)))] ?_
         refine Aa (.I (a.Rules.length:Int)) J (Ay (A8 Ec))<|Aa (.bool (decide ((j8:Int)<(a.Rules.length:Int)))) J (Ba J J J)<|Z<|Dn (t:=406) (L:=a.Rules) J fun hlim17=>Ch J (Int.ofNat_lt.2 (Av ha17))<|A0<|Y ?_
         refine A3<|Y<|C6 Fl [[],[0],[],[0,1,2],[0,1,2,3],[],[5],[],[5,6,7],[5,6,7,8],[0,1,2,3,4,5,6,7,8,9]] [(false,0),(false,1),(false,2),(false,3),(false,4),(false,5),(false,6),(false,7),(false,8),(false,9),(false,10)] (by kernel_rfl)<|Ag (.ptr (ix ids 0) g 0 7) J J (Bw (Bq (c:=0) (off:=7) (i:=7) Df J Ec J))<|Ag (.sl 8 (List.map Bd a.Rules)) J J (As (A7 hI J J J Ec J))<|Ag (.I (j8:Int)) J J Ae<|Ag (.cp (Bd a17) 0) J J (Bt (Ct Ec Dy J ha17)) ?_
         refine Ag (.agg (Bd a17)) J J (As (Dh Dy J))<|Ag (.ptr (ix ids 1) g1 0 7) J J (Bw (Bq (c:=0) (off:=7) (i:=7) Df J Ec J))<|Ag (.sl 8 (List.map Bd b.Rules)) J J (As (A7 hI J J J Ec J))<|Ag (.I (j8:Int)) J J Ae<|Aab fun a18 hz8 hx9=>Ag (.cp (Bd a18) 0) J J (Bt (Eg Ec Dy J hz8 hx9))<|Ag (.agg (Bd a18)) J J (As (Dh Dy J)) ?_
         refine Ag (.bool (!((a17.Kind==a18.Kind)&&((a17.C==a18.C)&&((a17.A==a18.A)&&((a17.Class==a18.Class)&&((a17.Airport==a18.Airport)&&((a17.N==a18.N)&&((a17.Hours.From==a18.Hours.From)&&(a17.Hours.To==a18.Hours.To)))))))))) J J (Ba (Aqm J J) J Aqz)<|Cu<|Fj J (fun hc9=>?_) (fun hc9=>?_)
         ·refine A0<|Bf<|O<|Ac 3 [] [(23,(.I (IntKind.wrap .i64 ((j8:Int)+1))))] ?_
          refine Z<|Bp (G4 (hW8 () _ _ ⟨J,J⟩)) (.cons J (.cons J (.cons (C3 (Av ha17) hlim17) .nil)))
         refine Y<|O<|Aa (.bool false) J Aj<|Z<|G2<|Jg<|B8 (a:=false) (vs:=[(.bool false)]) Tryz.func10 hI J (.same _)
        rintro _ fr h ⟨rfl,rfl⟩
        refine Al (Hz _ _ _)<|Y<|Y<|O<|Ac 3 [0] [(406,(.sl 8 (List.map Bd a.Rules))),(404,(.I (a.Rules.length:Int)))] ?_
        refine Aa (.I (a.Rules.length:Int)) J (Ay (A8 Ec))<|Aa (.bool (decide ((a.Rules.length:Int)<(a.Rules.length:Int)))) J (Ba J J J)<|Z<|Cg J (Int.lt_irrefl _)<|Cl J<|Y<|O ?_
        refine Aa (.bool true) J Aj<|Z<|B8 (a:=true) (vs:=[(.bool true)]) Tryz.func10 hI J (.same _)
       ·refine Bj (t:=85) hb13 J<|Ac 8 [] [(93,(.bool true))] ?_
        exact Br hJ6 (.cons J (.cons J (.cons (Fe hb13) .nil)))
       refine Bj (t:=85) hb13 J<|Ac 2 [0] [(87,(.sl 8 (List.map Bd a.Rules)))] ?_
       refine Bx (tj:=85) (.I (a.Rules.length:Int)) J J J (Ay (A8 Ec))<|Ac 2 [1] [(90,(.sl 8 (List.map Bd b.Rules)))] ?_
       refine Bx (tj:=85) (.I (b.Rules.length:Int)) J J J (Ay (A8 Ec))<|Ac 2 [] [(93,(.bool ((a.Rules.length:Int) != (b.Rules.length:Int))))] ?_
       exact Br hJ6 (.cons J (.cons J (.cons (Fg hb13) .nil)))
      ·refine Bj (t:=76) hb11 J<|Ac 8 [] [(84,(.bool true))] ?_
       exact Br hJ5 (.cons J (.cons J (.cons (Fe hb11) .nil)))
      refine Bj (t:=76) hb11 J<|Ac 2 [0] [(78,(.sl 4 (List.map Bn a.Classes)))] ?_
      refine Bx (tj:=76) (.I (a.Classes.length:Int)) J J J (Ay (A8 Mn))<|Ac 2 [1] [(81,(.sl 4 (List.map Bn b.Classes)))] ?_
      refine Bx (tj:=76) (.I (b.Classes.length:Int)) J J J (Ay (A8 Mn))<|Ac 2 [] [(84,(.bool ((a.Classes.length:Int) != (b.Classes.length:Int))))] ?_
      exact Br hJ5 (.cons J (.cons J (.cons (Fg hb11) .nil)))
     ·refine Bj (t:=67) hb9 J<|Ac 8 [] [(75,(.bool true))] ?_
      exact Br hJ4 (.cons J (.cons J (.cons (Fe hb9) .nil)))
     refine Bj (t:=67) hb9 J<|Ac 2 [0] [(69,(.sl 2 (List.map A5 a.Airports)))] ?_
     refine Bx (tj:=67) (.I (a.Airports.length:Int)) J J J (Ay (A8 Lg))<|Ac 2 [1] [(72,(.sl 2 (List.map A5 b.Airports)))] ?_
     refine Bx (tj:=67) (.I (b.Airports.length:Int)) J J J (Ay (A8 Lg))<|Ac 2 [] [(75,(.bool ((a.Airports.length:Int) != (b.Airports.length:Int))))] ?_
     exact Br hJ4 (.cons J (.cons J (.cons (Fg hb9) .nil)))
    ·refine Bj (t:=58) hb7 J<|Ac 8 [] [(66,(.bool true))] ?_
     exact Br hJ3 (.cons J (.cons J (.cons (Fe hb7) .nil)))
    refine Bj (t:=58) hb7 J<|Ac 2 [0] [(60,(.sl 7 (List.map Bs a.Routes)))] ?_
    refine Bx (tj:=58) (.I (a.Routes.length:Int)) J J J (Ay (A8 H4))<|Ac 2 [1] [(63,(.sl 7 (List.map Bs b.Routes)))] ?_
    refine Bx (tj:=58) (.I (b.Routes.length:Int)) J J J (Ay (A8 H4))<|Ac 2 [] [(66,(.bool ((a.Routes.length:Int) != (b.Routes.length:Int))))] ?_
    exact Br hJ3 (.cons J (.cons J (.cons (Fg hb7) .nil)))
   ·refine Bj (t:=49) hb5 J<|Ac 8 [] [(57,(.bool true))] ?_
    exact Br hJ2 (.cons J (.cons J (.cons (Fe hb5) .nil)))
   refine Bj (t:=49) hb5 J<|Ac 2 [0] [(51,(.sl 5 (List.map Bc a.Segments)))] ?_
   refine Bx (tj:=49) (.I (a.Segments.length:Int)) J J J (Ay (A8 Gl))<|Ac 2 [1] [(54,(.sl 5 (List.map Bc b.Segments)))] ?_
   refine Bx (tj:=49) (.I (b.Segments.length:Int)) J J J (Ay (A8 Gl))<|Ac 2 [] [(57,(.bool ((a.Segments.length:Int) != (b.Segments.length:Int))))] ?_
   exact Br hJ2 (.cons J (.cons J (.cons (Fg hb5) .nil)))
  ·refine Bj (t:=40) hb3 J<|Ac 8 [] [(48,(.bool true))] ?_
   exact Br hJ1 (.cons J (.cons J (.cons (Fe hb3) .nil)))
  refine Bj (t:=40) hb3 J<|Ac 2 [0] [(42,(.sl 3 (List.map Bh a.Configs)))] ?_
  refine Bx (tj:=40) (.I (a.Configs.length:Int)) J J J (Ay (A8 F7))<|Ac 2 [1] [(45,(.sl 3 (List.map Bh b.Configs)))] ?_
  refine Bx (tj:=40) (.I (b.Configs.length:Int)) J J J (Ay (A8 F7))<|Ac 2 [] [(48,(.bool ((a.Configs.length:Int) != (b.Configs.length:Int))))] ?_
  exact Br hJ1 (.cons J (.cons J (.cons (Fg hb3) .nil)))
 ·refine Bj (t:=31) hb1 J<|Ac 8 [] [(39,(.bool true))] ?_
  exact Br hJ (.cons J (.cons J (.cons (Fe hb1) .nil)))
 refine Bj (t:=31) hb1 J<|Ac 2 [0] [(33,(.sl 5 (List.map A9 a.Sectors)))] ?_
 refine Bx (tj:=31) (.I (a.Sectors.length:Int)) J J J (Ay (A8 Fp))<|Ac 2 [1] [(36,(.sl 5 (List.map A9 b.Sectors)))] ?_
 refine Bx (tj:=31) (.I (b.Sectors.length:Int)) J J J (Ay (A8 Fp))<|Ac 2 [] [(39,(.bool ((a.Sectors.length:Int) != (b.Sectors.length:Int))))] ?_
 exact Br hJ (.cons J (.cons J (.cons (Fg hb1) .nil)))
theorem Akg:CP Tryz.prog 4 [] (Zx) (fun(x:Bool)=>(AV.bool x)):=by
 refine C8 (n:=150) 5 Tryz.func4 J (by decide) J J fun h0 ids hI=>Bk (Al (Zx.eq_1) ?_)
 refine Y<|O<|Aa (.bool false) J Aj<|Z<|Y<|O<|Ac 2 [] [(19,(.agg [(.str [98]),.emp])),(18,(.agg [(.str [97]),.emp]))] ?_
 refine Dp (e:=Ar) (L:=[({ Name:=[97],Closed:=[] }:Volume),({ Name:=[98],Closed:=[] }:Volume)]) (st:=2) (rows:=[[(.str [97]),.emp],[(.str [98]),.emp]]) J H7 Lb J J J J J (.cons (.cons (.same _) (.cons (.emp _) .nil)) (.cons (.cons (.same _) (.cons (.emp _) .nil)) .nil)) (fun x=>U0 x) J J<|Dp (e:=rS) (L:=[[98],[97]]) (st:=1) (rows:=[[(.str [98])],[(.str [97])]]) J Dg Cf J J J J J (.cons (RowSim.refl _) (.cons (RowSim.refl _) .nil)) (fun x=>Hg x) J J<|Aa (.agg [(.str [115]),(.sl 1 (List.map rS [[98],[97]])),.emp,(.I 0),(.I 0)]) J (Kj (Qz Gg Azt J))<|Dp (e:=A9) (L:=[({ Name:=[115],Names:=[[98],[97]],Volumes:=[],Radar:=0,Procedural:=0 }:Sector)]) (st:=5) (rows:=[[(.str [115]),(.sl 1 (List.map rS [[98],[97]])),.emp,(.I 0),(.I 0)]]) J Fp Gg J J J J J (.cons (.cons (.same _) (.cons (.same _) (.cons (.emp _) (.cons (.same _) (.cons (.same _) .nil))))) .nil) (fun x=>U5 x) J J<|Aa (.agg [(.str [104,101,97,118,121]),(.I 0),(.I 0),(.I 0)]) J (Kj (Qz Lc Ay9 J))<|Dp (e:=Bn) (L:=[({ Name:=[104,101,97,118,121],Slow:=0,Fast:=0,Places:=0 }:Class)]) (st:=4) (rows:=[[(.str [104,101,97,118,121]),(.I 0),(.I 0),(.I 0)]]) J Mn Lc J J J J J (.cons (.cons (.same _) (.cons (.same _) (.cons (.same _) (.cons (.same _) .nil)))) .nil) (fun x=>Aaq x) J J<|Aa (.agg [(.I 2),(.str [104,101,97,118,121]),(.str [110,111,119,104,101,114,101]),(.I 0),(.I 5),(.I 0),(.I 0),(.I 0)]) J (Kj (Qz Dy Ay6 J)) ?_
 refine Dp (e:=Bd) (L:=[({ Kind:=2,C:=[104,101,97,118,121],A:=[110,111,119,104,101,114,101],Class:=0,Airport:=5,N:=0,Hours:=({ From:=0,To:=0 }:Span) }:Rule)]) (st:=8) (rows:=[[(.I 2),(.str [104,101,97,118,121]),(.str [110,111,119,104,101,114,101]),(.I 0),(.I 5),(.I 0),(.I 0),(.I 0)]]) J Ec Dy J J J J J (.cons (.cons (.same _) (.cons (.same _) (.cons (.same _) (.cons (.same _) (.cons (.same _) (.cons (.same _) (.cons (.same _) (.cons (.same _) .nil)))))))) .nil) (fun x=>Tr x) J J<|Aa (.agg [(.sl 2 (List.map Ar [({ Name:=[97],Closed:=[] }:Volume),({ Name:=[98],Closed:=[] }:Volume)])),(.sl 5 (List.map A9 [({ Name:=[115],Names:=[[98],[97]],Volumes:=[],Radar:=0,Procedural:=0 }:Sector)])),.emp,.emp,.emp,.emp,(.sl 4 (List.map Bn [({ Name:=[104,101,97,118,121],Slow:=0,Fast:=0,Places:=0 }:Class)])),(.sl 8 (List.map Bd [({ Kind:=2,C:=[104,101,97,118,121],A:=[110,111,119,104,101,114,101],Class:=0,Airport:=5,N:=0,Hours:=({ From:=0,To:=0 }:Span) }:Rule)]))]) J (Kj (Qz Df Ag2 J))<|Bl (j:=0) hI J J J J Df J fun g=>Au (A4 (v:=(.agg [(.sl 2 (List.map Ar [({ Name:=[97],Closed:=[] }:Volume),({ Name:=[98],Closed:=[] }:Volume)])),(.sl 5 (List.map A9 [({ Name:=[115],Names:=[[98],[97]],Volumes:=[],Radar:=0,Procedural:=0 }:Sector)])),.emp,.emp,.emp,.emp,(.sl 4 (List.map Bn [({ Name:=[104,101,97,118,121],Slow:=0,Fast:=0,Places:=0 }:Class)])),(.sl 8 (List.map Bd [({ Kind:=2,C:=[104,101,97,118,121],A:=[110,111,119,104,101,114,101],Class:=0,Airport:=5,N:=0,Hours:=({ From:=0,To:=0 }:Span) }:Rule)]))])) hI J J J J Df J J J J J)<|Z<|Ak ?_
 refine Y<|O<|Ac 1 [0] [(30,(.agg [(.sl 2 (List.map Ar [({ Name:=[97],Closed:=[] }:Volume),({ Name:=[98],Closed:=[] }:Volume)])),(.sl 5 (List.map A9 [({ Name:=[115],Names:=[[98],[97]],Volumes:=[],Radar:=0,Procedural:=0 }:Sector)])),.emp,.emp,.emp,.emp,(.sl 4 (List.map Bn [({ Name:=[104,101,97,118,121],Slow:=0,Fast:=0,Places:=0 }:Class)])),(.sl 8 (List.map Bd [({ Kind:=2,C:=[104,101,97,118,121],A:=[110,111,119,104,101,114,101],Class:=0,Airport:=5,N:=0,Hours:=({ From:=0,To:=0 }:Span) }:Rule)]))]))] ?_
 refine Bv [(.agg [(.sl 2 (List.map Ar [({ Name:=[97],Closed:=[] }:Volume),({ Name:=[98],Closed:=[] }:Volume)])),(.sl 5 (List.map A9 [({ Name:=[115],Names:=[[98],[97]],Volumes:=[],Radar:=0,Procedural:=0 }:Sector)])),.emp,.emp,.emp,.emp,(.sl 4 (List.map Bn [({ Name:=[104,101,97,118,121],Slow:=0,Fast:=0,Places:=0 }:Class)])),(.sl 8 (List.map Bd [({ Kind:=2,C:=[104,101,97,118,121],A:=[110,111,119,104,101,114,101],Class:=0,Airport:=5,N:=0,Hours:=({ From:=0,To:=0 }:Span) }:Rule)]))])] J J J J (fun hb=>Bg.weak (.cons (.aggL (.cons (.same _) (.cons (.same _) (.cons (.emp _) (.cons (.emp _) (.cons (.emp _) (.cons (.emp _) (.cons (.same _) (.cons (.same _) .nil))))))))) .nil) ((Nf ({ Volumes:=[({ Name:=[97],Closed:=[] }:Volume),({ Name:=[98],Closed:=[] }:Volume)],Sectors:=[({ Name:=[115],Names:=[[98],[97]],Volumes:=[],Radar:=0,Procedural:=0 }:Sector)],Configs:=[],Segments:=[],Routes:=[],Airports:=[],Classes:=[({ Name:=[104,101,97,118,121],Slow:=0,Fast:=0,Places:=0 }:Class)],Rules:=[({ Kind:=2,C:=[104,101,97,118,121],A:=[110,111,119,104,101,114,101],Class:=0,Airport:=5,N:=0,Hours:=({ From:=0,To:=0 }:Span) }:Rule)] }:Airspace)) _ hb)) (fun v _=>Cy Tryz.func4 hI) fun r _=>Ac 3 [] [(33,(.I r.2)),(32,(.agg (Ax r.1)))] ?_
 refine Bl (j:=1) hI J J J J Df J fun g1=>Au (A4 (v:=(.agg (Ax r.1))) hI J J J J Df J J J J J)<|Aa (.I r.2) J Aj<|Z<|Ak ?_
 refine Y<|O<|Aa (.agg [.emp,.emp,.emp,.emp,.emp,.emp,.emp,.emp]) J (Kj (Qz Df Ag2 J))<|Bv [(.agg [.emp,.emp,.emp,.emp,.emp,.emp,.emp,.emp])] J J J J (fun hb=>Bg.weak (.cons (.aggL (.cons (.emp _) (.cons (.emp _) (.cons (.emp _) (.cons (.emp _) (.cons (.emp _) (.cons (.emp _) (.cons (.emp _) (.cons (.emp _) .nil))))))))) .nil) ((Nf ({ Volumes:=[],Sectors:=[],Configs:=[],Segments:=[],Routes:=[],Airports:=[],Classes:=[],Rules:=[] }:Airspace)) _ hb)) (fun v _=>Cy Tryz.func4 hI) fun r1 _=>Ac 3 [] [(38,(.I r1.2)),(37,(.agg (Ax r1.1)))] ?_
 refine Bl (j:=2) hI J J J J Df J fun g2=>Au (A4 (v:=(.agg (Ax r1.1))) hI J J J J Df J J J J J)<|Aa (.I r1.2) J Aj<|Z<|Ak ?_
 refine Y<|O<|Ac 2 [] [(41,(.agg [(.str []),.emp])),(40,(.agg [(.str []),.emp]))] ?_
 refine Dp (e:=Ar) (L:=[({ Name:=[],Closed:=[] }:Volume),({ Name:=[],Closed:=[] }:Volume)]) (st:=2) (rows:=[[(.str []),.emp],[(.str []),.emp]]) J H7 Lb J J J J J (.cons (.cons (.same _) (.cons (.emp _) .nil)) (.cons (.cons (.same _) (.cons (.emp _) .nil)) .nil)) (fun x=>U0 x) J J<|Aa (.agg [(.sl 2 (List.map Ar [({ Name:=[],Closed:=[] }:Volume),({ Name:=[],Closed:=[] }:Volume)])),.emp,.emp,.emp,.emp,.emp,.emp,.emp]) J (Kj (Qz Df Ag2 J))<|Bv [(.agg [(.sl 2 (List.map Ar [({ Name:=[],Closed:=[] }:Volume),({ Name:=[],Closed:=[] }:Volume)])),.emp,.emp,.emp,.emp,.emp,.emp,.emp])] J J J J (fun hb=>Bg.weak (.cons (.aggL (.cons (.same _) (.cons (.emp _) (.cons (.emp _) (.cons (.emp _) (.cons (.emp _) (.cons (.emp _) (.cons (.emp _) (.cons (.emp _) .nil))))))))) .nil) ((Nf ({ Volumes:=[({ Name:=[],Closed:=[] }:Volume),({ Name:=[],Closed:=[] }:Volume)],Sectors:=[],Configs:=[],Segments:=[],Routes:=[],Airports:=[],Classes:=[],Rules:=[] }:Airspace)) _ hb)) (fun v _=>Cy Tryz.func4 hI) fun r2 _=>Ac 3 [] [(46,(.I r2.2)),(45,(.agg (Ax r2.1)))] ?_
 refine Bl (j:=3) hI J J J J Df J fun g3=>Au (A4 (v:=(.agg (Ax r2.1))) hI J J J J Df J J J J J)<|Aa (.I r2.2) J Aj<|Z<|Ak ?_
 refine Y<|O<|Aa (.agg [(.str [103]),(.str [97]),(.I 0),(.I 0),.emp]) J (Kj (Qz Hd Azp J))<|Dp (e:=Bc) (L:=[({ Name:=[103],In:=[97],Volume:=0,Length:=0,Open:=[] }:Segment)]) (st:=5) (rows:=[[(.str [103]),(.str [97]),(.I 0),(.I 0),.emp]]) J Gl Hd J J J J J (.cons (.cons (.same _) (.cons (.same _) (.cons (.same _) (.cons (.same _) (.cons (.emp _) .nil))))) .nil) (fun x=>Tt x) J J<|Aa (.agg [.emp,.emp,.emp,(.sl 5 (List.map Bc [({ Name:=[103],In:=[97],Volume:=0,Length:=0,Open:=[] }:Segment)])),.emp,.emp,.emp,.emp]) J (Kj (Qz Df Ag2 J))<|Bv [(.agg [.emp,.emp,.emp,(.sl 5 (List.map Bc [({ Name:=[103],In:=[97],Volume:=0,Length:=0,Open:=[] }:Segment)])),.emp,.emp,.emp,.emp])] J J J J (fun hb=>Bg.weak (.cons (.aggL (.cons (.emp _) (.cons (.emp _) (.cons (.emp _) (.cons (.same _) (.cons (.emp _) (.cons (.emp _) (.cons (.emp _) (.cons (.emp _) .nil))))))))) .nil) ((Nf ({ Volumes:=[],Sectors:=[],Configs:=[],Segments:=[({ Name:=[103],In:=[97],Volume:=0,Length:=0,Open:=[] }:Segment)],Routes:=[],Airports:=[],Classes:=[],Rules:=[] }:Airspace)) _ hb)) (fun v _=>Cy Tryz.func4 hI) fun r3 _=>Ac 3 [] [(53,(.I r3.2)),(52,(.agg (Ax r3.1)))] ?_
 refine Bl (j:=4) hI J J J J Df J fun g4=>Au (A4 (v:=(.agg (Ax r3.1))) hI J J J J Df J J J J J)<|Aa (.I r3.2) J Aj<|Z<|Ak ?_
 refine Y<|O<|Ac 1 [0] [(55,(.agg [(.sl 2 (List.map Ar [({ Name:=[97],Closed:=[] }:Volume),({ Name:=[98],Closed:=[] }:Volume)])),(.sl 5 (List.map A9 [({ Name:=[115],Names:=[[98],[97]],Volumes:=[],Radar:=0,Procedural:=0 }:Sector)])),.emp,.emp,.emp,.emp,(.sl 4 (List.map Bn [({ Name:=[104,101,97,118,121],Slow:=0,Fast:=0,Places:=0 }:Class)])),(.sl 8 (List.map Bd [({ Kind:=2,C:=[104,101,97,118,121],A:=[110,111,119,104,101,114,101],Class:=0,Airport:=5,N:=0,Hours:=({ From:=0,To:=0 }:Span) }:Rule)]))]))] ?_
 refine Bv [(.agg [(.sl 2 (List.map Ar [({ Name:=[97],Closed:=[] }:Volume),({ Name:=[98],Closed:=[] }:Volume)])),(.sl 5 (List.map A9 [({ Name:=[115],Names:=[[98],[97]],Volumes:=[],Radar:=0,Procedural:=0 }:Sector)])),.emp,.emp,.emp,.emp,(.sl 4 (List.map Bn [({ Name:=[104,101,97,118,121],Slow:=0,Fast:=0,Places:=0 }:Class)])),(.sl 8 (List.map Bd [({ Kind:=2,C:=[104,101,97,118,121],A:=[110,111,119,104,101,114,101],Class:=0,Airport:=5,N:=0,Hours:=({ From:=0,To:=0 }:Span) }:Rule)]))]),(.str [98])] J J J J (fun hb=>Bg.weak (.cons (.aggL (.cons (.same _) (.cons (.same _) (.cons (.emp _) (.cons (.emp _) (.cons (.emp _) (.cons (.emp _) (.cons (.same _) (.cons (.same _) .nil))))))))) (.cons (.same _) .nil)) ((Ab3 ({ Volumes:=[({ Name:=[97],Closed:=[] }:Volume),({ Name:=[98],Closed:=[] }:Volume)],Sectors:=[({ Name:=[115],Names:=[[98],[97]],Volumes:=[],Radar:=0,Procedural:=0 }:Sector)],Configs:=[],Segments:=[],Routes:=[],Airports:=[],Classes:=[({ Name:=[104,101,97,118,121],Slow:=0,Fast:=0,Places:=0 }:Class)],Rules:=[({ Kind:=2,C:=[104,101,97,118,121],A:=[110,111,119,104,101,114,101],Class:=0,Airport:=5,N:=0,Hours:=({ From:=0,To:=0 }:Span) }:Rule)] }:Airspace) [98]) _ hb)) (fun v _=>Cy Tryz.func4 hI) fun r4 _=>Ac 5 [] [(11,(.bool r4.2)),(10,(.I r4.1))] ?_
 refine Z<|Y<|O<|Aa (.agg [.emp,.emp,.emp,.emp,.emp,.emp,.emp,.emp]) J (Kj (Qz Df Ag2 J))<|Bv [(.agg [.emp,.emp,.emp,.emp,.emp,.emp,.emp,.emp]),(.str [])] J J J J (fun hb=>Bg.weak (.cons (.aggL (.cons (.emp _) (.cons (.emp _) (.cons (.emp _) (.cons (.emp _) (.cons (.emp _) (.cons (.emp _) (.cons (.emp _) (.cons (.emp _) .nil))))))))) (.cons (.same _) .nil)) ((Ab3 ({ Volumes:=[],Sectors:=[],Configs:=[],Segments:=[],Routes:=[],Airports:=[],Classes:=[],Rules:=[] }:Airspace) []) _ hb)) (fun v _=>Cy Tryz.func4 hI) fun r5 _=>Ac 5 [] [(13,(.bool r5.2))] ?_
 refine Z<|Y<|O<|Ac 1 [0] [(65,(.agg [(.sl 2 (List.map Ar [({ Name:=[97],Closed:=[] }:Volume),({ Name:=[98],Closed:=[] }:Volume)])),(.sl 5 (List.map A9 [({ Name:=[115],Names:=[[98],[97]],Volumes:=[],Radar:=0,Procedural:=0 }:Sector)])),.emp,.emp,.emp,.emp,(.sl 4 (List.map Bn [({ Name:=[104,101,97,118,121],Slow:=0,Fast:=0,Places:=0 }:Class)])),(.sl 8 (List.map Bd [({ Kind:=2,C:=[104,101,97,118,121],A:=[110,111,119,104,101,114,101],Class:=0,Airport:=5,N:=0,Hours:=({ From:=0,To:=0 }:Span) }:Rule)]))]))] ?_
 refine Bv [(.agg [(.sl 2 (List.map Ar [({ Name:=[97],Closed:=[] }:Volume),({ Name:=[98],Closed:=[] }:Volume)])),(.sl 5 (List.map A9 [({ Name:=[115],Names:=[[98],[97]],Volumes:=[],Radar:=0,Procedural:=0 }:Sector)])),.emp,.emp,.emp,.emp,(.sl 4 (List.map Bn [({ Name:=[104,101,97,118,121],Slow:=0,Fast:=0,Places:=0 }:Class)])),(.sl 8 (List.map Bd [({ Kind:=2,C:=[104,101,97,118,121],A:=[110,111,119,104,101,114,101],Class:=0,Airport:=5,N:=0,Hours:=({ From:=0,To:=0 }:Span) }:Rule)]))]),(.str [104,101,97,118,121])] J J J J (fun hb=>Bg.weak (.cons (.aggL (.cons (.same _) (.cons (.same _) (.cons (.emp _) (.cons (.emp _) (.cons (.emp _) (.cons (.emp _) (.cons (.same _) (.cons (.same _) .nil))))))))) (.cons (.same _) .nil)) ((Aiq ({ Volumes:=[({ Name:=[97],Closed:=[] }:Volume),({ Name:=[98],Closed:=[] }:Volume)],Sectors:=[({ Name:=[115],Names:=[[98],[97]],Volumes:=[],Radar:=0,Procedural:=0 }:Sector)],Configs:=[],Segments:=[],Routes:=[],Airports:=[],Classes:=[({ Name:=[104,101,97,118,121],Slow:=0,Fast:=0,Places:=0 }:Class)],Rules:=[({ Kind:=2,C:=[104,101,97,118,121],A:=[110,111,119,104,101,114,101],Class:=0,Airport:=5,N:=0,Hours:=({ From:=0,To:=0 }:Span) }:Rule)] }:Airspace) [104,101,97,118,121]) _ hb)) (fun v _=>Cy Tryz.func4 hI) fun r6 _=>Ac 5 [] [(15,(.bool r6.2)),(14,(.I r6.1))] ?_
 refine Z<|Y<|O<|Ac 1 [0] [(70,(.agg [(.sl 2 (List.map Ar [({ Name:=[97],Closed:=[] }:Volume),({ Name:=[98],Closed:=[] }:Volume)])),(.sl 5 (List.map A9 [({ Name:=[115],Names:=[[98],[97]],Volumes:=[],Radar:=0,Procedural:=0 }:Sector)])),.emp,.emp,.emp,.emp,(.sl 4 (List.map Bn [({ Name:=[104,101,97,118,121],Slow:=0,Fast:=0,Places:=0 }:Class)])),(.sl 8 (List.map Bd [({ Kind:=2,C:=[104,101,97,118,121],A:=[110,111,119,104,101,114,101],Class:=0,Airport:=5,N:=0,Hours:=({ From:=0,To:=0 }:Span) }:Rule)]))]))] ?_
 refine Bv [(.agg [(.sl 2 (List.map Ar [({ Name:=[97],Closed:=[] }:Volume),({ Name:=[98],Closed:=[] }:Volume)])),(.sl 5 (List.map A9 [({ Name:=[115],Names:=[[98],[97]],Volumes:=[],Radar:=0,Procedural:=0 }:Sector)])),.emp,.emp,.emp,.emp,(.sl 4 (List.map Bn [({ Name:=[104,101,97,118,121],Slow:=0,Fast:=0,Places:=0 }:Class)])),(.sl 8 (List.map Bd [({ Kind:=2,C:=[104,101,97,118,121],A:=[110,111,119,104,101,114,101],Class:=0,Airport:=5,N:=0,Hours:=({ From:=0,To:=0 }:Span) }:Rule)]))]),(.str [97])] J J J J (fun hb=>Bg.weak (.cons (.aggL (.cons (.same _) (.cons (.same _) (.cons (.emp _) (.cons (.emp _) (.cons (.emp _) (.cons (.emp _) (.cons (.same _) (.cons (.same _) .nil))))))))) (.cons (.same _) .nil)) ((Agx ({ Volumes:=[({ Name:=[97],Closed:=[] }:Volume),({ Name:=[98],Closed:=[] }:Volume)],Sectors:=[({ Name:=[115],Names:=[[98],[97]],Volumes:=[],Radar:=0,Procedural:=0 }:Sector)],Configs:=[],Segments:=[],Routes:=[],Airports:=[],Classes:=[({ Name:=[104,101,97,118,121],Slow:=0,Fast:=0,Places:=0 }:Class)],Rules:=[({ Kind:=2,C:=[104,101,97,118,121],A:=[110,111,119,104,101,114,101],Class:=0,Airport:=5,N:=0,Hours:=({ From:=0,To:=0 }:Span) }:Rule)] }:Airspace) [97]) _ hb)) (fun v _=>Cy Tryz.func4 hI) fun r7 _=>Ac 5 [] [(17,(.bool r7.2))] ?_
 refine Z<|Y<|Y<|O<|Ac 3 [] [(76,(.bool (r.2 != 0)))] ?_
 refine B9 3 [(2,(.q ids 1 g1)),(4,(.q ids 2 g2)),(7,(.I r2.2)),(9,(.I r3.2)),(10,(.I r4.1)),(11,(.bool r4.2)),(13,(.bool r5.2)),(14,(.I r6.1)),(15,(.bool r6.2)),(17,(.bool r7.2)),(79,(.bool ((r.2 != 0)||(r1.2 != 0))))] ?_ fun hJ=>Bz (r.2 != 0) (fun hb1=>?_) (fun hb1=>?_)
 ·refine Aa (.bool ((r.2 != 0)||(r1.2 != 0))) J Ae<|B9 3 [(2,(.q ids 1 g1)),(4,(.q ids 2 g2)),(9,(.I r3.2)),(10,(.I r4.1)),(11,(.bool r4.2)),(13,(.bool r5.2)),(14,(.I r6.1)),(15,(.bool r6.2)),(17,(.bool r7.2)),(83,(.bool (((r.2 != 0)||(r1.2 != 0))||(r2.2 != 91))))] ?_ fun hJ1=>Bz ((r.2 != 0)||(r1.2 != 0)) (fun hb3=>?_) (fun hb3=>?_)
  ·refine Aa (.bool (((r.2 != 0)||(r1.2 != 0))||(r2.2 != 91))) J Ae<|B9 3 [(2,(.q ids 1 g1)),(4,(.q ids 2 g2)),(10,(.I r4.1)),(11,(.bool r4.2)),(13,(.bool r5.2)),(14,(.I r6.1)),(15,(.bool r6.2)),(17,(.bool r7.2)),(87,(.bool ((((r.2 != 0)||(r1.2 != 0))||(r2.2 != 91))||(r3.2 != 90))))] ?_ fun hJ2=>Bz (((r.2 != 0)||(r1.2 != 0))||(r2.2 != 91)) (fun hb5=>?_) (fun hb5=>?_)
   ·refine Aa (.bool ((((r.2 != 0)||(r1.2 != 0))||(r2.2 != 91))||(r3.2 != 90))) J Ae<|B9 5 [(2,(.q ids 1 g1)),(4,(.q ids 2 g2)),(10,(.I r4.1)),(11,(.bool r4.2)),(13,(.bool r5.2)),(14,(.I r6.1)),(15,(.bool r6.2)),(17,(.bool r7.2)),(93,(.bool (((((r.2 != 0)||(r1.2 != 0))||(r2.2 != 91))||(r3.2 != 90))||((r.1.Sectors.length:Int) != 1))))] ?_ fun hJ3=>Bz ((((r.2 != 0)||(r1.2 != 0))||(r2.2 != 91))||(r3.2 != 90)) (fun hb7=>?_) (fun hb7=>?_)
    ·refine Aa (.bool (((((r.2 != 0)||(r1.2 != 0))||(r2.2 != 91))||(r3.2 != 90))||((r.1.Sectors.length:Int) != 1))) J Ae<|B9 5 [(2,(.q ids 1 g1)),(4,(.q ids 2 g2)),(10,(.I r4.1)),(11,(.bool r4.2)),(13,(.bool r5.2)),(14,(.I r6.1)),(15,(.bool r6.2)),(17,(.bool r7.2)),(99,(.bool ((((((r.2 != 0)||(r1.2 != 0))||(r2.2 != 91))||(r3.2 != 90))||((r.1.Sectors.length:Int) != 1))||((r.1.Rules.length:Int) != 1))))] ?_ fun hJ4=>Bz (((((r.2 != 0)||(r1.2 != 0))||(r2.2 != 91))||(r3.2 != 90))||((r.1.Sectors.length:Int) != 1)) (fun hb9=>?_) (fun hb9=>?_)
     ·refine Z<|Co J (fun hc=>?_) (fun hc=>?_)
      ·refine Y<|O<|Aa (.bool false) J Aj<|Z<|B8 (a:=false) (vs:=[(.bool false)]) Tryz.func4 hI J (.same _)
      refine A0<|Y<|O<|Ac 2 [1] [(101,(.sl 5 (List.map A9 r.1.Sectors)))] ?_
      refine Ed fun a hz hx1=>Aa (.cp (A9 a) 0) J (Bt (Eg Fp Gg J hz hx1))<|Ac 2 [] [(104,(.sl 1 (List.map (rI .i64) a.Volumes)))] ?_
      refine Dp (e:=(rI .i64)) (L:=[1,0]) (st:=1) (rows:=[[(.I 1)],[(.I 0)]]) J O4 Dl J J J J J (.cons (RowSim.refl _) (.cons (RowSim.refl _) .nil)) (fun x=>Agn x) J J<|Bv [(.sl 1 (List.map (rI .i64) a.Volumes)),(.sl 1 (List.map (rI .i64) [1,0]))] J J J J ((Qy a.Volumes [1,0]) _) (fun v _=>Cy Tryz.func4 hI) fun r8 _=>Aa (.bool r8) J Ae<|E0 7 ((fun(b:Bool)=>(if b then(Es r.1.Rules 0).bind fun a2=>R.ok (a2.A==[110,111,119,104,101,114,101]) else R.ok false).bind (fun(b1:Bool)=>(if b1 then(O3 r1.1 ({ Volumes:=[],Sectors:=[],Configs:=[],Segments:=[],Routes:=[],Airports:=[],Classes:=[],Rules:=[] }:Airspace)).bind fun r9=>R.ok r9 else R.ok false).bind (fun(b2:Bool)=>.ok ((((((b2&&(r4.1==1))&&r4.2)&&(!r5.2))&&(r6.1==0))&&r6.2)&&(!r7.2))))):Bool→R Bool) (fun(b:Bool) (fr:Nat→AV) (h:Af)=>fr=A2 [(2,(.q ids 1 g1)),(4,(.q ids 2 g2)),(10,(.I r4.1)),(11,(.bool r4.2)),(13,(.bool r5.2)),(14,(.I r6.1)),(15,(.bool r6.2)),(17,(.bool r7.2)),(114,(.bool b))]∧h=hp h0 ids [(some (.rows g 8 [[(.sl 2 (List.map Ar [({ Name:=[97],Closed:=[] }:Volume),({ Name:=[98],Closed:=[] }:Volume)])),(.sl 5 (List.map A9 [({ Name:=[115],Names:=[[98],[97]],Volumes:=[],Radar:=0,Procedural:=0 }:Sector)])),.emp,.emp,.emp,.emp,(.sl 4 (List.map Bn [({ Name:=[104,101,97,118,121],Slow:=0,Fast:=0,Places:=0 }:Class)])),(.sl 8 (List.map Bd [({ Kind:=2,C:=[104,101,97,118,121],A:=[110,111,119,104,101,114,101],Class:=0,Airport:=5,N:=0,Hours:=({ From:=0,To:=0 }:Span) }:Rule)]))]])),(some (.rows g1 8 [(Ax r.1)])),(some (.rows g2 8 [(Ax r1.1)])),(some (.rows g3 8 [(Ax r2.1)])),(some (.rows g4 8 [(Ax r3.1)]))]) ?_ fun hJ5=>Gi (fun hb11=>?_) (fun hb11=>?_)
      ·rintro b fr h ⟨rfl,rfl⟩
       refine Aa (.bool b) J Ae<|E0 7 ((fun(b1:Bool)=>(if b1 then(O3 r1.1 ({ Volumes:=[],Sectors:=[],Configs:=[],Segments:=[],Routes:=[],Airports:=[],Classes:=[],Rules:=[] }:Airspace)).bind fun r9=>R.ok r9 else R.ok false).bind (fun(b2:Bool)=>.ok ((((((b2&&(r4.1==1))&&r4.2)&&(!r5.2))&&(r6.1==0))&&r6.2)&&(!r7.2)))):Bool→R Bool) (fun(b1:Bool) (fr:Nat→AV) (h:Af)=>fr=A2 [(4,(.q ids 2 g2)),(10,(.I r4.1)),(11,(.bool r4.2)),(13,(.bool r5.2)),(14,(.I r6.1)),(15,(.bool r6.2)),(17,(.bool r7.2)),(122,(.bool b1))]∧h=hp h0 ids [(some (.rows g 8 [[(.sl 2 (List.map Ar [({ Name:=[97],Closed:=[] }:Volume),({ Name:=[98],Closed:=[] }:Volume)])),(.sl 5 (List.map A9 [({ Name:=[115],Names:=[[98],[97]],Volumes:=[],Radar:=0,Procedural:=0 }:Sector)])),.emp,.emp,.emp,.emp,(.sl 4 (List.map Bn [({ Name:=[104,101,97,118,121],Slow:=0,Fast:=0,Places:=0 }:Class)])),(.sl 8 (List.map Bd [({ Kind:=2,C:=[104,101,97,118,121],A:=[110,111,119,104,101,114,101],Class:=0,Airport:=5,N:=0,Hours:=({ From:=0,To:=0 }:Span) }:Rule)]))]])),(some (.rows g1 8 [(Ax r.1)])),(some (.rows g2 8 [(Ax r1.1)])),(some (.rows g3 8 [(Ax r2.1)])),(some (.rows g4 8 [(Ax r3.1)]))]) ?_ fun hJ6=>Gi (fun hb13=>?_) (fun hb13=>?_)
       ·rintro b1 fr h ⟨rfl,rfl⟩
        refine Aa (.bool b1) J Ae<|E0 4 ((fun(b2:Bool)=>.ok ((((((b2&&(r4.1==1))&&r4.2)&&(!r5.2))&&(r6.1==0))&&r6.2)&&(!r7.2))):Bool→R Bool) (fun(b2:Bool) (fr:Nat→AV) (h:Af)=>fr=A2 [(10,(.I r4.1)),(11,(.bool r4.2)),(13,(.bool r5.2)),(14,(.I r6.1)),(15,(.bool r6.2)),(17,(.bool r7.2)),(127,(.bool b2))]∧h=hp h0 ids [(some (.rows g 8 [[(.sl 2 (List.map Ar [({ Name:=[97],Closed:=[] }:Volume),({ Name:=[98],Closed:=[] }:Volume)])),(.sl 5 (List.map A9 [({ Name:=[115],Names:=[[98],[97]],Volumes:=[],Radar:=0,Procedural:=0 }:Sector)])),.emp,.emp,.emp,.emp,(.sl 4 (List.map Bn [({ Name:=[104,101,97,118,121],Slow:=0,Fast:=0,Places:=0 }:Class)])),(.sl 8 (List.map Bd [({ Kind:=2,C:=[104,101,97,118,121],A:=[110,111,119,104,101,114,101],Class:=0,Airport:=5,N:=0,Hours:=({ From:=0,To:=0 }:Span) }:Rule)]))]])),(some (.rows g1 8 [(Ax r.1)])),(some (.rows g2 8 [(Ax r1.1)])),(some (.rows g3 8 [(Ax r2.1)])),(some (.rows g4 8 [(Ax r3.1)]))]) ?_ fun hJ7=>Gi (fun hb15=>?_) (fun hb15=>?_)
        ·rintro b2 fr h ⟨rfl,rfl⟩
         refine Aa (.bool b2) J Ae<|B9 3 [(11,(.bool r4.2)),(13,(.bool r5.2)),(14,(.I r6.1)),(15,(.bool r6.2)),(17,(.bool r7.2)),(131,(.bool (b2&&(r4.1==1))))] ?_ fun hJ8=>Bz b2 (fun hb17=>?_) (fun hb17=>?_)
         ·refine Aa (.bool (b2&&(r4.1==1))) J Ae<|B9 2 [(13,(.bool r5.2)),(14,(.I r6.1)),(15,(.bool r6.2)),(17,(.bool r7.2)),(134,(.bool ((b2&&(r4.1==1))&&r4.2)))] ?_ fun hJ9=>Bz (b2&&(r4.1==1)) (fun hb19=>?_) (fun hb19=>?_)
          ·refine Aa (.bool ((b2&&(r4.1==1))&&r4.2)) J Ae<|B9 3 [(14,(.I r6.1)),(15,(.bool r6.2)),(17,(.bool r7.2)),(138,(.bool (((b2&&(r4.1==1))&&r4.2)&&(!r5.2))))] ?_ fun hJ10=>Bz ((b2&&(r4.1==1))&&r4.2) (fun hb21=>?_) (fun hb21=>?_)
           ·refine Aa (.bool (((b2&&(r4.1==1))&&r4.2)&&(!r5.2))) J Ae<|B9 3 [(15,(.bool r6.2)),(17,(.bool r7.2)),(142,(.bool ((((b2&&(r4.1==1))&&r4.2)&&(!r5.2))&&(r6.1==0))))] ?_ fun hJ11=>Bz (((b2&&(r4.1==1))&&r4.2)&&(!r5.2)) (fun hb23=>?_) (fun hb23=>?_)
            ·refine Aa (.bool ((((b2&&(r4.1==1))&&r4.2)&&(!r5.2))&&(r6.1==0))) J Ae<|B9 2 [(17,(.bool r7.2)),(145,(.bool (((((b2&&(r4.1==1))&&r4.2)&&(!r5.2))&&(r6.1==0))&&r6.2)))] ?_ fun hJ12=>Bz ((((b2&&(r4.1==1))&&r4.2)&&(!r5.2))&&(r6.1==0)) (fun hb25=>?_) (fun hb25=>?_)
             ·refine Aa (.bool (((((b2&&(r4.1==1))&&r4.2)&&(!r5.2))&&(r6.1==0))&&r6.2)) J Ae<|B9 3 [(149,(.bool ((((((b2&&(r4.1==1))&&r4.2)&&(!r5.2))&&(r6.1==0))&&r6.2)&&(!r7.2))))] ?_ fun hJ13=>Bz (((((b2&&(r4.1==1))&&r4.2)&&(!r5.2))&&(r6.1==0))&&r6.2) (fun hb27=>?_) (fun hb27=>?_)
              ·refine Aa (.bool ((((((b2&&(r4.1==1))&&r4.2)&&(!r5.2))&&(r6.1==0))&&r6.2)&&(!r7.2))) J Aj<|Z<|B8 (a:=((((((b2&&(r4.1==1))&&r4.2)&&(!r5.2))&&(r6.1==0))&&r6.2)&&(!r7.2))) (vs:=[(.bool ((((((b2&&(r4.1==1))&&r4.2)&&(!r5.2))&&(r6.1==0))&&r6.2)&&(!r7.2)))]) Tryz.func4 hI J (.same _)
              ·refine Bj (t:=146) hb27 J<|Ac 3 [] [(149,(.bool (!r7.2)))] ?_
               exact Br hJ13 (.cons (O5 hb27) .nil)
              refine Bj (t:=146) hb27 J<|Ac 3 [] [(149,(.bool false))] ?_
              exact Br hJ13 (.cons (O2 hb27) .nil)
             ·refine Bj (t:=143) hb25 J<|Ac 2 [] [(145,(.bool r6.2))] ?_
              exact Br hJ12 (.cons J (.cons (O5 hb25) .nil))
             refine Bj (t:=143) hb25 J<|Ac 2 [] [(145,(.bool false))] ?_
             exact Br hJ12 (.cons J (.cons (O2 hb25) .nil))
            ·refine Bj (t:=139) hb23 J<|Ac 3 [] [(142,(.bool (r6.1==0)))] ?_
             exact Br hJ11 (.cons J (.cons J (.cons (O5 hb23) .nil)))
            refine Bj (t:=139) hb23 J<|Ac 3 [] [(142,(.bool false))] ?_
            exact Br hJ11 (.cons J (.cons J (.cons (O2 hb23) .nil)))
           ·refine Bj (t:=135) hb21 J<|Ac 3 [] [(138,(.bool (!r5.2)))] ?_
            exact Br hJ10 (.cons J (.cons J (.cons J (.cons (O5 hb21) .nil))))
           refine Bj (t:=135) hb21 J<|Ac 3 [] [(138,(.bool false))] ?_
           exact Br hJ10 (.cons J (.cons J (.cons J (.cons (O2 hb21) .nil))))
          ·refine Bj (t:=132) hb19 J<|Ac 2 [] [(134,(.bool r4.2))] ?_
           exact Br hJ9 (.cons J (.cons J (.cons J (.cons J (.cons (O5 hb19) .nil)))))
          refine Bj (t:=132) hb19 J<|Ac 2 [] [(134,(.bool false))] ?_
          exact Br hJ9 (.cons J (.cons J (.cons J (.cons J (.cons (O2 hb19) .nil)))))
         ·refine Bj (t:=128) hb17 J<|Ac 3 [] [(131,(.bool (r4.1==1)))] ?_
          exact Br hJ8 (.cons J (.cons J (.cons J (.cons J (.cons J (.cons (O5 hb17) .nil))))))
         refine Bj (t:=128) hb17 J<|Ac 3 [] [(131,(.bool false))] ?_
         exact Br hJ8 (.cons J (.cons J (.cons J (.cons J (.cons J (.cons (O2 hb17) .nil))))))
        ·refine Bj (t:=123) hb15 J<|Ac 2 [2] [(125,(.agg [.emp,.emp,.emp,.emp,.emp,.emp,.emp,.emp])),(124,(.agg (Ax r1.1)))] ?_
         refine Bv [(.agg (Ax r1.1)),(.agg [.emp,.emp,.emp,.emp,.emp,.emp,.emp,.emp])] J (Er (tj:=123) J J) J J (fun hb=>Bg.weak (.cons (.same _) (.cons (.aggL (.cons (.emp _) (.cons (.emp _) (.cons (.emp _) (.cons (.emp _) (.cons (.emp _) (.cons (.emp _) (.cons (.emp _) (.cons (.emp _) .nil))))))))) .nil)) ((Aec r1.1 ({ Volumes:=[],Sectors:=[],Configs:=[],Segments:=[],Routes:=[],Airports:=[],Classes:=[],Rules:=[] }:Airspace)) _ hb)) (fun v _=>Cy Tryz.func4 hI) fun r9 _=>Aa (.bool r9) J (Sl (t:=true) J J)<|Cd<|Dt [(10,(.I r4.1)),(11,(.bool r4.2)),(13,(.bool r5.2)),(14,(.I r6.1)),(15,(.bool r6.2)),(17,(.bool r7.2)),(127,(.bool r9))] (FI J)<|hJ7 r9 _ _ ⟨J,J⟩
        refine Bj (t:=123) hb15 J<|Ac 4 [] [(127,(.bool false))] ?_
        refine Cd<|Dt [(10,(.I r4.1)),(11,(.bool r4.2)),(13,(.bool r5.2)),(14,(.I r6.1)),(15,(.bool r6.2)),(17,(.bool r7.2)),(127,(.bool false))] (FI J)<|hJ7 false _ _ ⟨J,J⟩
       ·refine Bj (t:=115) hb13 J<|Ac 2 [1] [(117,(.sl 8 (List.map Bd r.1.Rules)))] ?_
        refine Ed fun a2 hz2 hx3=>Bx (tj:=115) (.cp (Bd a2) 0) J J J (Bt (Eg Ec Dy J hz2 hx3))<|Ac 4 [] [(122,(.bool (a2.A==[110,111,119,104,101,114,101])))] ?_
        refine Cd<|Dt [(4,(.q ids 2 g2)),(10,(.I r4.1)),(11,(.bool r4.2)),(13,(.bool r5.2)),(14,(.I r6.1)),(15,(.bool r6.2)),(17,(.bool r7.2)),(122,(.bool (a2.A==[110,111,119,104,101,114,101])))] (FI J)<|hJ6 (a2.A==[110,111,119,104,101,114,101]) _ _ ⟨J,J⟩
       refine Bj (t:=115) hb13 J<|Ac 7 [] [(122,(.bool false))] ?_
       refine Cd<|Dt [(4,(.q ids 2 g2)),(10,(.I r4.1)),(11,(.bool r4.2)),(13,(.bool r5.2)),(14,(.I r6.1)),(15,(.bool r6.2)),(17,(.bool r7.2)),(122,(.bool false))] (FI J)<|hJ6 false _ _ ⟨J,J⟩
      ·refine Bj (t:=107) hb11 J<|Ac 2 [1] [(109,(.sl 8 (List.map Bd r.1.Rules)))] ?_
       refine Ed fun a1 hz1 hx2=>Bx (tj:=107) (.cp (Bd a1) 0) J J J (Bt (Eg Ec Dy J hz1 hx2))<|Ac 4 [] [(114,(.bool (a1.Airport==0)))] ?_
       refine Cd<|Dt [(2,(.q ids 1 g1)),(4,(.q ids 2 g2)),(10,(.I r4.1)),(11,(.bool r4.2)),(13,(.bool r5.2)),(14,(.I r6.1)),(15,(.bool r6.2)),(17,(.bool r7.2)),(114,(.bool (a1.Airport==0)))] (FI J)<|hJ5 (a1.Airport==0) _ _ ⟨J,J⟩
      refine Bj (t:=107) hb11 J<|Ac 7 [] [(114,(.bool false))] ?_
      refine Cd<|Dt [(2,(.q ids 1 g1)),(4,(.q ids 2 g2)),(10,(.I r4.1)),(11,(.bool r4.2)),(13,(.bool r5.2)),(14,(.I r6.1)),(15,(.bool r6.2)),(17,(.bool r7.2)),(114,(.bool false))] (FI J)<|hJ5 false _ _ ⟨J,J⟩
     ·refine Bj (t:=94) hb9 J<|Ac 5 [] [(99,(.bool true))] ?_
      exact Br hJ4 (.cons J (.cons J (.cons J (.cons J (.cons J (.cons J (.cons J (.cons J (.cons (Fe hb9) .nil)))))))))
     refine Bj (t:=94) hb9 J<|Ac 2 [1] [(96,(.sl 8 (List.map Bd r.1.Rules)))] ?_
     refine Bx (tj:=94) (.I (r.1.Rules.length:Int)) J J J (Ay (A8 Ec))<|Ac 2 [] [(99,(.bool ((r.1.Rules.length:Int) != 1)))] ?_
     exact Br hJ4 (.cons J (.cons J (.cons J (.cons J (.cons J (.cons J (.cons J (.cons J (.cons (Fg hb9) .nil)))))))))
    ·refine Bj (t:=88) hb7 J<|Ac 5 [] [(93,(.bool true))] ?_
     exact Br hJ3 (.cons J (.cons J (.cons J (.cons J (.cons J (.cons J (.cons J (.cons J (.cons (Fe hb7) .nil)))))))))
    refine Bj (t:=88) hb7 J<|Ac 2 [1] [(90,(.sl 5 (List.map A9 r.1.Sectors)))] ?_
    refine Bx (tj:=88) (.I (r.1.Sectors.length:Int)) J J J (Ay (A8 Fp))<|Ac 2 [] [(93,(.bool ((r.1.Sectors.length:Int) != 1)))] ?_
    exact Br hJ3 (.cons J (.cons J (.cons J (.cons J (.cons J (.cons J (.cons J (.cons J (.cons (Fg hb7) .nil)))))))))
   ·refine Bj (t:=84) hb5 J<|Ac 3 [] [(87,(.bool true))] ?_
    exact Br hJ2 (.cons J (.cons J (.cons J (.cons J (.cons J (.cons J (.cons J (.cons J (.cons (Fe hb5) .nil)))))))))
   refine Bj (t:=84) hb5 J<|Ac 3 [] [(87,(.bool (r3.2 != 90)))] ?_
   exact Br hJ2 (.cons J (.cons J (.cons J (.cons J (.cons J (.cons J (.cons J (.cons J (.cons (Fg hb5) .nil)))))))))
  ·refine Bj (t:=80) hb3 J<|Ac 3 [] [(83,(.bool true))] ?_
   exact Br hJ1 (.cons J (.cons J (.cons J (.cons J (.cons J (.cons J (.cons J (.cons J (.cons J (.cons (Fe hb3) .nil))))))))))
  refine Bj (t:=80) hb3 J<|Ac 3 [] [(83,(.bool (r2.2 != 91)))] ?_
  exact Br hJ1 (.cons J (.cons J (.cons J (.cons J (.cons J (.cons J (.cons J (.cons J (.cons J (.cons (Fg hb3) .nil))))))))))
 ·refine Bj (t:=76) hb1 J<|Ac 3 [] [(79,(.bool true))] ?_
  exact Br hJ (.cons J (.cons J (.cons J (.cons J (.cons J (.cons J (.cons J (.cons J (.cons J (.cons J (.cons (Fe hb1) .nil)))))))))))
 refine Bj (t:=76) hb1 J<|Ac 3 [] [(79,(.bool (r1.2 != 0)))] ?_
 exact Br hJ (.cons J (.cons J (.cons J (.cons J (.cons J (.cons J (.cons J (.cons J (.cons J (.cons J (.cons (Fg hb1) .nil)))))))))))
theorem Ak0 (a:Airspace):CP Tryz.prog 5 [(.agg (Ax a))] (Xy a) (fun(x:Bool)=>(AV.bool x)):=by
 refine C8 (n:=107) 1 Tryz.func5 J (by decide) J J fun h0 ids hI=>Bk (Al (Xy.eq_1 _) ?_)
 refine Y<|O<|Ck (v:=(.agg (Ax a))) (j:=0) hI J J J J J J J fun g=>Aa (.bool false) J Aj<|Z<|Ak ?_
 refine Y<|O<|Ac 2 [0] [(9,(.sl 2 (List.map Ar a.Volumes)))] ?_
 refine Aa (.I (a.Volumes.length:Int)) J (Ay (A8 H7))<|Ac 2 [0] [(12,(.sl 5 (List.map A9 a.Sectors)))] ?_
 refine Aa (.I (a.Sectors.length:Int)) J (Ay (A8 Fp))<|Ac 3 [0] [(16,(.sl 3 (List.map Bh a.Configs))),(14,(.I (IntKind.wrap .i64 ((a.Volumes.length:Int)+(a.Sectors.length:Int)))))] ?_
 refine Aa (.I (a.Configs.length:Int)) J (Ay (A8 F7))<|Ac 3 [0] [(20,(.sl 5 (List.map Bc a.Segments))),(18,(.I (IntKind.wrap .i64 ((IntKind.wrap .i64 ((a.Volumes.length:Int)+(a.Sectors.length:Int)))+(a.Configs.length:Int)))))] ?_
 refine Aa (.I (a.Segments.length:Int)) J (Ay (A8 Gl))<|Ac 3 [0] [(24,(.sl 7 (List.map Bs a.Routes))),(22,(.I (IntKind.wrap .i64 ((IntKind.wrap .i64 ((IntKind.wrap .i64 ((a.Volumes.length:Int)+(a.Sectors.length:Int)))+(a.Configs.length:Int)))+(a.Segments.length:Int)))))] ?_
 refine Aa (.I (a.Routes.length:Int)) J (Ay (A8 H4))<|Ac 3 [0] [(28,(.sl 2 (List.map A5 a.Airports))),(26,(.I (IntKind.wrap .i64 ((IntKind.wrap .i64 ((IntKind.wrap .i64 ((IntKind.wrap .i64 ((a.Volumes.length:Int)+(a.Sectors.length:Int)))+(a.Configs.length:Int)))+(a.Segments.length:Int)))+(a.Routes.length:Int)))))] ?_
 refine Aa (.I (a.Airports.length:Int)) J (Ay (A8 Lg))<|Ac 3 [0] [(32,(.sl 4 (List.map Bn a.Classes))),(30,(.I (IntKind.wrap .i64 ((IntKind.wrap .i64 ((IntKind.wrap .i64 ((IntKind.wrap .i64 ((IntKind.wrap .i64 ((a.Volumes.length:Int)+(a.Sectors.length:Int)))+(a.Configs.length:Int)))+(a.Segments.length:Int)))+(a.Routes.length:Int)))+(a.Airports.length:Int)))))] ?_
 refine Aa (.I (a.Classes.length:Int)) J (Ay (A8 Mn))<|Ac 3 [0] [(36,(.sl 8 (List.map Bd a.Rules))),(34,(.I (IntKind.wrap .i64 ((IntKind.wrap .i64 ((IntKind.wrap .i64 ((IntKind.wrap .i64 ((IntKind.wrap .i64 ((IntKind.wrap .i64 ((a.Volumes.length:Int)+(a.Sectors.length:Int)))+(a.Configs.length:Int)))+(a.Segments.length:Int)))+(a.Routes.length:Int)))+(a.Airports.length:Int)))+(a.Classes.length:Int)))))] ?_
 refine Aa (.I (a.Rules.length:Int)) J (Ay (A8 Ec))<|Ac 2 [] [(3,(.I (IntKind.wrap .i64 ((IntKind.wrap .i64 ((IntKind.wrap .i64 ((IntKind.wrap .i64 ((IntKind.wrap .i64 ((IntKind.wrap .i64 ((IntKind.wrap .i64 ((a.Volumes.length:Int)+(a.Sectors.length:Int)))+(a.Configs.length:Int)))+(a.Segments.length:Int)))+(a.Routes.length:Int)))+(a.Airports.length:Int)))+(a.Classes.length:Int)))+(a.Rules.length:Int)))))] ?_
 refine Z<|Y<|Y<|O<|Ac 2 [] [(40,(.bool (decide ((IntKind.wrap .i64 ((IntKind.wrap .i64 ((IntKind.wrap .i64 ((IntKind.wrap .i64 ((IntKind.wrap .i64 ((IntKind.wrap .i64 ((IntKind.wrap .i64 ((a.Volumes.length:Int)+(a.Sectors.length:Int)))+(a.Configs.length:Int)))+(a.Segments.length:Int)))+(a.Routes.length:Int)))+(a.Airports.length:Int)))+(a.Classes.length:Int)))+(a.Rules.length:Int))) > 80))))] ?_
 refine Z<|On J (fun hc=>?_) (fun hc=>?_)
 ·refine Y<|O<|Aa (.bool false) J Aj<|Z<|B8 (a:=false) (vs:=[(.bool false)]) Tryz.func5 hI J (.same _)
 refine A0<|Y<|Y<|O<|Aa (.I 0) J Aj<|Z<|A3 ?_
 refine Dn (t:=12) (L:=a.Sectors) J fun hlim=>Db [(1,(.q ids 0 g)),(3,(.I (IntKind.wrap .i64 ((IntKind.wrap .i64 ((IntKind.wrap .i64 ((IntKind.wrap .i64 ((IntKind.wrap .i64 ((IntKind.wrap .i64 ((IntKind.wrap .i64 ((a.Volumes.length:Int)+(a.Sectors.length:Int)))+(a.Configs.length:Int)))+(a.Segments.length:Int)))+(a.Routes.length:Int)))+(a.Airports.length:Int)))+(a.Classes.length:Int)))+(a.Rules.length:Int))))),(4,(.I 0))] (FI J)<|Di (P:=Tryz.prog) a.Sectors (fun _ a1=>fun n=>Sw a1 n) (((fun n=>(B0 (fun _ a2=>fun n1=>Rc a2 n1) 0 a.Configs n).bind ((fun n1=>(B0 (fun _ a3=>fun n2=>Pf a3 n2) 0 a.Routes n1).bind ((fun n2=>(B0 (fun _ a4=>fun n3=>Nl a4 n3) 0 a.Airports n2).bind ((fun n3=>.ok (decide (n3≤300)))))))))):Int→R Bool) (fun j=>fun n=>fun(fr:Nat→AV) (h:Af)=>fr=A2 [(1,(.q ids 0 g)),(3,(.I n)),(4,(.I (j:Int)))]∧h=hp h0 ids [(some (.rows g 8 [(Ax a)]))]) (IntKind.wrap .i64 ((IntKind.wrap .i64 ((IntKind.wrap .i64 ((IntKind.wrap .i64 ((IntKind.wrap .i64 ((IntKind.wrap .i64 ((IntKind.wrap .i64 ((a.Volumes.length:Int)+(a.Sectors.length:Int)))+(a.Configs.length:Int)))+(a.Segments.length:Int)))+(a.Routes.length:Int)))+(a.Airports.length:Int)))+(a.Classes.length:Int)))+(a.Rules.length:Int))) ?_ ?_ ?_
 ·exact⟨J,J⟩
 ·rintro j a1 ha1 W hW n fr h ⟨rfl,rfl⟩
  refine Al (m':=Sw a1 n) J (Al (Sw.eq_1 _ _) ?_)
  refine Y<|Y<|O<|Ac 3 [0] [(43,(.sl 5 (List.map A9 a.Sectors))),(41,(.I (j:Int)))] ?_
  refine Aa (.I (a.Sectors.length:Int)) J (Ay (A8 Fp))<|Aa (.bool (decide ((j:Int)<(a.Sectors.length:Int)))) J (Ba J J J)<|Z<|Ch J (Int.ofNat_lt.2 (Av ha1))<|A0<|Y<|A3 ?_
  refine O<|Ac 4 [0] [(51,(.I (j:Int))),(50,(.sl 5 (List.map A9 a.Sectors))),(48,(.I n))] ?_
  refine Aa (.cp (A9 a1) 0) J (Bt (Ct Fp Gg J ha1))<|Ac 2 [] [(54,(.sl 1 (List.map rS a1.Names)))] ?_
  refine Aa (.I (a1.Names.length:Int)) J (Ay (A8 Dg))<|Ac 2 [] [(3,(.I (IntKind.wrap .i64 (n+(a1.Names.length:Int)))))] ?_
  refine Z<|Bf<|O<|Ac 3 [] [(4,(.I (IntKind.wrap .i64 ((j:Int)+1))))] ?_
  refine Z<|Bp (I7 (hW (IntKind.wrap .i64 (n+(a1.Names.length:Int))) _ _ ⟨J,J⟩)) (.cons J (.cons J (.cons (C3 (Av ha1) hlim) .nil)))
 rintro n fr h ⟨rfl,rfl⟩
 refine Y<|Y<|O<|Ac 3 [0] [(43,(.sl 5 (List.map A9 a.Sectors))),(41,(.I (a.Sectors.length:Int)))] ?_
 refine Aa (.I (a.Sectors.length:Int)) J (Ay (A8 Fp))<|Aa (.bool (decide ((a.Sectors.length:Int)<(a.Sectors.length:Int)))) J (Ba J J J)<|Z<|Cg J (Int.lt_irrefl _)<|Cl J<|Y<|Y ?_
 refine O<|Aa (.I 0) J Aj<|Z<|A3<|Db [(1,(.q ids 0 g)),(3,(.I n)),(5,(.I 0))] (FI J)<|Di (P:=Tryz.prog) a.Configs (fun _ a2=>fun n1=>Rc a2 n1) (((fun n1=>(B0 (fun _ a3=>fun n2=>Pf a3 n2) 0 a.Routes n1).bind ((fun n2=>(B0 (fun _ a4=>fun n3=>Nl a4 n3) 0 a.Airports n2).bind ((fun n3=>.ok (decide (n3≤300)))))))):Int→R Bool) (fun j1=>fun n1=>fun(fr:Nat→AV) (h:Af)=>fr=A2 [(1,(.q ids 0 g)),(3,(.I n1)),(5,(.I (j1:Int)))]∧h=hp h0 ids [(some (.rows g 8 [(Ax a)]))]) n ?_ ?_ ?_
 ·exact⟨J,J⟩
 ·rintro j1 a2 ha2 W hW1 n1 fr h ⟨rfl,rfl⟩
  refine Al (m':=Rc a2 n1) J (Al (Rc.eq_1 _ _) ?_)
  refine Y<|Y<|O<|Ac 3 [0] [(59,(.sl 3 (List.map Bh a.Configs))),(57,(.I (j1:Int)))] ?_
  refine Aa (.I (a.Configs.length:Int)) J (Ay (A8 F7))<|Aa (.bool (decide ((j1:Int)<(a.Configs.length:Int)))) J (Ba J J J)<|Z<|Dn (t:=59) (L:=a.Configs) J fun hlim2=>Ch J (Int.ofNat_lt.2 (Av ha2))<|A0<|Y ?_
  refine A3<|O<|Ac 4 [0] [(67,(.I (j1:Int))),(66,(.sl 3 (List.map Bh a.Configs))),(64,(.I n1))] ?_
  refine Aa (.cp (Bh a2) 0) J (Bt (Ct F7 Iq J ha2))<|Ac 2 [] [(70,(.sl 1 (List.map rS a2.Names)))] ?_
  refine Aa (.I (a2.Names.length:Int)) J (Ay (A8 Dg))<|Ac 2 [] [(3,(.I (IntKind.wrap .i64 (n1+(a2.Names.length:Int)))))] ?_
  refine Z<|Bf<|O<|Ac 3 [] [(5,(.I (IntKind.wrap .i64 ((j1:Int)+1))))] ?_
  refine Z<|Bp (I7 (hW1 (IntKind.wrap .i64 (n1+(a2.Names.length:Int))) _ _ ⟨J,J⟩)) (.cons J (.cons J (.cons (C3 (Av ha2) hlim2) .nil)))
 rintro n1 fr h ⟨rfl,rfl⟩
 refine Y<|Y<|O<|Ac 3 [0] [(59,(.sl 3 (List.map Bh a.Configs))),(57,(.I (a.Configs.length:Int)))] ?_
 refine Aa (.I (a.Configs.length:Int)) J (Ay (A8 F7))<|Aa (.bool (decide ((a.Configs.length:Int)<(a.Configs.length:Int)))) J (Ba J J J)<|Z<|Cg J (Int.lt_irrefl _)<|Cl J<|Y<|Y ?_
 refine O<|Aa (.I 0) J Aj<|Z<|A3<|Db [(1,(.q ids 0 g)),(3,(.I n1)),(6,(.I 0))] (FI J)<|Di (P:=Tryz.prog) a.Routes (fun _ a3=>fun n2=>Pf a3 n2) (((fun n2=>(B0 (fun _ a4=>fun n3=>Nl a4 n3) 0 a.Airports n2).bind ((fun n3=>.ok (decide (n3≤300)))))):Int→R Bool) (fun j2=>fun n2=>fun(fr:Nat→AV) (h:Af)=>fr=A2 [(1,(.q ids 0 g)),(3,(.I n2)),(6,(.I (j2:Int)))]∧h=hp h0 ids [(some (.rows g 8 [(Ax a)]))]) n1 ?_ ?_ ?_
 ·exact⟨J,J⟩
 ·rintro j2 a3 ha3 W hW2 n2 fr h ⟨rfl,rfl⟩
  refine Al (m':=Pf a3 n2) J (Al (Pf.eq_1 _ _) ?_)
  refine Y<|Y<|O<|Ac 3 [0] [(75,(.sl 7 (List.map Bs a.Routes))),(73,(.I (j2:Int)))] ?_
  refine Aa (.I (a.Routes.length:Int)) J (Ay (A8 H4))<|Aa (.bool (decide ((j2:Int)<(a.Routes.length:Int)))) J (Ba J J J)<|Z<|Dn (t:=75) (L:=a.Routes) J fun hlim4=>Ch J (Int.ofNat_lt.2 (Av ha3))<|A0<|Y ?_
  refine A3<|O<|Ac 4 [0] [(83,(.I (j2:Int))),(82,(.sl 7 (List.map Bs a.Routes))),(80,(.I n2))] ?_
  refine Aa (.cp (Bs a3) 0) J (Bt (Ct H4 Gk J ha3))<|Ac 2 [] [(86,(.sl 1 (List.map rS a3.Names)))] ?_
  refine Aa (.I (a3.Names.length:Int)) J (Ay (A8 Dg))<|Ac 2 [] [(3,(.I (IntKind.wrap .i64 (n2+(a3.Names.length:Int)))))] ?_
  refine Z<|Bf<|O<|Ac 3 [] [(6,(.I (IntKind.wrap .i64 ((j2:Int)+1))))] ?_
  refine Z<|Bp (I7 (hW2 (IntKind.wrap .i64 (n2+(a3.Names.length:Int))) _ _ ⟨J,J⟩)) (.cons J (.cons J (.cons (C3 (Av ha3) hlim4) .nil)))
 rintro n2 fr h ⟨rfl,rfl⟩
 refine Y<|Y<|O<|Ac 3 [0] [(75,(.sl 7 (List.map Bs a.Routes))),(73,(.I (a.Routes.length:Int)))] ?_
 refine Aa (.I (a.Routes.length:Int)) J (Ay (A8 H4))<|Aa (.bool (decide ((a.Routes.length:Int)<(a.Routes.length:Int)))) J (Ba J J J)<|Z<|Cg J (Int.lt_irrefl _)<|Cl J<|Y<|Y ?_
 refine O<|Aa (.I 0) J Aj<|Z<|A3<|Db [(1,(.q ids 0 g)),(3,(.I n2)),(7,(.I 0))] (FI J)<|Di (P:=Tryz.prog) a.Airports (fun _ a4=>fun n3=>Nl a4 n3) (((fun n3=>.ok (decide (n3≤300)))):Int→R Bool) (fun j3=>fun n3=>fun(fr:Nat→AV) (h:Af)=>fr=A2 [(1,(.q ids 0 g)),(3,(.I n3)),(7,(.I (j3:Int)))]∧h=hp h0 ids [(some (.rows g 8 [(Ax a)]))]) n2 ?_ ?_ ?_
 ·exact⟨J,J⟩
 ·rintro j3 a4 ha4 W hW3 n3 fr h ⟨rfl,rfl⟩
  refine Al (m':=Nl a4 n3) J (Al (Nl.eq_1 _ _) ?_)
  refine Y<|Y<|O<|Ac 3 [0] [(91,(.sl 2 (List.map A5 a.Airports))),(89,(.I (j3:Int)))] ?_
  refine Aa (.I (a.Airports.length:Int)) J (Ay (A8 Lg))<|Aa (.bool (decide ((j3:Int)<(a.Airports.length:Int)))) J (Ba J J J)<|Z<|Dn (t:=91) (L:=a.Airports) J fun hlim6=>Ch J (Int.ofNat_lt.2 (Av ha4))<|A0<|Y ?_
  refine A3<|O<|Ac 4 [0] [(99,(.I (j3:Int))),(98,(.sl 2 (List.map A5 a.Airports))),(96,(.I n3))] ?_
  refine Aa (.cp (A5 a4) 0) J (Bt (Ct Lg I8 J ha4))<|Ac 2 [] [(102,(.sl 2 (List.map Dw a4.Modes)))] ?_
  refine Aa (.I (a4.Modes.length:Int)) J (Ay (A8 Px))<|Ac 2 [] [(3,(.I (IntKind.wrap .i64 (n3+(a4.Modes.length:Int)))))] ?_
  refine Z<|Bf<|O<|Ac 3 [] [(7,(.I (IntKind.wrap .i64 ((j3:Int)+1))))] ?_
  refine Z<|Bp (I7 (hW3 (IntKind.wrap .i64 (n3+(a4.Modes.length:Int))) _ _ ⟨J,J⟩)) (.cons J (.cons J (.cons (C3 (Av ha4) hlim6) .nil)))
 rintro n3 fr h ⟨rfl,rfl⟩
 refine Y<|Y<|O<|Ac 3 [0] [(91,(.sl 2 (List.map A5 a.Airports))),(89,(.I (a.Airports.length:Int)))] ?_
 refine Aa (.I (a.Airports.length:Int)) J (Ay (A8 Lg))<|Aa (.bool (decide ((a.Airports.length:Int)<(a.Airports.length:Int)))) J (Ba J J J)<|Z<|Cg J (Int.lt_irrefl _)<|Cl J<|Y<|O ?_
 refine Ac 3 [] [(2,(.bool (decide (n3≤300))))] ?_
 refine Z<|B8 (a:=(decide (n3≤300))) (vs:=[(.bool (decide (n3≤300)))]) Tryz.func5 hI J (.same _)
theorem T4 (l:List An):CP Tryz.prog 15 [(.sl 1 (List.map rS l))] (Nh l) (fun(x:Bool)=>(AV.bool x)):=by
 refine C8 (n:=19) 0 Tryz.func15 J (by decide) J J fun h0 ids hI=>Bk (Al (Nh.eq_1 _) ?_)
 refine Y<|O<|Aa (.bool false) J Aj<|Z<|Y<|Y<|O ?_
 refine Aa (.I 0) J Aj<|Z<|A3<|Db [(0,(.sl 1 (List.map rS l))),(3,(.I 0))] (FI J)<|Ga (P:=Tryz.prog) l (fun _ a=>fun _=>Og a) ((Dv (fun _=>.ok (decide ((l.length:Int)≤70))) (fun r=>.ok r)):(Unit ⊕ Bool)→R Bool) (fun j=>fun _=>fun(fr:Nat→AV) (h:Af)=>fr=A2 [(0,(.sl 1 (List.map rS l))),(3,(.I (j:Int)))]∧h=hp h0 ids []) () ?_ ?_ ?_
 ·exact⟨J,J⟩
 ·rintro j a ha W hW _ fr h ⟨rfl,rfl⟩
  refine Al (m':=Og a) J (Al (Og.eq_1 _) ?_)
  refine Y<|Y<|O<|Ac 2 [] [(5,(.sl 1 (List.map rS l))),(4,(.I (j:Int)))] ?_
  refine Aa (.I (l.length:Int)) J (Ay (A8 Dg))<|Aa (.bool (decide ((j:Int)<(l.length:Int)))) J (Ba J J J)<|Z<|Dn (t:=0) (L:=l) J fun hlim=>Ch J (Int.ofNat_lt.2 (Av ha))<|A0<|Y ?_
  refine A3<|Y<|O<|Ac 2 [] [(11,(.I (j:Int))),(10,(.sl 1 (List.map rS l)))] ?_
  refine Aa (.cp [(.str a)] 0) J (Bt (Ct Dg Cf J ha))<|Aa (.str a) J (As (Dh Cf J))<|Aa (.I (a.length:Int)) J (Ay (Ni Cf))<|Aa (.bool (decide ((a.length:Int) > 60))) J (Ba J J J)<|Z<|On J (fun hc=>?_) (fun hc=>?_)
  ·refine Y<|O<|Aa (.bool false) J Aj<|Z<|G2<|Jg<|B8 (a:=false) (vs:=[(.bool false)]) Tryz.func15 hI J (.same _)
  refine A0<|Bf<|O<|Ac 3 [] [(3,(.I (IntKind.wrap .i64 ((j:Int)+1))))] ?_
  refine Z<|Bp (G4 (hW () _ _ ⟨J,J⟩)) (.cons J (.cons (C3 (Av ha) hlim) .nil))
 rintro _ fr h ⟨rfl,rfl⟩
 refine Al (Hz _ _ _)<|Y<|Y<|O<|Ac 2 [] [(5,(.sl 1 (List.map rS l))),(4,(.I (l.length:Int)))] ?_
 refine Aa (.I (l.length:Int)) J (Ay (A8 Dg))<|Aa (.bool (decide ((l.length:Int)<(l.length:Int)))) J (Ba J J J)<|Z<|Cg J (Int.lt_irrefl _)<|Cl J<|Y<|O ?_
 refine Aa (.sl 1 (List.map rS l)) J Ae<|Aa (.I (l.length:Int)) J (Ay (A8 Dg))<|Ac 2 [] [(2,(.bool (decide ((l.length:Int)≤70))))] ?_
 refine Z<|B8 (a:=(decide ((l.length:Int)≤70))) (vs:=[(.bool (decide ((l.length:Int)≤70)))]) Tryz.func15 hI J (.same _)
theorem Amk (a:Airspace):CP Tryz.prog 6 [(.agg (Ax a))] (Xv a) (fun(x:Bool)=>(AV.bool x)):=by
 refine C8 (n:=178) 1 Tryz.func6 J (by decide) J J fun h0 ids hI=>Bk (Al (Xv.eq_1 _) ?_)
 refine Y<|O<|Ck (v:=(.agg (Ax a))) (j:=0) hI J J J J J J J fun g=>Aa (.bool false) J Aj<|Z<|Ak ?_
 refine Y<|Y<|O<|Ac 2 [0] [(11,(.sl 2 (List.map Ar a.Volumes)))] ?_
 refine Aa (.I (a.Volumes.length:Int)) J (Ay (A8 H7))<|Ac 2 [] [(14,(.bool (decide ((a.Volumes.length:Int) > 70))))] ?_
 refine B9 5 [(1,(.q ids 0 g)),(19,(.bool ((decide ((a.Volumes.length:Int) > 70))||(decide ((a.Sectors.length:Int) > 70)))))] ?_ fun hJ=>Bz (decide ((a.Volumes.length:Int) > 70)) (fun hb1=>?_) (fun hb1=>?_)
 ·refine Aa (.bool ((decide ((a.Volumes.length:Int) > 70))||(decide ((a.Sectors.length:Int) > 70)))) J Ae<|B9 5 [(1,(.q ids 0 g)),(25,(.bool (((decide ((a.Volumes.length:Int) > 70))||(decide ((a.Sectors.length:Int) > 70)))||(decide ((a.Configs.length:Int) > 40)))))] ?_ fun hJ1=>Bz ((decide ((a.Volumes.length:Int) > 70))||(decide ((a.Sectors.length:Int) > 70))) (fun hb3=>?_) (fun hb3=>?_)
  ·refine Aa (.bool (((decide ((a.Volumes.length:Int) > 70))||(decide ((a.Sectors.length:Int) > 70)))||(decide ((a.Configs.length:Int) > 40)))) J Ae<|B9 5 [(1,(.q ids 0 g)),(31,(.bool ((((decide ((a.Volumes.length:Int) > 70))||(decide ((a.Sectors.length:Int) > 70)))||(decide ((a.Configs.length:Int) > 40)))||(decide ((a.Segments.length:Int) > 130)))))] ?_ fun hJ2=>Bz (((decide ((a.Volumes.length:Int) > 70))||(decide ((a.Sectors.length:Int) > 70)))||(decide ((a.Configs.length:Int) > 40))) (fun hb5=>?_) (fun hb5=>?_)
   ·refine Aa (.bool ((((decide ((a.Volumes.length:Int) > 70))||(decide ((a.Sectors.length:Int) > 70)))||(decide ((a.Configs.length:Int) > 40)))||(decide ((a.Segments.length:Int) > 130)))) J Ae<|B9 5 [(1,(.q ids 0 g)),(37,(.bool (((((decide ((a.Volumes.length:Int) > 70))||(decide ((a.Sectors.length:Int) > 70)))||(decide ((a.Configs.length:Int) > 40)))||(decide ((a.Segments.length:Int) > 130)))||(decide ((a.Routes.length:Int) > 70)))))] ?_ fun hJ3=>Bz ((((decide ((a.Volumes.length:Int) > 70))||(decide ((a.Sectors.length:Int) > 70)))||(decide ((a.Configs.length:Int) > 40)))||(decide ((a.Segments.length:Int) > 130))) (fun hb7=>?_) (fun hb7=>?_)
    ·refine Aa (.bool (((((decide ((a.Volumes.length:Int) > 70))||(decide ((a.Sectors.length:Int) > 70)))||(decide ((a.Configs.length:Int) > 40)))||(decide ((a.Segments.length:Int) > 130)))||(decide ((a.Routes.length:Int) > 70)))) J Ae<|B9 5 [(1,(.q ids 0 g)),(43,(.bool ((((((decide ((a.Volumes.length:Int) > 70))||(decide ((a.Sectors.length:Int) > 70)))||(decide ((a.Configs.length:Int) > 40)))||(decide ((a.Segments.length:Int) > 130)))||(decide ((a.Routes.length:Int) > 70)))||(decide ((a.Airports.length:Int) > 20)))))] ?_ fun hJ4=>Bz (((((decide ((a.Volumes.length:Int) > 70))||(decide ((a.Sectors.length:Int) > 70)))||(decide ((a.Configs.length:Int) > 40)))||(decide ((a.Segments.length:Int) > 130)))||(decide ((a.Routes.length:Int) > 70))) (fun hb9=>?_) (fun hb9=>?_)
     ·refine Aa (.bool ((((((decide ((a.Volumes.length:Int) > 70))||(decide ((a.Sectors.length:Int) > 70)))||(decide ((a.Configs.length:Int) > 40)))||(decide ((a.Segments.length:Int) > 130)))||(decide ((a.Routes.length:Int) > 70)))||(decide ((a.Airports.length:Int) > 20)))) J Ae<|B9 5 [(1,(.q ids 0 g)),(49,(.bool (((((((decide ((a.Volumes.length:Int) > 70))||(decide ((a.Sectors.length:Int) > 70)))||(decide ((a.Configs.length:Int) > 40)))||(decide ((a.Segments.length:Int) > 130)))||(decide ((a.Routes.length:Int) > 70)))||(decide ((a.Airports.length:Int) > 20)))||(decide ((a.Classes.length:Int) > 12)))))] ?_ fun hJ5=>Bz ((((((decide ((a.Volumes.length:Int) > 70))||(decide ((a.Sectors.length:Int) > 70)))||(decide ((a.Configs.length:Int) > 40)))||(decide ((a.Segments.length:Int) > 130)))||(decide ((a.Routes.length:Int) > 70)))||(decide ((a.Airports.length:Int) > 20))) (fun hb11=>?_) (fun hb11=>?_)
      ·refine Aa (.bool (((((((decide ((a.Volumes.length:Int) > 70))||(decide ((a.Sectors.length:Int) > 70)))||(decide ((a.Configs.length:Int) > 40)))||(decide ((a.Segments.length:Int) > 130)))||(decide ((a.Routes.length:Int) > 70)))||(decide ((a.Airports.length:Int) > 20)))||(decide ((a.Classes.length:Int) > 12)))) J Ae<|B9 5 [(1,(.q ids 0 g)),(55,(.bool ((((((((decide ((a.Volumes.length:Int) > 70))||(decide ((a.Sectors.length:Int) > 70)))||(decide ((a.Configs.length:Int) > 40)))||(decide ((a.Segments.length:Int) > 130)))||(decide ((a.Routes.length:Int) > 70)))||(decide ((a.Airports.length:Int) > 20)))||(decide ((a.Classes.length:Int) > 12)))||(decide ((a.Rules.length:Int) > 70)))))] ?_ fun hJ6=>Bz (((((((decide ((a.Volumes.length:Int) > 70))||(decide ((a.Sectors.length:Int) > 70)))||(decide ((a.Configs.length:Int) > 40)))||(decide ((a.Segments.length:Int) > 130)))||(decide ((a.Routes.length:Int) > 70)))||(decide ((a.Airports.length:Int) > 20)))||(decide ((a.Classes.length:Int) > 12))) (fun hb13=>?_) (fun hb13=>?_)
       ·refine Z<|Co J (fun hc=>?_) (fun hc=>?_)
        ·refine Y<|O<|Aa (.bool false) J Aj<|Z<|B8 (a:=false) (vs:=[(.bool false)]) Tryz.func6 hI J (.same _)
        refine A0<|Y<|O<|Aa (.I 0) J Aj<|Z<|Y<|Y ?_
        refine O<|Aa (.I 0) J Aj<|Z<|A3<|Db [(1,(.q ids 0 g)),(3,(.I 0)),(4,(.I 0))] (FI J)<|Di (P:=Tryz.prog) a.Volumes (fun _ a1=>fun x=>Tk a1 x) (((fun x=>(each (fun _ a2=>fun x2=>Pm a2 x2) 0 a.Sectors x).bind (Dv (fun x2=>(each (fun _ a3=>fun x4=>Ny a3 x4) 0 a.Configs x2).bind (Dv (fun x4=>(B0 (fun _ a4=>fun x6=>Ns a4 x6) 0 a.Segments x4).bind ((fun x6=>(each (fun _ a5=>fun x8=>Ku a5 x8) 0 a.Routes x6).bind (Dv (fun x8=>(B0 (fun _ a6=>fun x10=>Kv a6 x10) 0 a.Airports x8).bind ((fun x10=>.ok (decide (x10≤600))))) (fun r=>.ok r))))) (fun r=>.ok r))) (fun r=>.ok r)))):Int→R Bool) (fun j=>fun x=>fun(fr:Nat→AV) (h:Af)=>fr=A2 [(1,(.q ids 0 g)),(3,(.I x)),(4,(.I (j:Int)))]∧h=hp h0 ids [(some (.rows g 8 [(Ax a)]))]) 0 ?_ ?_ ?_
        ·exact⟨J,J⟩
        ·rintro j a1 ha1 W hW x fr h ⟨rfl,rfl⟩
         refine Al (m':=Tk a1 x) J (Al (Tk.eq_1 _ _) ?_)
         refine Y<|Y<|O<|Ac 3 [0] [(58,(.sl 2 (List.map Ar a.Volumes))),(56,(.I (j:Int)))] ?_
         refine Aa (.I (a.Volumes.length:Int)) J (Ay (A8 H7))<|Aa (.bool (decide ((j:Int)<(a.Volumes.length:Int)))) J (Ba J J J)<|Z<|Dn (t:=58) (L:=a.Volumes) J fun hlim1=>Ch J (Int.ofNat_lt.2 (Av ha1))<|A0<|Y ?_
         refine A3<|O<|Ac 4 [0] [(66,(.I (j:Int))),(65,(.sl 2 (List.map Ar a.Volumes))),(63,(.I x))] ?_
         refine Aa (.cp (Ar a1) 0) J (Bt (Ct H7 Lb J ha1))<|Ac 2 [] [(69,(.sl 2 (List.map C0 a1.Closed)))] ?_
         refine Aa (.I (a1.Closed.length:Int)) J (Ay (A8 Pu))<|Ac 2 [] [(3,(.I (IntKind.wrap .i64 (x+(a1.Closed.length:Int)))))] ?_
         refine Z<|Bf<|O<|Ac 3 [] [(4,(.I (IntKind.wrap .i64 ((j:Int)+1))))] ?_
         refine Z<|Bp (I7 (hW (IntKind.wrap .i64 (x+(a1.Closed.length:Int))) _ _ ⟨J,J⟩)) (.cons J (.cons J (.cons (C3 (Av ha1) hlim1) .nil)))
        rintro x fr h ⟨rfl,rfl⟩
        refine Y<|Y<|O<|Ac 3 [0] [(58,(.sl 2 (List.map Ar a.Volumes))),(56,(.I (a.Volumes.length:Int)))] ?_
        refine Aa (.I (a.Volumes.length:Int)) J (Ay (A8 H7))<|Aa (.bool (decide ((a.Volumes.length:Int)<(a.Volumes.length:Int)))) J (Ba J J J)<|Z<|Cg J (Int.lt_irrefl _)<|Cl J<|Y<|Y ?_
        refine O<|Aa (.I 0) J Aj<|Z<|A3<|Db [(1,(.q ids 0 g)),(3,(.I x)),(5,(.I 0))] (FI J)<|Ga (P:=Tryz.prog) a.Sectors (fun _ a2=>fun x2=>Pm a2 x2) ((Dv (fun x2=>(each (fun _ a3=>fun x4=>Ny a3 x4) 0 a.Configs x2).bind (Dv (fun x4=>(B0 (fun _ a4=>fun x6=>Ns a4 x6) 0 a.Segments x4).bind ((fun x6=>(each (fun _ a5=>fun x8=>Ku a5 x8) 0 a.Routes x6).bind (Dv (fun x8=>(B0 (fun _ a6=>fun x10=>Kv a6 x10) 0 a.Airports x8).bind ((fun x10=>.ok (decide (x10≤600))))) (fun r=>.ok r))))) (fun r=>.ok r))) (fun r=>.ok r)):(Int ⊕ Bool)→R Bool) (fun j1=>fun x2=>fun(fr:Nat→AV) (h:Af)=>fr=A2 [(1,(.q ids 0 g)),(3,(.I x2)),(5,(.I (j1:Int)))]∧h=hp h0 ids [(some (.rows g 8 [(Ax a)]))]) x ?_ ?_ ?_
        ·exact⟨J,J⟩
        ·rintro j1 a2 ha2 W hW1 x2 fr h ⟨rfl,rfl⟩
         refine Al (m':=Pm a2 x2) J (Al (Pm.eq_1 _ _) ?_)
         refine Y<|Y<|O<|Ac 3 [0] [(74,(.sl 5 (List.map A9 a.Sectors))),(72,(.I (j1:Int)))] ?_
         refine Aa (.I (a.Sectors.length:Int)) J (Ay (A8 Fp))<|Aa (.bool (decide ((j1:Int)<(a.Sectors.length:Int)))) J (Ba J J J)<|Z<|Dn (t:=74) (L:=a.Sectors) J fun hlim3=>Ch J (Int.ofNat_lt.2 (Av ha2))<|A0<|Y ?_
         refine A3<|Y<|O<|Ac 4 [0] [(82,(.I (j1:Int))),(81,(.sl 5 (List.map A9 a.Sectors))),(79,(.I x2))] ?_
         refine Aa (.cp (A9 a2) 0) J (Bt (Ct Fp Gg J ha2))<|Ac 2 [] [(85,(.sl 1 (List.map (rI .i64) a2.Volumes)))] ?_
         refine Aa (.I (a2.Volumes.length:Int)) J (Ay (A8 O4))<|Ac 2 [] [(3,(.I (IntKind.wrap .i64 (x2+(a2.Volumes.length:Int)))))] ?_
         refine Z<|Y<|O<|Ac 3 [0] [(90,(.I (j1:Int))),(89,(.sl 5 (List.map A9 a.Sectors)))] ?_
         refine Aa (.cp (A9 a2) 0) J (Bt (Ct Fp Gg J ha2))<|Ac 2 [] [(93,(.sl 1 (List.map rS a2.Names)))] ?_
         refine Bv [(.sl 1 (List.map rS a2.Names))] J J J J ((T4 a2.Names) _) (fun v _=>Cy Tryz.func6 hI) fun r _=>Aa (.bool (!r)) J (Xk J)<|Z<|Fj J (fun hc1=>?_) (fun hc1=>?_)
         ·refine A0<|Bf<|O<|Ac 3 [] [(5,(.I (IntKind.wrap .i64 ((j1:Int)+1))))] ?_
          refine Z<|Bp (G4 (hW1 (IntKind.wrap .i64 (x2+(a2.Volumes.length:Int))) _ _ ⟨J,J⟩)) (.cons J (.cons J (.cons (C3 (Av ha2) hlim3) .nil)))
         refine Y<|O<|Aa (.bool false) J Aj<|Z<|G2<|Jg<|B8 (a:=false) (vs:=[(.bool false)]) Tryz.func6 hI J (.same _)
        rintro x2 fr h ⟨rfl,rfl⟩
        refine Al (Hz _ _ _)<|Y<|Y<|O<|Ac 3 [0] [(74,(.sl 5 (List.map A9 a.Sectors))),(72,(.I (a.Sectors.length:Int)))] ?_
        refine Aa (.I (a.Sectors.length:Int)) J (Ay (A8 Fp))<|Aa (.bool (decide ((a.Sectors.length:Int)<(a.Sectors.length:Int)))) J (Ba J J J)<|Z<|Cg J (Int.lt_irrefl _)<|Cl J<|Y<|Y ?_
        refine O<|Aa (.I 0) J Aj<|Z<|A3<|Db [(1,(.q ids 0 g)),(3,(.I x2)),(6,(.I 0))] (FI J)<|Ga (P:=Tryz.prog) a.Configs (fun _ a3=>fun x4=>Ny a3 x4) ((Dv (fun x4=>(B0 (fun _ a4=>fun x6=>Ns a4 x6) 0 a.Segments x4).bind ((fun x6=>(each (fun _ a5=>fun x8=>Ku a5 x8) 0 a.Routes x6).bind (Dv (fun x8=>(B0 (fun _ a6=>fun x10=>Kv a6 x10) 0 a.Airports x8).bind ((fun x10=>.ok (decide (x10≤600))))) (fun r=>.ok r))))) (fun r=>.ok r)):(Int ⊕ Bool)→R Bool) (fun j2=>fun x4=>fun(fr:Nat→AV) (h:Af)=>fr=A2 [(1,(.q ids 0 g)),(3,(.I x4)),(6,(.I (j2:Int)))]∧h=hp h0 ids [(some (.rows g 8 [(Ax a)]))]) x2 ?_ ?_ ?_
        ·exact⟨J,J⟩
        ·rintro j2 a3 ha3 W hW2 x4 fr h ⟨rfl,rfl⟩
         refine Al (m':=Ny a3 x4) J (Al (Ny.eq_1 _ _) ?_)
         refine Y<|Y<|O<|Ac 3 [0] [(98,(.sl 3 (List.map Bh a.Configs))),(96,(.I (j2:Int)))] ?_
         refine Aa (.I (a.Configs.length:Int)) J (Ay (A8 F7))<|Aa (.bool (decide ((j2:Int)<(a.Configs.length:Int)))) J (Ba J J J)<|Z<|Dn (t:=98) (L:=a.Configs) J fun hlim5=>Ch J (Int.ofNat_lt.2 (Av ha3))<|A0<|Y ?_
         refine A3<|Y<|O<|Ac 4 [0] [(106,(.I (j2:Int))),(105,(.sl 3 (List.map Bh a.Configs))),(103,(.I x4))] ?_
         refine Aa (.cp (Bh a3) 0) J (Bt (Ct F7 Iq J ha3))<|Ac 2 [] [(109,(.sl 1 (List.map (rI .i64) a3.Sectors)))] ?_
         refine Aa (.I (a3.Sectors.length:Int)) J (Ay (A8 O4))<|Ac 2 [] [(3,(.I (IntKind.wrap .i64 (x4+(a3.Sectors.length:Int)))))] ?_
         refine Z<|Y<|O<|Ac 3 [0] [(114,(.I (j2:Int))),(113,(.sl 3 (List.map Bh a.Configs)))] ?_
         refine Aa (.cp (Bh a3) 0) J (Bt (Ct F7 Iq J ha3))<|Ac 2 [] [(117,(.sl 1 (List.map rS a3.Names)))] ?_
         refine Bv [(.sl 1 (List.map rS a3.Names))] J J J J ((T4 a3.Names) _) (fun v _=>Cy Tryz.func6 hI) fun r1 _=>Aa (.bool (!r1)) J (Xk J)<|Z<|Fj J (fun hc2=>?_) (fun hc2=>?_)
         ·refine A0<|Bf<|O<|Ac 3 [] [(6,(.I (IntKind.wrap .i64 ((j2:Int)+1))))] ?_
          refine Z<|Bp (G4 (hW2 (IntKind.wrap .i64 (x4+(a3.Sectors.length:Int))) _ _ ⟨J,J⟩)) (.cons J (.cons J (.cons (C3 (Av ha3) hlim5) .nil)))
         refine Y<|O<|Aa (.bool false) J Aj<|Z<|G2<|Jg<|B8 (a:=false) (vs:=[(.bool false)]) Tryz.func6 hI J (.same _)
        rintro x4 fr h ⟨rfl,rfl⟩
        refine Al (Hz _ _ _)<|Y<|Y<|O<|Ac 3 [0] [(98,(.sl 3 (List.map Bh a.Configs))),(96,(.I (a.Configs.length:Int)))] ?_
        refine Aa (.I (a.Configs.length:Int)) J (Ay (A8 F7))<|Aa (.bool (decide ((a.Configs.length:Int)<(a.Configs.length:Int)))) J (Ba J J J)<|Z<|Cg J (Int.lt_irrefl _)<|Cl J<|Y<|Y ?_
        refine O<|Aa (.I 0) J Aj<|Z<|A3<|Db [(1,(.q ids 0 g)),(3,(.I x4)),(7,(.I 0))] (FI J)<|Di (P:=Tryz.prog) a.Segments (fun _ a4=>fun x6=>Ns a4 x6) (((fun x6=>(each (fun _ a5=>fun x8=>Ku a5 x8) 0 a.Routes x6).bind (Dv (fun x8=>(B0 (fun _ a6=>fun x10=>Kv a6 x10) 0 a.Airports x8).bind ((fun x10=>.ok (decide (x10≤600))))) (fun r=>.ok r)))):Int→R Bool) (fun j3=>fun x6=>fun(fr:Nat→AV) (h:Af)=>fr=A2 [(1,(.q ids 0 g)),(3,(.I x6)),(7,(.I (j3:Int)))]∧h=hp h0 ids [(some (.rows g 8 [(Ax a)]))]) x4 ?_ ?_ ?_
        ·exact⟨J,J⟩
        ·rintro j3 a4 ha4 W hW3 x6 fr h ⟨rfl,rfl⟩
         refine Al (m':=Ns a4 x6) J (Al (Ns.eq_1 _ _) ?_)
         refine Y<|Y<|O<|Ac 3 [0] [(122,(.sl 5 (List.map Bc a.Segments))),(120,(.I (j3:Int)))] ?_
         refine Aa (.I (a.Segments.length:Int)) J (Ay (A8 Gl))<|Aa (.bool (decide ((j3:Int)<(a.Segments.length:Int)))) J (Ba J J J)<|Z<|Dn (t:=122) (L:=a.Segments) J fun hlim7=>Ch J (Int.ofNat_lt.2 (Av ha4))<|A0<|Y ?_
         refine A3<|O<|Ac 4 [0] [(130,(.I (j3:Int))),(129,(.sl 5 (List.map Bc a.Segments))),(127,(.I x6))] ?_
         refine Aa (.cp (Bc a4) 0) J (Bt (Ct Gl Hd J ha4))<|Ac 2 [] [(133,(.sl 2 (List.map C0 a4.Open)))] ?_
         refine Aa (.I (a4.Open.length:Int)) J (Ay (A8 Pu))<|Ac 2 [] [(3,(.I (IntKind.wrap .i64 (x6+(a4.Open.length:Int)))))] ?_
         refine Z<|Bf<|O<|Ac 3 [] [(7,(.I (IntKind.wrap .i64 ((j3:Int)+1))))] ?_
         refine Z<|Bp (I7 (hW3 (IntKind.wrap .i64 (x6+(a4.Open.length:Int))) _ _ ⟨J,J⟩)) (.cons J (.cons J (.cons (C3 (Av ha4) hlim7) .nil)))
        rintro x6 fr h ⟨rfl,rfl⟩
        refine Y<|Y<|O<|Ac 3 [0] [(122,(.sl 5 (List.map Bc a.Segments))),(120,(.I (a.Segments.length:Int)))] ?_
        refine Aa (.I (a.Segments.length:Int)) J (Ay (A8 Gl))<|Aa (.bool (decide ((a.Segments.length:Int)<(a.Segments.length:Int)))) J (Ba J J J)<|Z<|Cg J (Int.lt_irrefl _)<|Cl J<|Y<|Y ?_
        refine O<|Aa (.I 0) J Aj<|Z<|A3<|Db [(1,(.q ids 0 g)),(3,(.I x6)),(8,(.I 0))] (FI J)<|Ga (P:=Tryz.prog) a.Routes (fun _ a5=>fun x8=>Ku a5 x8) ((Dv (fun x8=>(B0 (fun _ a6=>fun x10=>Kv a6 x10) 0 a.Airports x8).bind ((fun x10=>.ok (decide (x10≤600))))) (fun r=>.ok r)):(Int ⊕ Bool)→R Bool) (fun j4=>fun x8=>fun(fr:Nat→AV) (h:Af)=>fr=A2 [(1,(.q ids 0 g)),(3,(.I x8)),(8,(.I (j4:Int)))]∧h=hp h0 ids [(some (.rows g 8 [(Ax a)]))]) x6 ?_ ?_ ?_
        ·exact⟨J,J⟩
        ·rintro j4 a5 ha5 W hW4 x8 fr h ⟨rfl,rfl⟩
         refine Al (m':=Ku a5 x8) J (Al (Ku.eq_1 _ _) ?_)
         refine Y<|Y<|O<|Ac 3 [0] [(138,(.sl 7 (List.map Bs a.Routes))),(136,(.I (j4:Int)))] ?_
         refine Aa (.I (a.Routes.length:Int)) J (Ay (A8 H4))<|Aa (.bool (decide ((j4:Int)<(a.Routes.length:Int)))) J (Ba J J J)<|Z<|Dn (t:=138) (L:=a.Routes) J fun hlim9=>Ch J (Int.ofNat_lt.2 (Av ha5))<|A0<|Y ?_
         refine A3<|Y<|O<|Ac 4 [0] [(146,(.I (j4:Int))),(145,(.sl 7 (List.map Bs a.Routes))),(143,(.I x8))] ?_
         refine Aa (.cp (Bs a5) 0) J (Bt (Ct H4 Gk J ha5))<|Ac 2 [] [(149,(.sl 1 (List.map (rI .i64) a5.Segments)))] ?_
         refine Aa (.I (a5.Segments.length:Int)) J (Ay (A8 O4))<|Ac 2 [] [(3,(.I (IntKind.wrap .i64 (x8+(a5.Segments.length:Int)))))] ?_
         refine Z<|Y<|O<|Ac 3 [0] [(154,(.I (j4:Int))),(153,(.sl 7 (List.map Bs a.Routes)))] ?_
         refine Aa (.cp (Bs a5) 0) J (Bt (Ct H4 Gk J ha5))<|Ac 2 [] [(157,(.sl 1 (List.map rS a5.Names)))] ?_
         refine Bv [(.sl 1 (List.map rS a5.Names))] J J J J ((T4 a5.Names) _) (fun v _=>Cy Tryz.func6 hI) fun r2 _=>Aa (.bool (!r2)) J (Xk J)<|Z<|Fj J (fun hc3=>?_) (fun hc3=>?_)
         ·refine A0<|Bf<|O<|Ac 3 [] [(8,(.I (IntKind.wrap .i64 ((j4:Int)+1))))] ?_
          refine Z<|Bp (G4 (hW4 (IntKind.wrap .i64 (x8+(a5.Segments.length:Int))) _ _ ⟨J,J⟩)) (.cons J (.cons J (.cons (C3 (Av ha5) hlim9) .nil)))
         refine Y<|O<|Aa (.bool false) J Aj<|Z<|G2<|Jg<|B8 (a:=false) (vs:=[(.bool false)]) Tryz.func6 hI J (.same _)
        rintro x8 fr h ⟨rfl,rfl⟩
        refine Al (Hz _ _ _)<|Y<|Y<|O<|Ac 3 [0] [(138,(.sl 7 (List.map Bs a.Routes))),(136,(.I (a.Routes.length:Int)))] ?_
        refine Aa (.I (a.Routes.length:Int)) J (Ay (A8 H4))<|Aa (.bool (decide ((a.Routes.length:Int)<(a.Routes.length:Int)))) J (Ba J J J)<|Z<|Cg J (Int.lt_irrefl _)<|Cl J<|Y<|Y ?_
        refine O<|Aa (.I 0) J Aj<|Z<|A3<|Db [(1,(.q ids 0 g)),(3,(.I x8)),(9,(.I 0))] (FI J)<|Di (P:=Tryz.prog) a.Airports (fun _ a6=>fun x10=>Kv a6 x10) (((fun x10=>.ok (decide (x10≤600)))):Int→R Bool) (fun j5=>fun x10=>fun(fr:Nat→AV) (h:Af)=>fr=A2 [(1,(.q ids 0 g)),(3,(.I x10)),(9,(.I (j5:Int)))]∧h=hp h0 ids [(some (.rows g 8 [(Ax a)]))]) x8 ?_ ?_ ?_
        ·exact⟨J,J⟩
        ·rintro j5 a6 ha6 W hW5 x10 fr h ⟨rfl,rfl⟩
         refine Al (m':=Kv a6 x10) J (Al (Kv.eq_1 _ _) ?_)
         refine Y<|Y<|O<|Ac 3 [0] [(162,(.sl 2 (List.map A5 a.Airports))),(160,(.I (j5:Int)))] ?_
         refine Aa (.I (a.Airports.length:Int)) J (Ay (A8 Lg))<|Aa (.bool (decide ((j5:Int)<(a.Airports.length:Int)))) J (Ba J J J)<|Z<|Dn (t:=162) (L:=a.Airports) J fun hlim11=>Ch J (Int.ofNat_lt.2 (Av ha6))<|A0<|Y ?_
         refine A3<|O<|Ac 4 [0] [(170,(.I (j5:Int))),(169,(.sl 2 (List.map A5 a.Airports))),(167,(.I x10))] ?_
         refine Aa (.cp (A5 a6) 0) J (Bt (Ct Lg I8 J ha6))<|Ac 2 [] [(173,(.sl 2 (List.map Dw a6.Modes)))] ?_
         refine Aa (.I (a6.Modes.length:Int)) J (Ay (A8 Px))<|Ac 2 [] [(3,(.I (IntKind.wrap .i64 (x10+(a6.Modes.length:Int)))))] ?_
         refine Z<|Bf<|O<|Ac 3 [] [(9,(.I (IntKind.wrap .i64 ((j5:Int)+1))))] ?_
         refine Z<|Bp (I7 (hW5 (IntKind.wrap .i64 (x10+(a6.Modes.length:Int))) _ _ ⟨J,J⟩)) (.cons J (.cons J (.cons (C3 (Av ha6) hlim11) .nil)))
        rintro x10 fr h ⟨rfl,rfl⟩
        refine Y<|Y<|O<|Ac 3 [0] [(162,(.sl 2 (List.map A5 a.Airports))),(160,(.I (a.Airports.length:Int)))] ?_
        refine Aa (.I (a.Airports.length:Int)) J (Ay (A8 Lg))<|Aa (.bool (decide ((a.Airports.length:Int)<(a.Airports.length:Int)))) J (Ba J J J)<|Z<|Cg J (Int.lt_irrefl _)<|Cl J<|Y<|O ?_
        refine Ac 3 [] [(2,(.bool (decide (x10≤600))))] ?_
        refine Z<|B8 (a:=(decide (x10≤600))) (vs:=[(.bool (decide (x10≤600)))]) Tryz.func6 hI J (.same _)
       ·refine Bj (t:=50) hb13 J<|Ac 5 [] [(55,(.bool true))] ?_
        exact Br hJ6 (.cons J (.cons (Fe hb13) .nil))
       refine Bj (t:=50) hb13 J<|Ac 2 [0] [(52,(.sl 8 (List.map Bd a.Rules)))] ?_
       refine Bx (tj:=50) (.I (a.Rules.length:Int)) J J J (Ay (A8 Ec))<|Ac 2 [] [(55,(.bool (decide ((a.Rules.length:Int) > 70))))] ?_
       exact Br hJ6 (.cons J (.cons (Fg hb13) .nil))
      ·refine Bj (t:=44) hb11 J<|Ac 5 [] [(49,(.bool true))] ?_
       exact Br hJ5 (.cons J (.cons (Fe hb11) .nil))
      refine Bj (t:=44) hb11 J<|Ac 2 [0] [(46,(.sl 4 (List.map Bn a.Classes)))] ?_
      refine Bx (tj:=44) (.I (a.Classes.length:Int)) J J J (Ay (A8 Mn))<|Ac 2 [] [(49,(.bool (decide ((a.Classes.length:Int) > 12))))] ?_
      exact Br hJ5 (.cons J (.cons (Fg hb11) .nil))
     ·refine Bj (t:=38) hb9 J<|Ac 5 [] [(43,(.bool true))] ?_
      exact Br hJ4 (.cons J (.cons (Fe hb9) .nil))
     refine Bj (t:=38) hb9 J<|Ac 2 [0] [(40,(.sl 2 (List.map A5 a.Airports)))] ?_
     refine Bx (tj:=38) (.I (a.Airports.length:Int)) J J J (Ay (A8 Lg))<|Ac 2 [] [(43,(.bool (decide ((a.Airports.length:Int) > 20))))] ?_
     exact Br hJ4 (.cons J (.cons (Fg hb9) .nil))
    ·refine Bj (t:=32) hb7 J<|Ac 5 [] [(37,(.bool true))] ?_
     exact Br hJ3 (.cons J (.cons (Fe hb7) .nil))
    refine Bj (t:=32) hb7 J<|Ac 2 [0] [(34,(.sl 7 (List.map Bs a.Routes)))] ?_
    refine Bx (tj:=32) (.I (a.Routes.length:Int)) J J J (Ay (A8 H4))<|Ac 2 [] [(37,(.bool (decide ((a.Routes.length:Int) > 70))))] ?_
    exact Br hJ3 (.cons J (.cons (Fg hb7) .nil))
   ·refine Bj (t:=26) hb5 J<|Ac 5 [] [(31,(.bool true))] ?_
    exact Br hJ2 (.cons J (.cons (Fe hb5) .nil))
   refine Bj (t:=26) hb5 J<|Ac 2 [0] [(28,(.sl 5 (List.map Bc a.Segments)))] ?_
   refine Bx (tj:=26) (.I (a.Segments.length:Int)) J J J (Ay (A8 Gl))<|Ac 2 [] [(31,(.bool (decide ((a.Segments.length:Int) > 130))))] ?_
   exact Br hJ2 (.cons J (.cons (Fg hb5) .nil))
  ·refine Bj (t:=20) hb3 J<|Ac 5 [] [(25,(.bool true))] ?_
   exact Br hJ1 (.cons J (.cons (Fe hb3) .nil))
  refine Bj (t:=20) hb3 J<|Ac 2 [0] [(22,(.sl 3 (List.map Bh a.Configs)))] ?_
  refine Bx (tj:=20) (.I (a.Configs.length:Int)) J J J (Ay (A8 F7))<|Ac 2 [] [(25,(.bool (decide ((a.Configs.length:Int) > 40))))] ?_
  exact Br hJ1 (.cons J (.cons (Fg hb3) .nil))
 ·refine Bj (t:=14) hb1 J<|Ac 5 [] [(19,(.bool true))] ?_
  exact Br hJ (.cons J (.cons (Fe hb1) .nil))
 refine Bj (t:=14) hb1 J<|Ac 2 [0] [(16,(.sl 5 (List.map A9 a.Sectors)))] ?_
 refine Bx (tj:=14) (.I (a.Sectors.length:Int)) J J J (Ay (A8 Fp))<|Ac 2 [] [(19,(.bool (decide ((a.Sectors.length:Int) > 70))))] ?_
 exact Br hJ (.cons J (.cons (Fg hb1) .nil))
theorem Nj (ok:Bool)(t:Token)(s0_bad:Bool)(l:List Token)(h0:Af)(o0:Nat)(o1:Nat)(g:Nat)(v1:AV)(g1:Nat)(vH:Az v1 o1 g1 l.length)(hI0:Ids h0 [o0,o1] 2):Fy ok t s0_bad l≠.bad→Bg Tryz.prog 73 [(.ptr o0 g 0 0),(.bool ok),(.agg (Ad t))] (hp h0 [o0,o1] [some (.rows g 2 [[v1,(.bool s0_bad)]]),Ai v1 g1 4 (List.map Ad l)]) (Cq (fun a_ v h' => ∃ (v3:AV),∃ (g4:Nat),Az v3 o1 g4 a_.length∧v=(.tup [])∧h'=hp h0 [o0,o1] [some (.rows g 2 [[v3,(.bool (s0_bad||(!ok)))]]),Ai v3 g4 4 (List.map Ad a_)]) h0 (Fy ok t s0_bad l)):=by
 refine Bb (n:=27) 1 Tryz.func73 J (by decide) J J hI0 J fun ids he hI=>?_
 clear hI0
 obtain rfl:ix ids 0=o0:=he 0 rfl
 obtain rfl:ix ids 1=o1:=he 1 rfl
 clear he
 refine Bk (Al (Fy.eq_1 _ _ _ _) ?_)
 refine Ak ?_
 refine Y<|O<|Ck (v:=(.agg (Ad t))) (j:=2) hI J J J J J J J fun g2=>Z<|Ak ?_
 refine Y<|O<|Ac 6 [0] [(11,(.bool s0_bad)),(6,(.q ids 0 g))] ?_
 refine B9 3 [(0,(.q ids 0 g)),(5,(.q ids 2 g2)),(6,(.q ids 0 g)),(14,(.bool (s0_bad||(!ok))))] ?_ fun hJ=>Bz s0_bad (fun hb1=>?_) (fun hb1=>?_)
 ·refine Ac 2 [] [(16,(.ptr (ix ids 0) g 0 1))] ?_
  refine Au (A4 (v:=(.bool (s0_bad||(!ok)))) hI J J J J R9 J J J J J)<|Z<|Ak ?_
  refine C6 Fl [[],[],[1],[1,2],[1,2,3],[],[5],[1,2,3,4,5,6],[0,0,1,2,3,4,5,6,7],[0,1,2,3,4,5,6,7,8],[0,1,2,3,4,5,6,7,8,9]] [(false,0),(false,1),(false,2),(false,3),(false,4),(false,5),(true,6),(true,7),(false,8),(false,9),(true,10)] (by kernel_rfl)<|Ag (.q ids 0 g) J J Ae<|Ag (.q ids 0 g) J J Ae<|Ag (.q ids 0 g) J J (Be J)<|Ag (.q ids 0 g) J J (Bw (Bq (c:=0) (off:=0) (i:=0) Acn J Cz J))<|Ag v1 J J (As (A7 hI J J J Cz J))<|Ag (.agg (Ad t)) J J (As (A7 hI J J J Cn J)) ?_
  refine Jw J J (fun _ _=>J) (fun K hK=>Nd (e:=Ad) (L:=[t]) (st:=4) (rows:=[[(.I t.Kind),(.str t.Text),(.I t.N),(.I t.At)]]) Cz Cn J J J J J (.cons (RowSim.refl _) .nil) (fun x=>Rl x) J J (hK _ _ (Ab J (A6 J (As (A7 hI J J J Cz J)) (A6 J (Bw (Bq (c:=0) (off:=0) (i:=0) Acn J Cz J)) (A6 J (Be J) (A6 J Ae (A6 J Ae Bm)))))) ?_))
  clear hK K
  refine Lr fun hl=>Jw J J (fun _ _=>J) (fun K hK=>Iw (e:=Ad) (L:=l) (L2:=[t]) (v:=v1) (g:=g1) (st:=4) (j:=1) hI J J J vH J (J3 J) Cz Cz J Cn J J J hl fun v2 g3 vH1=>hK _ _ (Ab J (Ab J (Ab J (Ab J (Ab J (A6 J Ae Bm)))))) ?_)
  clear hK K
  refine Ag (.q ids 0 g) J J (Be J)<|Ag (.q ids 0 g) J J (Bw (Bq (c:=0) (off:=0) (i:=0) Acn J Cz J))<|D4 J (fun _ _=>J) (fun K hK=>Cs (Jr vH1 hI J J J J Cz J J J) (hK _ _ (Ab J (Ab J (Ab J (Ab J (Ab J (Ab J (Ab J (Ab J Bm)))))))) ?_))
  clear hK K
  refine Cu<|Ak ?_
  exact Cc (K:=2) (N:=1) (a:=(l++[t])) (vs:=[]) [some (.rows g 2 [[v2,(.bool (s0_bad||(!ok)))]]),Ai v2 g3 4 (List.map Ad (l++[t]))] Tryz.func73 hI J J J (.keep (.keep (.drop .nil))) (.same _) ⟨v2,g3,vH1,J,J⟩
 ·refine Bj (t:=11) hb1 J<|Ac 3 [] [(14,(.bool true))] ?_
  exact Br hJ (.cons J (.cons J (.cons J (.cons (Fe hb1) .nil))))
 refine Bj (t:=11) hb1 J<|Ac 3 [] [(14,(.bool (!ok)))] ?_
 exact Br hJ (.cons J (.cons J (.cons J (.cons (Fg hb1) .nil))))
theorem Vp (s:An)(c:Int):CP Tryz.prog 104 [.str s,.int .u8 c] (strings_IndexByte s c) (fun x=>AV.int .i64 x):=
 Alp (.mk Tryz.func104 rfl (by decide)) (fun p h=>by cases h) fun a ha B mu h w cargs hs hl=>by
  obtain⟨c1,c2,rfl,h1,h2⟩:=An1 hl
  obtain rfl:=Ahd h1; obtain rfl:=Ap7 h2
  cases ha
  refine(Go.Proofs.Tryz.strings_IndexByte ⟨s.toArray⟩ c w).mono ?_
  rintro e w' ⟨rfl,rfl⟩
  exact⟨Go.RowKit.Below.refl _ _,_,J,.int _ _⟩
theorem S6 (c:Int):CP Tryz.prog 87 [(.int .u8 c)] (Mj c) (fun(x:Int)=>(AV.int .i64 x)):=by
 refine C8 (n:=47) 0 Tryz.func87 J (by decide) J J fun h0 ids hI=>Bk (Al (Mj.eq_1 _) ?_)
 refine Y<|O<|Aa (.I 0) J Aj<|Z<|Y<|A3<|Y ?_
 refine O<|Ac 3 [] [(6,(.bool (decide (c≥97))))] ?_
 refine B9 3 [(0,(.int .u8 c)),(9,(.bool ((decide (c≥97))&&(decide (c≤122)))))] ?_ fun hJ=>Bz (decide (c≥97)) (fun hb1=>?_) (fun hb1=>?_)
 ·refine Aa (.bool ((decide (c≥97))&&(decide (c≤122)))) J Ae<|B9 7 [(0,(.int .u8 c)),(17,(.bool (((decide (c≥97))&&(decide (c≤122)))||((decide (c≥65))&&(decide (c≤90))))))] ?_ fun hJ1=>Bz ((decide (c≥97))&&(decide (c≤122))) (fun hb3=>?_) (fun hb3=>?_)
  ·refine Aa (.bool (((decide (c≥97))&&(decide (c≤122)))||((decide (c≥65))&&(decide (c≤90))))) J Aj<|Z<|Co J (fun hc=>?_) (fun hc=>?_)
   ·refine Y<|O<|Aa (.I 2) J Aj<|Z<|B8 (a:=2) (vs:=[(.I 2)]) Tryz.func87 hI J (.same _)
   refine Y<|O<|Ac 3 [] [(21,(.bool (decide (c≥48))))] ?_
   refine B9 3 [(0,(.int .u8 c)),(24,(.bool ((decide (c≥48))&&(decide (c≤57)))))] ?_ fun hJ3=>Bz (decide (c≥48)) (fun hb7=>?_) (fun hb7=>?_)
   ·refine Aa (.bool ((decide (c≥48))&&(decide (c≤57)))) J Aj<|Z<|Co J (fun hc1=>?_) (fun hc1=>?_)
    ·refine Y<|O<|Aa (.I 3) J Aj<|Z<|B8 (a:=3) (vs:=[(.I 3)]) Tryz.func87 hI J (.same _)
    refine Y<|O<|Ac 3 [] [(25,(.bool (c==95)))] ?_
    refine Z<|Co J (fun hc2=>?_) (fun hc2=>?_)
    ·refine Y<|O<|Aa (.I 5) J Aj<|Z<|B8 (a:=5) (vs:=[(.I 5)]) Tryz.func87 hI J (.same _)
    refine Y<|O<|Ac 3 [] [(31,(.bool (c==32)))] ?_
    refine B9 3 [(0,(.int .u8 c)),(34,(.bool ((c==32)||(c==9))))] ?_ fun hJ4=>Bz (c==32) (fun hb9=>?_) (fun hb9=>?_)
    ·refine Aa (.bool ((c==32)||(c==9))) J Ae<|B9 3 [(0,(.int .u8 c)),(38,(.bool (((c==32)||(c==9))||(c==10))))] ?_ fun hJ5=>Bz ((c==32)||(c==9)) (fun hb11=>?_) (fun hb11=>?_)
     ·refine Aa (.bool (((c==32)||(c==9))||(c==10))) J Ae<|B9 3 [(0,(.int .u8 c)),(42,(.bool ((((c==32)||(c==9))||(c==10))||(c==13))))] ?_ fun hJ6=>Bz (((c==32)||(c==9))||(c==10)) (fun hb13=>?_) (fun hb13=>?_)
      ·refine Aa (.bool ((((c==32)||(c==9))||(c==10))||(c==13))) J Aj<|Z<|Co J (fun hc3=>?_) (fun hc3=>?_)
       ·refine Y<|O<|Aa (.I 1) J Aj<|Z<|B8 (a:=1) (vs:=[(.I 1)]) Tryz.func87 hI J (.same _)
       refine Y<|O<|Aa (.int .u8 c) J Ae<|Bv [(.str [123,125,40,41,59,44,61,35,47,60,33,45,46]),(.int .u8 c)] J J J J ((Vp [123,125,40,41,59,44,61,35,47,60,33,45,46] c) _) (fun v _=>Cy Tryz.func87 hI) fun r _=>Ac 2 [] [(43,(.bool (decide (r≥0))))] ?_
       refine Z<|On J (fun hc4=>?_) (fun hc4=>?_)
       ·refine Y<|O<|Aa (.I 4) J Aj<|Z<|B8 (a:=4) (vs:=[(.I 4)]) Tryz.func87 hI J (.same _)
       refine A0<|Bf<|Y<|O<|Aa (.I 0) J Aj<|Z<|B8 (a:=0) (vs:=[(.I 0)]) Tryz.func87 hI J (.same _)
      ·refine Bj (t:=39) hb13 J<|Ac 3 [] [(42,(.bool true))] ?_
       exact Br hJ6 (.cons J (.cons (Fe hb13) .nil))
      refine Bj (t:=39) hb13 J<|Ac 3 [] [(42,(.bool (c==13)))] ?_
      exact Br hJ6 (.cons J (.cons (Fg hb13) .nil))
     ·refine Bj (t:=35) hb11 J<|Ac 3 [] [(38,(.bool true))] ?_
      exact Br hJ5 (.cons J (.cons (Fe hb11) .nil))
     refine Bj (t:=35) hb11 J<|Ac 3 [] [(38,(.bool (c==10)))] ?_
     exact Br hJ5 (.cons J (.cons (Fg hb11) .nil))
    ·refine Bj (t:=31) hb9 J<|Ac 3 [] [(34,(.bool true))] ?_
     exact Br hJ4 (.cons J (.cons (Fe hb9) .nil))
    refine Bj (t:=31) hb9 J<|Ac 3 [] [(34,(.bool (c==9)))] ?_
    exact Br hJ4 (.cons J (.cons (Fg hb9) .nil))
   ·refine Bj (t:=21) hb7 J<|Ac 3 [] [(24,(.bool (decide (c≤57))))] ?_
    exact Br hJ3 (.cons J (.cons (O5 hb7) .nil))
   refine Bj (t:=21) hb7 J<|Ac 3 [] [(24,(.bool false))] ?_
   exact Br hJ3 (.cons J (.cons (O2 hb7) .nil))
  ·refine Bj (t:=10) hb3 J<|Ac 7 [] [(17,(.bool true))] ?_
   exact Br hJ1 (.cons J (.cons (Fe hb3) .nil))
  refine Bj (t:=10) hb3 J<|Ac 3 [] [(13,(.bool (decide (c≥65))))] ?_
  refine B9 3 [(0,(.int .u8 c)),(10,(.bool false)),(16,(.bool ((decide (c≥65))&&(decide (c≤90)))))] ?_ fun hJ2=>Bz (decide (c≥65)) (fun hb5=>?_) (fun hb5=>?_)
  ·refine Aa (.bool ((decide (c≥65))&&(decide (c≤90)))) J (Sl (t:=false) J J)<|Br hJ1 (.cons J (.cons (Fg hb3) .nil))
  ·refine Bj (t:=13) hb5 J<|Ac 3 [] [(16,(.bool (decide (c≤90))))] ?_
   exact Br hJ2 (.cons J (.cons J (.cons (O5 hb5) .nil)))
  refine Bj (t:=13) hb5 J<|Ac 3 [] [(16,(.bool false))] ?_
  exact Br hJ2 (.cons J (.cons J (.cons (O2 hb5) .nil)))
 ·refine Bj (t:=6) hb1 J<|Ac 3 [] [(9,(.bool (decide (c≤122))))] ?_
  exact Br hJ (.cons J (.cons (O5 hb1) .nil))
 refine Bj (t:=6) hb1 J<|Ac 3 [] [(9,(.bool false))] ?_
 exact Br hJ (.cons J (.cons (O2 hb1) .nil))
theorem Af5 (s:An):CP Tryz.prog 74 [(.str s)] (W5 s) (fun(x:Bool)=>(AV.bool x)):=by
 refine C8 (n:=38) 0 Tryz.func74 J (by decide) J J fun h0 ids hI=>Bk (Al (W5.eq_1 _) ?_)
 refine Y<|O<|Aa (.bool false) J Aj<|Z<|Y<|Y<|O ?_
 refine Ac 3 [] [(7,(.bool (s==[])))] ?_
 refine B9 4 [(0,(.str s)),(11,(.bool ((s==[])||(decide ((s.length:Int) > 32)))))] ?_ fun hJ=>Bz (s==[]) (fun hb1=>?_) (fun hb1=>?_)
 ·refine Aa (.bool ((s==[])||(decide ((s.length:Int) > 32)))) J Ae<|E0 5 ((fun(b:Bool)=>if b then(.ok false) else(if s.length≤D0 then((each (fun _ a1=>fun _=>Sf a1) 0 s ()).bind (Dv (fun _=>.ok true) (fun r=>.ok r))) else .bad)):Bool→R Bool) (fun(b:Bool) (fr:Nat→AV) (h:Af)=>fr=A2 [(0,(.str s)),(17,(.bool b))]∧h=hp h0 ids []) ?_ fun hJ1=>Gi (fun hb3=>?_) (fun hb3=>?_)
  ·rintro b fr h ⟨rfl,rfl⟩
   refine Z<|Co J (fun hc=>?_) (fun hc=>?_)
   ·refine Y<|O<|Aa (.bool false) J Aj<|Z<|B8 (a:=false) (vs:=[(.bool false)]) Tryz.func74 hI J (.same _)
   refine A0<|Y<|Y<|O<|Aa (.str s) J Ae<|Aa (.I (s.length:Int)) J (Ay (Ni Cf))<|Aa (.I 0) J Ae ?_
   refine Z<|A3<|Avc fun hlim=>Db [(0,(.str s)),(19,(.I (s.length:Int))),(20,(.I 0))] (FI J)<|Ga (P:=Tryz.prog) s (fun _ a1=>fun _=>Sf a1) ((Dv (fun _=>.ok true) (fun r=>.ok r)):(Unit ⊕ Bool)→R Bool) (fun j=>fun _=>fun(fr:Nat→AV) (h:Af)=>fr=A2 [(0,(.str s)),(19,(.I (s.length:Int))),(20,(.I (j:Int)))]∧h=hp h0 ids []) () ?_ ?_ ?_
   ·exact⟨J,J⟩
   ·rintro j a1 ha1 W hW _ fr h ⟨rfl,rfl⟩
    refine Al (m':=Sf a1) J (Al (Sf.eq_1 _) ?_)
    refine Y<|O<|Aa (.bool (decide ((j:Int)<(s.length:Int)))) J (Ba J J J)<|Z<|Y<|Ch J (Int.ofNat_lt.2 (Av ha1))<|A0 ?_
    refine Y<|A3<|Y<|O<|Ac 2 [] [(3,(.I (j:Int)))] ?_
    refine Z<|Y<|O<|Ac 2 [] [(24,(.I (j:Int))),(23,(.str s))] ?_
    refine Aa (.int .u8 (a1.toNat:Int)) J (Ah9 (Avh Cf ha1))<|Bv [(.int .u8 (a1.toNat:Int))] J J J J ((S6 (a1.toNat:Int)) _) (fun v _=>Cy Tryz.func74 hI) fun c _=>Aa (.I c) J Aj<|Z<|Y<|O<|Ac 3 [] [(29,(.bool (c != 2)))] ?_
    refine B9 3 [(0,(.str s)),(4,(.I c)),(19,(.I (s.length:Int))),(20,(.I (j:Int))),(32,(.bool ((c != 2)&&(c != 3))))] ?_ fun hJ2=>Bz (c != 2) (fun hb5=>?_) (fun hb5=>?_)
    ·refine Aa (.bool ((c != 2)&&(c != 3))) J Ae<|B9 3 [(0,(.str s)),(19,(.I (s.length:Int))),(20,(.I (j:Int))),(36,(.bool (((c != 2)&&(c != 3))&&(c != 5))))] ?_ fun hJ3=>Bz ((c != 2)&&(c != 3)) (fun hb7=>?_) (fun hb7=>?_)
     ·refine Z<|Co J (fun hc1=>?_) (fun hc1=>?_)
      ·refine Y<|O<|Aa (.bool false) J Aj<|Z<|G2<|Jg<|B8 (a:=false) (vs:=[(.bool false)]) Tryz.func74 hI J (.same _)
      refine A0<|Bf<|O<|Ac 2 [] [(20,(.I (IntKind.wrap .i64 ((j:Int)+1))))] ?_
      refine Z<|Bp (G4 (hW () _ _ ⟨J,J⟩)) (.cons J (.cons J (.cons (C3 (Av ha1) hlim) .nil)))
     ·refine Bj (t:=33) hb7 J<|Ac 3 [] [(36,(.bool (c != 5))),(35,(.bool (c != 5))),(34,(.I c))] ?_
      exact Br hJ3 (.cons J (.cons J (.cons J (.cons (O5 hb7) .nil))))
     refine Bj (t:=33) hb7 J<|Ac 3 [] [(36,(.bool false)),(35,.und),(34,.und)] ?_
     exact Br hJ3 (.cons J (.cons J (.cons J (.cons (O2 hb7) .nil))))
    ·refine Bj (t:=29) hb5 J<|Ac 3 [] [(32,(.bool (c != 3))),(31,(.bool (c != 3))),(30,(.I c))] ?_
     exact Br hJ2 (.cons J (.cons J (.cons J (.cons J (.cons (O5 hb5) .nil)))))
    refine Bj (t:=29) hb5 J<|Ac 3 [] [(32,(.bool false)),(31,.und),(30,.und)] ?_
    exact Br hJ2 (.cons J (.cons J (.cons J (.cons J (.cons (O2 hb5) .nil)))))
   rintro _ fr h ⟨rfl,rfl⟩
   refine Al (Hz _ _ _)<|Y<|O<|Aa (.bool (decide ((s.length:Int)<(s.length:Int)))) J (Ba J J J)<|Z<|Y<|Cg J (Int.lt_irrefl _) ?_
   refine Cl J<|Y<|O<|Aa (.bool true) J Aj<|Z<|B8 (a:=true) (vs:=[(.bool true)]) Tryz.func74 hI J (.same _)
  ·refine Bj (t:=12) hb3 J<|Ac 5 [] [(17,(.bool true))] ?_
   refine Cd<|Dt [(0,(.str s)),(17,(.bool true))] (FI J)<|hJ1 true _ _ ⟨J,J⟩
  refine Bj (t:=12) hb3 J<|Bx (tj:=12) (.str s) J J J Ae<|Ed fun a hz hx1=>Bx (tj:=12) (.int .u8 (a.toNat:Int)) J J J (Ah9 (Ae1 Cf hz hx1))<|Bv [(.int .u8 (a.toNat:Int))] J (Er (tj:=12) J J) J J ((S6 (a.toNat:Int)) _) (fun v _=>Cy Tryz.func74 hI) fun r _=>Ac 2 [] [(17,(.bool (r != 2)))] ?_
  refine Cd<|Dt [(0,(.str s)),(17,(.bool (r != 2)))] (FI J)<|hJ1 (r != 2) _ _ ⟨J,J⟩
 ·refine Bj (t:=7) hb1 J<|Ac 4 [] [(11,(.bool true))] ?_
  exact Br hJ (.cons J (.cons (Fe hb1) .nil))
 refine Bj (t:=7) hb1 J<|Bx (tj:=7) (.str s) J J J Ae<|Bx (tj:=7) (.I (s.length:Int)) J J J (Ay (Ni Cf))<|Ac 2 [] [(11,(.bool (decide ((s.length:Int) > 32))))] ?_
 exact Br hJ (.cons J (.cons (Fg hb1) .nil))
theorem C7 (s:An)(s0_bad:Bool)(l:List Token)(h0:Af)(o0:Nat)(o1:Nat)(g:Nat)(v1:AV)(g1:Nat)(vH:Az v1 o1 g1 l.length)(hI0:Ids h0 [o0,o1] 2):Cp s s0_bad l≠.bad→Bg Tryz.prog 18 [(.ptr o0 g 0 0),(.str s)] (hp h0 [o0,o1] [some (.rows g 2 [[v1,(.bool s0_bad)]]),Ai v1 g1 4 (List.map Ad l)]) (Cq (fun a_ v h' => ∃ (v3:AV),∃ (g3:Nat),Az v3 o1 g3 a_.2.length∧v=(.tup [])∧h'=hp h0 [o0,o1] [some (.rows g 2 [[v3,(.bool a_.1)]]),Ai v3 g3 4 (List.map Ad a_.2)]) h0 (Cp s s0_bad l)):=by
 refine Bb (n:=10) 0 Tryz.func18 J (by decide) J J hI0 J fun ids he hI=>?_
 clear hI0
 obtain rfl:ix ids 0=o0:=he 0 rfl
 obtain rfl:ix ids 1=o1:=he 1 rfl
 clear he
 refine Bk (Al (Cp.eq_1 _ _ _) ?_)
 refine O<|Ac 2 [] [(5,(.str s)),(4,(.q ids 0 g))] ?_
 refine Bv [(.str s)] J J J J ((Af5 s) _) (fun v _=>Ap (K:=2) (N:=0) Tryz.func18 hI) fun r _=>Ac 2 [] [(8,(.agg [(.I 1),(.str s),(.I 0),(.I 0)]))] ?_
 refine Ao [0,1] hI J J (Nj r ({ Kind:=1,Text:=s,N:=0,At:=0 }:Token) s0_bad l _ (ix ids 0) (ix ids 1) g v1 g1 vH (by exact hI.sub' J J)) J J J J J J (fun v _=>Ap (K:=2) (N:=0) Tryz.func18 hI) ?_
 rintro r1 _ _ _ ⟨v2,g2,vH1,rfl,rfl⟩
 refine Aw [0,1] hI J J J ?_
 refine Aq<|Z<|Ak ?_
 exact Cc (K:=2) (N:=0) (a:=((s0_bad||(!r)),r1)) (vs:=[]) [some (.rows g 2 [[v2,(.bool (s0_bad||(!r)))]]),Ai v2 g2 4 (List.map Ad r1)] Tryz.func18 hI J J J (.keep (.keep .nil)) (.same _) ⟨v2,g2,vH1,J,J⟩
theorem By (l:List An)(s0_bad:Bool)(l1:List Token)(h0:Af)(o0:Nat)(o1:Nat)(g:Nat)(v1:AV)(g1:Nat)(vH:Az v1 o1 g1 l1.length)(hI0:Ids h0 [o0,o1] 2):Bu l s0_bad l1≠.bad→Bg Tryz.prog 24 [(.ptr o0 g 0 0),(.sl 1 (List.map rS l))] (hp h0 [o0,o1] [some (.rows g 2 [[v1,(.bool s0_bad)]]),Ai v1 g1 4 (List.map Ad l1)]) (Cq (fun a_ v h' => ∃ (v4:AV),∃ (g4:Nat),Az v4 o1 g4 a_.2.length∧v=(.tup [])∧h'=hp h0 [o0,o1] [some (.rows g 2 [[v4,(.bool a_.1)]]),Ai v4 g4 4 (List.map Ad a_.2)]) h0 (Bu l s0_bad l1)):=by
 refine Bb (n:=17) 0 Tryz.func24 J (by decide) J J hI0 J fun ids he hI=>?_
 clear hI0
 obtain rfl:ix ids 0=o0:=he 0 rfl
 obtain rfl:ix ids 1=o1:=he 1 rfl
 clear he
 refine Bk (Al (Bu.eq_1 _ _ _) ?_)
 refine Y<|O<|Aa (.sl 1 (List.map rS l)) J Ae<|Aa (.I (l.length:Int)) J (Ay (A8 Dg))<|Aa (.I 0) J Ae<|Z<|A3 ?_
 refine Db [(0,(.q ids 0 g)),(6,(.sl 1 (List.map rS l))),(7,(.I (l.length:Int))),(8,(.I 0))] (FI J)<|Di (P:=Tryz.prog) l (fun _ a=>C2 fun fBad l2=>Et a fBad l2) (((C2 fun fBad l2=>.ok (fBad,l2))):(Bool×(List Token))→R (Bool×(List Token))) (fun j=>C2 fun fBad l2=>fun(fr:Nat→AV) (h:Af) => ∃ (v2:AV),∃ (g2:Nat),Az v2 (ix ids 1) g2 l2.length∧fr=A2 [(0,(.q ids 0 g)),(6,(.sl 1 (List.map rS l))),(7,(.I (l.length:Int))),(8,(.I (j:Int)))]∧h=hp h0 ids [(some (.rows g 2 [[v2,(.bool fBad)]])),(Ai v2 g2 4 (List.map Ad l2))]) (s0_bad,l1) ?_ ?_ ?_
 ·exact⟨v1,g1,vH,J,J⟩
 ·rintro j a ha W hW ⟨fBad,l2⟩ fr h ⟨v2,g2,vH1,rfl,rfl⟩
  refine Al (m':=Et a fBad l2) J (Al (Et.eq_1 _ _ _) ?_)
  refine Y<|O<|Aa (.bool (decide ((j:Int)<(l.length:Int)))) J (Ba J J J)<|Z<|Y<|Dn (t:=6) (L:=l) J fun hlim=>Ch J (Int.ofNat_lt.2 (Av ha)) ?_
  refine A0<|Y<|A3<|Y<|O<|Aa (.cp [(.str a)] 0) J (Bt (Ct Dg Cf J ha))<|Ac 2 [] [(5,(.str a))] ?_
  refine Z<|O<|Ac 3 [] [(14,(.agg [(.I 1),(.str a),(.I 0),(.I 0)])),(12,(.q ids 0 g))] ?_
  refine Ao [0,1] hI J J (Nj true ({ Kind:=1,Text:=a,N:=0,At:=0 }:Token) fBad l2 _ (ix ids 0) (ix ids 1) g v2 g2 vH1 (by exact hI.sub' J J)) J J J J J J (fun v _=>Ap (K:=2) (N:=0) Tryz.func24 hI) ?_
  rintro r _ _ _ ⟨v3,g3,vH2,rfl,rfl⟩
  refine Aw [0,1] hI J J J ?_
  refine Aq<|Z<|Ak ?_
  refine Bf<|O<|Ac 2 [] [(8,(.I (IntKind.wrap .i64 ((j:Int)+1))))] ?_
  refine Z<|Bp (I7 (hW ((fBad||(!true)),r) _ _ ⟨v3,g3,vH2,J,J⟩)) (.cons J (.cons J (.cons J (.cons (C3 (Av ha) hlim) .nil))))
 rintro⟨fBad,l2⟩ fr h ⟨v2,g2,vH1,rfl,rfl⟩
 refine Al (Q7 _ _ _)<|Y<|O<|Aa (.bool (decide ((l.length:Int)<(l.length:Int)))) J (Ba J J J)<|Z<|Y<|Cg J (Int.lt_irrefl _) ?_
 refine Cl J<|Cc (K:=2) (N:=0) (a:=(fBad,l2)) (vs:=[]) [some (.rows g 2 [[v2,(.bool fBad)]]),Ai v2 g2 4 (List.map Ad l2)] Tryz.func24 hI J J J (.keep (.keep .nil)) (.same _) ⟨v2,g2,vH1,J,J⟩
theorem Dc (l:List An)(s0_bad:Bool)(l1:List Token)(h0:Af)(o0:Nat)(o1:Nat)(g:Nat)(v1:AV)(g1:Nat)(vH:Az v1 o1 g1 l1.length)(hI0:Ids h0 [o0,o1] 2):Cb l s0_bad l1≠.bad→Bg Tryz.prog 22 [(.ptr o0 g 0 0),(.sl 1 (List.map rS l))] (hp h0 [o0,o1] [some (.rows g 2 [[v1,(.bool s0_bad)]]),Ai v1 g1 4 (List.map Ad l1)]) (Cq (fun a_ v h' => ∃ (v4:AV),∃ (g4:Nat),Az v4 o1 g4 a_.2.length∧v=(.tup [])∧h'=hp h0 [o0,o1] [some (.rows g 2 [[v4,(.bool a_.1)]]),Ai v4 g4 4 (List.map Ad a_.2)]) h0 (Cb l s0_bad l1)):=by
 refine Bb (n:=17) 0 Tryz.func22 J (by decide) J J hI0 J fun ids he hI=>?_
 clear hI0
 obtain rfl:ix ids 0=o0:=he 0 rfl
 obtain rfl:ix ids 1=o1:=he 1 rfl
 clear he
 refine Bk (Al (Cb.eq_1 _ _ _) ?_)
 refine Y<|O<|Aa (.sl 1 (List.map rS l)) J Ae<|Aa (.I (l.length:Int)) J (Ay (A8 Dg))<|Aa (.I 0) J Ae<|Z<|A3 ?_
 refine Db [(0,(.q ids 0 g)),(6,(.sl 1 (List.map rS l))),(7,(.I (l.length:Int))),(8,(.I 0))] (FI J)<|Di (P:=Tryz.prog) l (fun _ a=>C2 fun fBad l2=>Eu a fBad l2) (((C2 fun fBad l2=>.ok (fBad,l2))):(Bool×(List Token))→R (Bool×(List Token))) (fun j=>C2 fun fBad l2=>fun(fr:Nat→AV) (h:Af) => ∃ (v2:AV),∃ (g2:Nat),Az v2 (ix ids 1) g2 l2.length∧fr=A2 [(0,(.q ids 0 g)),(6,(.sl 1 (List.map rS l))),(7,(.I (l.length:Int))),(8,(.I (j:Int)))]∧h=hp h0 ids [(some (.rows g 2 [[v2,(.bool fBad)]])),(Ai v2 g2 4 (List.map Ad l2))]) (s0_bad,l1) ?_ ?_ ?_
 ·exact⟨v1,g1,vH,J,J⟩
 ·rintro j a ha W hW ⟨fBad,l2⟩ fr h ⟨v2,g2,vH1,rfl,rfl⟩
  refine Al (m':=Eu a fBad l2) J (Al (Eu.eq_1 _ _ _) ?_)
  refine Y<|O<|Aa (.bool (decide ((j:Int)<(l.length:Int)))) J (Ba J J J)<|Z<|Y<|Dn (t:=6) (L:=l) J fun hlim=>Ch J (Int.ofNat_lt.2 (Av ha)) ?_
  refine A0<|Y<|A3<|Y<|O<|Aa (.cp [(.str a)] 0) J (Bt (Ct Dg Cf J ha))<|Ac 2 [] [(5,(.str a))] ?_
  refine Z<|O<|Ac 3 [] [(14,(.agg [(.I 3),(.str a),(.I 0),(.I 0)])),(12,(.q ids 0 g))] ?_
  refine Ao [0,1] hI J J (Nj true ({ Kind:=3,Text:=a,N:=0,At:=0 }:Token) fBad l2 _ (ix ids 0) (ix ids 1) g v2 g2 vH1 (by exact hI.sub' J J)) J J J J J J (fun v _=>Ap (K:=2) (N:=0) Tryz.func22 hI) ?_
  rintro r _ _ _ ⟨v3,g3,vH2,rfl,rfl⟩
  refine Aw [0,1] hI J J J ?_
  refine Aq<|Z<|Ak ?_
  refine Bf<|O<|Ac 2 [] [(8,(.I (IntKind.wrap .i64 ((j:Int)+1))))] ?_
  refine Z<|Bp (I7 (hW ((fBad||(!true)),r) _ _ ⟨v3,g3,vH2,J,J⟩)) (.cons J (.cons J (.cons J (.cons (C3 (Av ha) hlim) .nil))))
 rintro⟨fBad,l2⟩ fr h ⟨v2,g2,vH1,rfl,rfl⟩
 refine Al (Q7 _ _ _)<|Y<|O<|Aa (.bool (decide ((l.length:Int)<(l.length:Int)))) J (Ba J J J)<|Z<|Y<|Cg J (Int.lt_irrefl _) ?_
 refine Cl J<|Cc (K:=2) (N:=0) (a:=(fBad,l2)) (vs:=[]) [some (.rows g 2 [[v2,(.bool fBad)]]),Ai v2 g2 4 (List.map Ad l2)] Tryz.func22 hI J J J (.keep (.keep .nil)) (.same _) ⟨v2,g2,vH1,J,J⟩
theorem Ds (n:Int)(least:Int)(most:Int)(s0_bad:Bool)(l:List Token)(h0:Af)(o0:Nat)(o1:Nat)(g:Nat)(v1:AV)(g1:Nat)(vH:Az v1 o1 g1 l.length)(hI0:Ids h0 [o0,o1] 2):Ci n least most s0_bad l≠.bad→Bg Tryz.prog 25 [(.ptr o0 g 0 0),(.int .i64 n),(.int .i64 least),(.int .i64 most)] (hp h0 [o0,o1] [some (.rows g 2 [[v1,(.bool s0_bad)]]),Ai v1 g1 4 (List.map Ad l)]) (Cq (fun a_ v h' => ∃ (v3:AV),∃ (g3:Nat),Az v3 o1 g3 a_.length∧v=(.tup [])∧h'=hp h0 [o0,o1] [some (.rows g 2 [[v3,(.bool (s0_bad||(!((decide (n≥least))&&(decide (n≤most))))))]]),Ai v3 g3 4 (List.map Ad a_)]) h0 (Ci n least most s0_bad l)):=by
 refine Bb (n:=20) 0 Tryz.func25 J (by decide) J J hI0 J fun ids he hI=>?_
 clear hI0
 obtain rfl:ix ids 0=o0:=he 0 rfl
 obtain rfl:ix ids 1=o1:=he 1 rfl
 clear he
 refine Bk (Al (Ci.eq_1 _ _ _ _ _) ?_)
 refine O<|Ac 5 [] [(12,(.bool (decide (n≥least)))),(8,(.q ids 0 g))] ?_
 refine B9 4 [(1,(.I n)),(8,(.q ids 0 g)),(16,(.bool ((decide (n≥least))&&(decide (n≤most)))))] ?_ fun hJ=>Bz (decide (n≥least)) (fun hb1=>?_) (fun hb1=>?_)
 ·refine Ac 2 [] [(18,(.agg [(.I 2),(.str []),(.I n),(.I 0)]))] ?_
  refine Ao [0,1] hI J J (Nj ((decide (n≥least))&&(decide (n≤most))) ({ Kind:=2,Text:=[],N:=n,At:=0 }:Token) s0_bad l _ (ix ids 0) (ix ids 1) g v1 g1 vH (by exact hI.sub' J J)) J J J J J J (fun v _=>Ap (K:=2) (N:=0) Tryz.func25 hI) ?_
  rintro r _ _ _ ⟨v2,g2,vH1,rfl,rfl⟩
  refine Aw [0,1] hI J J J ?_
  refine Aq<|Z<|Ak ?_
  exact Cc (K:=2) (N:=0) (a:=r) (vs:=[]) [some (.rows g 2 [[v2,(.bool (s0_bad||(!((decide (n≥least))&&(decide (n≤most))))))]]),Ai v2 g2 4 (List.map Ad r)] Tryz.func25 hI J J J (.keep (.keep .nil)) (.same _) ⟨v2,g2,vH1,J,J⟩
 ·refine Bj (t:=12) hb1 J<|Ac 4 [] [(16,(.bool (decide (n≤most))))] ?_
  exact Br hJ (.cons J (.cons J (.cons (O5 hb1) .nil)))
 refine Bj (t:=12) hb1 J<|Ac 4 [] [(16,(.bool false))] ?_
 exact Br hJ (.cons J (.cons J (.cons (O2 hb1) .nil)))
theorem Tb (s:Span)(s0_bad:Bool)(l:List Token)(h0:Af)(o0:Nat)(o1:Nat)(g:Nat)(v1:AV)(g1:Nat)(vH:Az v1 o1 g1 l.length)(hI0:Ids h0 [o0,o1] 2):Hh s s0_bad l≠.bad→Bg Tryz.prog 76 [(.ptr o0 g 0 0),(.agg (C0 s))] (hp h0 [o0,o1] [some (.rows g 2 [[v1,(.bool s0_bad)]]),Ai v1 g1 4 (List.map Ad l)]) (Cq (fun a_ v h' => ∃ (v5:AV),∃ (g6:Nat),Az v5 o1 g6 a_.2.length∧v=(.tup [])∧h'=hp h0 [o0,o1] [some (.rows g 2 [[v5,(.bool a_.1)]]),Ai v5 g6 4 (List.map Ad a_.2)]) h0 (Hh s s0_bad l)):=by
 refine Bb (n:=18) 1 Tryz.func76 J (by decide) J J hI0 J fun ids he hI=>?_
 clear hI0
 obtain rfl:ix ids 0=o0:=he 0 rfl
 obtain rfl:ix ids 1=o1:=he 1 rfl
 clear he
 refine Bk (Al (Hh.eq_1 _ _ _) ?_)
 refine Ak ?_
 refine Y<|O<|Ck (v:=(.agg (C0 s))) (j:=2) hI J J J J J J J fun g2=>Z<|Ak ?_
 refine Y<|O<|Ac 3 [2] [(6,(.I s.From)),(4,(.q ids 0 g))] ?_
 refine Ao [0,1] hI J J (Ds s.From 0 1439 s0_bad l _ (ix ids 0) (ix ids 1) g v1 g1 vH (by exact hI.sub' J J)) J J J J J J (fun v _=>Ap (K:=2) (N:=1) Tryz.func76 hI) ?_
 rintro r _ _ _ ⟨v2,g3,vH1,rfl,rfl⟩
 refine Aw [0,1] hI J J J ?_
 refine Aq<|Z<|Ak ?_
 refine Y<|O<|Aa (.q ids 0 g) J Ae<|Dp (e:=rS) (L:=[[116,111]]) (st:=1) (rows:=[[(.str [116,111])]]) J Dg Cf J J J J J (.cons (RowSim.refl _) .nil) (fun x=>Hg x) J J<|Ao [0,1] hI J J (By [[116,111]] (s0_bad||(!((decide (s.From≥0))&&(decide (s.From≤1439))))) r _ (ix ids 0) (ix ids 1) g v2 g3 vH1 (by exact hI.sub' J J)) J J J J J J (fun v _=>Ap (K:=2) (N:=1) Tryz.func76 hI) ?_
 rintro r1 _ _ _ ⟨v3,g4,vH2,rfl,rfl⟩
 refine Aw [0,1] hI J J J ?_
 refine Aq<|Z<|Ak ?_
 refine O<|Ac 6 [2,2] [(16,(.I (IntKind.wrap .i64 (s.From+1)))),(13,(.I s.To)),(11,(.q ids 0 g))] ?_
 refine Ao [0,1] hI J J (Ds s.To (IntKind.wrap .i64 (s.From+1)) 1440 r1.1 r1.2 _ (ix ids 0) (ix ids 1) g v3 g4 vH2 (by exact hI.sub' J J)) J J J J J J (fun v _=>Ap (K:=2) (N:=1) Tryz.func76 hI) ?_
 rintro r2 _ _ _ ⟨v4,g5,vH3,rfl,rfl⟩
 refine Aw [0,1] hI J J J ?_
 refine Aq<|Z<|Ak ?_
 exact Cc (K:=2) (N:=1) (a:=((r1.1||(!((decide (s.To≥(IntKind.wrap .i64 (s.From+1))))&&(decide (s.To≤1440))))),r2)) (vs:=[]) [some (.rows g 2 [[v4,(.bool (r1.1||(!((decide (s.To≥(IntKind.wrap .i64 (s.From+1))))&&(decide (s.To≤1440))))))]]),Ai v4 g5 4 (List.map Ad r2)] Tryz.func76 hI J J J (.keep (.keep (.drop .nil))) (.same _) ⟨v4,g5,vH3,J,J⟩
theorem Y9 (l:List Span)(most:Int)(s0_bad:Bool)(l1:List Token)(h0:Af)(o0:Nat)(o1:Nat)(g:Nat)(v1:AV)(g1:Nat)(vH:Az v1 o1 g1 l1.length)(hI0:Ids h0 [o0,o1] 2):Kg l most s0_bad l1≠.bad→Bg Tryz.prog 75 [(.ptr o0 g 0 0),(.sl 2 (List.map C0 l)),(.int .i64 most),(.func (.func 76) [(.ptr o0 g 0 0)] [])] (hp h0 [o0,o1] [some (.rows g 2 [[v1,(.bool s0_bad)]]),Ai v1 g1 4 (List.map Ad l1)]) (Cq (fun a_ v h' => ∃ (v6:AV),∃ (g7:Nat),Az v6 o1 g7 a_.2.length∧v=(.tup [])∧h'=hp h0 [o0,o1] [some (.rows g 2 [[v6,(.bool a_.1)]]),Ai v6 g7 4 (List.map Ad a_.2)]) h0 (Kg l most s0_bad l1)):=by
 refine Bb (n:=44) 1 Tryz.func75 J (by decide) J J hI0 J fun ids he hI=>?_
 clear hI0
 obtain rfl:ix ids 0=o0:=he 0 rfl
 obtain rfl:ix ids 1=o1:=he 1 rfl
 clear he
 refine Bk (Al (Kg.eq_1 _ _ _ _) ?_)
 refine Ak ?_
 refine Y<|O<|Ac 6 [0] [(15,(.bool s0_bad)),(10,(.q ids 0 g))] ?_
 refine B9 4 [(0,(.q ids 0 g)),(1,(.sl 2 (List.map C0 l))),(2,(.I most)),(3,(.func (.func 76) [(.q ids 0 g)] [])),(10,(.q ids 0 g)),(19,(.bool (s0_bad||((l.length:Int)==0))))] ?_ fun hJ=>Bz s0_bad (fun hb1=>?_) (fun hb1=>?_)
 ·refine Aa (.bool (s0_bad||((l.length:Int)==0))) J Ae<|B9 5 [(0,(.q ids 0 g)),(1,(.sl 2 (List.map C0 l))),(3,(.func (.func 76) [(.q ids 0 g)] [])),(10,(.q ids 0 g)),(25,(.bool ((s0_bad||((l.length:Int)==0))||(decide ((l.length:Int) > most)))))] ?_ fun hJ1=>Bz (s0_bad||((l.length:Int)==0)) (fun hb3=>?_) (fun hb3=>?_)
  ·refine Ac 2 [] [(27,(.ptr (ix ids 0) g 0 1))] ?_
   refine Au (A4 (v:=(.bool ((s0_bad||((l.length:Int)==0))||(decide ((l.length:Int) > most))))) hI J J J J R9 J J J J J)<|Z<|Ak ?_
   refine Y<|O<|Aa (.sl 2 (List.map C0 l)) J Ae<|Aa (.I (l.length:Int)) J (Ay (A8 Pu))<|Aa (.I 0) J Ae<|Z<|A3 ?_
   refine Db [(0,(.q ids 0 g)),(3,(.func (.func 76) [(.q ids 0 g)] [])),(28,(.sl 2 (List.map C0 l))),(29,(.I (l.length:Int))),(30,(.I 0))] (FI J)<|Di (P:=Tryz.prog) l (fun j a=>C2 fun fBad l2=>K8 j a fBad l2) (((C2 fun fBad l2=>.ok (fBad,l2))):(Bool×(List Token))→R (Bool×(List Token))) (fun j=>C2 fun fBad l2=>fun(fr:Nat→AV) (h:Af) => ∃ (v2:AV),∃ (g2:Nat),Az v2 (ix ids 1) g2 l2.length∧fr=A2 [(0,(.q ids 0 g)),(3,(.func (.func 76) [(.q ids 0 g)] [])),(28,(.sl 2 (List.map C0 l))),(29,(.I (l.length:Int))),(30,(.I (j:Int)))]∧h=hp h0 ids [(some (.rows g 2 [[v2,(.bool fBad)]])),(Ai v2 g2 4 (List.map Ad l2)),none]) (((s0_bad||((l.length:Int)==0))||(decide ((l.length:Int) > most))),l1) ?_ ?_ ?_
   ·exact⟨v1,g1,vH,J,J⟩
   ·rintro j a ha W hW ⟨fBad,l2⟩ fr h ⟨v2,g2,vH1,rfl,rfl⟩
    refine Al (m':=K8 j a fBad l2) J (Al (K8.eq_1 _ _ _ _) ?_)
    refine Y<|O<|Aa (.bool (decide ((j:Int)<(l.length:Int)))) J (Ba J J J)<|Z<|Y<|Dn (t:=28) (L:=l) J fun hlim=>Ch J (Int.ofNat_lt.2 (Av ha)) ?_
    refine A0<|Y<|A3<|Y<|O<|Aa (.I (j:Int)) J Ae<|Aa (.cp (C0 a) 0) J (Bt (Ct Pu O1 J ha)) ?_
    refine Aa (.agg (C0 a)) J (As (Dh O1 J))<|Bl (j:=2) hI J J J J O1 J fun g3=>Aa (.I (j:Int)) J Aj<|Au (A4 (v:=(.agg (C0 a))) hI J J J J O1 J J J J J)<|Z<|Ak ?_
    refine Y<|Y<|O<|Ac 2 [] [(36,(.bool (decide ((j:Int) > 0))))] ?_
    refine Z<|D3 (C2 fun fBad1 l3=>Kz a fBad1 l3) (C2 fun fBad1 l3=>fun(fr:Nat→AV) (h:Af) => ∃ (v4:AV),∃ (g5:Nat),Az v4 (ix ids 1) g5 l3.length∧fr=A2 [(0,(.q ids 0 g)),(3,(.func (.func 76) [(.q ids 0 g)] [])),(9,(.q ids 2 g3)),(28,(.sl 2 (List.map C0 l))),(29,(.I (l.length:Int))),(30,(.I (j:Int)))]∧h=hp h0 ids [(some (.rows g 2 [[v4,(.bool fBad1)]])),(Ai v4 g5 4 (List.map Ad l3)),(some (.rows g3 2 [(C0 a)]))]) ?_ fun hJ2=>?_
    ·rintro⟨fBad1,l3⟩ fr h ⟨v4,g5,vH3,rfl,rfl⟩
     refine Al (Kz.eq_1 _ _ _)<|O<|Ac 2 [2] [(41,(.agg (C0 a))),(40,(.func (.func 76) [(.q ids 0 g)] []))] ?_
     refine Ao [0,1] hI J J (Tb a fBad1 l3 _ (ix ids 0) (ix ids 1) g v4 g5 vH3 (by exact hI.sub' J J)) J J J J J J (fun v _=>Ap (K:=2) (N:=1) Tryz.func75 hI) ?_
     rintro r1 _ _ _ ⟨v5,g6,vH4,rfl,rfl⟩
     refine Aw [0,1] hI J J J ?_
     refine Aq<|Z<|Ak ?_
     refine Bf<|O<|Ac 2 [] [(30,(.I (IntKind.wrap .i64 ((j:Int)+1))))] ?_
     refine Z<|Dr [(some (.rows g 2 [[v5,(.bool r1.1)]])),(Ai v5 g6 4 (List.map Ad r1.2)),none] hI J (.keep (.keep (.drop .nil)))<|Bp (I7 (hW (r1.1,r1.2) _ _ ⟨v5,g6,vH4,J,J⟩)) (.cons J (.cons J (.cons J (.cons J (.cons (C3 (Av ha) hlim) .nil)))))
    refine On J (fun hc=>?_) (fun hc=>?_)
    ·refine O<|Aa (.q ids 0 g) J Ae<|Dp (e:=rS) (L:=[[44]]) (st:=1) (rows:=[[(.str [44])]]) J Dg Cf J J J J J (.cons (RowSim.refl _) .nil) (fun x=>Hg x) J J<|Ao [0,1] hI J J (Dc [[44]] fBad l2 _ (ix ids 0) (ix ids 1) g v2 g2 vH1 (by exact hI.sub' J J)) J J J J J J (fun v _=>Ap (K:=2) (N:=1) Tryz.func75 hI) ?_
     rintro r _ _ _ ⟨v3,g4,vH2,rfl,rfl⟩
     refine Aw [0,1] hI J J J ?_
     refine Aq<|Z<|Ak ?_
     exact Bp (hJ2 (r.1,r.2) _ _ ⟨v3,g4,vH2,J,J⟩)
    refine A0<|Bp (hJ2 (fBad,l2) _ _ ⟨v2,g2,vH1,J,J⟩)
   rintro⟨fBad,l2⟩ fr h ⟨v2,g2,vH1,rfl,rfl⟩
   refine Al (Q7 _ _ _)<|Y<|O<|Aa (.bool (decide ((l.length:Int)<(l.length:Int)))) J (Ba J J J)<|Z<|Y<|Cg J (Int.lt_irrefl _) ?_
   refine Cl J<|Cc (K:=2) (N:=1) (a:=(fBad,l2)) (vs:=[]) [some (.rows g 2 [[v2,(.bool fBad)]]),Ai v2 g2 4 (List.map Ad l2)] Tryz.func75 hI J J J (.keep (.keep (.keep .nil))) (.same _) ⟨v2,g2,vH1,J,J⟩
  ·refine Bj (t:=20) hb3 J<|Ac 5 [] [(25,(.bool true))] ?_
   exact Br hJ1 (.cons J (.cons J (.cons J (.cons J (.cons (Fe hb3) .nil)))))
  refine Bj (t:=20) hb3 J<|Bx (tj:=20) (.sl 2 (List.map C0 l)) J J J Ae<|Bx (tj:=20) (.I (l.length:Int)) J J J (Ay (A8 Pu))<|Ac 3 [] [(25,(.bool (decide ((l.length:Int) > most))))] ?_
  exact Br hJ1 (.cons J (.cons J (.cons J (.cons J (.cons (Fg hb3) .nil)))))
 ·refine Bj (t:=15) hb1 J<|Ac 4 [] [(19,(.bool true))] ?_
  exact Br hJ (.cons J (.cons J (.cons J (.cons J (.cons J (.cons (Fe hb1) .nil))))))
 refine Bj (t:=15) hb1 J<|Bx (tj:=15) (.sl 2 (List.map C0 l)) J J J Ae<|Bx (tj:=15) (.I (l.length:Int)) J J J (Ay (A8 Pu))<|Ac 2 [] [(19,(.bool ((l.length:Int)==0)))] ?_
 exact Br hJ (.cons J (.cons J (.cons J (.cons J (.cons J (.cons (Fg hb1) .nil))))))
theorem Sy (text:An)(l:List Span)(s0_bad:Bool)(l1:List Token)(h0:Af)(o0:Nat)(o1:Nat)(g:Nat)(v1:AV)(g1:Nat)(vH:Az v1 o1 g1 l1.length)(hI0:Ids h0 [o0,o1] 2):Ha text l s0_bad l1≠.bad→Bg Tryz.prog 19 [(.ptr o0 g 0 0),(.str text),(.sl 2 (List.map C0 l))] (hp h0 [o0,o1] [some (.rows g 2 [[v1,(.bool s0_bad)]]),Ai v1 g1 4 (List.map Ad l1)]) (Cq (fun a_ v h' => ∃ (v4:AV),∃ (g4:Nat),Az v4 o1 g4 a_.2.length∧v=(.tup [])∧h'=hp h0 [o0,o1] [some (.rows g 2 [[v4,(.bool a_.1)]]),Ai v4 g4 4 (List.map Ad a_.2)]) h0 (Ha text l s0_bad l1)):=by
 refine Bb (n:=18) 0 Tryz.func19 J (by decide) J J hI0 J fun ids he hI=>?_
 clear hI0
 obtain rfl:ix ids 0=o0:=he 0 rfl
 obtain rfl:ix ids 1=o1:=he 1 rfl
 clear he
 refine Bk (Al (Ha.eq_1 _ _ _ _) ?_)
 refine Y<|O<|Aa (.sl 2 (List.map C0 l)) J Ae<|Aa (.I (l.length:Int)) J (Ay (A8 Pu))<|Aa (.bool (decide ((l.length:Int) > 0))) J (Ba J J J)<|Z<|On J (fun hc=>?_) (fun hc=>?_)
 ·refine Y<|O<|Ac 2 [] [(10,(.str text)),(9,(.q ids 0 g))] ?_
  refine Dp (e:=rS) (L:=[text]) (st:=1) (rows:=[[(.str text)]]) J Dg Cf J J J J J (.cons (RowSim.refl _) .nil) (fun x=>Hg x) J J<|Ao [0,1] hI J J (By [text] s0_bad l1 _ (ix ids 0) (ix ids 1) g v1 g1 vH (by exact hI.sub' J J)) J J J J J J (fun v _=>Ap (K:=2) (N:=0) Tryz.func19 hI) ?_
  rintro r _ _ _ ⟨v2,g2,vH1,rfl,rfl⟩
  refine Aw [0,1] hI J J J ?_
  refine Aq<|Z<|Ak ?_
  refine O<|Ac 4 [] [(16,(.func (.func 76) [(.q ids 0 g)] [])),(14,(.sl 2 (List.map C0 l))),(13,(.q ids 0 g))] ?_
  refine Ao [0,1] hI J J (Y9 l 16 r.1 r.2 _ (ix ids 0) (ix ids 1) g v2 g2 vH1 (by exact hI.sub' J J)) J J J J J J (fun v _=>Ap (K:=2) (N:=0) Tryz.func19 hI) ?_
  rintro r1 _ _ _ ⟨v3,g3,vH2,rfl,rfl⟩
  refine Aw [0,1] hI J J J ?_
  refine Aq<|Z<|Ak ?_
  exact Cc (K:=2) (N:=0) (a:=(r1.1,r1.2)) (vs:=[]) [some (.rows g 2 [[v3,(.bool r1.1)]]),Ai v3 g3 4 (List.map Ad r1.2)] Tryz.func19 hI J J J (.keep (.keep .nil)) (.same _) ⟨v3,g3,vH2,J,J⟩
 refine A0<|Cc (K:=2) (N:=0) (a:=(s0_bad,l1)) (vs:=[]) [some (.rows g 2 [[v1,(.bool s0_bad)]]),Ai v1 g1 4 (List.map Ad l1)] Tryz.func19 hI J J J (.keep (.keep .nil)) (.same _) ⟨v1,g1,vH,J,J⟩
theorem Adl (a:Volume)(s1_bad:Bool)(l:List Token)(h0:Af)(o0:Nat)(o1:Nat)(o2:Nat)(g:Nat)(g1:Nat)(v1:AV)(g2:Nat)(vH:Az v1 o2 g2 l.length)(hI0:Ids h0 [o0,o1,o2] 3):Ot a s1_bad l≠.bad→Bg Tryz.prog 17 [(.agg (Ar a)),(.ptr o0 g 0 0)] (hp h0 [o0,o1,o2] [some (.rows g 1 [[(.ptr o1 g1 0 0)]]),some (.rows g1 2 [[v1,(.bool s1_bad)]]),Ai v1 g2 4 (List.map Ad l)]) (Cq (fun a_ v h' => ∃ (v4:AV),∃ (g6:Nat),Az v4 o2 g6 a_.2.length∧v=(.tup [])∧h'=hp h0 [o0,o1,o2] [some (.rows g 1 [[(.ptr o1 g1 0 0)]]),some (.rows g1 2 [[v4,(.bool a_.1)]]),Ai v4 g6 4 (List.map Ad a_.2)]) h0 (Ot a s1_bad l)):=by
 refine Bb (n:=11) 1 Tryz.func17 J (by decide) J J hI0 J fun ids he hI=>?_
 clear hI0
 obtain rfl:ix ids 0=o0:=he 0 rfl
 obtain rfl:ix ids 1=o1:=he 1 rfl
 obtain rfl:ix ids 2=o2:=he 2 rfl
 clear he
 refine Bk (Al (Ot.eq_1 _ _ _) ?_)
 refine Ak ?_
 refine Y<|O<|Ck (v:=(.agg (Ar a))) (j:=3) hI J J J J J J J fun g3=>Z<|Ak ?_
 refine Y<|O<|Ac 3 [0,3] [(5,(.str a.Name)),(3,(.q ids 1 g1))] ?_
 refine Ao [1,2] hI J J (C7 a.Name s1_bad l _ (ix ids 1) (ix ids 2) g1 v1 g2 vH (by exact hI.sub' J J)) J J J J J J (fun v _=>Ap (K:=3) (N:=1) Tryz.func17 hI) ?_
 rintro r _ _ _ ⟨v2,g4,vH1,rfl,rfl⟩
 refine Aw [1,2] hI J J J ?_
 refine Aq<|Z<|Ak ?_
 refine O<|Ac 3 [0,3] [(9,(.sl 2 (List.map C0 a.Closed))),(7,(.q ids 1 g1))] ?_
 refine Ao [1,2] hI J J (Sy [99,108,111,115,101,100] a.Closed r.1 r.2 _ (ix ids 1) (ix ids 2) g1 v2 g4 vH1 (by exact hI.sub' J J)) J J J J J J (fun v _=>Ap (K:=3) (N:=1) Tryz.func17 hI) ?_
 rintro r1 _ _ _ ⟨v3,g5,vH2,rfl,rfl⟩
 refine Aw [1,2] hI J J J ?_
 refine Aq<|Z<|Ak ?_
 exact Cc (K:=3) (N:=1) (a:=(r1.1,r1.2)) (vs:=[]) [some (.rows g 1 [[(.q ids 1 g1)]]),some (.rows g1 2 [[v3,(.bool r1.1)]]),Ai v3 g5 4 (List.map Ad r1.2)] Tryz.func17 hI J J J (.keep (.keep (.keep (.drop .nil)))) (.same _) ⟨v3,g5,vH2,J,J⟩
end Go.Am

/- Written by shrink.py from texts of ours: comments struck, what is not reached left out, names short. -/
import Derived.Test.YtjidhdlbojmlfaaGreatDoorU7
import Derived.Test.YtjidhdlbojmlfaaGreatDoorU4
import Derived.Test.YtjidhdlbojmlfaaGreatDoorRows
import Derived.KernelRfl
import Derived.Test.YtjidhdlbojmlfaaGreatDoorCards
import Derived.Test.YtjidhdlbojmlfaaGreatDoorTie
import Derived.SevenTiedAt
import Derived.LaidMore
import Derived.LaidSub
namespace Go.Am
open Go Go.Proofs
set_option maxRecDepth 100000
set_option maxHeartbeats 4000000
set_option linter.unusedSimpArgs false
set_option linter.unusedVariables false
theorem Sf (l:List Aw):CP Tryz.prog 27 [(.sl 1 (List.map rS l))] (Me l) (fun(x:Bool)=>(AV.bool x)):=by
 refine C0 (n:=19) 0 Tryz.func27 J (by decide) J J fun h0 ids hI=>Bn (Ak (Me.eq_1 _) ?_)
 refine Y<|O<|Z (.bool false) J Aj<|Aa<|Y<|Y<|O ?_
 refine Z (.I 0) J Aj<|Aa<|A8<|Dt [(0,(.sl 1 (List.map rS l))),(3,(.I 0))] (FI J)<|Ej (P:=Tryz.prog) l (fun _ a=>fun _=>Ny a) ((C6 (fun _=>.ok (decide ((l.length:Int)≤70))) (fun r=>.ok r)):(Unit ⊕ Bool)→R Bool) (fun j=>fun _=>fun(fr:Nat→AV) (h:Ae)=>fr=A6 [(0,(.sl 1 (List.map rS l))),(3,(.I (j:Int)))]∧h=hp h0 ids []) () ?_ ?_ ?_
 ·exact⟨J,J⟩
 ·rintro j a ha W hW _ fr h ⟨rfl,rfl⟩
  refine Ak (m':=Ny a) J (Ak (Ny.eq_1 _) ?_)
  refine Y<|Y<|O<|Ab 2 [] [(5,(.sl 1 (List.map rS l))),(4,(.I (j:Int)))] ?_
  refine Z (.I (l.length:Int)) J (Ay (A7 Dy))<|Z (.bool (decide ((j:Int)<(l.length:Int)))) J (Ba J J J)<|Aa<|Do (t:=0) (L:=l) J fun hlim=>Cm J (Int.ofNat_lt.2 (A3 ha))<|Az<|Y ?_
  refine A8<|Y<|O<|Ab 2 [] [(11,(.I (j:Int))),(10,(.sl 1 (List.map rS l)))] ?_
  refine Z (.cp [(.str a)] 0) J (Bs (Cv Dy Cz J ha))<|Z (.str a) J (Au (Cr Cz J))<|Z (.I (a.length:Int)) J (Ay (Mi Cz))<|Z (.bool (decide ((a.length:Int) > 60))) J (Ba J J J)<|Aa<|Qp J (fun hc=>?_) (fun hc=>?_)
  ·refine Y<|O<|Z (.bool false) J Aj<|Aa<|Ex<|F2<|Br (a:=false) (vs:=[(.bool false)]) Tryz.func27 hI J (.same _)
  refine Az<|Bj<|O<|Ab 3 [] [(3,(.I (IntKind.wrap .i64 ((j:Int)+1))))] ?_
  refine Aa<|Bq (Ey (hW () _ _ ⟨J,J⟩)) (.cons J (.cons (Dj (A3 ha) hlim) .nil))
 rintro _ fr h ⟨rfl,rfl⟩
 refine Ak (E5 _ _ _)<|Y<|Y<|O<|Ab 2 [] [(5,(.sl 1 (List.map rS l))),(4,(.I (l.length:Int)))] ?_
 refine Z (.I (l.length:Int)) J (Ay (A7 Dy))<|Z (.bool (decide ((l.length:Int)<(l.length:Int)))) J (Ba J J J)<|Aa<|Co J (Int.lt_irrefl _)<|Ct J<|Y<|O ?_
 refine Z (.sl 1 (List.map rS l)) J Ad<|Z (.I (l.length:Int)) J (Ay (A7 Dy))<|Ab 2 [] [(2,(.bool (decide ((l.length:Int)≤70))))] ?_
 refine Aa<|Br (a:=(decide ((l.length:Int)≤70))) (vs:=[(.bool (decide ((l.length:Int)≤70)))]) Tryz.func27 hI J (.same _)
theorem Ahp (a:Airspace):CP Tryz.prog 13 [(.agg (Av a))] (V6 a) (fun(x:Bool)=>(AV.bool x)):=by
 refine C0 (n:=178) 1 Tryz.func13 J (by decide) J J fun h0 ids hI=>Bn (Ak (V6.eq_1 _) ?_)
 refine Y<|O<|Cx (v:=(.agg (Av a))) (j:=0) hI J J J J J J J fun g=>Z (.bool false) J Aj<|Aa<|Al ?_
 refine Y<|Y<|O<|Ab 2 [0] [(11,(.sl 2 (List.map As a.Volumes)))] ?_
 refine Z (.I (a.Volumes.length:Int)) J (Ay (A7 Io))<|Ab 2 [] [(14,(.bool (decide ((a.Volumes.length:Int) > 70))))] ?_
 refine Bx 5 [(1,(.q ids 0 g)),(19,(.bool ((decide ((a.Volumes.length:Int) > 70))||(decide ((a.Sectors.length:Int) > 70)))))] ?_ fun hJ=>Bt (decide ((a.Volumes.length:Int) > 70)) (fun hb1=>?_) (fun hb1=>?_)
 ·refine Z (.bool ((decide ((a.Volumes.length:Int) > 70))||(decide ((a.Sectors.length:Int) > 70)))) J Ad<|Bx 5 [(1,(.q ids 0 g)),(25,(.bool (((decide ((a.Volumes.length:Int) > 70))||(decide ((a.Sectors.length:Int) > 70)))||(decide ((a.Configs.length:Int) > 40)))))] ?_ fun hJ1=>Bt ((decide ((a.Volumes.length:Int) > 70))||(decide ((a.Sectors.length:Int) > 70))) (fun hb3=>?_) (fun hb3=>?_)
  ·refine Z (.bool (((decide ((a.Volumes.length:Int) > 70))||(decide ((a.Sectors.length:Int) > 70)))||(decide ((a.Configs.length:Int) > 40)))) J Ad<|Bx 5 [(1,(.q ids 0 g)),(31,(.bool ((((decide ((a.Volumes.length:Int) > 70))||(decide ((a.Sectors.length:Int) > 70)))||(decide ((a.Configs.length:Int) > 40)))||(decide ((a.Segments.length:Int) > 130)))))] ?_ fun hJ2=>Bt (((decide ((a.Volumes.length:Int) > 70))||(decide ((a.Sectors.length:Int) > 70)))||(decide ((a.Configs.length:Int) > 40))) (fun hb5=>?_) (fun hb5=>?_)
   ·refine Z (.bool ((((decide ((a.Volumes.length:Int) > 70))||(decide ((a.Sectors.length:Int) > 70)))||(decide ((a.Configs.length:Int) > 40)))||(decide ((a.Segments.length:Int) > 130)))) J Ad<|Bx 5 [(1,(.q ids 0 g)),(37,(.bool (((((decide ((a.Volumes.length:Int) > 70))||(decide ((a.Sectors.length:Int) > 70)))||(decide ((a.Configs.length:Int) > 40)))||(decide ((a.Segments.length:Int) > 130)))||(decide ((a.Routes.length:Int) > 70)))))] ?_ fun hJ3=>Bt ((((decide ((a.Volumes.length:Int) > 70))||(decide ((a.Sectors.length:Int) > 70)))||(decide ((a.Configs.length:Int) > 40)))||(decide ((a.Segments.length:Int) > 130))) (fun hb7=>?_) (fun hb7=>?_)
    ·refine Z (.bool (((((decide ((a.Volumes.length:Int) > 70))||(decide ((a.Sectors.length:Int) > 70)))||(decide ((a.Configs.length:Int) > 40)))||(decide ((a.Segments.length:Int) > 130)))||(decide ((a.Routes.length:Int) > 70)))) J Ad<|Bx 5 [(1,(.q ids 0 g)),(43,(.bool ((((((decide ((a.Volumes.length:Int) > 70))||(decide ((a.Sectors.length:Int) > 70)))||(decide ((a.Configs.length:Int) > 40)))||(decide ((a.Segments.length:Int) > 130)))||(decide ((a.Routes.length:Int) > 70)))||(decide ((a.Airports.length:Int) > 20)))))] ?_ fun hJ4=>Bt (((((decide ((a.Volumes.length:Int) > 70))||(decide ((a.Sectors.length:Int) > 70)))||(decide ((a.Configs.length:Int) > 40)))||(decide ((a.Segments.length:Int) > 130)))||(decide ((a.Routes.length:Int) > 70))) (fun hb9=>?_) (fun hb9=>?_)
     ·refine Z (.bool ((((((decide ((a.Volumes.length:Int) > 70))||(decide ((a.Sectors.length:Int) > 70)))||(decide ((a.Configs.length:Int) > 40)))||(decide ((a.Segments.length:Int) > 130)))||(decide ((a.Routes.length:Int) > 70)))||(decide ((a.Airports.length:Int) > 20)))) J Ad<|Bx 5 [(1,(.q ids 0 g)),(49,(.bool (((((((decide ((a.Volumes.length:Int) > 70))||(decide ((a.Sectors.length:Int) > 70)))||(decide ((a.Configs.length:Int) > 40)))||(decide ((a.Segments.length:Int) > 130)))||(decide ((a.Routes.length:Int) > 70)))||(decide ((a.Airports.length:Int) > 20)))||(decide ((a.Classes.length:Int) > 12)))))] ?_ fun hJ5=>Bt ((((((decide ((a.Volumes.length:Int) > 70))||(decide ((a.Sectors.length:Int) > 70)))||(decide ((a.Configs.length:Int) > 40)))||(decide ((a.Segments.length:Int) > 130)))||(decide ((a.Routes.length:Int) > 70)))||(decide ((a.Airports.length:Int) > 20))) (fun hb11=>?_) (fun hb11=>?_)
      ·refine Z (.bool (((((((decide ((a.Volumes.length:Int) > 70))||(decide ((a.Sectors.length:Int) > 70)))||(decide ((a.Configs.length:Int) > 40)))||(decide ((a.Segments.length:Int) > 130)))||(decide ((a.Routes.length:Int) > 70)))||(decide ((a.Airports.length:Int) > 20)))||(decide ((a.Classes.length:Int) > 12)))) J Ad<|Bx 5 [(1,(.q ids 0 g)),(55,(.bool ((((((((decide ((a.Volumes.length:Int) > 70))||(decide ((a.Sectors.length:Int) > 70)))||(decide ((a.Configs.length:Int) > 40)))||(decide ((a.Segments.length:Int) > 130)))||(decide ((a.Routes.length:Int) > 70)))||(decide ((a.Airports.length:Int) > 20)))||(decide ((a.Classes.length:Int) > 12)))||(decide ((a.Rules.length:Int) > 70)))))] ?_ fun hJ6=>Bt (((((((decide ((a.Volumes.length:Int) > 70))||(decide ((a.Sectors.length:Int) > 70)))||(decide ((a.Configs.length:Int) > 40)))||(decide ((a.Segments.length:Int) > 130)))||(decide ((a.Routes.length:Int) > 70)))||(decide ((a.Airports.length:Int) > 20)))||(decide ((a.Classes.length:Int) > 12))) (fun hb13=>?_) (fun hb13=>?_)
       ·refine Aa<|Cf J (fun hc=>?_) (fun hc=>?_)
        ·refine Y<|O<|Z (.bool false) J Aj<|Aa<|Br (a:=false) (vs:=[(.bool false)]) Tryz.func13 hI J (.same _)
        refine Az<|Y<|O<|Z (.I 0) J Aj<|Aa<|Y<|Y ?_
        refine O<|Z (.I 0) J Aj<|Aa<|A8<|Dt [(1,(.q ids 0 g)),(3,(.I 0)),(4,(.I 0))] (FI J)<|F3 (P:=Tryz.prog) a.Volumes (fun _ a1=>fun x=>Rm a1 x) (((fun x=>(each (fun _ a2=>fun x2=>Oi a2 x2) 0 a.Sectors x).bind (C6 (fun x2=>(each (fun _ a3=>fun x4=>Mr a3 x4) 0 a.Configs x2).bind (C6 (fun x4=>(Di (fun _ a4=>fun x6=>M6 a4 x6) 0 a.Segments x4).bind ((fun x6=>(each (fun _ a5=>fun x8=>Kk a5 x8) 0 a.Routes x6).bind (C6 (fun x8=>(Di (fun _ a6=>fun x10=>Ko a6 x10) 0 a.Airports x8).bind ((fun x10=>.ok (decide (x10≤600))))) (fun r=>.ok r))))) (fun r=>.ok r))) (fun r=>.ok r)))):Int→R Bool) (fun j=>fun x=>fun(fr:Nat→AV) (h:Ae)=>fr=A6 [(1,(.q ids 0 g)),(3,(.I x)),(4,(.I (j:Int)))]∧h=hp h0 ids [(some (.rows g 8 [(Av a)]))]) 0 ?_ ?_ ?_
        ·exact⟨J,J⟩
        ·rintro j a1 ha1 W hW x fr h ⟨rfl,rfl⟩
         refine Ak (m':=Rm a1 x) J (Ak (Rm.eq_1 _ _) ?_)
         refine Y<|Y<|O<|Ab 3 [0] [(58,(.sl 2 (List.map As a.Volumes))),(56,(.I (j:Int)))] ?_
         refine Z (.I (a.Volumes.length:Int)) J (Ay (A7 Io))<|Z (.bool (decide ((j:Int)<(a.Volumes.length:Int)))) J (Ba J J J)<|Aa<|Do (t:=58) (L:=a.Volumes) J fun hlim1=>Cm J (Int.ofNat_lt.2 (A3 ha1))<|Az<|Y ?_
         refine A8<|O<|Ab 4 [0] [(66,(.I (j:Int))),(65,(.sl 2 (List.map As a.Volumes))),(63,(.I x))] ?_
         refine Z (.cp (As a1) 0) J (Bs (Cv Io Km J ha1))<|Ab 2 [] [(69,(.sl 2 (List.map Cb a1.Closed)))] ?_
         refine Z (.I (a1.Closed.length:Int)) J (Ay (A7 Lv))<|Ab 2 [] [(3,(.I (IntKind.wrap .i64 (x+(a1.Closed.length:Int)))))] ?_
         refine Aa<|Bj<|O<|Ab 3 [] [(4,(.I (IntKind.wrap .i64 ((j:Int)+1))))] ?_
         refine Aa<|Bq (Pg (hW (IntKind.wrap .i64 (x+(a1.Closed.length:Int))) _ _ ⟨J,J⟩)) (.cons J (.cons J (.cons (Dj (A3 ha1) hlim1) .nil)))
        rintro x fr h ⟨rfl,rfl⟩
        refine Y<|Y<|O<|Ab 3 [0] [(58,(.sl 2 (List.map As a.Volumes))),(56,(.I (a.Volumes.length:Int)))] ?_
        refine Z (.I (a.Volumes.length:Int)) J (Ay (A7 Io))<|Z (.bool (decide ((a.Volumes.length:Int)<(a.Volumes.length:Int)))) J (Ba J J J)<|Aa<|Co J (Int.lt_irrefl _)<|Ct J<|Y<|Y ?_
        refine O<|Z (.I 0) J Aj<|Aa<|A8<|Dt [(1,(.q ids 0 g)),(3,(.I x)),(5,(.I 0))] (FI J)<|Ej (P:=Tryz.prog) a.Sectors (fun _ a2=>fun x2=>Oi a2 x2) ((C6 (fun x2=>(each (fun _ a3=>fun x4=>Mr a3 x4) 0 a.Configs x2).bind (C6 (fun x4=>(Di (fun _ a4=>fun x6=>M6 a4 x6) 0 a.Segments x4).bind ((fun x6=>(each (fun _ a5=>fun x8=>Kk a5 x8) 0 a.Routes x6).bind (C6 (fun x8=>(Di (fun _ a6=>fun x10=>Ko a6 x10) 0 a.Airports x8).bind ((fun x10=>.ok (decide (x10≤600))))) (fun r=>.ok r))))) (fun r=>.ok r))) (fun r=>.ok r)):(Int ⊕ Bool)→R Bool) (fun j1=>fun x2=>fun(fr:Nat→AV) (h:Ae)=>fr=A6 [(1,(.q ids 0 g)),(3,(.I x2)),(5,(.I (j1:Int)))]∧h=hp h0 ids [(some (.rows g 8 [(Av a)]))]) x ?_ ?_ ?_
        ·exact⟨J,J⟩
        ·rintro j1 a2 ha2 W hW1 x2 fr h ⟨rfl,rfl⟩
         refine Ak (m':=Oi a2 x2) J (Ak (Oi.eq_1 _ _) ?_)
         refine Y<|Y<|O<|Ab 3 [0] [(74,(.sl 5 (List.map A4 a.Sectors))),(72,(.I (j1:Int)))] ?_
         refine Z (.I (a.Sectors.length:Int)) J (Ay (A7 H3))<|Z (.bool (decide ((j1:Int)<(a.Sectors.length:Int)))) J (Ba J J J)<|Aa<|Do (t:=74) (L:=a.Sectors) J fun hlim3=>Cm J (Int.ofNat_lt.2 (A3 ha2))<|Az<|Y ?_
         refine A8<|Y<|O<|Ab 4 [0] [(82,(.I (j1:Int))),(81,(.sl 5 (List.map A4 a.Sectors))),(79,(.I x2))] ?_
         refine Z (.cp (A4 a2) 0) J (Bs (Cv H3 Gl J ha2))<|Ab 2 [] [(85,(.sl 1 (List.map (rI .i64) a2.Volumes)))] ?_
         refine Z (.I (a2.Volumes.length:Int)) J (Ay (A7 M4))<|Ab 2 [] [(3,(.I (IntKind.wrap .i64 (x2+(a2.Volumes.length:Int)))))] ?_
         refine Aa<|Y<|O<|Ab 3 [0] [(90,(.I (j1:Int))),(89,(.sl 5 (List.map A4 a.Sectors)))] ?_
         refine Z (.cp (A4 a2) 0) J (Bs (Cv H3 Gl J ha2))<|Ab 2 [] [(93,(.sl 1 (List.map rS a2.Names)))] ?_
         refine B0 [(.sl 1 (List.map rS a2.Names))] J J J J ((Sf a2.Names) _) (fun v _=>Cg Tryz.func13 hI) fun r _=>Z (.bool (!r)) J (O3 J)<|Aa<|D2 J (fun hc1=>?_) (fun hc1=>?_)
         ·refine Az<|Bj<|O<|Ab 3 [] [(5,(.I (IntKind.wrap .i64 ((j1:Int)+1))))] ?_
          refine Aa<|Bq (Ey (hW1 (IntKind.wrap .i64 (x2+(a2.Volumes.length:Int))) _ _ ⟨J,J⟩)) (.cons J (.cons J (.cons (Dj (A3 ha2) hlim3) .nil)))
         refine Y<|O<|Z (.bool false) J Aj<|Aa<|Ex<|F2<|Br (a:=false) (vs:=[(.bool false)]) Tryz.func13 hI J (.same _)
        rintro x2 fr h ⟨rfl,rfl⟩
        refine Ak (E5 _ _ _)<|Y<|Y<|O<|Ab 3 [0] [(74,(.sl 5 (List.map A4 a.Sectors))),(72,(.I (a.Sectors.length:Int)))] ?_
        refine Z (.I (a.Sectors.length:Int)) J (Ay (A7 H3))<|Z (.bool (decide ((a.Sectors.length:Int)<(a.Sectors.length:Int)))) J (Ba J J J)<|Aa<|Co J (Int.lt_irrefl _)<|Ct J<|Y<|Y ?_
        refine O<|Z (.I 0) J Aj<|Aa<|A8<|Dt [(1,(.q ids 0 g)),(3,(.I x2)),(6,(.I 0))] (FI J)<|Ej (P:=Tryz.prog) a.Configs (fun _ a3=>fun x4=>Mr a3 x4) ((C6 (fun x4=>(Di (fun _ a4=>fun x6=>M6 a4 x6) 0 a.Segments x4).bind ((fun x6=>(each (fun _ a5=>fun x8=>Kk a5 x8) 0 a.Routes x6).bind (C6 (fun x8=>(Di (fun _ a6=>fun x10=>Ko a6 x10) 0 a.Airports x8).bind ((fun x10=>.ok (decide (x10≤600))))) (fun r=>.ok r))))) (fun r=>.ok r)):(Int ⊕ Bool)→R Bool) (fun j2=>fun x4=>fun(fr:Nat→AV) (h:Ae)=>fr=A6 [(1,(.q ids 0 g)),(3,(.I x4)),(6,(.I (j2:Int)))]∧h=hp h0 ids [(some (.rows g 8 [(Av a)]))]) x2 ?_ ?_ ?_
        ·exact⟨J,J⟩
        ·rintro j2 a3 ha3 W hW2 x4 fr h ⟨rfl,rfl⟩
         refine Ak (m':=Mr a3 x4) J (Ak (Mr.eq_1 _ _) ?_)
         refine Y<|Y<|O<|Ab 3 [0] [(98,(.sl 3 (List.map Bd a.Configs))),(96,(.I (j2:Int)))] ?_
         refine Z (.I (a.Configs.length:Int)) J (Ay (A7 Ja))<|Z (.bool (decide ((j2:Int)<(a.Configs.length:Int)))) J (Ba J J J)<|Aa<|Do (t:=98) (L:=a.Configs) J fun hlim5=>Cm J (Int.ofNat_lt.2 (A3 ha3))<|Az<|Y ?_
         refine A8<|Y<|O<|Ab 4 [0] [(106,(.I (j2:Int))),(105,(.sl 3 (List.map Bd a.Configs))),(103,(.I x4))] ?_
         refine Z (.cp (Bd a3) 0) J (Bs (Cv Ja Ic J ha3))<|Ab 2 [] [(109,(.sl 1 (List.map (rI .i64) a3.Sectors)))] ?_
         refine Z (.I (a3.Sectors.length:Int)) J (Ay (A7 M4))<|Ab 2 [] [(3,(.I (IntKind.wrap .i64 (x4+(a3.Sectors.length:Int)))))] ?_
         refine Aa<|Y<|O<|Ab 3 [0] [(114,(.I (j2:Int))),(113,(.sl 3 (List.map Bd a.Configs)))] ?_
         refine Z (.cp (Bd a3) 0) J (Bs (Cv Ja Ic J ha3))<|Ab 2 [] [(117,(.sl 1 (List.map rS a3.Names)))] ?_
         refine B0 [(.sl 1 (List.map rS a3.Names))] J J J J ((Sf a3.Names) _) (fun v _=>Cg Tryz.func13 hI) fun r1 _=>Z (.bool (!r1)) J (O3 J)<|Aa<|D2 J (fun hc2=>?_) (fun hc2=>?_)
         ·refine Az<|Bj<|O<|Ab 3 [] [(6,(.I (IntKind.wrap .i64 ((j2:Int)+1))))] ?_
          refine Aa<|Bq (Ey (hW2 (IntKind.wrap .i64 (x4+(a3.Sectors.length:Int))) _ _ ⟨J,J⟩)) (.cons J (.cons J (.cons (Dj (A3 ha3) hlim5) .nil)))
         refine Y<|O<|Z (.bool false) J Aj<|Aa<|Ex<|F2<|Br (a:=false) (vs:=[(.bool false)]) Tryz.func13 hI J (.same _)
        rintro x4 fr h ⟨rfl,rfl⟩
        refine Ak (E5 _ _ _)<|Y<|Y<|O<|Ab 3 [0] [(98,(.sl 3 (List.map Bd a.Configs))),(96,(.I (a.Configs.length:Int)))] ?_
        refine Z (.I (a.Configs.length:Int)) J (Ay (A7 Ja))<|Z (.bool (decide ((a.Configs.length:Int)<(a.Configs.length:Int)))) J (Ba J J J)<|Aa<|Co J (Int.lt_irrefl _)<|Ct J<|Y<|Y ?_
        refine O<|Z (.I 0) J Aj<|Aa<|A8<|Dt [(1,(.q ids 0 g)),(3,(.I x4)),(7,(.I 0))] (FI J)<|F3 (P:=Tryz.prog) a.Segments (fun _ a4=>fun x6=>M6 a4 x6) (((fun x6=>(each (fun _ a5=>fun x8=>Kk a5 x8) 0 a.Routes x6).bind (C6 (fun x8=>(Di (fun _ a6=>fun x10=>Ko a6 x10) 0 a.Airports x8).bind ((fun x10=>.ok (decide (x10≤600))))) (fun r=>.ok r)))):Int→R Bool) (fun j3=>fun x6=>fun(fr:Nat→AV) (h:Ae)=>fr=A6 [(1,(.q ids 0 g)),(3,(.I x6)),(7,(.I (j3:Int)))]∧h=hp h0 ids [(some (.rows g 8 [(Av a)]))]) x4 ?_ ?_ ?_
        ·exact⟨J,J⟩
        ·rintro j3 a4 ha4 W hW3 x6 fr h ⟨rfl,rfl⟩
         refine Ak (m':=M6 a4 x6) J (Ak (M6.eq_1 _ _) ?_)
         refine Y<|Y<|O<|Ab 3 [0] [(122,(.sl 5 (List.map Bb a.Segments))),(120,(.I (j3:Int)))] ?_
         refine Z (.I (a.Segments.length:Int)) J (Ay (A7 Jr))<|Z (.bool (decide ((j3:Int)<(a.Segments.length:Int)))) J (Ba J J J)<|Aa<|Do (t:=122) (L:=a.Segments) J fun hlim7=>Cm J (Int.ofNat_lt.2 (A3 ha4))<|Az<|Y ?_
         refine A8<|O<|Ab 4 [0] [(130,(.I (j3:Int))),(129,(.sl 5 (List.map Bb a.Segments))),(127,(.I x6))] ?_
         refine Z (.cp (Bb a4) 0) J (Bs (Cv Jr Hk J ha4))<|Ab 2 [] [(133,(.sl 2 (List.map Cb a4.Open)))] ?_
         refine Z (.I (a4.Open.length:Int)) J (Ay (A7 Lv))<|Ab 2 [] [(3,(.I (IntKind.wrap .i64 (x6+(a4.Open.length:Int)))))] ?_
         refine Aa<|Bj<|O<|Ab 3 [] [(7,(.I (IntKind.wrap .i64 ((j3:Int)+1))))] ?_
         refine Aa<|Bq (Pg (hW3 (IntKind.wrap .i64 (x6+(a4.Open.length:Int))) _ _ ⟨J,J⟩)) (.cons J (.cons J (.cons (Dj (A3 ha4) hlim7) .nil)))
        rintro x6 fr h ⟨rfl,rfl⟩
        refine Y<|Y<|O<|Ab 3 [0] [(122,(.sl 5 (List.map Bb a.Segments))),(120,(.I (a.Segments.length:Int)))] ?_
        refine Z (.I (a.Segments.length:Int)) J (Ay (A7 Jr))<|Z (.bool (decide ((a.Segments.length:Int)<(a.Segments.length:Int)))) J (Ba J J J)<|Aa<|Co J (Int.lt_irrefl _)<|Ct J<|Y<|Y ?_
        refine O<|Z (.I 0) J Aj<|Aa<|A8<|Dt [(1,(.q ids 0 g)),(3,(.I x6)),(8,(.I 0))] (FI J)<|Ej (P:=Tryz.prog) a.Routes (fun _ a5=>fun x8=>Kk a5 x8) ((C6 (fun x8=>(Di (fun _ a6=>fun x10=>Ko a6 x10) 0 a.Airports x8).bind ((fun x10=>.ok (decide (x10≤600))))) (fun r=>.ok r)):(Int ⊕ Bool)→R Bool) (fun j4=>fun x8=>fun(fr:Nat→AV) (h:Ae)=>fr=A6 [(1,(.q ids 0 g)),(3,(.I x8)),(8,(.I (j4:Int)))]∧h=hp h0 ids [(some (.rows g 8 [(Av a)]))]) x6 ?_ ?_ ?_
        ·exact⟨J,J⟩
        ·rintro j4 a5 ha5 W hW4 x8 fr h ⟨rfl,rfl⟩
         refine Ak (m':=Kk a5 x8) J (Ak (Kk.eq_1 _ _) ?_)
         refine Y<|Y<|O<|Ab 3 [0] [(138,(.sl 7 (List.map Bo a.Routes))),(136,(.I (j4:Int)))] ?_
         refine Z (.I (a.Routes.length:Int)) J (Ay (A7 I8))<|Z (.bool (decide ((j4:Int)<(a.Routes.length:Int)))) J (Ba J J J)<|Aa<|Do (t:=138) (L:=a.Routes) J fun hlim9=>Cm J (Int.ofNat_lt.2 (A3 ha5))<|Az<|Y ?_
         refine A8<|Y<|O<|Ab 4 [0] [(146,(.I (j4:Int))),(145,(.sl 7 (List.map Bo a.Routes))),(143,(.I x8))] ?_
         refine Z (.cp (Bo a5) 0) J (Bs (Cv I8 Gw J ha5))<|Ab 2 [] [(149,(.sl 1 (List.map (rI .i64) a5.Segments)))] ?_
         refine Z (.I (a5.Segments.length:Int)) J (Ay (A7 M4))<|Ab 2 [] [(3,(.I (IntKind.wrap .i64 (x8+(a5.Segments.length:Int)))))] ?_
         refine Aa<|Y<|O<|Ab 3 [0] [(154,(.I (j4:Int))),(153,(.sl 7 (List.map Bo a.Routes)))] ?_
         refine Z (.cp (Bo a5) 0) J (Bs (Cv I8 Gw J ha5))<|Ab 2 [] [(157,(.sl 1 (List.map rS a5.Names)))] ?_
         refine B0 [(.sl 1 (List.map rS a5.Names))] J J J J ((Sf a5.Names) _) (fun v _=>Cg Tryz.func13 hI) fun r2 _=>Z (.bool (!r2)) J (O3 J)<|Aa<|D2 J (fun hc3=>?_) (fun hc3=>?_)
         ·refine Az<|Bj<|O<|Ab 3 [] [(8,(.I (IntKind.wrap .i64 ((j4:Int)+1))))] ?_
          refine Aa<|Bq (Ey (hW4 (IntKind.wrap .i64 (x8+(a5.Segments.length:Int))) _ _ ⟨J,J⟩)) (.cons J (.cons J (.cons (Dj (A3 ha5) hlim9) .nil)))
         refine Y<|O<|Z (.bool false) J Aj<|Aa<|Ex<|F2<|Br (a:=false) (vs:=[(.bool false)]) Tryz.func13 hI J (.same _)
        rintro x8 fr h ⟨rfl,rfl⟩
        refine Ak (E5 _ _ _)<|Y<|Y<|O<|Ab 3 [0] [(138,(.sl 7 (List.map Bo a.Routes))),(136,(.I (a.Routes.length:Int)))] ?_
        refine Z (.I (a.Routes.length:Int)) J (Ay (A7 I8))<|Z (.bool (decide ((a.Routes.length:Int)<(a.Routes.length:Int)))) J (Ba J J J)<|Aa<|Co J (Int.lt_irrefl _)<|Ct J<|Y<|Y ?_
        refine O<|Z (.I 0) J Aj<|Aa<|A8<|Dt [(1,(.q ids 0 g)),(3,(.I x8)),(9,(.I 0))] (FI J)<|F3 (P:=Tryz.prog) a.Airports (fun _ a6=>fun x10=>Ko a6 x10) (((fun x10=>.ok (decide (x10≤600)))):Int→R Bool) (fun j5=>fun x10=>fun(fr:Nat→AV) (h:Ae)=>fr=A6 [(1,(.q ids 0 g)),(3,(.I x10)),(9,(.I (j5:Int)))]∧h=hp h0 ids [(some (.rows g 8 [(Av a)]))]) x8 ?_ ?_ ?_
        ·exact⟨J,J⟩
        ·rintro j5 a6 ha6 W hW5 x10 fr h ⟨rfl,rfl⟩
         refine Ak (m':=Ko a6 x10) J (Ak (Ko.eq_1 _ _) ?_)
         refine Y<|Y<|O<|Ab 3 [0] [(162,(.sl 2 (List.map A9 a.Airports))),(160,(.I (j5:Int)))] ?_
         refine Z (.I (a.Airports.length:Int)) J (Ay (A7 Mh))<|Z (.bool (decide ((j5:Int)<(a.Airports.length:Int)))) J (Ba J J J)<|Aa<|Do (t:=162) (L:=a.Airports) J fun hlim11=>Cm J (Int.ofNat_lt.2 (A3 ha6))<|Az<|Y ?_
         refine A8<|O<|Ab 4 [0] [(170,(.I (j5:Int))),(169,(.sl 2 (List.map A9 a.Airports))),(167,(.I x10))] ?_
         refine Z (.cp (A9 a6) 0) J (Bs (Cv Mh Jo J ha6))<|Ab 2 [] [(173,(.sl 2 (List.map Ds a6.Modes)))] ?_
         refine Z (.I (a6.Modes.length:Int)) J (Ay (A7 N6))<|Ab 2 [] [(3,(.I (IntKind.wrap .i64 (x10+(a6.Modes.length:Int)))))] ?_
         refine Aa<|Bj<|O<|Ab 3 [] [(9,(.I (IntKind.wrap .i64 ((j5:Int)+1))))] ?_
         refine Aa<|Bq (Pg (hW5 (IntKind.wrap .i64 (x10+(a6.Modes.length:Int))) _ _ ⟨J,J⟩)) (.cons J (.cons J (.cons (Dj (A3 ha6) hlim11) .nil)))
        rintro x10 fr h ⟨rfl,rfl⟩
        refine Y<|Y<|O<|Ab 3 [0] [(162,(.sl 2 (List.map A9 a.Airports))),(160,(.I (a.Airports.length:Int)))] ?_
        refine Z (.I (a.Airports.length:Int)) J (Ay (A7 Mh))<|Z (.bool (decide ((a.Airports.length:Int)<(a.Airports.length:Int)))) J (Ba J J J)<|Aa<|Co J (Int.lt_irrefl _)<|Ct J<|Y<|O ?_
        refine Ab 3 [] [(2,(.bool (decide (x10≤600))))] ?_
        refine Aa<|Br (a:=(decide (x10≤600))) (vs:=[(.bool (decide (x10≤600)))]) Tryz.func13 hI J (.same _)
       ·refine A5 (t:=50) hb13 J<|Ab 5 [] [(55,(.bool true))] ?_
        exact Bg hJ6 (.cons J (.cons (Es hb13) .nil))
       refine A5 (t:=50) hb13 J<|Ab 2 [0] [(52,(.sl 8 (List.map Bc a.Rules)))] ?_
       refine Bz (tj:=50) (.I (a.Rules.length:Int)) J J J (Ay (A7 E0))<|Ab 2 [] [(55,(.bool (decide ((a.Rules.length:Int) > 70))))] ?_
       exact Bg hJ6 (.cons J (.cons (Er hb13) .nil))
      ·refine A5 (t:=44) hb11 J<|Ab 5 [] [(49,(.bool true))] ?_
       exact Bg hJ5 (.cons J (.cons (Es hb11) .nil))
      refine A5 (t:=44) hb11 J<|Ab 2 [0] [(46,(.sl 4 (List.map By a.Classes)))] ?_
      refine Bz (tj:=44) (.I (a.Classes.length:Int)) J J J (Ay (A7 Mf))<|Ab 2 [] [(49,(.bool (decide ((a.Classes.length:Int) > 12))))] ?_
      exact Bg hJ5 (.cons J (.cons (Er hb11) .nil))
     ·refine A5 (t:=38) hb9 J<|Ab 5 [] [(43,(.bool true))] ?_
      exact Bg hJ4 (.cons J (.cons (Es hb9) .nil))
     refine A5 (t:=38) hb9 J<|Ab 2 [0] [(40,(.sl 2 (List.map A9 a.Airports)))] ?_
     refine Bz (tj:=38) (.I (a.Airports.length:Int)) J J J (Ay (A7 Mh))<|Ab 2 [] [(43,(.bool (decide ((a.Airports.length:Int) > 20))))] ?_
     exact Bg hJ4 (.cons J (.cons (Er hb9) .nil))
    ·refine A5 (t:=32) hb7 J<|Ab 5 [] [(37,(.bool true))] ?_
     exact Bg hJ3 (.cons J (.cons (Es hb7) .nil))
    refine A5 (t:=32) hb7 J<|Ab 2 [0] [(34,(.sl 7 (List.map Bo a.Routes)))] ?_
    refine Bz (tj:=32) (.I (a.Routes.length:Int)) J J J (Ay (A7 I8))<|Ab 2 [] [(37,(.bool (decide ((a.Routes.length:Int) > 70))))] ?_
    exact Bg hJ3 (.cons J (.cons (Er hb7) .nil))
   ·refine A5 (t:=26) hb5 J<|Ab 5 [] [(31,(.bool true))] ?_
    exact Bg hJ2 (.cons J (.cons (Es hb5) .nil))
   refine A5 (t:=26) hb5 J<|Ab 2 [0] [(28,(.sl 5 (List.map Bb a.Segments)))] ?_
   refine Bz (tj:=26) (.I (a.Segments.length:Int)) J J J (Ay (A7 Jr))<|Ab 2 [] [(31,(.bool (decide ((a.Segments.length:Int) > 130))))] ?_
   exact Bg hJ2 (.cons J (.cons (Er hb5) .nil))
  ·refine A5 (t:=20) hb3 J<|Ab 5 [] [(25,(.bool true))] ?_
   exact Bg hJ1 (.cons J (.cons (Es hb3) .nil))
  refine A5 (t:=20) hb3 J<|Ab 2 [0] [(22,(.sl 3 (List.map Bd a.Configs)))] ?_
  refine Bz (tj:=20) (.I (a.Configs.length:Int)) J J J (Ay (A7 Ja))<|Ab 2 [] [(25,(.bool (decide ((a.Configs.length:Int) > 40))))] ?_
  exact Bg hJ1 (.cons J (.cons (Er hb3) .nil))
 ·refine A5 (t:=14) hb1 J<|Ab 5 [] [(19,(.bool true))] ?_
  exact Bg hJ (.cons J (.cons (Es hb1) .nil))
 refine A5 (t:=14) hb1 J<|Ab 2 [0] [(16,(.sl 5 (List.map A4 a.Sectors)))] ?_
 refine Bz (tj:=14) (.I (a.Sectors.length:Int)) J J J (Ay (A7 H3))<|Ab 2 [] [(19,(.bool (decide ((a.Sectors.length:Int) > 70))))] ?_
 exact Bg hJ (.cons J (.cons (Er hb1) .nil))
theorem Abc (a:Airspace):CP Tryz.prog 15 [(.agg (Av a))] (On a) (fun(x:Airspace)=>(AV.agg (Av x))):=by
 refine C0 (n:=120) 13 Tryz.func15 J (by decide) J J fun h0 ids hI=>Bn (Ak (On.eq_1 _) ?_)
 refine Y<|O<|Cx (v:=(.agg (Av a))) (j:=0) hI J J J J J J J fun g=>Bf (j:=1) hI J J J J Ee J fun g1=>Aa<|Al ?_
 refine Y<|O<|Ab 7 [0,0,0] [(20,(.agg [(.sl 2 (List.map As a.Volumes)),.emp,.emp,.emp,.emp,(.sl 2 (List.map A9 a.Airports)),(.sl 4 (List.map By a.Classes)),.emp]))] ?_
 refine Bf (j:=2) hI J J J J Ee J fun g2=>Ar (A0 (v:=(.agg [(.sl 2 (List.map As a.Volumes)),.emp,.emp,.emp,.emp,(.sl 2 (List.map A9 a.Airports)),(.sl 4 (List.map By a.Classes)),.emp])) hI J J J J Ee J J J J J)<|Aa<|Al ?_
 refine Y<|Y<|O<|Z (.I 0) J Aj<|Aa<|A8<|Dt [(1,(.q ids 0 g)),(2,(.q ids 1 g1)),(3,(.q ids 2 g2)),(4,(.I 0))] (FI J) ?_
 refine F3 (P:=Tryz.prog) a.Sectors (fun _ a1=>fun l=>L4 a1 l) (((fun l=>(Di (fun _ a2=>fun l1=>Kh a2 l1) 0 a.Configs []).bind ((fun l1=>(Di (fun _ a3=>fun l2=>Ik a3 l2) 0 a.Segments []).bind ((fun l2=>(Di (fun _ a4=>fun l3=>G5 a4 l3) 0 a.Routes []).bind ((fun l3=>(Di (fun _ a5=>fun l4=>Gd a5 l4) 0 a.Rules []).bind ((fun l4=>.ok ({ Volumes:=a.Volumes,Sectors:=l,Configs:=l1,Segments:=l2,Routes:=l3,Airports:=a.Airports,Classes:=a.Classes,Rules:=l4 }:Airspace))))))))))):(List Sector)→R Airspace) (fun j=>fun l=>fun(fr:Nat→AV) (h:Ae) => ∃ (v:AV),∃ (g3:Nat),A2 v (ix ids 4) g3 l.length∧fr=A6 [(1,(.q ids 0 g)),(2,(.q ids 1 g1)),(3,(.q ids 2 g2)),(4,(.I (j:Int)))]∧h=hp h0 ids [(some (.rows g 8 [(Av a)])),(some (.rows g1 8 [[.emp,.emp,.emp,.emp,.emp,.emp,.emp,.emp]])),(some (.rows g2 8 [[(.sl 2 (List.map As a.Volumes)),v,.emp,.emp,.emp,(.sl 2 (List.map A9 a.Airports)),(.sl 4 (List.map By a.Classes)),.emp]])),none,(Ah v g3 5 (List.map A4 l)),none,none,none,none,none,none,none,none]) [] ?_ ?_ ?_
 ·exact⟨.emp,0,.nil,J,J⟩
 ·rintro j a1 ha1 W hW l fr h ⟨v,g3,vH,rfl,rfl⟩
  refine Ak (m':=L4 a1 l) J (Ak (L4.eq_1 _ _) ?_)
  refine Y<|Y<|O<|Ab 3 [0] [(23,(.sl 5 (List.map A4 a.Sectors))),(21,(.I (j:Int)))] ?_
  refine Z (.I (a.Sectors.length:Int)) J (Ay (A7 H3))<|Z (.bool (decide ((j:Int)<(a.Sectors.length:Int)))) J (Ba J J J)<|Aa<|Do (t:=23) (L:=a.Sectors) J fun hlim1=>Cm J (Int.ofNat_lt.2 (A3 ha1))<|Az<|Y ?_
  refine A8<|Y<|O<|Ab 3 [0] [(30,(.I (j:Int))),(29,(.sl 5 (List.map A4 a.Sectors)))] ?_
  refine Z (.cp (A4 a1) 0) J (Bs (Cv H3 Gl J ha1))<|Z (.agg (A4 a1)) J (Au (Cr Gl J))<|Bf (j:=3) hI J J J J Gl J fun g4=>Ar (A0 (v:=(.agg (A4 a1))) hI J J J J Gl J J J J J)<|Aa<|Al ?_
  refine Y<|O<|Z (.ptr (ix ids 3) g4 0 2) J (Ca (B9 (c:=0) (off:=2) (i:=2) Gl J M4 J))<|Ar (A0 (v:=.emp) hI J J J J M4 J J J J J)<|Aa<|Al ?_
  refine O<|Ab 3 [2,3] [(36,(.agg [(.str a1.Name),(.sl 1 (List.map rS a1.Names)),.emp,(.I a1.Radar),(.I a1.Procedural)])),(35,v)] ?_
  refine Df (e:=A4) (L:=[({ Name:=a1.Name,Names:=a1.Names,Volumes:=[],Radar:=a1.Radar,Procedural:=a1.Procedural }:Sector)]) (st:=5) (rows:=[[(.str a1.Name),(.sl 1 (List.map rS a1.Names)),.emp,(.I a1.Radar),(.I a1.Procedural)]]) J H3 Gl J J J J J (.cons (.cons (.same _) (.cons (.same _) (.cons (.emp _) (.cons (.same _) (.cons (.same _) .nil))))) .nil) (fun x=>P6 x) J J<|Gj fun hl=>P7 (e:=A4) (L:=l) (L2:=[({ Name:=a1.Name,Names:=a1.Names,Volumes:=[],Radar:=a1.Radar,Procedural:=a1.Procedural }:Sector)]) (v:=v) (g:=g3) (st:=5) (j:=4) hI J J J J vH J (Kn J) H3 H3 J Gl J J J hl fun v1 g5 vH1=>Z (.ptr (ix ids 2) g2 0 1) J (Ca (B9 (c:=0) (off:=1) (i:=1) Ee J H3 J))<|Ar (Jl vH1 hI J J J J H3 J J J)<|Aa<|Al ?_
  refine Bj<|O<|Ab 3 [] [(4,(.I (IntKind.wrap .i64 ((j:Int)+1))))] ?_
  refine Aa<|Eh [(some (.rows g 8 [(Av a)])),(some (.rows g1 8 [[.emp,.emp,.emp,.emp,.emp,.emp,.emp,.emp]])),(some (.rows g2 8 [[(.sl 2 (List.map As a.Volumes)),v1,.emp,.emp,.emp,(.sl 2 (List.map A9 a.Airports)),(.sl 4 (List.map By a.Classes)),.emp]])),none,(Ah v1 g5 5 (List.map A4 (l++[({ Name:=a1.Name,Names:=a1.Names,Volumes:=[],Radar:=a1.Radar,Procedural:=a1.Procedural }:Sector)]))),none,none,none,none,none,none,none,none] hI J (.keep (.keep (.keep (.drop (.keep (.keep (.keep (.keep (.keep (.keep (.keep (.keep (.keep .nil)))))))))))))<|Bq (Pg (hW (l++[({ Name:=a1.Name,Names:=a1.Names,Volumes:=[],Radar:=a1.Radar,Procedural:=a1.Procedural }:Sector)]) _ _ ⟨v1,g5,vH1,J,J⟩)) (.cons J (.cons J (.cons J (.cons (Dj (A3 ha1) hlim1) .nil))))
 rintro l fr h ⟨v,g3,vH,rfl,rfl⟩
 refine Y<|Y<|O<|Ab 3 [0] [(23,(.sl 5 (List.map A4 a.Sectors))),(21,(.I (a.Sectors.length:Int)))] ?_
 refine Z (.I (a.Sectors.length:Int)) J (Ay (A7 H3))<|Z (.bool (decide ((a.Sectors.length:Int)<(a.Sectors.length:Int)))) J (Ba J J J)<|Aa<|Co J (Int.lt_irrefl _)<|Ct J<|Y<|Y ?_
 refine O<|Z (.I 0) J Aj<|Aa<|A8<|Dt [(1,(.q ids 0 g)),(2,(.q ids 1 g1)),(3,(.q ids 2 g2)),(6,(.I 0))] (FI J)<|F3 (P:=Tryz.prog) a.Configs (fun _ a2=>fun l1=>Kh a2 l1) (((fun l1=>(Di (fun _ a3=>fun l2=>Ik a3 l2) 0 a.Segments []).bind ((fun l2=>(Di (fun _ a4=>fun l3=>G5 a4 l3) 0 a.Routes []).bind ((fun l3=>(Di (fun _ a5=>fun l4=>Gd a5 l4) 0 a.Rules []).bind ((fun l4=>.ok ({ Volumes:=a.Volumes,Sectors:=l,Configs:=l1,Segments:=l2,Routes:=l3,Airports:=a.Airports,Classes:=a.Classes,Rules:=l4 }:Airspace))))))))):(List Config)→R Airspace) (fun j1=>fun l1=>fun(fr:Nat→AV) (h:Ae) => ∃ (v2:AV),∃ (g6:Nat),A2 v2 (ix ids 6) g6 l1.length∧fr=A6 [(1,(.q ids 0 g)),(2,(.q ids 1 g1)),(3,(.q ids 2 g2)),(6,(.I (j1:Int)))]∧h=hp h0 ids [(some (.rows g 8 [(Av a)])),(some (.rows g1 8 [[.emp,.emp,.emp,.emp,.emp,.emp,.emp,.emp]])),(some (.rows g2 8 [[(.sl 2 (List.map As a.Volumes)),v,v2,.emp,.emp,(.sl 2 (List.map A9 a.Airports)),(.sl 4 (List.map By a.Classes)),.emp]])),none,(Ah v g3 5 (List.map A4 l)),none,(Ah v2 g6 3 (List.map Bd l1)),none,none,none,none,none,none]) [] ?_ ?_ ?_
 ·exact⟨.emp,0,.nil,J,J⟩
 ·rintro j1 a2 ha2 W hW1 l1 fr h ⟨v2,g6,vH2,rfl,rfl⟩
  refine Ak (m':=Kh a2 l1) J (Ak (Kh.eq_1 _ _) ?_)
  refine Y<|Y<|O<|Ab 3 [0] [(42,(.sl 3 (List.map Bd a.Configs))),(40,(.I (j1:Int)))] ?_
  refine Z (.I (a.Configs.length:Int)) J (Ay (A7 Ja))<|Z (.bool (decide ((j1:Int)<(a.Configs.length:Int)))) J (Ba J J J)<|Aa<|Do (t:=42) (L:=a.Configs) J fun hlim3=>Cm J (Int.ofNat_lt.2 (A3 ha2))<|Az<|Y ?_
  refine A8<|Y<|O<|Ab 3 [0] [(49,(.I (j1:Int))),(48,(.sl 3 (List.map Bd a.Configs)))] ?_
  refine Z (.cp (Bd a2) 0) J (Bs (Cv Ja Ic J ha2))<|Z (.agg (Bd a2)) J (Au (Cr Ic J))<|Bf (j:=5) hI J J J J Ic J fun g7=>Ar (A0 (v:=(.agg (Bd a2))) hI J J J J Ic J J J J J)<|Aa<|Al ?_
  refine Y<|O<|Z (.ptr (ix ids 5) g7 0 2) J (Ca (B9 (c:=0) (off:=2) (i:=2) Ic J M4 J))<|Ar (A0 (v:=.emp) hI J J J J M4 J J J J J)<|Aa<|Al ?_
  refine O<|Ab 3 [2,5] [(55,(.agg [(.str a2.Name),(.sl 1 (List.map rS a2.Names)),.emp])),(54,v2)] ?_
  refine Df (e:=Bd) (L:=[({ Name:=a2.Name,Names:=a2.Names,Sectors:=[] }:Config)]) (st:=3) (rows:=[[(.str a2.Name),(.sl 1 (List.map rS a2.Names)),.emp]]) J Ja Ic J J J J J (.cons (.cons (.same _) (.cons (.same _) (.cons (.emp _) .nil))) .nil) (fun x=>Tb x) J J<|Gj fun hl1=>P7 (e:=Bd) (L:=l1) (L2:=[({ Name:=a2.Name,Names:=a2.Names,Sectors:=[] }:Config)]) (v:=v2) (g:=g6) (st:=3) (j:=6) hI J J J J vH2 J (Kn J) Ja Ja J Ic J J J hl1 fun v3 g8 vH3=>Z (.ptr (ix ids 2) g2 0 2) J (Ca (B9 (c:=0) (off:=2) (i:=2) Ee J Ja J))<|Ar (Jl vH3 hI J J J J Ja J J J)<|Aa<|Al ?_
  refine Bj<|O<|Ab 3 [] [(6,(.I (IntKind.wrap .i64 ((j1:Int)+1))))] ?_
  refine Aa<|Eh [(some (.rows g 8 [(Av a)])),(some (.rows g1 8 [[.emp,.emp,.emp,.emp,.emp,.emp,.emp,.emp]])),(some (.rows g2 8 [[(.sl 2 (List.map As a.Volumes)),v,v3,.emp,.emp,(.sl 2 (List.map A9 a.Airports)),(.sl 4 (List.map By a.Classes)),.emp]])),none,(Ah v g3 5 (List.map A4 l)),none,(Ah v3 g8 3 (List.map Bd (l1++[({ Name:=a2.Name,Names:=a2.Names,Sectors:=[] }:Config)]))),none,none,none,none,none,none] hI J (.keep (.keep (.keep (.keep (.keep (.drop (.keep (.keep (.keep (.keep (.keep (.keep (.keep .nil)))))))))))))<|Bq (Pg (hW1 (l1++[({ Name:=a2.Name,Names:=a2.Names,Sectors:=[] }:Config)]) _ _ ⟨v3,g8,vH3,J,J⟩)) (.cons J (.cons J (.cons J (.cons (Dj (A3 ha2) hlim3) .nil))))
 rintro l1 fr h ⟨v2,g6,vH2,rfl,rfl⟩
 refine Y<|Y<|O<|Ab 3 [0] [(42,(.sl 3 (List.map Bd a.Configs))),(40,(.I (a.Configs.length:Int)))] ?_
 refine Z (.I (a.Configs.length:Int)) J (Ay (A7 Ja))<|Z (.bool (decide ((a.Configs.length:Int)<(a.Configs.length:Int)))) J (Ba J J J)<|Aa<|Co J (Int.lt_irrefl _)<|Ct J<|Y<|Y ?_
 refine O<|Z (.I 0) J Aj<|Aa<|A8<|Dt [(1,(.q ids 0 g)),(2,(.q ids 1 g1)),(3,(.q ids 2 g2)),(8,(.I 0))] (FI J)<|F3 (P:=Tryz.prog) a.Segments (fun _ a3=>fun l2=>Ik a3 l2) (((fun l2=>(Di (fun _ a4=>fun l3=>G5 a4 l3) 0 a.Routes []).bind ((fun l3=>(Di (fun _ a5=>fun l4=>Gd a5 l4) 0 a.Rules []).bind ((fun l4=>.ok ({ Volumes:=a.Volumes,Sectors:=l,Configs:=l1,Segments:=l2,Routes:=l3,Airports:=a.Airports,Classes:=a.Classes,Rules:=l4 }:Airspace))))))):(List Segment)→R Airspace) (fun j2=>fun l2=>fun(fr:Nat→AV) (h:Ae) => ∃ (v4:AV),∃ (g9:Nat),A2 v4 (ix ids 8) g9 l2.length∧fr=A6 [(1,(.q ids 0 g)),(2,(.q ids 1 g1)),(3,(.q ids 2 g2)),(8,(.I (j2:Int)))]∧h=hp h0 ids [(some (.rows g 8 [(Av a)])),(some (.rows g1 8 [[.emp,.emp,.emp,.emp,.emp,.emp,.emp,.emp]])),(some (.rows g2 8 [[(.sl 2 (List.map As a.Volumes)),v,v2,v4,.emp,(.sl 2 (List.map A9 a.Airports)),(.sl 4 (List.map By a.Classes)),.emp]])),none,(Ah v g3 5 (List.map A4 l)),none,(Ah v2 g6 3 (List.map Bd l1)),none,(Ah v4 g9 5 (List.map Bb l2)),none,none,none,none]) [] ?_ ?_ ?_
 ·exact⟨.emp,0,.nil,J,J⟩
 ·rintro j2 a3 ha3 W hW2 l2 fr h ⟨v4,g9,vH4,rfl,rfl⟩
  refine Ak (m':=Ik a3 l2) J (Ak (Ik.eq_1 _ _) ?_)
  refine Y<|Y<|O<|Ab 3 [0] [(61,(.sl 5 (List.map Bb a.Segments))),(59,(.I (j2:Int)))] ?_
  refine Z (.I (a.Segments.length:Int)) J (Ay (A7 Jr))<|Z (.bool (decide ((j2:Int)<(a.Segments.length:Int)))) J (Ba J J J)<|Aa<|Do (t:=61) (L:=a.Segments) J fun hlim5=>Cm J (Int.ofNat_lt.2 (A3 ha3))<|Az<|Y ?_
  refine A8<|Y<|O<|Ab 3 [0] [(68,(.I (j2:Int))),(67,(.sl 5 (List.map Bb a.Segments)))] ?_
  refine Z (.cp (Bb a3) 0) J (Bs (Cv Jr Hk J ha3))<|Z (.agg (Bb a3)) J (Au (Cr Hk J))<|Bf (j:=7) hI J J J J Hk J fun g10=>Ar (A0 (v:=(.agg (Bb a3))) hI J J J J Hk J J J J J)<|Aa<|Al ?_
  refine Y<|O<|Z (.ptr (ix ids 7) g10 0 2) J (Ca (B9 (c:=0) (off:=2) (i:=2) Hk J Dw J))<|Ar (A0 (v:=(.I 0)) hI J J J J Dw J J J J J)<|Aa<|Al ?_
  refine O<|Ab 3 [2,7] [(74,(.agg [(.str a3.Name),(.str a3.In),(.I 0),(.I a3.Length),(.sl 2 (List.map Cb a3.Open))])),(73,v4)] ?_
  refine Df (e:=Bb) (L:=[({ Name:=a3.Name,In:=a3.In,Volume:=0,Length:=a3.Length,Open:=a3.Open }:Segment)]) (st:=5) (rows:=[[(.str a3.Name),(.str a3.In),(.I 0),(.I a3.Length),(.sl 2 (List.map Cb a3.Open))]]) J Jr Hk J J J J J (.cons (.cons (.same _) (.cons (.same _) (.cons (.same _) (.cons (.same _) (.cons (.same _) .nil))))) .nil) (fun x=>R8 x) J J<|Gj fun hl2=>P7 (e:=Bb) (L:=l2) (L2:=[({ Name:=a3.Name,In:=a3.In,Volume:=0,Length:=a3.Length,Open:=a3.Open }:Segment)]) (v:=v4) (g:=g9) (st:=5) (j:=8) hI J J J J vH4 J (Kn J) Jr Jr J Hk J J J hl2 fun v5 g11 vH5=>Z (.ptr (ix ids 2) g2 0 3) J (Ca (B9 (c:=0) (off:=3) (i:=3) Ee J Jr J))<|Ar (Jl vH5 hI J J J J Jr J J J)<|Aa<|Al ?_
  refine Bj<|O<|Ab 3 [] [(8,(.I (IntKind.wrap .i64 ((j2:Int)+1))))] ?_
  refine Aa<|Eh [(some (.rows g 8 [(Av a)])),(some (.rows g1 8 [[.emp,.emp,.emp,.emp,.emp,.emp,.emp,.emp]])),(some (.rows g2 8 [[(.sl 2 (List.map As a.Volumes)),v,v2,v5,.emp,(.sl 2 (List.map A9 a.Airports)),(.sl 4 (List.map By a.Classes)),.emp]])),none,(Ah v g3 5 (List.map A4 l)),none,(Ah v2 g6 3 (List.map Bd l1)),none,(Ah v5 g11 5 (List.map Bb (l2++[({ Name:=a3.Name,In:=a3.In,Volume:=0,Length:=a3.Length,Open:=a3.Open }:Segment)]))),none,none,none,none] hI J (.keep (.keep (.keep (.keep (.keep (.keep (.keep (.drop (.keep (.keep (.keep (.keep (.keep .nil)))))))))))))<|Bq (Pg (hW2 (l2++[({ Name:=a3.Name,In:=a3.In,Volume:=0,Length:=a3.Length,Open:=a3.Open }:Segment)]) _ _ ⟨v5,g11,vH5,J,J⟩)) (.cons J (.cons J (.cons J (.cons (Dj (A3 ha3) hlim5) .nil))))
 rintro l2 fr h ⟨v4,g9,vH4,rfl,rfl⟩
 refine Y<|Y<|O<|Ab 3 [0] [(61,(.sl 5 (List.map Bb a.Segments))),(59,(.I (a.Segments.length:Int)))] ?_
 refine Z (.I (a.Segments.length:Int)) J (Ay (A7 Jr))<|Z (.bool (decide ((a.Segments.length:Int)<(a.Segments.length:Int)))) J (Ba J J J)<|Aa<|Co J (Int.lt_irrefl _)<|Ct J<|Y<|Y ?_
 refine O<|Z (.I 0) J Aj<|Aa<|A8<|Dt [(1,(.q ids 0 g)),(2,(.q ids 1 g1)),(3,(.q ids 2 g2)),(10,(.I 0))] (FI J)<|F3 (P:=Tryz.prog) a.Routes (fun _ a4=>fun l3=>G5 a4 l3) (((fun l3=>(Di (fun _ a5=>fun l4=>Gd a5 l4) 0 a.Rules []).bind ((fun l4=>.ok ({ Volumes:=a.Volumes,Sectors:=l,Configs:=l1,Segments:=l2,Routes:=l3,Airports:=a.Airports,Classes:=a.Classes,Rules:=l4 }:Airspace))))):(List Route)→R Airspace) (fun j3=>fun l3=>fun(fr:Nat→AV) (h:Ae) => ∃ (v6:AV),∃ (g12:Nat),A2 v6 (ix ids 10) g12 l3.length∧fr=A6 [(1,(.q ids 0 g)),(2,(.q ids 1 g1)),(3,(.q ids 2 g2)),(10,(.I (j3:Int)))]∧h=hp h0 ids [(some (.rows g 8 [(Av a)])),(some (.rows g1 8 [[.emp,.emp,.emp,.emp,.emp,.emp,.emp,.emp]])),(some (.rows g2 8 [[(.sl 2 (List.map As a.Volumes)),v,v2,v4,v6,(.sl 2 (List.map A9 a.Airports)),(.sl 4 (List.map By a.Classes)),.emp]])),none,(Ah v g3 5 (List.map A4 l)),none,(Ah v2 g6 3 (List.map Bd l1)),none,(Ah v4 g9 5 (List.map Bb l2)),none,(Ah v6 g12 7 (List.map Bo l3)),none,none]) [] ?_ ?_ ?_
 ·exact⟨.emp,0,.nil,J,J⟩
 ·rintro j3 a4 ha4 W hW3 l3 fr h ⟨v6,g12,vH6,rfl,rfl⟩
  refine Ak (m':=G5 a4 l3) J (Ak (G5.eq_1 _ _) ?_)
  refine Y<|Y<|O<|Ab 3 [0] [(80,(.sl 7 (List.map Bo a.Routes))),(78,(.I (j3:Int)))] ?_
  refine Z (.I (a.Routes.length:Int)) J (Ay (A7 I8))<|Z (.bool (decide ((j3:Int)<(a.Routes.length:Int)))) J (Ba J J J)<|Aa<|Do (t:=80) (L:=a.Routes) J fun hlim7=>Cm J (Int.ofNat_lt.2 (A3 ha4))<|Az<|Y ?_
  refine A8<|Y<|O<|Ab 3 [0] [(87,(.I (j3:Int))),(86,(.sl 7 (List.map Bo a.Routes)))] ?_
  refine Z (.cp (Bo a4) 0) J (Bs (Cv I8 Gw J ha4))<|Z (.agg (Bo a4)) J (Au (Cr Gw J))<|Bf (j:=9) hI J J J J Gw J fun g13=>Ar (A0 (v:=(.agg (Bo a4))) hI J J J J Gw J J J J J)<|Aa<|Al ?_
  refine Y<|O<|Z (.ptr (ix ids 9) g13 0 3) J (Ca (B9 (c:=0) (off:=3) (i:=3) Gw J Dw J))<|Ar (A0 (v:=(.I 0)) hI J J J J Dw J J J J J)<|Aa<|Al ?_
  refine Y<|O<|Z (.ptr (ix ids 9) g13 0 4) J (Ca (B9 (c:=0) (off:=4) (i:=4) Gw J Dw J))<|Ar (A0 (v:=(.I 0)) hI J J J J Dw J J J J J)<|Aa<|Al ?_
  refine Y<|O<|Z (.ptr (ix ids 9) g13 0 6) J (Ca (B9 (c:=0) (off:=6) (i:=6) Gw J M4 J))<|Ar (A0 (v:=.emp) hI J J J J M4 J J J J J)<|Aa<|Al ?_
  refine O<|Ab 3 [2,9] [(95,(.agg [(.str a4.Name),(.str a4.A),(.str a4.B),(.I 0),(.I 0),(.sl 1 (List.map rS a4.Names)),.emp])),(94,v6)] ?_
  refine Df (e:=Bo) (L:=[({ Name:=a4.Name,A:=a4.A,B:=a4.B,From:=0,To:=0,Names:=a4.Names,Segments:=[] }:Route)]) (st:=7) (rows:=[[(.str a4.Name),(.str a4.A),(.str a4.B),(.I 0),(.I 0),(.sl 1 (List.map rS a4.Names)),.emp]]) J I8 Gw J J J J J (.cons (.cons (.same _) (.cons (.same _) (.cons (.same _) (.cons (.same _) (.cons (.same _) (.cons (.same _) (.cons (.emp _) .nil))))))) .nil) (fun x=>Us x) J J<|Gj fun hl3=>P7 (e:=Bo) (L:=l3) (L2:=[({ Name:=a4.Name,A:=a4.A,B:=a4.B,From:=0,To:=0,Names:=a4.Names,Segments:=[] }:Route)]) (v:=v6) (g:=g12) (st:=7) (j:=10) hI J J J J vH6 J (Kn J) I8 I8 J Gw J J J hl3 fun v7 g14 vH7=>Z (.ptr (ix ids 2) g2 0 4) J (Ca (B9 (c:=0) (off:=4) (i:=4) Ee J I8 J))<|Ar (Jl vH7 hI J J J J I8 J J J)<|Aa<|Al ?_
  refine Bj<|O<|Ab 3 [] [(10,(.I (IntKind.wrap .i64 ((j3:Int)+1))))] ?_
  refine Aa<|Eh [(some (.rows g 8 [(Av a)])),(some (.rows g1 8 [[.emp,.emp,.emp,.emp,.emp,.emp,.emp,.emp]])),(some (.rows g2 8 [[(.sl 2 (List.map As a.Volumes)),v,v2,v4,v7,(.sl 2 (List.map A9 a.Airports)),(.sl 4 (List.map By a.Classes)),.emp]])),none,(Ah v g3 5 (List.map A4 l)),none,(Ah v2 g6 3 (List.map Bd l1)),none,(Ah v4 g9 5 (List.map Bb l2)),none,(Ah v7 g14 7 (List.map Bo (l3++[({ Name:=a4.Name,A:=a4.A,B:=a4.B,From:=0,To:=0,Names:=a4.Names,Segments:=[] }:Route)]))),none,none] hI J (.keep (.keep (.keep (.keep (.keep (.keep (.keep (.keep (.keep (.drop (.keep (.keep (.keep .nil)))))))))))))<|Bq (Pg (hW3 (l3++[({ Name:=a4.Name,A:=a4.A,B:=a4.B,From:=0,To:=0,Names:=a4.Names,Segments:=[] }:Route)]) _ _ ⟨v7,g14,vH7,J,J⟩)) (.cons J (.cons J (.cons J (.cons (Dj (A3 ha4) hlim7) .nil))))
 rintro l3 fr h ⟨v6,g12,vH6,rfl,rfl⟩
 refine Y<|Y<|O<|Ab 3 [0] [(80,(.sl 7 (List.map Bo a.Routes))),(78,(.I (a.Routes.length:Int)))] ?_
 refine Z (.I (a.Routes.length:Int)) J (Ay (A7 I8))<|Z (.bool (decide ((a.Routes.length:Int)<(a.Routes.length:Int)))) J (Ba J J J)<|Aa<|Co J (Int.lt_irrefl _)<|Ct J<|Y<|Y ?_
 refine O<|Z (.I 0) J Aj<|Aa<|A8<|Dt [(1,(.q ids 0 g)),(2,(.q ids 1 g1)),(3,(.q ids 2 g2)),(12,(.I 0))] (FI J)<|F3 (P:=Tryz.prog) a.Rules (fun _ a5=>fun l4=>Gd a5 l4) (((fun l4=>.ok ({ Volumes:=a.Volumes,Sectors:=l,Configs:=l1,Segments:=l2,Routes:=l3,Airports:=a.Airports,Classes:=a.Classes,Rules:=l4 }:Airspace))):(List Rule)→R Airspace) (fun j4=>fun l4=>fun(fr:Nat→AV) (h:Ae) => ∃ (v8:AV),∃ (g15:Nat),A2 v8 (ix ids 12) g15 l4.length∧fr=A6 [(1,(.q ids 0 g)),(2,(.q ids 1 g1)),(3,(.q ids 2 g2)),(12,(.I (j4:Int)))]∧h=hp h0 ids [(some (.rows g 8 [(Av a)])),(some (.rows g1 8 [[.emp,.emp,.emp,.emp,.emp,.emp,.emp,.emp]])),(some (.rows g2 8 [[(.sl 2 (List.map As a.Volumes)),v,v2,v4,v6,(.sl 2 (List.map A9 a.Airports)),(.sl 4 (List.map By a.Classes)),v8]])),none,(Ah v g3 5 (List.map A4 l)),none,(Ah v2 g6 3 (List.map Bd l1)),none,(Ah v4 g9 5 (List.map Bb l2)),none,(Ah v6 g12 7 (List.map Bo l3)),none,(Ah v8 g15 8 (List.map Bc l4))]) [] ?_ ?_ ?_
 ·exact⟨.emp,0,.nil,J,J⟩
 ·rintro j4 a5 ha5 W hW4 l4 fr h ⟨v8,g15,vH8,rfl,rfl⟩
  refine Ak (m':=Gd a5 l4) J (Ak (Gd.eq_1 _ _) ?_)
  refine Y<|Y<|O<|Ab 3 [0] [(101,(.sl 8 (List.map Bc a.Rules))),(99,(.I (j4:Int)))] ?_
  refine Z (.I (a.Rules.length:Int)) J (Ay (A7 E0))<|Z (.bool (decide ((j4:Int)<(a.Rules.length:Int)))) J (Ba J J J)<|Aa<|Do (t:=101) (L:=a.Rules) J fun hlim9=>Cm J (Int.ofNat_lt.2 (A3 ha5))<|Az<|Y ?_
  refine A8<|Y<|O<|Ab 3 [0] [(108,(.I (j4:Int))),(107,(.sl 8 (List.map Bc a.Rules)))] ?_
  refine Z (.cp (Bc a5) 0) J (Bs (Cv E0 Dp J ha5))<|Z (.agg (Bc a5)) J (Au (Cr Dp J))<|Bf (j:=11) hI J J J J Dp J fun g16=>Ar (A0 (v:=(.agg (Bc a5))) hI J J J J Dp J J J J J)<|Aa<|Al ?_
  refine Y<|O<|Z (.ptr (ix ids 11) g16 0 3) J (Ca (B9 (c:=0) (off:=3) (i:=3) Dp J Dw J))<|Ar (A0 (v:=(.I 0)) hI J J J J Dw J J J J J)<|Aa<|Al ?_
  refine Y<|O<|Z (.ptr (ix ids 11) g16 0 4) J (Ca (B9 (c:=0) (off:=4) (i:=4) Dp J Dw J))<|Ar (A0 (v:=(.I 0)) hI J J J J Dw J J J J J)<|Aa<|Al ?_
  refine O<|Ab 3 [2,11] [(115,(.agg [(.I a5.Kind),(.str a5.C),(.str a5.A),(.I 0),(.I 0),(.I a5.N),(.I a5.Hours.From),(.I a5.Hours.To)])),(114,v8)] ?_
  refine Df (e:=Bc) (L:=[({ Kind:=a5.Kind,C:=a5.C,A:=a5.A,Class:=0,Airport:=0,N:=a5.N,Hours:=a5.Hours }:Rule)]) (st:=8) (rows:=[[(.I a5.Kind),(.str a5.C),(.str a5.A),(.I 0),(.I 0),(.I a5.N),(.I a5.Hours.From),(.I a5.Hours.To)]]) J E0 Dp J J J J J (.cons (.cons (.same _) (.cons (.same _) (.cons (.same _) (.cons (.same _) (.cons (.same _) (.cons (.same _) (.cons (.same _) (.cons (.same _) .nil)))))))) .nil) (fun x=>Qy x) J J<|Gj fun hl4=>P7 (e:=Bc) (L:=l4) (L2:=[({ Kind:=a5.Kind,C:=a5.C,A:=a5.A,Class:=0,Airport:=0,N:=a5.N,Hours:=a5.Hours }:Rule)]) (v:=v8) (g:=g15) (st:=8) (j:=12) hI J J J J vH8 J (Kn J) E0 E0 J Dp J J J hl4 fun v9 g17 vH9=>Z (.ptr (ix ids 2) g2 0 7) J (Ca (B9 (c:=0) (off:=7) (i:=7) Ee J E0 J))<|Ar (Jl vH9 hI J J J J E0 J J J)<|Aa<|Al ?_
  refine Bj<|O<|Ab 3 [] [(12,(.I (IntKind.wrap .i64 ((j4:Int)+1))))] ?_
  refine Aa<|Eh [(some (.rows g 8 [(Av a)])),(some (.rows g1 8 [[.emp,.emp,.emp,.emp,.emp,.emp,.emp,.emp]])),(some (.rows g2 8 [[(.sl 2 (List.map As a.Volumes)),v,v2,v4,v6,(.sl 2 (List.map A9 a.Airports)),(.sl 4 (List.map By a.Classes)),v9]])),none,(Ah v g3 5 (List.map A4 l)),none,(Ah v2 g6 3 (List.map Bd l1)),none,(Ah v4 g9 5 (List.map Bb l2)),none,(Ah v6 g12 7 (List.map Bo l3)),none,(Ah v9 g17 8 (List.map Bc (l4++[({ Kind:=a5.Kind,C:=a5.C,A:=a5.A,Class:=0,Airport:=0,N:=a5.N,Hours:=a5.Hours }:Rule)])))] hI J (.keep (.keep (.keep (.keep (.keep (.keep (.keep (.keep (.keep (.keep (.keep (.drop (.keep .nil)))))))))))))<|Bq (Pg (hW4 (l4++[({ Kind:=a5.Kind,C:=a5.C,A:=a5.A,Class:=0,Airport:=0,N:=a5.N,Hours:=a5.Hours }:Rule)]) _ _ ⟨v9,g17,vH9,J,J⟩)) (.cons J (.cons J (.cons J (.cons (Dj (A3 ha5) hlim9) .nil))))
 rintro l4 fr h ⟨v8,g15,vH8,rfl,rfl⟩
 refine Y<|Y<|O<|Ab 3 [0] [(101,(.sl 8 (List.map Bc a.Rules))),(99,(.I (a.Rules.length:Int)))] ?_
 refine Z (.I (a.Rules.length:Int)) J (Ay (A7 E0))<|Z (.bool (decide ((a.Rules.length:Int)<(a.Rules.length:Int)))) J (Ba J J J)<|Aa<|Co J (Int.lt_irrefl _)<|Ct J<|Y<|O ?_
 refine Ab 1 [2] [(119,(.agg [(.sl 2 (List.map As a.Volumes)),v,v2,v4,v6,(.sl 2 (List.map A9 a.Airports)),(.sl 4 (List.map By a.Classes)),v8]))] ?_
 refine Ar (A0 (v:=(.agg [(.sl 2 (List.map As a.Volumes)),v,v2,v4,v6,(.sl 2 (List.map A9 a.Airports)),(.sl 4 (List.map By a.Classes)),v8])) hI J J J J Ee J J J J (C2 J (C2 (A2.flat vH) (C2 (A2.flat vH2) (C2 (A2.flat vH4) (C2 (A2.flat vH6) (C2 J (C2 J (C2 (A2.flat vH8) X5)))))))))<|Aa<|Al ?_
 exact Br (a:=({ Volumes:=a.Volumes,Sectors:=l,Configs:=l1,Segments:=l2,Routes:=l3,Airports:=a.Airports,Classes:=a.Classes,Rules:=l4 }:Airspace)) (vs:=[(.agg [(.sl 2 (List.map As a.Volumes)),v,v2,v4,v6,(.sl 2 (List.map A9 a.Airports)),(.sl 4 (List.map By a.Classes)),v8])]) Tryz.func15 hI (Dx (Bh hI J J J Ee J) Fj) (.aggL (.cons (.same _) (.cons (Fx vH (hI.at J J) (hI.out J) (fun x=>P6 x)) (.cons (Fx vH2 (hI.at J J) (hI.out J) (fun x=>Tb x)) (.cons (Fx vH4 (hI.at J J) (hI.out J) (fun x=>R8 x)) (.cons (Fx vH6 (hI.at J J) (hI.out J) (fun x=>Us x)) (.cons (.same _) (.cons (.same _) (.cons (Fx vH8 (hI.at J J) (hI.out J) (fun x=>Qy x)) .nil)))))))))
theorem Abg (a:Airspace):CP Tryz.prog 4 [(.agg (Av a))] (Qf a) (fun(x:Bool)=>(AV.bool x)):=by
 refine C0 (n:=65) 2 Tryz.func4 J (by decide) J J fun h0 ids hI=>Bn (Ak (Qf.eq_1 _) ?_)
 refine Y<|O<|Cx (v:=(.agg (Av a))) (j:=0) hI J J J J J J J fun g=>Z (.bool false) J Aj<|Aa<|Al ?_
 refine Y<|Y<|O<|B0 [] J J J J ((Ag5) _) (fun v _=>Cg Tryz.func4 hI) fun r _=>Z (.bool (!r)) J (O3 J)<|Aa<|D2 J (fun hc=>?_) (fun hc=>?_)
 ·refine Az<|Y<|Y<|O<|Ab 1 [0] [(12,(.agg (Av a)))] ?_
  refine B0 [(.agg (Av a))] J J J J ((Ahp a) _) (fun v _=>Cg Tryz.func4 hI) fun r1 _=>Z (.bool (!r1)) J (O3 J)<|Aa<|D2 J (fun hc1=>?_) (fun hc1=>?_)
  ·refine Az<|Y<|O<|Ab 1 [0] [(16,(.agg (Av a)))] ?_
   refine B0 [(.agg (Av a))] J J J J ((Oy a) _) (fun v _=>Cg Tryz.func4 hI) fun r2 _=>Ab 5 [] [(4,(.I r2.2)),(3,(.str r2.1))] ?_
   refine Aa<|Y<|Y<|O<|Ab 3 [] [(22,(.bool (r2.2 != 0)))] ?_
   refine Bx 4 [(1,(.q ids 0 g)),(3,(.str r2.1)),(4,(.I r2.2)),(26,(.bool ((r2.2 != 0)||(decide ((r2.1.length:Int) > 65536)))))] ?_ fun hJ=>Bt (r2.2 != 0) (fun hb1=>?_) (fun hb1=>?_)
   ·refine Aa<|Cf J (fun hc2=>?_) (fun hc2=>?_)
    ·refine Y<|O<|Ab 3 [] [(29,(.bool (r2.2==0)))] ?_
     refine Bx 3 [(32,(.bool ((r2.2==0)||(r2.1==[]))))] ?_ fun hJ1=>Bt (r2.2==0) (fun hb3=>?_) (fun hb3=>?_)
     ·refine Z (.bool ((r2.2==0)||(r2.1==[]))) J Aj<|Aa<|Br (a:=((r2.2==0)||(r2.1==[]))) (vs:=[(.bool ((r2.2==0)||(r2.1==[])))]) Tryz.func4 hI J (.same _)
     ·refine A5 (t:=29) hb3 J<|Ab 3 [] [(32,(.bool true))] ?_
      exact Bg hJ1 (.cons (Es hb3) .nil)
     refine A5 (t:=29) hb3 J<|Ab 3 [] [(32,(.bool (r2.1==[])))] ?_
     exact Bg hJ1 (.cons (Er hb3) .nil)
    refine Az<|Y<|O<|Z (.str r2.1) J Ad<|B0 [(.str r2.1)] J J J J ((Ng r2.1) _) (fun v _=>Cg Tryz.func4 hI) fun r3 _=>Ab 4 [] [(38,(.I r3.2.2)),(37,(.I r3.2.1)),(36,(.agg (Av r3.1)))] ?_
    refine Bf (j:=1) hI J J J J Ee J fun g1=>Ar (A0 (v:=(.agg (Av r3.1))) hI J J J J Ee J J J J J)<|Ab 2 [] [(7,(.I r3.2.2)),(6,(.I r3.2.1))] ?_
    refine Aa<|Al ?_
    refine Y<|O<|Ab 1 [1] [(40,(.agg (Av r3.1)))] ?_
    refine B0 [(.agg (Av r3.1))] J J J J ((Oy r3.1) _) (fun v _=>Cg Tryz.func4 hI) fun r4 _=>Ab 5 [] [(9,(.I r4.2)),(8,(.str r4.1))] ?_
    refine Aa<|Y<|Dh Gk [[],[0],[0,1],[0,1,2],[0,1,2,3],[0,1,2,3,4],[0,1,2,3,4,5],[0,1,2,3,4,5,6],[0,1,2,3,4,5,6],[0,1,2,3,4,5,6,8],[0,1,2,3,4,5,6,7,8,9],[0,1,2,3,4,5,6,7,8,9,10],[0,1,2,3,4,5,6,7,8,9,10,11],[0,1,2,3,4,5,6,7,8,9,10,11,12],[0,1,2,3,4,5,6,7,8,9,10,11,12,13],[0,1,2,3,4,5,6,7,8,9,10,11,12,13,14],[0,1,2,3,4,5,6,7,8,9,10,11,12,13,14,15],[0,1,2,3,4,5,6,7,8,9,10,11,12,13,14,15,16],[0,1,2,3,4,5,6,7,8,9,10,11,12,13,14,15,16],[0,1,2,3,4,5,6,7,8,9,10,11,12,13,14,15,16,17,18],[0,1,2,3,4,5,6,7,8,9,10,11,12,13,14,15,16,17,18,19],[0,1,2,3,4,5,6,7,8,9,10,11,12,13,14,15,16,16,17,18,19,20,20]] [(false,0),(false,1),(false,2),(false,3),(false,4),(false,5),(false,6),(false,7),(false,8),(true,9),(true,10),(false,11),(false,12),(false,13),(false,14),(false,15),(false,16),(false,17),(false,18),(false,19),(false,20),(false,21)] (by kernel_rfl)<|Af (.I r3.2.2) J J Ad<|Af (.bool (r3.2.2==0)) J J (Ba J J J)<|Af (.bool (r3.2.2==0)) J J Ad<|Kf (fun hb4=>?_) (fun hb4=>?_)
    ·refine Fh (tj:=46) (.I r3.2.1) J J (congrArg AV.bool hb4) J Ad<|Fh (tj:=46) (.bool (r3.2.1==0)) J J (congrArg AV.bool hb4) J (Ba J J J)<|Af (.bool (r3.2.1==0)) J J (D4 (t:=true) (congrArg AV.bool hb4) J)<|Af (.bool (r3.2.1==0)) J J Ad<|Kf (fun hb5=>?_) (fun hb5=>?_)
     ·refine Fh (tj:=50) (.agg (Av r3.1)) J J (congrArg AV.bool hb5) J (Au (Bh hI J J J Ee J))<|Fh (tj:=50) (.agg (Av a)) J J (congrArg AV.bool hb5) J (Au (Bh hI J J J Ee J))<|Xq [(.agg (Av a))] J (Cq (tj:=50) J (congrArg AV.bool hb5)) J J J ((Abc a) _) (fun v _ _ _=>Cg Tryz.func4 hI) (Ag J (Ao1 (tj:=50) J J (congrArg AV.bool hb5) (Au (Bh hI J J J Ee J)) (Ag J (Ag J (Ag J (Ag J (Ag J (Ag J (Ag J B8))))))))) fun r5 _=>Xq [(.agg (Av r3.1)),(.agg (Av r5))] J (Cq (tj:=50) J (congrArg AV.bool hb5)) J J J ((Wh r3.1 r5) _) (fun v _ _ _=>Cg Tryz.func4 hI) (Ag J (Ag J (Ag J (Ag J (Ag J (Ag J (Ag J (Ag J (Ag J B8))))))))) fun r6 _=>Af (.bool r6) J J (D4 (t:=true) (congrArg AV.bool hb5) J)<|Af (.bool r6) J J Ad<|Kf (fun hb6=>?_) (fun hb6=>?_)
      ·refine Fh (tj:=56) (.I r4.2) J J (congrArg AV.bool hb6) J Ad<|Fh (tj:=56) (.bool (r4.2==0)) J J (congrArg AV.bool hb6) J (Ba J J J)<|Af (.bool (r4.2==0)) J J (D4 (t:=true) (congrArg AV.bool hb6) J)<|Af (.bool (r4.2==0)) J J Ad<|Kf (fun hb7=>?_) (fun hb7=>?_)
       ·refine Fh (tj:=60) (.str r4.1) J J (congrArg AV.bool hb7) J Ad<|Fh (tj:=60) (.str r2.1) J J (congrArg AV.bool hb7) J Ad<|Fh (tj:=60) (.bool (r4.1==r2.1)) J J (congrArg AV.bool hb7) J (Ba J J J)<|Af (.bool (r4.1==r2.1)) J J (D4 (t:=true) (congrArg AV.bool hb7) J)<|Af (.bool (r4.1==r2.1)) J J Aj<|Cw<|Br (a:=(r4.1==r2.1)) (vs:=[(.bool (r4.1==r2.1))]) Tryz.func4 hI J (.same _)
       refine Ec (tj:=60) (b:=false) J J (congrArg AV.bool hb7) J J<|Ec (tj:=60) (b:=false) J J (congrArg AV.bool hb7) J J<|Ec (tj:=60) (b:=false) J J (congrArg AV.bool hb7) J J<|Af (.bool false) J J (D4 (t:=false) (congrArg AV.bool hb7) J)<|Af (.bool false) J J Aj<|Cw<|Br (a:=false) (vs:=[(.bool false)]) Tryz.func4 hI J (.same _)
      refine Ec (tj:=56) (b:=false) J J (congrArg AV.bool hb6) J J<|Ec (tj:=56) (b:=false) J J (congrArg AV.bool hb6) J J<|Af (.bool false) J J (D4 (t:=false) (congrArg AV.bool hb6) J)<|Af (.bool false) J J Ad<|Ec (tj:=60) (b:=false) J J J J J<|Ec (tj:=60) (b:=false) J J J J J<|Ec (tj:=60) (b:=false) J J J J J ?_
      refine Af (.bool false) J J (D4 (t:=false) J J)<|Af (.bool false) J J Aj<|Cw<|Br (a:=false) (vs:=[(.bool false)]) Tryz.func4 hI J (.same _)
     refine Ec (tj:=50) (b:=false) J J (congrArg AV.bool hb5) J J<|Ec (tj:=50) (b:=false) J J (congrArg AV.bool hb5) J J<|Z9 (tj:=50) (b:=false) J J (congrArg AV.bool hb5) J J<|Z9 (tj:=50) (b:=false) J J (congrArg AV.bool hb5) J J<|Af (.bool false) J J (D4 (t:=false) (congrArg AV.bool hb5) J)<|Af (.bool false) J J Ad<|Ec (tj:=56) (b:=false) J J J J J ?_
     refine Ec (tj:=56) (b:=false) J J J J J<|Af (.bool false) J J (D4 (t:=false) J J)<|Af (.bool false) J J Ad<|Ec (tj:=60) (b:=false) J J J J J<|Ec (tj:=60) (b:=false) J J J J J<|Ec (tj:=60) (b:=false) J J J J J<|Af (.bool false) J J (D4 (t:=false) J J) ?_
     refine Af (.bool false) J J Aj<|Cw<|Br (a:=false) (vs:=[(.bool false)]) Tryz.func4 hI J (.same _)
    refine Ec (tj:=46) (b:=false) J J (congrArg AV.bool hb4) J J<|Ec (tj:=46) (b:=false) J J (congrArg AV.bool hb4) J J<|Af (.bool false) J J (D4 (t:=false) (congrArg AV.bool hb4) J)<|Af (.bool false) J J Ad<|Ec (tj:=50) (b:=false) J J J J J<|Ec (tj:=50) (b:=false) J J J J J<|Z9 (tj:=50) (b:=false) J J J J J ?_
    refine Z9 (tj:=50) (b:=false) J J J J J<|Af (.bool false) J J (D4 (t:=false) J J)<|Af (.bool false) J J Ad<|Ec (tj:=56) (b:=false) J J J J J<|Ec (tj:=56) (b:=false) J J J J J<|Af (.bool false) J J (D4 (t:=false) J J)<|Af (.bool false) J J Ad ?_
    refine Ec (tj:=60) (b:=false) J J J J J<|Ec (tj:=60) (b:=false) J J J J J<|Ec (tj:=60) (b:=false) J J J J J<|Af (.bool false) J J (D4 (t:=false) J J)<|Af (.bool false) J J Aj<|Cw<|Br (a:=false) (vs:=[(.bool false)]) Tryz.func4 hI J (.same _)
   ·refine A5 (t:=22) hb1 J<|Ab 4 [] [(26,(.bool true))] ?_
    exact Bg hJ (.cons J (.cons J (.cons J (.cons (Es hb1) .nil))))
   refine A5 (t:=22) hb1 J<|Bz (tj:=22) (.str r2.1) J J J Ad<|Bz (tj:=22) (.I (r2.1.length:Int)) J J J (Ay (Mi Cz))<|Ab 2 [] [(26,(.bool (decide ((r2.1.length:Int) > 65536))))] ?_
   exact Bg hJ (.cons J (.cons J (.cons J (.cons (Er hb1) .nil))))
  refine Y<|O<|Z (.bool true) J Aj<|Aa<|Br (a:=true) (vs:=[(.bool true)]) Tryz.func4 hI J (.same _)
 refine Y<|O<|Z (.bool false) J Aj<|Aa<|Br (a:=false) (vs:=[(.bool false)]) Tryz.func4 hI J (.same _)
end Go.Am
namespace Go.Am
open Go Go.Proofs
set_option maxRecDepth 100000
set_option maxHeartbeats 4000000
set_option linter.unusedSimpArgs false
set_option linter.unusedVariables false
end Go.Am
namespace Go.Proofs.YtjidhdlbojmlfaaGreatDoor.laws
open Go Go.Am Go.ChangeShapes Go.WideShapes Go.ChangeAt Go.RowKit
set_option maxRecDepth 100000
set_option linter.unusedVariables false
set_option linter.unusedSimpArgs false
theorem own:ownKnob Tryz.prog.godebug=none:=by kernel_rfl
theorem Ar6:laidOutB Tryz.prog=true:=by kernel_rfl
def Apz:DataW Unit:=match (Rows.laid_overflight_syntax_definitions:DataW Unit) with
 | .iface _ d=>d
 | d=>d
theorem Arh {W : World} (h0 : laidMetH Tryz.prog [("math/bits.deBruijn32tab", Rows.laid_math_bits_deBruijn32tab), ("math/bits.deBruijn64tab", Rows.laid_math_bits_deBruijn64tab), ("internal/strconv.uint64pow10", Rows.laid_internal_strconv_uint64pow10), ("strconv.ErrRange", Rows.laid_strconv_ErrRange), ("strconv.ErrSyntax", Rows.laid_strconv_ErrSyntax), ("overflight/syntax.definitions", Rows.laid_overflight_syntax_definitions)] W) : GW.n Tryz.prog ≤ W.heap.size ∧ GW.G Tryz.prog W.heap.size W := by
 have h := (laidMetH_iff.1 h0).1
 rw [show (List.filter (fun x => x.2.handleName?.isNone) [("math/bits.deBruijn32tab", Rows.laid_math_bits_deBruijn32tab), ("math/bits.deBruijn64tab", Rows.laid_math_bits_deBruijn64tab), ("internal/strconv.uint64pow10", Rows.laid_internal_strconv_uint64pow10), ("strconv.ErrRange", Rows.laid_strconv_ErrRange), ("strconv.ErrSyntax", Rows.laid_strconv_ErrSyntax), ("overflight/syntax.definitions", Rows.laid_overflight_syntax_definitions)]) = [("math/bits.deBruijn32tab", Rows.laid_math_bits_deBruijn32tab), ("math/bits.deBruijn64tab", Rows.laid_math_bits_deBruijn64tab), ("internal/strconv.uint64pow10", Rows.laid_internal_strconv_uint64pow10), ("strconv.ErrRange", Rows.laid_strconv_ErrRange), ("strconv.ErrSyntax", Rows.laid_strconv_ErrSyntax)] by kernel_rfl] at h
 have hn := Atv (g := 6) (by kernel_rfl) (Lib.laidMet.reads h (n := "math/bits.deBruijn64tab") (d := Rows.laid_math_bits_deBruijn64tab) (by repeat (first | exact List.mem_cons_self .. | apply List.mem_cons_of_mem)))
 exact ⟨hn, ⟨(Agh (g := 2) (t := 169) (by kernel_rfl) (by kernel_rfl) Tryz.underlying169 (Lib.laidMet.reads h (n := "strconv.ErrRange") (d := Rows.laid_strconv_ErrRange) (by repeat (first | exact List.mem_cons_self .. | apply List.mem_cons_of_mem)))), (Agh (g := 1) (t := 169) (by kernel_rfl) (by kernel_rfl) Tryz.underlying169 (Lib.laidMet.reads h (n := "strconv.ErrSyntax") (d := Rows.laid_strconv_ErrSyntax) (by repeat (first | exact List.mem_cons_self .. | apply List.mem_cons_of_mem)))), (Ase (g := 4) (t := 210) (by kernel_rfl) (by kernel_rfl) Tryz.underlying210 Tryz.underlying193 (by kernel_rfl) (by kernel_rfl) (Lib.laidMet.reads h (n := "internal/strconv.uint64pow10") (d := Rows.laid_internal_strconv_uint64pow10) (by repeat (first | exact List.mem_cons_self .. | apply List.mem_cons_of_mem))))⟩, Arc (d := Apz) (l := Pk) (laidMetH.funcs h0 (n := "overflight/syntax.definitions") (d := Apz) (by repeat (first | exact List.mem_cons_self .. | apply List.mem_cons_of_mem))) (by kernel_rfl) (by kernel_rfl) (by kernel_rfl) Tryz.underlying142 Tryz.underlying9 Tryz.underlying140 (by kernel_rfl) (by decide +kernel)⟩
theorem Ave:Tryz.prog.readableRec 32=true∧32<Tryz.prog.types.size:=by decide +kernel
theorem Apn {H:Type}:Bulk (H:=H) Rows.uptoBulk Rows.uptoBulkAll:=⟨fun d=>by cases d with | lit l=>cases l <;> simp [Rows.uptoBulk] | _=>simp [Rows.uptoBulk],fun l=>by simp [Rows.uptoBulk],fun e s=>by simp only [Rows.uptoBulk]; omega,fun l=>by simp [Rows.uptoBulk],by simp [Rows.uptoBulkAll],fun d l=>by simp [Rows.uptoBulkAll]⟩
theorem Y7:H4 Tryz.prog 9 E8:=Amd Tryz.underlying9
theorem Vq:H4 Tryz.prog 3 (En .i64):=Am0 Tryz.underlying3
theorem Asu:H4 Tryz.prog 60 R9:=Oo (T:=(El (En .i64) (El (En .i64) Sp))) (tot:=2) Tryz.underlying60 (by kernel_rfl) (Dc (c:=1) rfl rfl (by kernel_rfl) rfl Vq (Dc (c:=1) rfl rfl (by kernel_rfl) rfl Vq (Rf rfl))) (fun p=>⟨p.1,p.2.1⟩) (fun _=>rfl) (fun _ h=>h) (fun _=>Nat.le_refl _)
theorem At4:H4 Tryz.prog 52 (Fw 2 R9):=Np Tryz.underlying52 (by kernel_rfl) (by decide) (fun a=>Afz a) Asu
theorem Avw:H4 Tryz.prog 54 Vb:=Oo (T:=(El E8 (El (Fw 2 R9) Sp))) (tot:=2) Tryz.underlying54 (by kernel_rfl) (Dc (c:=1) rfl rfl (by kernel_rfl) rfl Y7 (Dc (c:=1) rfl rfl (by kernel_rfl) rfl At4 (Rf rfl))) (fun p=>⟨p.1,p.2.1⟩) (fun _=>rfl) (fun _ h=>h) (fun _=>Nat.le_refl _)
theorem Ava:H4 Tryz.prog 23 (Fw 2 Vb):=Np Tryz.underlying23 (by kernel_rfl) (by decide) (fun a=>V9 a) Avw
theorem Anz:H4 Tryz.prog 55 (Fw 1 E8):=Np Tryz.underlying55 (by kernel_rfl) (by decide) (fun a=>G3 a) Y7
theorem Apd:H4 Tryz.prog 56 (Fw 1 (En .i64)):=Np Tryz.underlying56 (by kernel_rfl) (by decide) (fun a=>Ai9 a) Vq
theorem Av8:H4 Tryz.prog 58 U5:=Oo (T:=(El E8 (El (Fw 1 E8) (El (Fw 1 (En .i64)) (El (En .i64) (El (En .i64) Sp)))))) (tot:=5) Tryz.underlying58 (by kernel_rfl) (Dc (c:=1) rfl rfl (by kernel_rfl) rfl Y7 (Dc (c:=1) rfl rfl (by kernel_rfl) rfl Anz (Dc (c:=1) rfl rfl (by kernel_rfl) rfl Apd (Dc (c:=1) rfl rfl (by kernel_rfl) rfl Vq (Dc (c:=1) rfl rfl (by kernel_rfl) rfl Vq (Rf rfl)))))) (fun p=>⟨p.1,p.2.1,p.2.2.1,p.2.2.2.1,p.2.2.2.2.1⟩) (fun _=>rfl) (fun _ h=>h) (fun _=>Nat.le_refl _)
theorem Avl:H4 Tryz.prog 24 (Fw 5 U5):=Np Tryz.underlying24 (by kernel_rfl) (by decide) (fun a=>P6 a) Av8
theorem Avu:H4 Tryz.prog 77 Vd:=Oo (T:=(El E8 (El (Fw 1 E8) (El (Fw 1 (En .i64)) Sp)))) (tot:=3) Tryz.underlying77 (by kernel_rfl) (Dc (c:=1) rfl rfl (by kernel_rfl) rfl Y7 (Dc (c:=1) rfl rfl (by kernel_rfl) rfl Anz (Dc (c:=1) rfl rfl (by kernel_rfl) rfl Apd (Rf rfl)))) (fun p=>⟨p.1,p.2.1,p.2.2.1⟩) (fun _=>rfl) (fun _ h=>h) (fun _=>Nat.le_refl _)
theorem Av3:H4 Tryz.prog 25 (Fw 3 Vd):=Np Tryz.underlying25 (by kernel_rfl) (by decide) (fun a=>Tb a) Avu
theorem Av7:H4 Tryz.prog 79 Sz:=Oo (T:=(El E8 (El E8 (El (En .i64) (El (En .i64) (El (Fw 2 R9) Sp)))))) (tot:=5) Tryz.underlying79 (by kernel_rfl) (Dc (c:=1) rfl rfl (by kernel_rfl) rfl Y7 (Dc (c:=1) rfl rfl (by kernel_rfl) rfl Y7 (Dc (c:=1) rfl rfl (by kernel_rfl) rfl Vq (Dc (c:=1) rfl rfl (by kernel_rfl) rfl Vq (Dc (c:=1) rfl rfl (by kernel_rfl) rfl At4 (Rf rfl)))))) (fun p=>⟨p.1,p.2.1,p.2.2.1,p.2.2.2.1,p.2.2.2.2.1⟩) (fun _=>rfl) (fun _ h=>h) (fun _=>Nat.le_refl _)
theorem Avo:H4 Tryz.prog 26 (Fw 5 Sz):=Np Tryz.underlying26 (by kernel_rfl) (by decide) (fun a=>R8 a) Av7
theorem Avq:H4 Tryz.prog 81 X8:=Oo (T:=(El E8 (El E8 (El E8 (El (En .i64) (El (En .i64) (El (Fw 1 E8) (El (Fw 1 (En .i64)) Sp)))))))) (tot:=7) Tryz.underlying81 (by kernel_rfl) (Dc (c:=1) rfl rfl (by kernel_rfl) rfl Y7 (Dc (c:=1) rfl rfl (by kernel_rfl) rfl Y7 (Dc (c:=1) rfl rfl (by kernel_rfl) rfl Y7 (Dc (c:=1) rfl rfl (by kernel_rfl) rfl Vq (Dc (c:=1) rfl rfl (by kernel_rfl) rfl Vq (Dc (c:=1) rfl rfl (by kernel_rfl) rfl Anz (Dc (c:=1) rfl rfl (by kernel_rfl) rfl Apd (Rf rfl)))))))) (fun p=>⟨p.1,p.2.1,p.2.2.1,p.2.2.2.1,p.2.2.2.2.1,p.2.2.2.2.2.1,p.2.2.2.2.2.2.1⟩) (fun _=>rfl) (fun _ h=>h) (fun _=>Nat.le_refl _)
theorem Avs:H4 Tryz.prog 27 (Fw 7 X8):=Np Tryz.underlying27 (by kernel_rfl) (by decide) (fun a=>Us a) Avq
theorem Av4:H4 Tryz.prog 83 Ac1:=Oo (T:=(El E8 (El (En .i64) Sp))) (tot:=2) Tryz.underlying83 (by kernel_rfl) (Dc (c:=1) rfl rfl (by kernel_rfl) rfl Y7 (Dc (c:=1) rfl rfl (by kernel_rfl) rfl Vq (Rf rfl))) (fun p=>⟨p.1,p.2.1⟩) (fun _=>rfl) (fun _ h=>h) (fun _=>Nat.le_refl _)
theorem Avx:H4 Tryz.prog 49 (Fw 2 Ac1):=Np Tryz.underlying49 (by kernel_rfl) (by decide) (fun a=>Afb a) Av4
theorem Avd:H4 Tryz.prog 51 Ss:=Oo (T:=(El E8 (El (Fw 2 Ac1) Sp))) (tot:=2) Tryz.underlying51 (by kernel_rfl) (Dc (c:=1) rfl rfl (by kernel_rfl) rfl Y7 (Dc (c:=1) rfl rfl (by kernel_rfl) rfl Avx (Rf rfl))) (fun p=>⟨p.1,p.2.1⟩) (fun _=>rfl) (fun _ h=>h) (fun _=>Nat.le_refl _)
theorem Av5:H4 Tryz.prog 28 (Fw 2 Ss):=Np Tryz.underlying28 (by kernel_rfl) (by decide) (fun a=>Tx a) Avd
theorem Avk:H4 Tryz.prog 85 Acl:=Oo (T:=(El E8 (El (En .i64) (El (En .i64) (El (En .i64) Sp))))) (tot:=4) Tryz.underlying85 (by kernel_rfl) (Dc (c:=1) rfl rfl (by kernel_rfl) rfl Y7 (Dc (c:=1) rfl rfl (by kernel_rfl) rfl Vq (Dc (c:=1) rfl rfl (by kernel_rfl) rfl Vq (Dc (c:=1) rfl rfl (by kernel_rfl) rfl Vq (Rf rfl))))) (fun p=>⟨p.1,p.2.1,p.2.2.1,p.2.2.2.1⟩) (fun _=>rfl) (fun _ h=>h) (fun _=>Nat.le_refl _)
theorem Avy:H4 Tryz.prog 29 (Fw 4 Acl):=Np Tryz.underlying29 (by kernel_rfl) (by decide) (fun a=>Aaz a) Avk
theorem Avr:H4 Tryz.prog 62 Aed:=Oo (T:=(El (En .i64) (El E8 (El E8 (El (En .i64) (El (En .i64) (El (En .i64) (El R9 Sp)))))))) (tot:=8) Tryz.underlying62 (by kernel_rfl) (Dc (c:=1) rfl rfl (by kernel_rfl) rfl Vq (Dc (c:=1) rfl rfl (by kernel_rfl) rfl Y7 (Dc (c:=1) rfl rfl (by kernel_rfl) rfl Y7 (Dc (c:=1) rfl rfl (by kernel_rfl) rfl Vq (Dc (c:=1) rfl rfl (by kernel_rfl) rfl Vq (Dc (c:=1) rfl rfl (by kernel_rfl) rfl Vq (Dc (c:=2) rfl rfl (by kernel_rfl) rfl Asu (Rf rfl)))))))) (fun p=>⟨p.1,p.2.1,p.2.2.1,p.2.2.2.1,p.2.2.2.2.1,p.2.2.2.2.2.1,p.2.2.2.2.2.2.1⟩) (fun _=>rfl) (fun _ h=>h) (fun _=>Nat.le_refl _)
theorem Av0:H4 Tryz.prog 30 (Fw 8 Aed):=Np Tryz.underlying30 (by kernel_rfl) (by decide) (fun a=>Qy a) Avr
theorem Av2:H4 Tryz.prog 32 M8:=Oo (T:=(El (Fw 2 Vb) (El (Fw 5 U5) (El (Fw 3 Vd) (El (Fw 5 Sz) (El (Fw 7 X8) (El (Fw 2 Ss) (El (Fw 4 Acl) (El (Fw 8 Aed) Sp))))))))) (tot:=8) Tryz.underlying32 (by kernel_rfl) (Dc (c:=1) rfl rfl (by kernel_rfl) rfl Ava (Dc (c:=1) rfl rfl (by kernel_rfl) rfl Avl (Dc (c:=1) rfl rfl (by kernel_rfl) rfl Av3 (Dc (c:=1) rfl rfl (by kernel_rfl) rfl Avo (Dc (c:=1) rfl rfl (by kernel_rfl) rfl Avs (Dc (c:=1) rfl rfl (by kernel_rfl) rfl Av5 (Dc (c:=1) rfl rfl (by kernel_rfl) rfl Avy (Dc (c:=1) rfl rfl (by kernel_rfl) rfl Av0 (Rf rfl))))))))) (fun p=>⟨p.1,p.2.1,p.2.2.1,p.2.2.2.1,p.2.2.2.2.1,p.2.2.2.2.2.1,p.2.2.2.2.2.2.1,p.2.2.2.2.2.2.2.1⟩) (fun _=>rfl) (fun _ h=>h) (fun _=>Nat.le_refl _)
end Go.Proofs.YtjidhdlbojmlfaaGreatDoor.laws

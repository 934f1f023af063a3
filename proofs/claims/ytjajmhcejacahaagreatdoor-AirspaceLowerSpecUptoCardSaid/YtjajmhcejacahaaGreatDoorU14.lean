import Derived.Test.YtjajmhcejacahaaGreatDoorU6
set_option linter.all false
namespace Go.Am
open Go
def Ajk:Ty Span:=⟨Ax,λx=>(Cj .i64).good x.From/\(Cj .i64).good x.To/\True,λx=>((Cj .i64).bulk x.From+((Cj .i64).bulk x.To+(0)))+1⟩
def Auu:Ty Volume:=⟨Ba,λx=>A1i.good x.Name∧(Ej 2 Ajk).good x.Closed∧True,λx=>(A1i.bulk x.Name+((Ej 2 Ajk).bulk x.Closed+(0)))+1⟩
def A5j:Ty Sector:=⟨Br,λx=>A1i.good x.Name/\(Ej 1 A1i).good x.Names/\(Ej 1 (Cj .i64)).good x.Volumes/\(Cj .i64).good x.Radar/\(Cj .i64).good x.Procedural/\True,λx=>(A1i.bulk x.Name+((Ej 1 A1i).bulk x.Names+((Ej 1 (Cj .i64)).bulk x.Volumes+((Cj .i64).bulk x.Radar+((Cj .i64).bulk x.Procedural+(0))))))+1⟩
def A5g:Ty Config:=⟨Bz,λx=>A1i.good x.Name/\(Ej 1 A1i).good x.Names/\(Ej 1 (Cj .i64)).good x.Sectors/\True,λx=>(A1i.bulk x.Name+((Ej 1 A1i).bulk x.Names+((Ej 1 (Cj .i64)).bulk x.Sectors+(0))))+1⟩
def Aq5:Ty Segment:=⟨C3,λx=>A1i.good x.Name/\A1i.good x.In/\(Cj .i64).good x.Volume/\(Cj .i64).good x.Length/\(Ej 2 Ajk).good x.Open/\True,λx=>(A1i.bulk x.Name+(A1i.bulk x.In+((Cj .i64).bulk x.Volume+((Cj .i64).bulk x.Length+((Ej 2 Ajk).bulk x.Open+(0))))))+1⟩
def Axy:Ty Route:=⟨Ed,λx=>A1i.good x.Name/\A1i.good x.A/\A1i.good x.B/\(Cj .i64).good x.From/\(Cj .i64).good x.To/\(Ej 1 A1i).good x.Names/\(Ej 1 (Cj .i64)).good x.Segments/\True,λx=>(A1i.bulk x.Name+(A1i.bulk x.A+(A1i.bulk x.B+((Cj .i64).bulk x.From+((Cj .i64).bulk x.To+((Ej 1 A1i).bulk x.Names+((Ej 1 (Cj .i64)).bulk x.Segments+(0))))))))+1⟩
def A2b:Ty Mode:=⟨Qk,λx=>A1i.good x.Name/\(Cj .i64).good x.Places/\True,λx=>(A1i.bulk x.Name+((Cj .i64).bulk x.Places+(0)))+1⟩
def Aqc:Ty Airport:=⟨Dh,λx=>A1i.good x.Name/\(Ej 2 A2b).good x.Modes/\True,λx=>(A1i.bulk x.Name+((Ej 2 A2b).bulk x.Modes+(0)))+1⟩
def Aya:Ty Class:=⟨E2,λx=>A1i.good x.Name/\(Cj .i64).good x.Slow/\(Cj .i64).good x.Fast/\(Cj .i64).good x.Places/\True,λx=>(A1i.bulk x.Name+((Cj .i64).bulk x.Slow+((Cj .i64).bulk x.Fast+((Cj .i64).bulk x.Places+(0)))))+1⟩
def A13:Ty Rule:=⟨Bk,λx=>(Cj .i64).good x.Kind/\A1i.good x.C/\A1i.good x.A/\(Cj .i64).good x.Class/\(Cj .i64).good x.Airport/\(Cj .i64).good x.N/\Ajk.good x.Hours/\True,λx=>((Cj .i64).bulk x.Kind+(A1i.bulk x.C+(A1i.bulk x.A+((Cj .i64).bulk x.Class+((Cj .i64).bulk x.Airport+((Cj .i64).bulk x.N+(Ajk.bulk x.Hours+(0))))))))+1⟩
def Asj:Ty Airspace:=⟨Aj,λx=>(Ej 2 Auu).good x.Volumes/\(Ej 5 A5j).good x.Sectors/\(Ej 3 A5g).good x.Configs/\(Ej 5 Aq5).good x.Segments/\(Ej 7 Axy).good x.Routes/\(Ej 2 Aqc).good x.Airports/\(Ej 4 Aya).good x.Classes/\(Ej 8 A13).good x.Rules/\True,λx=>((Ej 2 Auu).bulk x.Volumes+((Ej 5 A5j).bulk x.Sectors+((Ej 3 A5g).bulk x.Configs+((Ej 5 Aq5).bulk x.Segments+((Ej 7 Axy).bulk x.Routes+((Ej 2 Aqc).bulk x.Airports+((Ej 4 Aya).bulk x.Classes+((Ej 8 A13).bulk x.Rules+(0)))))))))+1⟩
def P5:Prop:=∀(z:Airspace) (_:Asj.good z),Asj.bulk z<=1048576->Km z=.ok true
end Go.Am

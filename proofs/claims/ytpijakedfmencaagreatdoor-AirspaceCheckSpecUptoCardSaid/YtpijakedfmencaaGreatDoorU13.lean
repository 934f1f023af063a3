import Derived.Test.YtpijakedfmencaaGreatDoorU6
set_option linter.all false
namespace Go.Am
open Go
def A5j:Ty Sector:=⟨Br,λx=>A1i.good x.Name/\(Ej 1 A1i).good x.Names/\(Ej 1 (Cj .i64)).good x.Volumes/\(Cj .i64).good x.Radar/\(Cj .i64).good x.Procedural/\True,λx=>(A1i.bulk x.Name+((Ej 1 A1i).bulk x.Names+((Ej 1 (Cj .i64)).bulk x.Volumes+((Cj .i64).bulk x.Radar+((Cj .i64).bulk x.Procedural+(0))))))+1⟩
def A5g:Ty Config:=⟨Bz,λx=>A1i.good x.Name/\(Ej 1 A1i).good x.Names/\(Ej 1 (Cj .i64)).good x.Sectors/\True,λx=>(A1i.bulk x.Name+((Ej 1 A1i).bulk x.Names+((Ej 1 (Cj .i64)).bulk x.Sectors+(0))))+1⟩
def Ajk:Ty Span:=⟨Ax,λx=>(Cj .i64).good x.From/\(Cj .i64).good x.To/\True,λx=>((Cj .i64).bulk x.From+((Cj .i64).bulk x.To+(0)))+1⟩
def B3l:Ty Leg:=⟨If,λx=>(Cj .i64).good x.Segment/\(Cj .i64).good x.Volume/\(Cj .i64).good x.Length/\(Ej 2 Ajk).good x.Minutes/\True,λx=>((Cj .i64).bulk x.Segment+((Cj .i64).bulk x.Volume+((Cj .i64).bulk x.Length+((Ej 2 Ajk).bulk x.Minutes+(0)))))+1⟩
def B3e:Ty Way:=⟨Ks,λx=>(Cj .i64).good x.From/\(Cj .i64).good x.To/\(Ej 4 B3l).good x.Legs/\True,λx=>((Cj .i64).bulk x.From+((Cj .i64).bulk x.To+((Ej 4 B3l).bulk x.Legs+(0))))+1⟩
def B1i:Ty Kind:=⟨Gi,λx=>(Cj .i64).good x.Slow/\(Cj .i64).good x.Fast/\(Cj .i64).good x.Places/\(Cj .i64).good x.Weight/\(Cj .i64).good x.Longest/\(Ej 1 (Ej 2 Ajk)).good x.Curfews/\True,λx=>((Cj .i64).bulk x.Slow+((Cj .i64).bulk x.Fast+((Cj .i64).bulk x.Places+((Cj .i64).bulk x.Weight+((Cj .i64).bulk x.Longest+((Ej 1 (Ej 2 Ajk)).bulk x.Curfews+(0)))))))+1⟩
def B0t:Ty Tables:=⟨B9,λx=>(Cj .i64).good x.Volumes/\(Ej 5 A5j).good x.Sectors/\(Ej 3 A5g).good x.Configs/\(Ej 3 B3e).good x.Ways/\(Ej 1 (Ej 1 (Cj .i64))).good x.Modes/\(Ej 6 B1i).good x.Kinds/\True,λx=>((Cj .i64).bulk x.Volumes+((Ej 5 A5j).bulk x.Sectors+((Ej 3 A5g).bulk x.Configs+((Ej 3 B3e).bulk x.Ways+((Ej 1 (Ej 1 (Cj .i64))).bulk x.Modes+((Ej 6 B1i).bulk x.Kinds+(0)))))))+1⟩
def M7:Prop:=∀(z:Tables) (a1:Int) (D:Int) (_:B0t.good z) (_:(Cj .i64).good a1) (_:(Cj .i64).good D),B0t.bulk z+((Cj .i64).bulk a1+((Cj .i64).bulk D))<=1048576->Ov z a1 D=.ok true
end Go.Am

/- Written by shrink.py from texts of ours: comments struck, what is not reached left out, names short. -/
import Derived.Test.YtcpfebjhnbjfbaaGreatDoorTa
import Derived.Test.YtcpfebjhnbjfbaaGreatDoorTc
set_option linter.unusedSimpArgs false
set_option linter.unusedVariables false
set_option linter.unusedSectionVars false
set_option linter.defProp false
set_option maxRecDepth 100000
open Go.Proofs.Tryz
namespace Go.Am
open Go
def Bv9:Ty Volume:=⟨Ba,λx=>A1i.good x.Name∧(Ej 2 Ajk).good x.Closed∧True,λx=>(A1i.bulk x.Name+((Ej 2 Ajk).bulk x.Closed+(0)))+1⟩
def Bn9:Ty Segment:=⟨C3,λx=>A1i.good x.Name∧A1i.good x.In∧(Cj .i64).good x.Volume∧(Cj .i64).good x.Length∧(Ej 2 Ajk).good x.Open∧True,λx=>(A1i.bulk x.Name+(A1i.bulk x.In+((Cj .i64).bulk x.Volume+((Cj .i64).bulk x.Length+((Ej 2 Ajk).bulk x.Open+(0))))))+1⟩
def B0f:Ty Route:=⟨Ed,λx=>A1i.good x.Name∧A1i.good x.A∧A1i.good x.B∧(Cj .i64).good x.From∧(Cj .i64).good x.To∧(Ej 1 A1i).good x.Names∧(Ej 1 (Cj .i64)).good x.Segments∧True,λx=>(A1i.bulk x.Name+(A1i.bulk x.A+(A1i.bulk x.B+((Cj .i64).bulk x.From+((Cj .i64).bulk x.To+((Ej 1 A1i).bulk x.Names+((Ej 1 (Cj .i64)).bulk x.Segments+(0))))))))+1⟩
def B1h:Ty Mode:=⟨Qk,λx=>A1i.good x.Name∧(Cj .i64).good x.Places∧True,λx=>(A1i.bulk x.Name+((Cj .i64).bulk x.Places+(0)))+1⟩
def Boe:Ty Airport:=⟨Dh,λx=>A1i.good x.Name∧(Ej 2 B1h).good x.Modes∧True,λx=>(A1i.bulk x.Name+((Ej 2 B1h).bulk x.Modes+(0)))+1⟩
def B0j:Ty Class:=⟨E2,λx=>A1i.good x.Name∧(Cj .i64).good x.Slow∧(Cj .i64).good x.Fast∧(Cj .i64).good x.Places∧True,λx=>(A1i.bulk x.Name+((Cj .i64).bulk x.Slow+((Cj .i64).bulk x.Fast+((Cj .i64).bulk x.Places+(0)))))+1⟩
def B14:Ty Rule:=⟨Bk,λx=>(Cj .i64).good x.Kind∧A1i.good x.C∧A1i.good x.A∧(Cj .i64).good x.Class∧(Cj .i64).good x.Airport∧(Cj .i64).good x.N∧Ajk.good x.Hours∧True,λx=>((Cj .i64).bulk x.Kind+(A1i.bulk x.C+(A1i.bulk x.A+((Cj .i64).bulk x.Class+((Cj .i64).bulk x.Airport+((Cj .i64).bulk x.N+(Ajk.bulk x.Hours+(0))))))))+1⟩
def Ahm:Ty Airspace:=⟨Aj,λx=>(Ej 2 Bv9).good x.Volumes∧(Ej 5 A5j).good x.Sectors∧(Ej 3 A5g).good x.Configs∧(Ej 5 Bn9).good x.Segments∧(Ej 7 B0f).good x.Routes∧(Ej 2 Boe).good x.Airports∧(Ej 4 B0j).good x.Classes∧(Ej 8 B14).good x.Rules∧True,λx=>((Ej 2 Bv9).bulk x.Volumes+((Ej 5 A5j).bulk x.Sectors+((Ej 3 A5g).bulk x.Configs+((Ej 5 Bn9).bulk x.Segments+((Ej 7 B0f).bulk x.Routes+((Ej 2 Boe).bulk x.Airports+((Ej 4 B0j).bulk x.Classes+((Ej 8 B14).bulk x.Rules+(0)))))))))+1⟩
end Go.Am
namespace Go.Proofs.YtcpfebjhnbjfbaaGreatDoor.laws
open Go Go.Am Go.ChangeShapes Go.WideShapes Go.ChangeAt Go.RowKit
theorem B67:prog.readableRec 31=true∧31<prog.types.size:=by decide+kernel
theorem Cai:Bfl prog 85 Bv9:=Uc (T:=(Du A1i (Du (Ej 2 Ajk) Apm))) (tot:=2) underlying85 (by kernel_rfl) (Bt (c:=1) rfl rfl (by kernel_rfl) rfl on9 (Bt (c:=1) rfl rfl (by kernel_rfl) rfl B5i (Aiy rfl))) (λp=>⟨p.1,p.2.1⟩) (λ_=>rfl) (λ_ h=>h) (λ_=>AI _)
theorem Cba:Bfl prog 22 (Ej 2 Bv9):=Pz underlying22 (by kernel_rfl) (by decide) (λa=>Agb a) Cai
theorem B97:Bfl prog 87 Bn9:=Uc (T:=(Du A1i (Du A1i (Du (Cj .i64) (Du (Cj .i64) (Du (Ej 2 Ajk) Apm)))))) (tot:=5) underlying87 (by kernel_rfl) (Bt (c:=1) rfl rfl (by kernel_rfl) rfl on9 (Bt (c:=1) rfl rfl (by kernel_rfl) rfl on9 (Bt (c:=1) rfl rfl (by kernel_rfl) rfl Qz (Bt (c:=1) rfl rfl (by kernel_rfl) rfl Qz (Bt (c:=1) rfl rfl (by kernel_rfl) rfl B5i (Aiy rfl)))))) (λp=>⟨p.1,p.2.1,p.2.2.1,p.2.2.2.1,p.2.2.2.2.1⟩) (λ_=>rfl) (λ_ h=>h) (λ_=>AI _)
theorem Cac:Bfl prog 25 (Ej 5 Bn9):=Pz underlying25 (by kernel_rfl) (by decide) (λa=>Adf a) B97
theorem Ca3:Bfl prog 89 B0f:=Uc (T:=(Du A1i (Du A1i (Du A1i (Du (Cj .i64) (Du (Cj .i64) (Du (Ej 1 A1i) (Du (Ej 1 (Cj .i64)) Apm)))))))) (tot:=7) underlying89 (by kernel_rfl) (Bt (c:=1) rfl rfl (by kernel_rfl) rfl on9 (Bt (c:=1) rfl rfl (by kernel_rfl) rfl on9 (Bt (c:=1) rfl rfl (by kernel_rfl) rfl on9 (Bt (c:=1) rfl rfl (by kernel_rfl) rfl Qz (Bt (c:=1) rfl rfl (by kernel_rfl) rfl Qz (Bt (c:=1) rfl rfl (by kernel_rfl) rfl B64 (Bt (c:=1) rfl rfl (by kernel_rfl) rfl B5c (Aiy rfl)))))))) (λp=>⟨p.1,p.2.1,p.2.2.1,p.2.2.2.1,p.2.2.2.2.1,p.2.2.2.2.2.1,p.2.2.2.2.2.2.1⟩) (λ_=>rfl) (λ_ h=>h) (λ_=>AI _)
theorem Caw:Bfl prog 26 (Ej 7 B0f):=Pz underlying26 (by kernel_rfl) (by decide) (λa=>Aiw a) Ca3
theorem Caz:Bfl prog 94 B1h:=Uc (T:=(Du A1i (Du (Cj .i64) Apm))) (tot:=2) underlying94 (by kernel_rfl) (Bt (c:=1) rfl rfl (by kernel_rfl) rfl on9 (Bt (c:=1) rfl rfl (by kernel_rfl) rfl Qz (Aiy rfl))) (λp=>⟨p.1,p.2.1⟩) (λ_=>rfl) (λ_ h=>h) (λ_=>AI _)
theorem Caj:Bfl prog 90 (Ej 2 B1h):=Pz underlying90 (by kernel_rfl) (by decide) (λa=>A5w a) Caz
theorem Ca4:Bfl prog 92 Boe:=Uc (T:=(Du A1i (Du (Ej 2 B1h) Apm))) (tot:=2) underlying92 (by kernel_rfl) (Bt (c:=1) rfl rfl (by kernel_rfl) rfl on9 (Bt (c:=1) rfl rfl (by kernel_rfl) rfl Caj (Aiy rfl))) (λp=>⟨p.1,p.2.1⟩) (λ_=>rfl) (λ_ h=>h) (λ_=>AI _)
theorem Ca7:Bfl prog 27 (Ej 2 Boe):=Pz underlying27 (by kernel_rfl) (by decide) (λa=>Anr a) Ca4
theorem Cab:Bfl prog 96 B0j:=Uc (T:=(Du A1i (Du (Cj .i64) (Du (Cj .i64) (Du (Cj .i64) Apm))))) (tot:=4) underlying96 (by kernel_rfl) (Bt (c:=1) rfl rfl (by kernel_rfl) rfl on9 (Bt (c:=1) rfl rfl (by kernel_rfl) rfl Qz (Bt (c:=1) rfl rfl (by kernel_rfl) rfl Qz (Bt (c:=1) rfl rfl (by kernel_rfl) rfl Qz (Aiy rfl))))) (λp=>⟨p.1,p.2.1,p.2.2.1,p.2.2.2.1⟩) (λ_=>rfl) (λ_ h=>h) (λ_=>AI _)
theorem B98:Bfl prog 28 (Ej 4 B0j):=Pz underlying28 (by kernel_rfl) (by decide) (λa=>Asy a) Cab
theorem Car:Bfl prog 98 B14:=Uc (T:=(Du (Cj .i64) (Du A1i (Du A1i (Du (Cj .i64) (Du (Cj .i64) (Du (Cj .i64) (Du Ajk Apm)))))))) (tot:=8) underlying98 (by kernel_rfl) (Bt (c:=1) rfl rfl (by kernel_rfl) rfl Qz (Bt (c:=1) rfl rfl (by kernel_rfl) rfl on9 (Bt (c:=1) rfl rfl (by kernel_rfl) rfl on9 (Bt (c:=1) rfl rfl (by kernel_rfl) rfl Qz (Bt (c:=1) rfl rfl (by kernel_rfl) rfl Qz (Bt (c:=1) rfl rfl (by kernel_rfl) rfl Qz (Bt (c:=2) rfl rfl (by kernel_rfl) rfl B8x (Aiy rfl)))))))) (λp=>⟨p.1,p.2.1,p.2.2.1,p.2.2.2.1,p.2.2.2.2.1,p.2.2.2.2.2.1,p.2.2.2.2.2.2.1⟩) (λ_=>rfl) (λ_ h=>h) (λ_=>AI _)
theorem Caa:Bfl prog 29 (Ej 8 B14):=Pz underlying29 (by kernel_rfl) (by decide) (λa=>Abp a) Car
theorem B6j:Bfl prog 31 Ahm:=Uc (T:=(Du (Ej 2 Bv9) (Du (Ej 5 A5j) (Du (Ej 3 A5g) (Du (Ej 5 Bn9) (Du (Ej 7 B0f) (Du (Ej 2 Boe) (Du (Ej 4 B0j) (Du (Ej 8 B14) Apm))))))))) (tot:=8) underlying31 (by kernel_rfl) (Bt (c:=1) rfl rfl (by kernel_rfl) rfl Cba (Bt (c:=1) rfl rfl (by kernel_rfl) rfl B9e (Bt (c:=1) rfl rfl (by kernel_rfl) rfl B9g (Bt (c:=1) rfl rfl (by kernel_rfl) rfl Cac (Bt (c:=1) rfl rfl (by kernel_rfl) rfl Caw (Bt (c:=1) rfl rfl (by kernel_rfl) rfl Ca7 (Bt (c:=1) rfl rfl (by kernel_rfl) rfl B98 (Bt (c:=1) rfl rfl (by kernel_rfl) rfl Caa (Aiy rfl))))))))) (λp=>⟨p.1,p.2.1,p.2.2.1,p.2.2.2.1,p.2.2.2.2.1,p.2.2.2.2.2.1,p.2.2.2.2.2.2.1,p.2.2.2.2.2.2.2.1⟩) (λ_=>rfl) (λ_ h=>h) (λ_=>AI _)
end Go.Proofs.YtcpfebjhnbjfbaaGreatDoor.laws
namespace Go.Am
open Go
theorem Bd.low0 {a:Airspace}(h:Bd a):LowOk a where
 seg:=by have:=h.g;omega
 vol:=by have:=h.v;omega
 rt:=by have:=h.r;omega
 rs:=λx z=>by have:=h.rg x z;omega
 sec:=by have:=Ab6;have:=h.s;omega
 secv:=λx z=>by have:=Ab6;have:=h.sv x z;omega
 con:=by have:=Ab6;have:=h.c;omega
 cons:=λx z=>by have:=Ab6;have:=h.cv x z;omega
 air:=by have:=Ab6;have:=h.p;omega
 mod:=λx z=>by have:=Ab6;have:=h.pm x z;omega
 cla:=by have:=Ab6;have:=h.k;omega
end Go.Am

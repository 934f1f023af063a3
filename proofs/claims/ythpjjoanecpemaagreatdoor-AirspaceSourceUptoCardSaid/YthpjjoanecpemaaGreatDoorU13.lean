/- Written by shrink.py from texts of ours: comments struck, what is not reached left out, names short. -/
import Derived.Test.YthpjjoanecpemaaGreatDoorU11
import Derived.Test.YthpjjoanecpemaaGreatDoorU12
import Derived.Test.YthpjjoanecpemaaGreatDoorRows
import Derived.KernelRfl
import Derived.Test.YthpjjoanecpemaaGreatDoorU4
import Derived.Test.YthpjjoanecpemaaGreatDoorCards
import Derived.Test.YthpjjoanecpemaaGreatDoorTie
import Derived.SevenTiedAt
import Derived.LaidMore
import Derived.LaidSub
set_option linter.unusedSimpArgs false
set_option linter.unusedVariables false
set_option linter.unusedSectionVars false
set_option linter.defProp false
set_option maxRecDepth 100000
open Go.Proofs.Tryz
namespace Go.Proofs.YthpjjoanecpemaaGreatDoor.laws
open Go Go.Am Go.ChangeShapes Go.WideShapes Go.ChangeAt Go.RowKit
theorem own:ownKnob prog.godebug=none:=by kernel_rfl
theorem A46:laidOutB prog=true:=by kernel_rfl
theorem Ba9:([1779033703,3144134277,1013904242,2773480762,1359893119,2600822924,528734635,1541459225]:List Int).map (.int .u32)=A1n:=by kernel_rfl
theorem A9g:([1116352408,1899447441,3049323471,3921009573,961987163,1508970993,2453635748,2870763221,3624381080,310598401,607225278,1426881987,1925078388,2162078206,2614888103,3248222580,3835390401,4022224774,264347078,604807628,770255983,1249150122,1555081692,1996064986,2554220882,2821834349,2952996808,3210313671,3336571891,3584528711,113926993,338241895,666307205,773529912,1294757372,1396182291,1695183700,1986661051,2177026350,2456956037,2730485921,2820302411,3259730800,3345764771,3516065817,3600352804,4094571909,275423344,430227734,506948616,659060556,883997877,958139571,1322822218,1537002063,1747873779,1955562222,2024104815,2227730452,2361852424,2428436474,2756734187,3204031479,3329325298]:List Int).map (.int .u32)=Azm:=by kernel_rfl
def Bfn:DataW Unit:=match(Rows.laid_overflight_syntax_definitions:DataW Unit)with
 |.iface _ d=>d
 |d=>d
theorem Bg4 {W:World} (h0:laidMetH Tryz.prog [("math/bits.deBruijn32tab",Rows.laid_math_bits_deBruijn32tab),("math/bits.deBruijn64tab",Rows.laid_math_bits_deBruijn64tab),("internal/strconv.uint64pow10",Rows.laid_internal_strconv_uint64pow10),("overflight/digest.start",Rows.laid_overflight_digest_start),("overflight/digest.numbers",Rows.laid_overflight_digest_numbers),("strconv.ErrRange",Rows.laid_strconv_ErrRange),("strconv.ErrSyntax",Rows.laid_strconv_ErrSyntax),("overflight/syntax.definitions",Rows.laid_overflight_syntax_definitions)] W):GW.n Tryz.prog≤W.heap.size∧GW.G Tryz.prog W.heap.size W:=by have h:=(laidMetH_iff.1 h0).1;rw[show(List.filter (fun x=>x.2.handleName?.isNone) [("math/bits.deBruijn32tab",Rows.laid_math_bits_deBruijn32tab),("math/bits.deBruijn64tab",Rows.laid_math_bits_deBruijn64tab),("internal/strconv.uint64pow10",Rows.laid_internal_strconv_uint64pow10),("overflight/digest.start",Rows.laid_overflight_digest_start),("overflight/digest.numbers",Rows.laid_overflight_digest_numbers),("strconv.ErrRange",Rows.laid_strconv_ErrRange),("strconv.ErrSyntax",Rows.laid_strconv_ErrSyntax),("overflight/syntax.definitions",Rows.laid_overflight_syntax_definitions)])=[("math/bits.deBruijn32tab",Rows.laid_math_bits_deBruijn32tab),("math/bits.deBruijn64tab",Rows.laid_math_bits_deBruijn64tab),("internal/strconv.uint64pow10",Rows.laid_internal_strconv_uint64pow10),("overflight/digest.start",Rows.laid_overflight_digest_start),("overflight/digest.numbers",Rows.laid_overflight_digest_numbers),("strconv.ErrRange",Rows.laid_strconv_ErrRange),("strconv.ErrSyntax",Rows.laid_strconv_ErrSyntax)]by kernel_rfl]at h;have hn:=Blh (g:=8) (by kernel_rfl) (Lib.laidMet.reads h (n:="math/bits.deBruijn64tab") (d:=Rows.laid_math_bits_deBruijn64tab) (by repeat (first|exact List.mem_cons_self ..|apply List.mem_cons_of_mem)));exact⟨hn,⟨(Aw9 (g:=4) (t:=260) (by kernel_rfl) (by kernel_rfl) Tryz.underlying260 (Lib.laidMet.reads h (n:="strconv.ErrRange") (d:=Rows.laid_strconv_ErrRange) (by repeat (first|exact List.mem_cons_self ..|apply List.mem_cons_of_mem)))),(Aw9 (g:=3) (t:=260) (by kernel_rfl) (by kernel_rfl) Tryz.underlying260 (Lib.laidMet.reads h (n:="strconv.ErrSyntax") (d:=Rows.laid_strconv_ErrSyntax) (by repeat (first|exact List.mem_cons_self ..|apply List.mem_cons_of_mem)))),(Ave (g:=6) (t:=397) (by kernel_rfl) (by kernel_rfl) Tryz.underlying397 Tryz.underlying302 (by kernel_rfl) (by kernel_rfl) (Lib.laidMet.reads h (n:="internal/strconv.uint64pow10") (d:=Rows.laid_internal_strconv_uint64pow10) (by repeat (first|exact List.mem_cons_self ..|apply List.mem_cons_of_mem))))⟩,Bh1 (d:=Bfn) (l:=Uy) (laidMetH.funcs h0 (n:="overflight/syntax.definitions") (d:=Bfn) (by repeat (first|exact List.mem_cons_self ..|apply List.mem_cons_of_mem))) (by kernel_rfl) (by kernel_rfl) (by kernel_rfl) Tryz.underlying203 Tryz.underlying9 Tryz.underlying201 (by kernel_rfl) (by decide+kernel),(Ba9▸A4c (g:=1) (by kernel_rfl) (Ave (g:=1) (t:=305) (by kernel_rfl) (by kernel_rfl) Tryz.underlying305 Tryz.underlying304 (by kernel_rfl) (by kernel_rfl) (Lib.laidMet.reads h (n:="overflight/digest.start") (d:=Rows.laid_overflight_digest_start) (by repeat (first|exact List.mem_cons_self ..|apply List.mem_cons_of_mem))))),(A9g▸A4c (g:=2) (by kernel_rfl) (Ave (g:=2) (t:=339) (by kernel_rfl) (by kernel_rfl) Tryz.underlying339 Tryz.underlying304 (by kernel_rfl) (by kernel_rfl) (Lib.laidMet.reads h (n:="overflight/digest.numbers") (d:=Rows.laid_overflight_digest_numbers) (by repeat (first|exact List.mem_cons_self ..|apply List.mem_cons_of_mem)))))⟩
theorem rd9:prog.readableRec 9=true∧9<prog.types.size:=by decide+kernel
theorem Bd9 {H:Type}:Bulk (H:=H) Rows.uptoBulk Rows.uptoBulkAll:=⟨λd=>by cases d with|lit l=>cases l<;>simp[Rows.uptoBulk]|_=>simp[Rows.uptoBulk],λl=>by simp[Rows.uptoBulk],λe s=>by simp only[Rows.uptoBulk];omega,λl=>by simp[Rows.uptoBulk],by simp[Rows.uptoBulkAll],λd l=>by simp[Rows.uptoBulkAll]⟩
theorem on9:Bfl prog 9 A1i:=Ba5 underlying9
end Go.Proofs.YthpjjoanecpemaaGreatDoor.laws

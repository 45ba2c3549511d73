/- A part of the proof. -/
import Derived.Test.YtegefclhhjbfhaaGreatDoorGc
import Derived.Test.YtegefclhhjbfhaaGreatDoorL
import Derived.Test.YtegefclhhjbfhaaGreatDoorRows
import Derived.LaidByTextLater
set_option linter.unusedVariables false
set_option linter.unusedSimpArgs false
set_option maxRecDepth 1000000
namespace Go.T9
open Go Go.AM Go.FA Go.Proofs Go.Proofs.YtegefclhhjbfhaaGreatDoor Go.Proofs.Tryz
theorem tw1:Proofs.Tryz.prog.worded (varsWordLater true)=true:=by unfold Program.worded;rw[<-Jm];kernel_rfl
theorem tw2:Proofs.Tryz.prog.worded (varsWordLater !true)=false:=by unfold Program.worded;rw[<-Jm];kernel_rfl
theorem tw3:Proofs.Tryz.prog.worded rootWordLater=true:=by unfold Program.worded;rw[<-Jm];kernel_rfl
noncomputable def laidL4:List (String×DataW Unit):=[("math/bits.deBruijn64tab",Rows.laid_math_bits_deBruijn64tab),("internal/strconv.uint64pow10",Rows.laid_internal_strconv_uint64pow10),("math/bits.deBruijn32tab",Rows.laid_math_bits_deBruijn32tab)]
theorem tkL4:laidL4.map (λx=>Proofs.Tryz.prog.kindOfLater x.1)=([.data,.data,.data]:List LaidKind).map some:=by kernel_rfl
theorem tdL4(os:Os)(a:Tape):varsDone Proofs.Tryz.prog 400 154 os a=true:=by kernel_rfl
theorem tnL4:varsNamedLaterB Proofs.Tryz.prog 154 laidL4=true:=by kernel_rfl
end Go.T9

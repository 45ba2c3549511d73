/- A part of the proof. -/
import Derived.Test.YthnclaleojkecaaGreatDoorGc
import Derived.Test.YthnclaleojkecaaGreatDoorL
import Derived.Test.YthnclaleojkecaaGreatDoorRows
import Derived.LaidByTextLater
set_option linter.unusedVariables false
set_option linter.unusedSimpArgs false
set_option maxRecDepth 1000000
namespace Go.T9
open Go Go.AM Go.FA Go.Proofs Go.Proofs.YthnclaleojkecaaGreatDoor Go.Proofs.Tryz
theorem tw1:Proofs.Tryz.prog.worded (varsWordLater true)=true:=by unfold Program.worded;rw[<-Jh];kernel_rfl
theorem tw2:Proofs.Tryz.prog.worded (varsWordLater !true)=false:=by unfold Program.worded;rw[<-Jh];kernel_rfl
theorem tw3:Proofs.Tryz.prog.worded rootWordLater=true:=by unfold Program.worded;rw[<-Jh];kernel_rfl
noncomputable def laidL3:List (String×DataW Unit):=[("internal/strconv.uint64pow10",Rows.laid_internal_strconv_uint64pow10),("math/bits.deBruijn32tab",Rows.laid_math_bits_deBruijn32tab),("math/bits.deBruijn64tab",Rows.laid_math_bits_deBruijn64tab)]
theorem tkL3:laidL3.map (λx=>Proofs.Tryz.prog.kindOfLater x.1)=([.data,.data,.data]:List LaidKind).map some:=by kernel_rfl
theorem tdL3(os:Os)(a:Tape):varsDone Proofs.Tryz.prog 400 136 os a=true:=by kernel_rfl
theorem tnL3:varsNamedLaterB Proofs.Tryz.prog 136 laidL3=true:=by kernel_rfl
end Go.T9

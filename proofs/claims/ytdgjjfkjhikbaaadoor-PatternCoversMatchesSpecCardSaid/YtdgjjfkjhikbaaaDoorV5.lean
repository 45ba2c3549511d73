/- A part of the proof. -/
import Derived.Test.YtdgjjfkjhikbaaaDoorV4
import Derived.Test.YtdgjjfkjhikbaaaDoorU2
set_option linter.unusedVariables false
set_option linter.unusedSimpArgs false
set_option maxRecDepth 1000000
namespace Go.T9
open Go Go.AM Go.MK
noncomputable section
def frL3 : T Value := (Nd (Nd Lf none (Nd Lf none (Nd Lf (some (Value.pointer (some ⟨5, 0, none⟩))) Lf))) none (Nd Lf (some (Value.pointer (some ⟨4, 0, none⟩))) Lf))
def hL3 : AH := (AH.mk (Nd (Nd (Nd (Nd Lf (some (AObj.cells [Value.bool false, Value.bool false, Value.bool false, Value.bool true] 4)) Lf) (some (AObj.cells [Vi 97, Vi 97] 82)) (Nd Lf (some (AObj.cells [Vi 1, Vi 2, Vi 3] 3)) Lf)) (some (AObj.cells [Vi 3, Value.slice (some ⟨3, 0, none⟩) 1 18446744073709551616, Vi 0, Vi 0, Value.slice none 0 0] 25)) (Nd (Nd Lf (some (AObj.cells [Vi 1, Vi 2, Vi 3] 3)) Lf) (some (AObj.cells (List.replicate 97 (Vi 0) ++ [Vi 1, Vi 2] ++ List.replicate 157 (Vi 0) ++ [Value.slice (some ⟨6, 0, none⟩) 3 18446744073709551616, Value.slice (some ⟨7, 0, none⟩) 4 18446744073709551616, Value.slice (some ⟨8, 0, none⟩) 4 18446744073709551616]) 68)) Lf)) (some (AObj.cells [Vi 6, Value.slice none 0 0, Vi 0, Vi (-1 : Int), Value.slice (some ⟨1, 0, none⟩) 1 1, Vi 3, Value.slice (some ⟨2, 0, none⟩) 1 18446744073709551616, Vi 0, Vi 0, Value.slice none 0 0] 25)) (Nd (Nd (Nd Lf (some (AObj.cells [Value.slice (some ⟨9, 0, none⟩) 3 3, Value.slice (some ⟨10, 0, none⟩) 3 3, Value.slice (some ⟨11, 0, none⟩) 3 3, Value.slice (some ⟨12, 0, none⟩) 3 3] 50)) Lf) (some (AObj.cells [Vi 0, Value.slice none 0 0, Value.slice none 0 0] 29)) (Nd Lf (some (AObj.cells [Vi 1, Vi 1, Vi 1] 3)) Lf)) (some (AObj.cells [Vi 98, Vi 98] 82)) (Nd (Nd Lf (some (AObj.cells [Vi 1, Vi 1, Vi 1] 3)) Lf) (some (AObj.cells [Vi 0, Vi 97, Vi 98] 3)) Lf))) 13)
theorem jL3_nf (K : KF) : jL3 K = K frL3 hL3 := by kernel_rfl
def roA : AObj := .cells (List.replicate 97 (Vi 1) ++ [Vi 0, Vi 2] ++ List.replicate 157 (Vi 1)) 3
def roB : AObj := .cells (List.replicate 256 (Vi 1)) 3
def leN : List AObj := leO ++ [.cells [Vb false, Vb false, Vb true] 4, .cells [.slice (some ⟨10, 0, none⟩) 256 256, .slice (some ⟨11, 0, none⟩) 256 256, .slice (some ⟨12, 0, none⟩) 256 256] 50, roA, roB, roB]
def leV : Value := .tuple ⟨[.agg ⟨[Vi 0, .slice (some ⟨8, 0, none⟩) 3 unk, .slice (some ⟨9, 0, none⟩) 3 unk]⟩, Vi 0]⟩
theorem jM7_eq (Q : Value → AH → Prop) : jM7 Q = Q leV (heapN leN) := by kernel_rfl
attribute [local irreducible] cloV cloR cloE cloC cloK cloF cloX evN W heapN sx
theorem w_last : W env hLe0 (Func.ntmps Proofs.Tryd.f27) (restC 7 bLe) (Fin env Proofs.Tryd.f27 (EndF env hLe0 leV (heapN leN))) frM6 hM6 :=
 cloK_ok (ns := []) (zs := []) (ws := []) XLe_ok (show cloK XLe 1 (restC 7 bLe) Proofs.Tryd.f27 hLe0 frM6 hM6 (endF env hLe0 [] [] [] (fun v1 N1 => v1 = leV ∧ N1 = heapN leN)) from (jM7_eq (fun v1 N1 => v1 = leV ∧ N1 = heapN leN)).mpr ⟨Eq.refl _, Eq.refl _⟩)
theorem c_exit {QQ : Post} (w : W env hLe0 (Func.ntmps Proofs.Tryd.f27) (restC 7 bLe) QQ frM6 hM6) : CR env env1 hLe0 (Func.ntmps Proofs.Tryd.f27) lLe (Blk 0 (Then (W env hLe0 (Func.ntmps Proofs.Tryd.f27) (restC 7 bLe) QQ) QQ)) frM5 hM5 :=
 CR.exit (k := 100000) (slots := [0, 2, 7]) env_ok env_gl twin okLe (show cloE env env1 100000 lLe (Func.ntmps Proofs.Tryd.f27) 0 hLe0 [0, 2, 7] frM5 hM5 (fun F1 A1 => F1 = frM6 ∧ A1 = hM6) from (jM6_nf _).mpr ⟨Eq.refl _, Eq.refl _⟩) w
theorem c_rounds {QQ : Post} (c : CR env env1 hLe0 (Func.ntmps Proofs.Tryd.f27) lLe QQ frM5 hM5) : CR env env1 hLe0 (Func.ntmps Proofs.Tryd.f27) lLe QQ frM2 hM2 := by
 have c4 : CR env env1 hLe0 (Func.ntmps Proofs.Tryd.f27) lLe QQ frM4 hM4 := CR.clo (k := 100000) (m := 1) (slots := [0, 2, 4, 5, 6, 7, 8]) env_ok env_gl (show cloR env env1 100000 lLe (Func.ntmps Proofs.Tryd.f27) hLe0 1 [0, 2, 4, 5, 6, 7, 8] frM4 hM4 (fun F1 A1 => F1 = frM5 ∧ A1 = hM5) from (jM5_nf _).mpr ⟨HF_inA [0, 1, 2], Eq.refl _, Eq.refl _⟩) c
 have c3 : CR env env1 hLe0 (Func.ntmps Proofs.Tryd.f27) lLe QQ frM3 hM3 := CR.clo (k := 100000) (m := 1) (slots := [0, 2, 4, 5, 6, 7, 8]) env_ok env_gl (show cloR env env1 100000 lLe (Func.ntmps Proofs.Tryd.f27) hLe0 1 [0, 2, 4, 5, 6, 7, 8] frM3 hM3 (fun F1 A1 => F1 = frM4 ∧ A1 = hM4) from (jM4_nf _).mpr ⟨HF_inA [0, 1, 2], Eq.refl _, Eq.refl _⟩) c4
 exact CR.clo (k := 100000) (m := 1) (slots := [0, 2, 4, 5, 6, 7, 8]) env_ok env_gl (show cloR env env1 100000 lLe (Func.ntmps Proofs.Tryd.f27) hLe0 1 [0, 2, 4, 5, 6, 7, 8] frM2 hM2 (fun F1 A1 => F1 = frM3 ∧ A1 = hM3) from (jM3_nf _).mpr ⟨HF_inA [0, 1, 2], Eq.refl _, Eq.refl _⟩) c3
theorem w_all {QQ : Post} (w : W env hLe0 (Func.ntmps Proofs.Tryd.f27) (restC 7 bLe) QQ frM6 hM6) : W env hLe0 (Func.ntmps Proofs.Tryd.f27) bLe QQ frLe0 hLe0 := by
 have w6 : W env hLe0 (Func.ntmps Proofs.Tryd.f27) (restC 6 bLe) QQ frM1 hM1 :=
  W.loopPiece (k := 100000) (slots := [0, 2, 4, 5, 6, 7, 8]) env_ok env_gl twin eqLe okLr okLe (show cloC env env1 100000 rLe (Func.ntmps Proofs.Tryd.f27) hLe0 [0, 2, 4, 5, 6, 7, 8] frM1 hM1 (fun F1 A1 => F1 = frM2 ∧ A1 = hM2) from (jM2_nf _).mpr ⟨HF_inA [0], Eq.refl _, Eq.refl _⟩) (c_rounds (c_exit w))
 exact cloV_ok (k := 100000) (m := 6) (slots := [0, 2, 4, 5, 6, 7]) env_ok env_gl twin (show cloV env env1 100000 bLe 6 (Func.ntmps Proofs.Tryd.f27) hLe0 [0, 2, 4, 5, 6, 7] frLe0 hLe0 (fun F1 A1 => F1 = frM1 ∧ A1 = hM1) from (jM1_nf _).mpr ⟨HF_inA [0], Eq.refl _, Eq.refl _⟩) w6
theorem frLe0_ok : mkFrame [.pointer (some ⟨0, 0, none⟩)] 0 .leaf = some frLe0 := by kernel_rfl
theorem bLe_ok : (Proofs.Tryd.f27).body = some bLe := by kernel_rfl
theorem le_call0 : CallAt env 27 [.pointer (some ⟨0, 0, none⟩)] hLe0 leV (heapN leN) :=
 WalkF.call env_ok (fn := Proofs.Tryd.f27) rfl ⟨bLe, frLe0, bLe_ok, rfl, frLe0_ok, w_all w_last⟩
theorem le_call : CallAt env 27 [.pointer (some ⟨0, 0, none⟩)] (heapN leO) leV (heapN leN) := le_call0
def XL4 : SX := ⟨env, [(27, frmR (fun _ => none) (litR [.pointer (some ⟨0, 0, none⟩)] leO leV leN))], noEl, fun _ => .unroll 0⟩
theorem XL4_ok : XL4.Ok := ⟨env_ok, env_sym, env_gl, .cons (litR_ok le_call) .nil⟩
def jL4 (Q : Value → AH → Prop) : Prop := cloK XL4 1 (restC 13 cLe) Proofs.Tryd.f6 hL0 frL3 hL3 (endF env hL0 [] [] [] Q)
end
end Go.T9

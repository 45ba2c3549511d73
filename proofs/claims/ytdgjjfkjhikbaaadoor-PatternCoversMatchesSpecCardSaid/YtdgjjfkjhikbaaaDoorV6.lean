/- A part of the proof. -/
import Derived.Test.YtdgjjfkjhikbaaaDoorV5
set_option linter.unusedVariables false
set_option linter.unusedSimpArgs false
set_option maxRecDepth 1000000
namespace Go.T9
open Go Go.AM Go.MK
noncomputable section
def alO : List AObj := exO ++ [.cells [Vb false, Vb false, Vb true] 4, .cells [.slice (some ⟨6, 0, none⟩) 256 256, .slice (some ⟨7, 0, none⟩) 256 256, .slice (some ⟨8, 0, none⟩) 256 256] 50, roA, roB, roB]
def alV : Value := .tuple ⟨[.agg ⟨[Vi 0, .slice (some ⟨4, 0, none⟩) 3 unk, .slice (some ⟨5, 0, none⟩) 3 unk]⟩, Vi 0]⟩
theorem jL4_eq (Q : Value → AH → Prop) : jL4 Q = (([Value.pointer (some ⟨0, 0, none⟩)] = [Value.pointer (some ⟨0, 0, none⟩)] ∧ leO = leO) ∧ Q alV (heapN alO)) := by kernel_rfl
theorem re1 : restC 1 (restC 9 cLe) = restC 10 cLe := by kernel_rfl
theorem re3 : restC 3 (restC 10 cLe) = restC 13 cLe := by kernel_rfl
theorem frL0_ok : mkFrame [exB] 0 .leaf = some frL0 := by kernel_rfl
theorem cLe_ok : (Proofs.Tryd.f6).body = some cLe := by kernel_rfl
attribute [local irreducible] cloV cloR cloE cloC cloK cloF cloX evN W heapN sx
theorem l_last : W env hL0 (Func.ntmps Proofs.Tryd.f6) (restC 13 cLe) (Fin env Proofs.Tryd.f6 (EndF env hL0 alV (heapN alO))) frL3 hL3 :=
 cloK_ok (ns := []) (zs := []) (ws := []) XL4_ok (show cloK XL4 1 (restC 13 cLe) Proofs.Tryd.f6 hL0 frL3 hL3 (endF env hL0 [] [] [] (fun v1 N1 => v1 = alV ∧ N1 = heapN alO)) from (jL4_eq (fun v1 N1 => v1 = alV ∧ N1 = heapN alO)).mpr ⟨⟨Eq.refl _, Eq.refl _⟩, Eq.refl _, Eq.refl _⟩)
theorem l_all {QQ : Post} (w : W env hL0 (Func.ntmps Proofs.Tryd.f6) (restC 13 cLe) QQ frL3 hL3) : W env hL0 (Func.ntmps Proofs.Tryd.f6) cLe QQ frL0 hL0 := by
 have w3 : W env hL0 (Func.ntmps Proofs.Tryd.f6) (restC 10 cLe) QQ frL2 hL2 :=
  cloV_ok (k := 100000) (m := 3) (slots := [2, 13]) env_ok env_gl twin (show cloV env env1 100000 (restC 10 cLe) 3 (Func.ntmps Proofs.Tryd.f6) hL0 [2, 13] frL2 hL2 (fun F1 A1 => F1 = frL3 ∧ A1 = hL3) from (jL3_nf _).mpr ⟨Eq.refl _, Eq.refl _⟩) (re3 ▸ w)
 have w2 : W env hL0 (Func.ntmps Proofs.Tryd.f6) (restC 9 cLe) QQ frL1 hL1 :=
  cloV_ok (k := 100000) (m := 1) (slots := [2, 5, 6, 7, 8, 13]) env_ok env_gl twin (show cloV env env1 100000 (restC 9 cLe) 1 (Func.ntmps Proofs.Tryd.f6) hL0 [2, 5, 6, 7, 8, 13] frL1 hL1 (fun F1 A1 => F1 = frL2 ∧ A1 = hL2) from (jL2_nf _).mpr ⟨Eq.refl _, Eq.refl _⟩) (re1 ▸ w3)
 exact cloV_ok (k := 100000) (m := 9) (slots := [2, 5, 6, 7, 8, 13]) env_ok env_gl twin (show cloV env env1 100000 cLe 9 (Func.ntmps Proofs.Tryd.f6) hL0 [2, 5, 6, 7, 8, 13] frL0 hL0 (fun F1 A1 => F1 = frL1 ∧ A1 = hL1) from (jL1_nf _).mpr ⟨Eq.refl _, Eq.refl _⟩) w2
theorem least_call0 : CallAt env 6 [exB] hL0 alV (heapN alO) :=
 WalkF.call env_ok (fn := Proofs.Tryd.f6) rfl ⟨cLe, frL0, cLe_ok, rfl, frL0_ok, l_all l_last⟩
theorem least_call : CallAt env 6 [exB] (heapN exO) alV (heapN alO) := least_call0
def rdB : Value := .tuple ⟨[exB, Vi 0, Vi 0]⟩
theorem jRd_eq (Q : Value → AH → Prop) : jRd Q = Q rdB (heapN exO) := by kernel_rfl
theorem read_call : CallAt env 28 [.string (mkBytes [97, 42, 98])] ⟨.leaf, 0⟩ rdB (heapN exO) :=
 cloF_ok (ns := []) (zs := []) (ws := []) env_ok env_gl twin (show cloF env env1 100000 28 [.string (mkBytes [97, 42, 98])] ⟨.leaf, 0⟩ (endF env ⟨.leaf, 0⟩ [] [] [] (fun v1 N1 => v1 = rdB ∧ N1 = heapN exO)) from (jRd_eq _).mpr ⟨Eq.refl _, Eq.refl _⟩)
def aB : AU := (0, [false, false, true], [List.replicate 97 1 ++ [0, 2] ++ List.replicate 157 1, List.replicate 256 1, List.replicate 256 1])
theorem wf_aB : WfA aB := by
 have h : (aB.2.2.all fun r => decide (r.length < 9223372036854775808)) = true := by kernel_rfl
 refine ⟨by decide, by decide, fun r hr => ?_⟩
 exact of_decide_eq_true (List.all_eq_true.1 h r hr)
theorem acc_aB : accI aB (mkBytes [97, 97, 98]) = (true, 0) := by kernel_rfl
theorem acc_con : Con env 9 (pureX (one [auV aB, .string (mkBytes [97, 97, 98])] (acV (true, 0)))) := by
 have h := ac_walk wf_aB (mkBytes [97, 97, 98]) (by decide)
 rw [acc_aB] at h
 exact con_one env_ok env_gl (fn := Proofs.Tryd.f9) rfl (HF.cons (HF_au _) (HF.cons (.scal rfl) HF.nil)) h
theorem heap_nil : heapN [] = ⟨.leaf, 0⟩ := by kernel_rfl
theorem flat_ac : SameV (acV (true, 0)) := sameV_tuple (l := [.bool true, .int .i64 0]) (by kernel_rfl)
theorem read_call2 : CallAt env 28 [.string (mkBytes [97, 42, 98])] (heapN []) rdB (heapN exO) := heap_nil ▸ read_call
def XSt : SX := ⟨env, [(28, frmR (fun _ => none) (litR [.string (mkBytes [97, 42, 98])] [] rdB exO)), (6, frmR (fun _ => none) (litR [exB] exO alV alO)), (9, fzR [auV aB, .string (mkBytes [97, 97, 98])] (acV (true, 0)))], noEl, fun _ => .unroll 0⟩
theorem XSt_ok : XSt.Ok := ⟨env_ok, env_sym, env_gl, .cons (litR_ok read_call2) (.cons (litR_ok least_call) (.cons (fzR_ok acc_con (one_self _ _) flat_ac) .nil))⟩
def jSt (K : KV) : Prop := sxFnF XSt 1 Proofs.Tryd.f8 [] ⟨.leaf, 0⟩ K
end
end Go.T9

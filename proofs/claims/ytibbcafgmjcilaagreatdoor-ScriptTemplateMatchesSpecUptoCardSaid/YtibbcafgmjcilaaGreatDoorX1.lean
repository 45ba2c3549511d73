/- A part of the proof. -/
import Derived.Test.YtibbcafgmjcilaaGreatDoorU1
import Derived.Test.YtibbcafgmjcilaaGreatDoorV
import Derived.Test.YtibbcafgmjcilaaGreatDoorF
import Derived.KernelRfl
import Derived.Test.YtibbcafgmjcilaaGreatDoorR
set_option maxRecDepth 1000000
set_option linter.unusedVariables false
set_option linter.unusedSimpArgs false
set_option maxHeartbeats 4000000
namespace Go.T9
open Go Go.AM Go.MK
noncomputable section
def plB (s : SB) (i : Nat) : Bool := !decide (byteAt s (i : Int) = 36) || (decide (i + 1 = s.size) || (!decide (byteAt s ((i + 1 : Nat) : Int) = 36) && !decide (byteAt s ((i + 1 : Nat) : Int) = 123)))
def lenN (s : SB) (i : Nat) : Int := ixB (subB s (i : Int) (s.size : Int)) 125
def namN (s : SB) (i : Nat) : SB := subB s ((i + 2 : Nat) : Int) ((i + (lenN s i).toNat : Nat) : Int)
def badN (s : SB) (i : Nat) : Bool := decide (lenN s i < 0) || !nameB (namN s i)
def pcs (s : SB) (i : Nat) (txt : List UInt8) (out : List (SB × SB)) : List (SB × SB) × Int :=
  if h : i < s.size then
    bif plB s i then pcs s (i + 1) (txt ++ [bAt s i]) out
    else bif decide (byteAt s ((i + 1 : Nat) : Int) = 36) then pcs s (i + 2) (txt ++ [36]) out
    else bif badN s i then ([], (i : Int))
    else pcs s (i + (lenN s i).toNat + 1) [] (out ++ [(mkBytes txt, mkBytes []), (mkBytes [], namN s i)])
  else (out ++ [(mkBytes txt, mkBytes [])], -1)
termination_by s.size - i
decreasing_by all_goals omega
theorem pcs_pl {s : SB} {i : Nat} (h : i < s.size) (h1 : plB s i = true) (txt : List UInt8) (out : List (SB × SB)) : pcs s i txt out = pcs s (i + 1) (txt ++ [bAt s i]) out := by
  conv => lhs; unfold pcs
  rw [dif_pos h, h1]; rfl
theorem pcs_dd {s : SB} {i : Nat} (h : i < s.size) (h1 : plB s i = false) (h2 : byteAt s ((i + 1 : Nat) : Int) = 36) (txt : List UInt8) (out : List (SB × SB)) : pcs s i txt out = pcs s (i + 2) (txt ++ [36]) out := by
  conv => lhs; unfold pcs
  rw [dif_pos h, h1, decide_eq_true h2]; rfl
theorem pcs_bad {s : SB} {i : Nat} (h : i < s.size) (h1 : plB s i = false) (h2 : ¬ byteAt s ((i + 1 : Nat) : Int) = 36) (h3 : badN s i = true) (txt : List UInt8) (out : List (SB × SB)) : pcs s i txt out = ([], (i : Int)) := by
  conv => lhs; unfold pcs
  rw [dif_pos h, h1, decide_eq_false h2, h3]; rfl
theorem pcs_nm {s : SB} {i : Nat} (h : i < s.size) (h1 : plB s i = false) (h2 : ¬ byteAt s ((i + 1 : Nat) : Int) = 36) (h3 : badN s i = false) (txt : List UInt8) (out : List (SB × SB)) : pcs s i txt out = pcs s (i + (lenN s i).toNat + 1) [] (out ++ [(mkBytes txt, mkBytes []), (mkBytes [], namN s i)]) := by
  conv => lhs; unfold pcs
  rw [dif_pos h, h1, decide_eq_false h2, h3]; rfl
theorem pcs_end {s : SB} {i : Nat} (h : ¬ i < s.size) (txt : List UInt8) (out : List (SB × SB)) : pcs s i txt out = (out ++ [(mkBytes txt, mkBytes [])], -1) := by
  conv => lhs; unfold pcs
  rw [dif_neg h]
theorem plB_false {s : SB} {i : Nat} (h : i < s.size) (h1 : plB s i = false) : byteAt s (i : Int) = 36 ∧ i + 1 < s.size ∧ (byteAt s ((i + 1 : Nat) : Int) = 36 ∨ byteAt s ((i + 1 : Nat) : Int) = 123) := by
  unfold plB at h1
  simp only [Bool.or_eq_false_iff, Bool.not_eq_false', decide_eq_true_eq, decide_eq_false_iff_not, Bool.and_eq_false_iff] at h1
  exact ⟨h1.1, by omega, h1.2.2⟩
theorem lenN_in {s : SB} {i : Nat} (h : i < s.size) (h1 : plB s i = false) (h2 : ¬ byteAt s ((i + 1 : Nat) : Int) = 36) (h3 : ¬ lenN s i < 0) : 2 ≤ lenN s i ∧ (i : Int) + lenN s i < s.size := by
  obtain ⟨a, b, c⟩ := plB_false h h1
  have c : byteAt s ((i + 1 : Nat) : Int) = 123 := c.resolve_left h2
  unfold lenN at h3 ⊢
  obtain ⟨g1, g2⟩ := ixB_in (c := 125) (by decide) (by decide) h3
  have hsz : (subB s (i : Int) (s.size : Int)).size = s.size - i := subB_size (by omega) (Nat.le_refl _)
  rw [hsz] at g1
  refine ⟨?_, by omega⟩
  rcases Nat.lt_or_ge (ixB (subB s (i : Int) (s.size : Int)) 125).toNat 2 with hl | hl
  · exfalso
    generalize hn : ixB (subB s (i : Int) (s.size : Int)) 125 = n at *
    have h01 : n = ((0 : Nat) : Int) ∨ n = ((1 : Nat) : Int) := by omega
    rcases h01 with rfl | rfl
    · rw [byteAt_sub (by omega) (Nat.le_refl _)] at g2
      rw [Nat.add_zero, a] at g2; exact absurd g2 (by decide)
    · rw [byteAt_sub (by omega) (Nat.le_refl _)] at g2
      rw [c] at g2; exact absurd g2 (by decide)
  · omega
end
end Go.T9
set_option maxRecDepth 1000000
set_option linter.unusedVariables false
namespace Go.T9
open Go Go.AM Go.Shelf
noncomputable section
def ren169 : Ren := ⟨fun x => match x with | 169 => 63 | n => n, fun x => match x with | 0 => 0 | 3 => 3 | 5 => 5 | 9 => 9 | 37 => 83 | 70 => 117 | 72 => 119 | 127 => 166 | n => n, fun x => x⟩
theorem lays169 : Proofs.Lays.n169 env.P ren169 where
  mixed := env_ok.mixed
  f169 := env_ok.fn 63 (Proofs.Body.n169 ren169) (by kernel_rfl)
  t0 := und_ok env_ok (t := 0) (d := (TypeDesc.tuple #[])) (by kernel_rfl)
  a0 := fun w => run_agg env_ok (t := 0) (d := (TypeDesc.tuple #[])) (by kernel_rfl) w
  z0 := fun w => run_size env_ok (t := 0) (i := Proofs.Tryz.t0) (by kernel_rfl) w
  v0 := fun w => run_zero env_ok (t := 0) (i := Proofs.Tryz.t0) (z := (Value.tuple #[])) (by kernel_rfl) (by kernel_rfl) w
  t3 := und_ok env_ok (t := 3) (d := (TypeDesc.int IntKind.i64)) (by kernel_rfl)
  a3 := fun w => run_agg env_ok (t := 3) (d := (TypeDesc.int IntKind.i64)) (by kernel_rfl) w
  z3 := fun w => run_size env_ok (t := 3) (i := Proofs.Tryz.t3) (by kernel_rfl) w
  v3 := fun w => run_zero env_ok (t := 3) (i := Proofs.Tryz.t3) (z := (Value.int IntKind.i64 0)) (by kernel_rfl) (by kernel_rfl) w
  t9 := und_ok env_ok (t := 9) (d := (TypeDesc.string)) (by kernel_rfl)
  a9 := fun w => run_agg env_ok (t := 9) (d := (TypeDesc.string)) (by kernel_rfl) w
  z9 := fun w => run_size env_ok (t := 9) (i := Proofs.Tryz.t9) (by kernel_rfl) w
  v9 := fun w => run_zero env_ok (t := 9) (i := Proofs.Tryz.t9) (z := (Value.string { data := #[] })) (by kernel_rfl) (by kernel_rfl) w
  t37 := und_ok env_ok (t := 83) (d := (TypeDesc.slice (ren169.t 5))) (by kernel_rfl)
  a37 := fun w => run_agg env_ok (t := 83) (d := (TypeDesc.slice (ren169.t 5))) (by kernel_rfl) w
  z37 := fun w => run_size env_ok (t := 83) (i := Proofs.Tryz.t83) (by kernel_rfl) w
  v37 := fun w => run_zero env_ok (t := 83) (i := Proofs.Tryz.t83) (z := (Value.slice none 0 0)) (by kernel_rfl) (by kernel_rfl) w
  t70 := und_ok env_ok (t := 117) (d := (TypeDesc.pointer (ren169.t 72))) (by kernel_rfl)
  a70 := fun w => run_agg env_ok (t := 117) (d := (TypeDesc.pointer (ren169.t 72))) (by kernel_rfl) w
  z70 := fun w => run_size env_ok (t := 117) (i := Proofs.Tryz.t117) (by kernel_rfl) w
  v70 := fun w => run_zero env_ok (t := 117) (i := Proofs.Tryz.t117) (z := (Value.pointer none)) (by kernel_rfl) (by kernel_rfl) w
  t72 := und_ok env_ok (t := 119) (d := (TypeDesc.struct #[{ name := "addr", type := ren169.t 70, offset := 0, embedded := false, tag := "", pkgPath := "strings", byteOffset := 0 }, { name := "buf", type := ren169.t 37, offset := 1, embedded := false, tag := "", pkgPath := "strings", byteOffset := 8 }])) (by kernel_rfl)
  a72 := fun w => run_agg env_ok (t := 119) (d := (TypeDesc.struct #[{ name := "addr", type := ren169.t 70, offset := 0, embedded := false, tag := "", pkgPath := "strings", byteOffset := 0 }, { name := "buf", type := ren169.t 37, offset := 1, embedded := false, tag := "", pkgPath := "strings", byteOffset := 8 }])) (by kernel_rfl) w
  z72 := fun w => run_size env_ok (t := 119) (i := Proofs.Tryz.t119) (by kernel_rfl) w
  v72 := fun w => run_zero env_ok (t := 119) (i := Proofs.Tryz.t119) (z := (Value.agg #[Value.pointer none, Value.slice none 0 0])) (by kernel_rfl) (by kernel_rfl) w
  t127 := und_ok env_ok (t := 166) (d := (TypeDesc.pointer (ren169.t 5))) (by kernel_rfl)
  a127 := fun w => run_agg env_ok (t := 166) (d := (TypeDesc.pointer (ren169.t 5))) (by kernel_rfl) w
  z127 := fun w => run_size env_ok (t := 166) (i := Proofs.Tryz.t166) (by kernel_rfl) w
  v127 := fun w => run_zero env_ok (t := 166) (i := Proofs.Tryz.t166) (z := (Value.pointer none)) (by kernel_rfl) (by kernel_rfl) w
end
end Go.T9
set_option maxRecDepth 1000000
set_option linter.unusedVariables false
set_option linter.unusedSimpArgs false
set_option maxHeartbeats 4000000
namespace Go.T9
open Go Go.AM Go.MK
noncomputable section
def extsX : List (FuncId × ExtF) := [(151, xIdx), (150, xSame)]
def envX : Env := envOf Proofs.Tryz.prog nTypes nFuncs tiT fnT (fun _ => none) extsX true
theorem hX5 : ExtsOk Proofs.Tryz.prog extsX := .cons (xIdx_ok x2) (.cons (xSame_ok x3) .nil)
theorem envX_ok : envX.Ok := envOf_ok h1 h2 h3 h4 hX5
theorem envX_gl : GlOk envX := fun _ => rfl
theorem envX_sym : envX.sym = true := rfl
theorem toX {f : FuncId} {x : RunF} (h : ∀ args A p v A', x args A = some (p, v, A') → PH p → CallAt env f args A v A') : ∀ args A p v A', x args A = some (p, v, A') → PH p → CallAt envX f args A v A' :=
  fun args A p v A' h1 h2 σ w args' R hg ha => h args A p v A' h1 h2 σ w args' R hg ha
theorem str_tab : ∀ args A p v A', strR 5 args A = some (p, v, A') → PH p → CallAt envX 63 args A v A' := strR_ok lays169 rfl rfl (by kernel_rfl)
def tabP : Tab := [(25, pureR nmPre nmX), (63, strR 5)]
theorem tabP_ok : TabOk envX tabP := .cons (toX nm_tab) (.cons str_tab .nil)
def elA : El := { El.of (fun _ _ _ _ => none) with app := true }
def XP : SX := ⟨envX, tabP, elA, fun _ => .autoN [(.slot 4, 126, 2)] [] [5] [0, 4, 5, 6]⟩
theorem XP_ok : XP.Ok := ⟨envX_ok, envX_sym, envX_gl, tabP_ok⟩
def frP (s : SB) (i n : Nat) : T Value := (.node (.node .leaf none (.node .leaf (some (.pointer (some ⟨1, 0, none⟩))) .leaf)) (some (.string s)) (.node (.node .leaf (some (.slice (some ⟨0, 0, none⟩) n (unk + 3 + 2))) .leaf) none (.node .leaf (some (.int .i64 i)) .leaf)))
def hPE (els : List Value) : AH := ⟨.node (.node .leaf (some (.cells [.pointer none, .slice none 0 0] 119)) .leaf) (some (.gro els [] 126)) .leaf, 2⟩
def hPN (els bs : List Value) : AH := ⟨.node (.node .leaf (some (.cells [.pointer (some ⟨1, 0, none⟩), .slice (some ⟨2, 0, none⟩) bs.length unk] 119)) .leaf) (some (.gro els [] 126)) (.node .leaf (some (.cells bs 5)) .leaf), 3⟩
def ntP : Nat := Func.ntmps Proofs.Tryz.f34
def bdP : Code := bodyOf Proofs.Tryz.f34
def kFinP (K : KV) : KX := finK XP.E (Proofs.Tryz.f34.results).toList K
def jPc (K : KV) (s : SB) : Prop := sxFnZ XP 4 Proofs.Tryz.f34 [.string s] ⟨.leaf, 0⟩ K
def jPcE (K : KV) (again : KF) (s : SB) (i n : Nat) (els : List Value) : Prop := sxStepZ XP 4 ntP ⟨.leaf, 0⟩ bdP [1, 1, 1, 0, 1, 0] (kFinP K) [(.slot 4, 126, 2)] [] [5] [0, 4, 5, 6] again (frP s i n) (hPE els)
def jPcN (K : KV) (again : KF) (s : SB) (i n : Nat) (els bs : List Value) : Prop := sxStepZ XP 4 ntP ⟨.leaf, 0⟩ bdP [1, 1, 1, 0, 1, 0] (kFinP K) [(.slot 4, 126, 2)] [] [5] [0, 4, 5, 6] again (frP s i n) (hPN els bs)
end
end Go.T9
set_option maxRecDepth 1000000
set_option linter.unusedVariables false
set_option linter.unusedSimpArgs false
set_option maxHeartbeats 4000000
namespace Go.T9
open Go Go.AM Go.MK
noncomputable section
theorem jPc_nf (K : KV) (s : SB) : jPc K s = (HF (Value.agg (Array.mk [])) ∧ LAtZ XP (4 : Nat) (Go.Func.ntmps Go.Proofs.Tryz.f34) (AH.mk (AH.t (AH.mk T.leaf (0 : Nat))) (0 : Nat)) (bodyOf Go.Proofs.Tryz.f34) [(1 : Nat), (1 : Nat), (1 : Nat), (0 : Nat), (1 : Nat), (0 : Nat)] (finK (SX.E XP) (Array.toList (Go.Func.results Go.Proofs.Tryz.f34)) K) (T.node (T.node T.leaf Option.none (T.node T.leaf (Option.some (Value.pointer (Option.some (Go.Addr.mk (1 : Nat) (0 : Nat) Option.none)))) T.leaf)) (Option.some (Value.string s)) (T.node (T.node T.leaf (Option.some (Value.slice (Option.some (Go.Addr.mk (0 : Nat) (0 : Nat) Option.none)) (0 : Nat) (18446744073709551621 : Nat))) T.leaf) Option.none (T.node T.leaf (Option.some (Value.int IntKind.i64 (0 : Int))) T.leaf))) (AH.mk (T.node (T.node T.leaf (Option.some (AObj.cells [Value.pointer Option.none, Value.slice Option.none (0 : Nat) (0 : Nat)] (119 : Nat))) T.leaf) (Option.some (AObj.gro [] [] (126 : Nat))) T.leaf) (2 : Nat))) := by kernel_rfl
theorem jPcE_nf (K : KV) (again : KF) (s : SB) (i : Nat) (n : Nat) (els : List Go.Value) : jPcE K again s i n els = (Sp (decide ((↑i : Int) < (↑(ByteArray.size s) : Int))) (((0 : Int) ≤ (↑i : Int) ∧ (↑i : Int) < (↑(ByteArray.size s) : Int)) ∧ Sp (!decide (byteAt s (↑i : Int) = (36 : Int))) (((0 : Int) ≤ (↑i : Int) ∧ (↑i : Int) < (↑(ByteArray.size s) : Int)) ∧ HF (Value.agg (Array.mk els)) ∧ HF (Value.agg (Array.mk [Value.int IntKind.u8 (byteAt s (↑i : Int))])) ∧ again (T.node (T.node T.leaf Option.none (T.node T.leaf (Option.some (Value.pointer (Option.some (Go.Addr.mk (1 : Nat) (0 : Nat) Option.none)))) T.leaf)) (Option.some (Value.string s)) (T.node (T.node T.leaf (Option.some (Value.slice (Option.some (Go.Addr.mk (0 : Nat) (0 : Nat) Option.none)) n (18446744073709551621 : Nat))) T.leaf) Option.none (T.node T.leaf (Option.some (Value.int IntKind.i64 (IntKind.wrap IntKind.i64 ((↑i : Int) + (1 : Int))))) T.leaf))) (AH.mk (T.node (T.node T.leaf (Option.some (AObj.cells [Value.pointer (Option.some (Go.Addr.mk (1 : Nat) (0 : Nat) Option.none)), Value.slice (Option.some (Go.Addr.mk (2 : Nat) (0 : Nat) Option.none)) (1 : Nat) (18446744073709551616 : Nat)] (119 : Nat))) T.leaf) (Option.some (AObj.gro els [] (126 : Nat))) (T.node T.leaf (Option.some (AObj.cells [Value.int IntKind.u8 (byteAt s (↑i : Int))] (5 : Nat))) T.leaf)) (3 : Nat))) (Sp (decide (IntKind.wrap IntKind.i64 ((↑i : Int) + (1 : Int)) = (↑(ByteArray.size s) : Int))) (((0 : Int) ≤ (↑i : Int) ∧ (↑i : Int) < (↑(ByteArray.size s) : Int)) ∧ HF (Value.agg (Array.mk els)) ∧ HF (Value.agg (Array.mk [Value.int IntKind.u8 (byteAt s (↑i : Int))])) ∧ again (T.node (T.node T.leaf Option.none (T.node T.leaf (Option.some (Value.pointer (Option.some (Go.Addr.mk (1 : Nat) (0 : Nat) Option.none)))) T.leaf)) (Option.some (Value.string s)) (T.node (T.node T.leaf (Option.some (Value.slice (Option.some (Go.Addr.mk (0 : Nat) (0 : Nat) Option.none)) n (18446744073709551621 : Nat))) T.leaf) Option.none (T.node T.leaf (Option.some (Value.int IntKind.i64 (IntKind.wrap IntKind.i64 ((↑i : Int) + (1 : Int))))) T.leaf))) (AH.mk (T.node (T.node T.leaf (Option.some (AObj.cells [Value.pointer (Option.some (Go.Addr.mk (1 : Nat) (0 : Nat) Option.none)), Value.slice (Option.some (Go.Addr.mk (2 : Nat) (0 : Nat) Option.none)) (1 : Nat) (18446744073709551616 : Nat)] (119 : Nat))) T.leaf) (Option.some (AObj.gro els [] (126 : Nat))) (T.node T.leaf (Option.some (AObj.cells [Value.int IntKind.u8 (byteAt s (↑i : Int))] (5 : Nat))) T.leaf)) (3 : Nat))) (((0 : Int) ≤ IntKind.wrap IntKind.i64 ((↑i : Int) + (1 : Int)) ∧ IntKind.wrap IntKind.i64 ((↑i : Int) + (1 : Int)) < (↑(ByteArray.size s) : Int)) ∧ Sp (!decide (byteAt s (IntKind.wrap IntKind.i64 ((↑i : Int) + (1 : Int))) = (36 : Int))) (((0 : Int) ≤ IntKind.wrap IntKind.i64 ((↑i : Int) + (1 : Int)) ∧ IntKind.wrap IntKind.i64 ((↑i : Int) + (1 : Int)) < (↑(ByteArray.size s) : Int)) ∧ Sp (!decide (byteAt s (IntKind.wrap IntKind.i64 ((↑i : Int) + (1 : Int))) = (123 : Int))) (((0 : Int) ≤ (↑i : Int) ∧ (↑i : Int) < (↑(ByteArray.size s) : Int)) ∧ HF (Value.agg (Array.mk els)) ∧ HF (Value.agg (Array.mk [Value.int IntKind.u8 (byteAt s (↑i : Int))])) ∧ again (T.node (T.node T.leaf Option.none (T.node T.leaf (Option.some (Value.pointer (Option.some (Go.Addr.mk (1 : Nat) (0 : Nat) Option.none)))) T.leaf)) (Option.some (Value.string s)) (T.node (T.node T.leaf (Option.some (Value.slice (Option.some (Go.Addr.mk (0 : Nat) (0 : Nat) Option.none)) n (18446744073709551621 : Nat))) T.leaf) Option.none (T.node T.leaf (Option.some (Value.int IntKind.i64 (IntKind.wrap IntKind.i64 ((↑i : Int) + (1 : Int))))) T.leaf))) (AH.mk (T.node (T.node T.leaf (Option.some (AObj.cells [Value.pointer (Option.some (Go.Addr.mk (1 : Nat) (0 : Nat) Option.none)), Value.slice (Option.some (Go.Addr.mk (2 : Nat) (0 : Nat) Option.none)) (1 : Nat) (18446744073709551616 : Nat)] (119 : Nat))) T.leaf) (Option.some (AObj.gro els [] (126 : Nat))) (T.node T.leaf (Option.some (AObj.cells [Value.int IntKind.u8 (byteAt s (↑i : Int))] (5 : Nat))) T.leaf)) (3 : Nat))) (((0 : Int) ≤ IntKind.wrap IntKind.i64 ((↑i : Int) + (1 : Int)) ∧ IntKind.wrap IntKind.i64 ((↑i : Int) + (1 : Int)) < (↑(ByteArray.size s) : Int)) ∧ Sp (decide (byteAt s (IntKind.wrap IntKind.i64 ((↑i : Int) + (1 : Int))) = (36 : Int))) (HF (Value.agg (Array.mk els)) ∧ HF (Value.agg (Array.mk [Value.int IntKind.u8 (36 : Int)])) ∧ again (T.node (T.node T.leaf Option.none (T.node T.leaf (Option.some (Value.pointer (Option.some (Go.Addr.mk (1 : Nat) (0 : Nat) Option.none)))) T.leaf)) (Option.some (Value.string s)) (T.node (T.node T.leaf (Option.some (Value.slice (Option.some (Go.Addr.mk (0 : Nat) (0 : Nat) Option.none)) n (18446744073709551621 : Nat))) T.leaf) Option.none (T.node T.leaf (Option.some (Value.int IntKind.i64 (IntKind.wrap IntKind.i64 (IntKind.wrap IntKind.i64 ((↑i : Int) + (1 : Int)) + (1 : Int))))) T.leaf))) (AH.mk (T.node (T.node T.leaf (Option.some (AObj.cells [Value.pointer (Option.some (Go.Addr.mk (1 : Nat) (0 : Nat) Option.none)), Value.slice (Option.some (Go.Addr.mk (2 : Nat) (0 : Nat) Option.none)) (1 : Nat) (18446744073709551616 : Nat)] (119 : Nat))) T.leaf) (Option.some (AObj.gro els [] (126 : Nat))) (T.node T.leaf (Option.some (AObj.cells [Value.int IntKind.u8 (36 : Int)] (5 : Nat))) T.leaf)) (3 : Nat))) (((0 : Int) ≤ (↑i : Int) ∧ (↑i : Int) ≤ (↑(ByteArray.size s) : Int)) ∧ Sp (decide (ixB (subB s (↑i : Int) (↑(ByteArray.size s) : Int)) (125 : Int) < (0 : Int))) (K (Value.tuple (Array.mk [Value.slice Option.none (0 : Nat) (0 : Nat), Value.int IntKind.i64 (↑i : Int)])) (AH.mk (T.node (T.node T.leaf (Option.some (AObj.cells [Value.pointer Option.none, Value.slice Option.none (0 : Nat) (0 : Nat)] (119 : Nat))) T.leaf) (Option.some (AObj.gro els [] (126 : Nat))) T.leaf) (2 : Nat))) (((0 : Int) ≤ IntKind.wrap IntKind.i64 ((↑i : Int) + (2 : Int)) ∧ IntKind.wrap IntKind.i64 ((↑i : Int) + (2 : Int)) ≤ IntKind.wrap IntKind.i64 ((↑i : Int) + ixB (subB s (↑i : Int) (↑(ByteArray.size s) : Int)) (125 : Int)) ∧ IntKind.wrap IntKind.i64 ((↑i : Int) + ixB (subB s (↑i : Int) (↑(ByteArray.size s) : Int)) (125 : Int)) ≤ (↑(ByteArray.size s) : Int)) ∧ ByteArray.size (subB s (IntKind.wrap IntKind.i64 ((↑i : Int) + (2 : Int))) (IntKind.wrap IntKind.i64 ((↑i : Int) + ixB (subB s (↑i : Int) (↑(ByteArray.size s) : Int)) (125 : Int)))) < (9223372036854775808 : Nat) ∧ Sp (!nameB (subB s (IntKind.wrap IntKind.i64 ((↑i : Int) + (2 : Int))) (IntKind.wrap IntKind.i64 ((↑i : Int) + ixB (subB s (↑i : Int) (↑(ByteArray.size s) : Int)) (125 : Int))))) (K (Value.tuple (Array.mk [Value.slice Option.none (0 : Nat) (0 : Nat), Value.int IntKind.i64 (↑i : Int)])) (AH.mk (T.node (T.node T.leaf (Option.some (AObj.cells [Value.pointer Option.none, Value.slice Option.none (0 : Nat) (0 : Nat)] (119 : Nat))) T.leaf) (Option.some (AObj.gro els [] (126 : Nat))) T.leaf) (2 : Nat))) (((0 : Int) ≤ IntKind.wrap IntKind.i64 ((↑i : Int) + (2 : Int)) ∧ IntKind.wrap IntKind.i64 ((↑i : Int) + (2 : Int)) ≤ IntKind.wrap IntKind.i64 ((↑i : Int) + ixB (subB s (↑i : Int) (↑(ByteArray.size s) : Int)) (125 : Int)) ∧ IntKind.wrap IntKind.i64 ((↑i : Int) + ixB (subB s (↑i : Int) (↑(ByteArray.size s) : Int)) (125 : Int)) ≤ (↑(ByteArray.size s) : Int)) ∧ (List.all [Value.string (ByteArray.mk (Array.mk [])), Value.string (ByteArray.mk (Array.mk [])), Value.string (ByteArray.mk (Array.mk [])), Value.string (subB s (IntKind.wrap IntKind.i64 ((↑i : Int) + (2 : Int))) (IntKind.wrap IntKind.i64 ((↑i : Int) + ixB (subB s (↑i : Int) (↑(ByteArray.size s) : Int)) (125 : Int))))] cellv = Bool.true ∧ n + (0 : Nat) = List.length els ∧ n + (2 : Nat) ≤ (70368744177664 : Nat) ∧ (n + (2 : Nat)) * (32 : Nat) ≤ (140737488355328 : Nat)) ∧ HF (Value.agg (Array.mk (els ++ [Value.agg (Array.mk [Value.string (ByteArray.mk (Array.mk [])), Value.string (ByteArray.mk (Array.mk []))]), Value.agg (Array.mk [Value.string (ByteArray.mk (Array.mk [])), Value.string (subB s (IntKind.wrap IntKind.i64 ((↑i : Int) + (2 : Int))) (IntKind.wrap IntKind.i64 ((↑i : Int) + ixB (subB s (↑i : Int) (↑(ByteArray.size s) : Int)) (125 : Int))))])]))) ∧ again (T.node (T.node T.leaf Option.none (T.node T.leaf (Option.some (Value.pointer (Option.some (Go.Addr.mk (1 : Nat) (0 : Nat) Option.none)))) T.leaf)) (Option.some (Value.string s)) (T.node (T.node T.leaf (Option.some (Value.slice (Option.some (Go.Addr.mk (0 : Nat) (0 : Nat) Option.none)) (n + (2 : Nat)) (18446744073709551621 : Nat))) T.leaf) Option.none (T.node T.leaf (Option.some (Value.int IntKind.i64 (IntKind.wrap IntKind.i64 (IntKind.wrap IntKind.i64 ((↑i : Int) + ixB (subB s (↑i : Int) (↑(ByteArray.size s) : Int)) (125 : Int)) + (1 : Int))))) T.leaf))) (AH.mk (T.node (T.node T.leaf (Option.some (AObj.cells [Value.pointer Option.none, Value.slice Option.none (0 : Nat) (0 : Nat)] (119 : Nat))) T.leaf) (Option.some (AObj.gro (els ++ [Value.agg (Array.mk [Value.string (ByteArray.mk (Array.mk [])), Value.string (ByteArray.mk (Array.mk []))]), Value.agg (Array.mk [Value.string (ByteArray.mk (Array.mk [])), Value.string (subB s (IntKind.wrap IntKind.i64 ((↑i : Int) + (2 : Int))) (IntKind.wrap IntKind.i64 ((↑i : Int) + ixB (subB s (↑i : Int) (↑(ByteArray.size s) : Int)) (125 : Int))))])]) [] (126 : Nat))) T.leaf) (2 : Nat))))))) (((0 : Int) ≤ IntKind.wrap IntKind.i64 ((↑i : Int) + (1 : Int)) ∧ IntKind.wrap IntKind.i64 ((↑i : Int) + (1 : Int)) < (↑(ByteArray.size s) : Int)) ∧ Sp (decide (byteAt s (IntKind.wrap IntKind.i64 ((↑i : Int) + (1 : Int))) = (36 : Int))) (HF (Value.agg (Array.mk els)) ∧ HF (Value.agg (Array.mk [Value.int IntKind.u8 (36 : Int)])) ∧ again (T.node (T.node T.leaf Option.none (T.node T.leaf (Option.some (Value.pointer (Option.some (Go.Addr.mk (1 : Nat) (0 : Nat) Option.none)))) T.leaf)) (Option.some (Value.string s)) (T.node (T.node T.leaf (Option.some (Value.slice (Option.some (Go.Addr.mk (0 : Nat) (0 : Nat) Option.none)) n (18446744073709551621 : Nat))) T.leaf) Option.none (T.node T.leaf (Option.some (Value.int IntKind.i64 (IntKind.wrap IntKind.i64 (IntKind.wrap IntKind.i64 ((↑i : Int) + (1 : Int)) + (1 : Int))))) T.leaf))) (AH.mk (T.node (T.node T.leaf (Option.some (AObj.cells [Value.pointer (Option.some (Go.Addr.mk (1 : Nat) (0 : Nat) Option.none)), Value.slice (Option.some (Go.Addr.mk (2 : Nat) (0 : Nat) Option.none)) (1 : Nat) (18446744073709551616 : Nat)] (119 : Nat))) T.leaf) (Option.some (AObj.gro els [] (126 : Nat))) (T.node T.leaf (Option.some (AObj.cells [Value.int IntKind.u8 (36 : Int)] (5 : Nat))) T.leaf)) (3 : Nat))) (((0 : Int) ≤ (↑i : Int) ∧ (↑i : Int) ≤ (↑(ByteArray.size s) : Int)) ∧ Sp (decide (ixB (subB s (↑i : Int) (↑(ByteArray.size s) : Int)) (125 : Int) < (0 : Int))) (K (Value.tuple (Array.mk [Value.slice Option.none (0 : Nat) (0 : Nat), Value.int IntKind.i64 (↑i : Int)])) (AH.mk (T.node (T.node T.leaf (Option.some (AObj.cells [Value.pointer Option.none, Value.slice Option.none (0 : Nat) (0 : Nat)] (119 : Nat))) T.leaf) (Option.some (AObj.gro els [] (126 : Nat))) T.leaf) (2 : Nat))) (((0 : Int) ≤ IntKind.wrap IntKind.i64 ((↑i : Int) + (2 : Int)) ∧ IntKind.wrap IntKind.i64 ((↑i : Int) + (2 : Int)) ≤ IntKind.wrap IntKind.i64 ((↑i : Int) + ixB (subB s (↑i : Int) (↑(ByteArray.size s) : Int)) (125 : Int)) ∧ IntKind.wrap IntKind.i64 ((↑i : Int) + ixB (subB s (↑i : Int) (↑(ByteArray.size s) : Int)) (125 : Int)) ≤ (↑(ByteArray.size s) : Int)) ∧ ByteArray.size (subB s (IntKind.wrap IntKind.i64 ((↑i : Int) + (2 : Int))) (IntKind.wrap IntKind.i64 ((↑i : Int) + ixB (subB s (↑i : Int) (↑(ByteArray.size s) : Int)) (125 : Int)))) < (9223372036854775808 : Nat) ∧ Sp (!nameB (subB s (IntKind.wrap IntKind.i64 ((↑i : Int) + (2 : Int))) (IntKind.wrap IntKind.i64 ((↑i : Int) + ixB (subB s (↑i : Int) (↑(ByteArray.size s) : Int)) (125 : Int))))) (K (Value.tuple (Array.mk [Value.slice Option.none (0 : Nat) (0 : Nat), Value.int IntKind.i64 (↑i : Int)])) (AH.mk (T.node (T.node T.leaf (Option.some (AObj.cells [Value.pointer Option.none, Value.slice Option.none (0 : Nat) (0 : Nat)] (119 : Nat))) T.leaf) (Option.some (AObj.gro els [] (126 : Nat))) T.leaf) (2 : Nat))) (((0 : Int) ≤ IntKind.wrap IntKind.i64 ((↑i : Int) + (2 : Int)) ∧ IntKind.wrap IntKind.i64 ((↑i : Int) + (2 : Int)) ≤ IntKind.wrap IntKind.i64 ((↑i : Int) + ixB (subB s (↑i : Int) (↑(ByteArray.size s) : Int)) (125 : Int)) ∧ IntKind.wrap IntKind.i64 ((↑i : Int) + ixB (subB s (↑i : Int) (↑(ByteArray.size s) : Int)) (125 : Int)) ≤ (↑(ByteArray.size s) : Int)) ∧ (List.all [Value.string (ByteArray.mk (Array.mk [])), Value.string (ByteArray.mk (Array.mk [])), Value.string (ByteArray.mk (Array.mk [])), Value.string (subB s (IntKind.wrap IntKind.i64 ((↑i : Int) + (2 : Int))) (IntKind.wrap IntKind.i64 ((↑i : Int) + ixB (subB s (↑i : Int) (↑(ByteArray.size s) : Int)) (125 : Int))))] cellv = Bool.true ∧ n + (0 : Nat) = List.length els ∧ n + (2 : Nat) ≤ (70368744177664 : Nat) ∧ (n + (2 : Nat)) * (32 : Nat) ≤ (140737488355328 : Nat)) ∧ HF (Value.agg (Array.mk (els ++ [Value.agg (Array.mk [Value.string (ByteArray.mk (Array.mk [])), Value.string (ByteArray.mk (Array.mk []))]), Value.agg (Array.mk [Value.string (ByteArray.mk (Array.mk [])), Value.string (subB s (IntKind.wrap IntKind.i64 ((↑i : Int) + (2 : Int))) (IntKind.wrap IntKind.i64 ((↑i : Int) + ixB (subB s (↑i : Int) (↑(ByteArray.size s) : Int)) (125 : Int))))])]))) ∧ again (T.node (T.node T.leaf Option.none (T.node T.leaf (Option.some (Value.pointer (Option.some (Go.Addr.mk (1 : Nat) (0 : Nat) Option.none)))) T.leaf)) (Option.some (Value.string s)) (T.node (T.node T.leaf (Option.some (Value.slice (Option.some (Go.Addr.mk (0 : Nat) (0 : Nat) Option.none)) (n + (2 : Nat)) (18446744073709551621 : Nat))) T.leaf) Option.none (T.node T.leaf (Option.some (Value.int IntKind.i64 (IntKind.wrap IntKind.i64 (IntKind.wrap IntKind.i64 ((↑i : Int) + ixB (subB s (↑i : Int) (↑(ByteArray.size s) : Int)) (125 : Int)) + (1 : Int))))) T.leaf))) (AH.mk (T.node (T.node T.leaf (Option.some (AObj.cells [Value.pointer Option.none, Value.slice Option.none (0 : Nat) (0 : Nat)] (119 : Nat))) T.leaf) (Option.some (AObj.gro (els ++ [Value.agg (Array.mk [Value.string (ByteArray.mk (Array.mk [])), Value.string (ByteArray.mk (Array.mk []))]), Value.agg (Array.mk [Value.string (ByteArray.mk (Array.mk [])), Value.string (subB s (IntKind.wrap IntKind.i64 ((↑i : Int) + (2 : Int))) (IntKind.wrap IntKind.i64 ((↑i : Int) + ixB (subB s (↑i : Int) (↑(ByteArray.size s) : Int)) (125 : Int))))])]) [] (126 : Nat))) T.leaf) (2 : Nat))))))))) ((List.all [Value.string (ByteArray.mk (Array.mk [])), Value.string (ByteArray.mk (Array.mk []))] cellv = Bool.true ∧ n + (0 : Nat) = List.length els ∧ n + (1 : Nat) ≤ (70368744177664 : Nat) ∧ (n + (1 : Nat)) * (32 : Nat) ≤ (140737488355328 : Nat)) ∧ K (Value.tuple (Array.mk [Value.slice (Option.some (Go.Addr.mk (3 : Nat) (0 : Nat) Option.none)) (n + (1 : Nat)) (18446744073709551621 : Nat), Value.int IntKind.i64 (-1 : Int)])) (AH.mk (T.node (T.node (T.node T.leaf (Option.some (AObj.gro els [Value.agg (Array.mk [Value.string (ByteArray.mk (Array.mk [])), Value.string (ByteArray.mk (Array.mk []))])] (126 : Nat))) T.leaf) (Option.some (AObj.cells [Value.pointer Option.none, Value.slice Option.none (0 : Nat) (0 : Nat)] (119 : Nat))) T.leaf) (Option.some AObj.dead) (T.node T.leaf (Option.some (AObj.cells [Value.string (ByteArray.mk (Array.mk [])), Value.string (ByteArray.mk (Array.mk []))] (126 : Nat))) T.leaf)) (4 : Nat)))) := by kernel_rfl
theorem jPcN_nf (K : KV) (again : KF) (s : SB) (i : Nat) (n : Nat) (els : List Go.Value) (bs : List Go.Value) : jPcN K again s i n els bs = (Sp (decide ((↑i : Int) < (↑(ByteArray.size s) : Int))) (((0 : Int) ≤ (↑i : Int) ∧ (↑i : Int) < (↑(ByteArray.size s) : Int)) ∧ Sp (!decide (byteAt s (↑i : Int) = (36 : Int))) (((0 : Int) ≤ (↑i : Int) ∧ (↑i : Int) < (↑(ByteArray.size s) : Int)) ∧ (List.length bs + (1 : Nat) ≤ (70368744177664 : Nat) ∧ (List.length bs + (1 : Nat)) * (1 : Nat) ≤ (140737488355328 : Nat) ∧ List.length bs * (1 : Nat) ≤ List.length bs) ∧ HF (Value.agg (Array.mk els)) ∧ HF (Value.agg (Array.mk (List.take (List.length bs * (1 : Nat)) bs ++ [Value.int IntKind.u8 (byteAt s (↑i : Int))]))) ∧ again (T.node (T.node T.leaf Option.none (T.node T.leaf (Option.some (Value.pointer (Option.some (Go.Addr.mk (1 : Nat) (0 : Nat) Option.none)))) T.leaf)) (Option.some (Value.string s)) (T.node (T.node T.leaf (Option.some (Value.slice (Option.some (Go.Addr.mk (0 : Nat) (0 : Nat) Option.none)) n (18446744073709551621 : Nat))) T.leaf) Option.none (T.node T.leaf (Option.some (Value.int IntKind.i64 (IntKind.wrap IntKind.i64 ((↑i : Int) + (1 : Int))))) T.leaf))) (AH.mk (T.node (T.node T.leaf (Option.some (AObj.cells [Value.pointer (Option.some (Go.Addr.mk (1 : Nat) (0 : Nat) Option.none)), Value.slice (Option.some (Go.Addr.mk (2 : Nat) (0 : Nat) Option.none)) (List.length bs + (1 : Nat)) (18446744073709551616 : Nat)] (119 : Nat))) T.leaf) (Option.some (AObj.gro els [] (126 : Nat))) (T.node T.leaf (Option.some (AObj.cells (List.take (List.length bs * (1 : Nat)) bs ++ [Value.int IntKind.u8 (byteAt s (↑i : Int))]) (5 : Nat))) T.leaf)) (3 : Nat))) (Sp (decide (IntKind.wrap IntKind.i64 ((↑i : Int) + (1 : Int)) = (↑(ByteArray.size s) : Int))) (((0 : Int) ≤ (↑i : Int) ∧ (↑i : Int) < (↑(ByteArray.size s) : Int)) ∧ (List.length bs + (1 : Nat) ≤ (70368744177664 : Nat) ∧ (List.length bs + (1 : Nat)) * (1 : Nat) ≤ (140737488355328 : Nat) ∧ List.length bs * (1 : Nat) ≤ List.length bs) ∧ HF (Value.agg (Array.mk els)) ∧ HF (Value.agg (Array.mk (List.take (List.length bs * (1 : Nat)) bs ++ [Value.int IntKind.u8 (byteAt s (↑i : Int))]))) ∧ again (T.node (T.node T.leaf Option.none (T.node T.leaf (Option.some (Value.pointer (Option.some (Go.Addr.mk (1 : Nat) (0 : Nat) Option.none)))) T.leaf)) (Option.some (Value.string s)) (T.node (T.node T.leaf (Option.some (Value.slice (Option.some (Go.Addr.mk (0 : Nat) (0 : Nat) Option.none)) n (18446744073709551621 : Nat))) T.leaf) Option.none (T.node T.leaf (Option.some (Value.int IntKind.i64 (IntKind.wrap IntKind.i64 ((↑i : Int) + (1 : Int))))) T.leaf))) (AH.mk (T.node (T.node T.leaf (Option.some (AObj.cells [Value.pointer (Option.some (Go.Addr.mk (1 : Nat) (0 : Nat) Option.none)), Value.slice (Option.some (Go.Addr.mk (2 : Nat) (0 : Nat) Option.none)) (List.length bs + (1 : Nat)) (18446744073709551616 : Nat)] (119 : Nat))) T.leaf) (Option.some (AObj.gro els [] (126 : Nat))) (T.node T.leaf (Option.some (AObj.cells (List.take (List.length bs * (1 : Nat)) bs ++ [Value.int IntKind.u8 (byteAt s (↑i : Int))]) (5 : Nat))) T.leaf)) (3 : Nat))) (((0 : Int) ≤ IntKind.wrap IntKind.i64 ((↑i : Int) + (1 : Int)) ∧ IntKind.wrap IntKind.i64 ((↑i : Int) + (1 : Int)) < (↑(ByteArray.size s) : Int)) ∧ Sp (!decide (byteAt s (IntKind.wrap IntKind.i64 ((↑i : Int) + (1 : Int))) = (36 : Int))) (((0 : Int) ≤ IntKind.wrap IntKind.i64 ((↑i : Int) + (1 : Int)) ∧ IntKind.wrap IntKind.i64 ((↑i : Int) + (1 : Int)) < (↑(ByteArray.size s) : Int)) ∧ Sp (!decide (byteAt s (IntKind.wrap IntKind.i64 ((↑i : Int) + (1 : Int))) = (123 : Int))) (((0 : Int) ≤ (↑i : Int) ∧ (↑i : Int) < (↑(ByteArray.size s) : Int)) ∧ (List.length bs + (1 : Nat) ≤ (70368744177664 : Nat) ∧ (List.length bs + (1 : Nat)) * (1 : Nat) ≤ (140737488355328 : Nat) ∧ List.length bs * (1 : Nat) ≤ List.length bs) ∧ HF (Value.agg (Array.mk els)) ∧ HF (Value.agg (Array.mk (List.take (List.length bs * (1 : Nat)) bs ++ [Value.int IntKind.u8 (byteAt s (↑i : Int))]))) ∧ again (T.node (T.node T.leaf Option.none (T.node T.leaf (Option.some (Value.pointer (Option.some (Go.Addr.mk (1 : Nat) (0 : Nat) Option.none)))) T.leaf)) (Option.some (Value.string s)) (T.node (T.node T.leaf (Option.some (Value.slice (Option.some (Go.Addr.mk (0 : Nat) (0 : Nat) Option.none)) n (18446744073709551621 : Nat))) T.leaf) Option.none (T.node T.leaf (Option.some (Value.int IntKind.i64 (IntKind.wrap IntKind.i64 ((↑i : Int) + (1 : Int))))) T.leaf))) (AH.mk (T.node (T.node T.leaf (Option.some (AObj.cells [Value.pointer (Option.some (Go.Addr.mk (1 : Nat) (0 : Nat) Option.none)), Value.slice (Option.some (Go.Addr.mk (2 : Nat) (0 : Nat) Option.none)) (List.length bs + (1 : Nat)) (18446744073709551616 : Nat)] (119 : Nat))) T.leaf) (Option.some (AObj.gro els [] (126 : Nat))) (T.node T.leaf (Option.some (AObj.cells (List.take (List.length bs * (1 : Nat)) bs ++ [Value.int IntKind.u8 (byteAt s (↑i : Int))]) (5 : Nat))) T.leaf)) (3 : Nat))) (((0 : Int) ≤ IntKind.wrap IntKind.i64 ((↑i : Int) + (1 : Int)) ∧ IntKind.wrap IntKind.i64 ((↑i : Int) + (1 : Int)) < (↑(ByteArray.size s) : Int)) ∧ Sp (decide (byteAt s (IntKind.wrap IntKind.i64 ((↑i : Int) + (1 : Int))) = (36 : Int))) ((List.length bs + (1 : Nat) ≤ (70368744177664 : Nat) ∧ (List.length bs + (1 : Nat)) * (1 : Nat) ≤ (140737488355328 : Nat) ∧ List.length bs * (1 : Nat) ≤ List.length bs) ∧ HF (Value.agg (Array.mk els)) ∧ HF (Value.agg (Array.mk (List.take (List.length bs * (1 : Nat)) bs ++ [Value.int IntKind.u8 (36 : Int)]))) ∧ again (T.node (T.node T.leaf Option.none (T.node T.leaf (Option.some (Value.pointer (Option.some (Go.Addr.mk (1 : Nat) (0 : Nat) Option.none)))) T.leaf)) (Option.some (Value.string s)) (T.node (T.node T.leaf (Option.some (Value.slice (Option.some (Go.Addr.mk (0 : Nat) (0 : Nat) Option.none)) n (18446744073709551621 : Nat))) T.leaf) Option.none (T.node T.leaf (Option.some (Value.int IntKind.i64 (IntKind.wrap IntKind.i64 (IntKind.wrap IntKind.i64 ((↑i : Int) + (1 : Int)) + (1 : Int))))) T.leaf))) (AH.mk (T.node (T.node T.leaf (Option.some (AObj.cells [Value.pointer (Option.some (Go.Addr.mk (1 : Nat) (0 : Nat) Option.none)), Value.slice (Option.some (Go.Addr.mk (2 : Nat) (0 : Nat) Option.none)) (List.length bs + (1 : Nat)) (18446744073709551616 : Nat)] (119 : Nat))) T.leaf) (Option.some (AObj.gro els [] (126 : Nat))) (T.node T.leaf (Option.some (AObj.cells (List.take (List.length bs * (1 : Nat)) bs ++ [Value.int IntKind.u8 (36 : Int)]) (5 : Nat))) T.leaf)) (3 : Nat))) (((0 : Int) ≤ (↑i : Int) ∧ (↑i : Int) ≤ (↑(ByteArray.size s) : Int)) ∧ Sp (decide (ixB (subB s (↑i : Int) (↑(ByteArray.size s) : Int)) (125 : Int) < (0 : Int))) (K (Value.tuple (Array.mk [Value.slice Option.none (0 : Nat) (0 : Nat), Value.int IntKind.i64 (↑i : Int)])) (AH.mk (T.node (T.node T.leaf (Option.some (AObj.cells [Value.pointer (Option.some (Go.Addr.mk (1 : Nat) (0 : Nat) Option.none)), Value.slice (Option.some (Go.Addr.mk (2 : Nat) (0 : Nat) Option.none)) (List.length bs) (18446744073709551616 : Nat)] (119 : Nat))) T.leaf) (Option.some (AObj.gro els [] (126 : Nat))) (T.node T.leaf (Option.some (AObj.cells bs (5 : Nat))) T.leaf)) (3 : Nat))) (((0 : Int) ≤ IntKind.wrap IntKind.i64 ((↑i : Int) + (2 : Int)) ∧ IntKind.wrap IntKind.i64 ((↑i : Int) + (2 : Int)) ≤ IntKind.wrap IntKind.i64 ((↑i : Int) + ixB (subB s (↑i : Int) (↑(ByteArray.size s) : Int)) (125 : Int)) ∧ IntKind.wrap IntKind.i64 ((↑i : Int) + ixB (subB s (↑i : Int) (↑(ByteArray.size s) : Int)) (125 : Int)) ≤ (↑(ByteArray.size s) : Int)) ∧ ByteArray.size (subB s (IntKind.wrap IntKind.i64 ((↑i : Int) + (2 : Int))) (IntKind.wrap IntKind.i64 ((↑i : Int) + ixB (subB s (↑i : Int) (↑(ByteArray.size s) : Int)) (125 : Int)))) < (9223372036854775808 : Nat) ∧ Sp (!nameB (subB s (IntKind.wrap IntKind.i64 ((↑i : Int) + (2 : Int))) (IntKind.wrap IntKind.i64 ((↑i : Int) + ixB (subB s (↑i : Int) (↑(ByteArray.size s) : Int)) (125 : Int))))) (K (Value.tuple (Array.mk [Value.slice Option.none (0 : Nat) (0 : Nat), Value.int IntKind.i64 (↑i : Int)])) (AH.mk (T.node (T.node T.leaf (Option.some (AObj.cells [Value.pointer (Option.some (Go.Addr.mk (1 : Nat) (0 : Nat) Option.none)), Value.slice (Option.some (Go.Addr.mk (2 : Nat) (0 : Nat) Option.none)) (List.length bs) (18446744073709551616 : Nat)] (119 : Nat))) T.leaf) (Option.some (AObj.gro els [] (126 : Nat))) (T.node T.leaf (Option.some (AObj.cells bs (5 : Nat))) T.leaf)) (3 : Nat))) ((IsB bs (0 : Nat) (List.length bs) ∧ (0 : Nat) < List.length bs ∧ List.length bs ≤ (9223372036854775807 : Nat)) ∧ ((0 : Int) ≤ IntKind.wrap IntKind.i64 ((↑i : Int) + (2 : Int)) ∧ IntKind.wrap IntKind.i64 ((↑i : Int) + (2 : Int)) ≤ IntKind.wrap IntKind.i64 ((↑i : Int) + ixB (subB s (↑i : Int) (↑(ByteArray.size s) : Int)) (125 : Int)) ∧ IntKind.wrap IntKind.i64 ((↑i : Int) + ixB (subB s (↑i : Int) (↑(ByteArray.size s) : Int)) (125 : Int)) ≤ (↑(ByteArray.size s) : Int)) ∧ (List.all [Value.string (mkBytes (u8L bs (0 : Nat) (List.length bs))), Value.string (ByteArray.mk (Array.mk [])), Value.string (ByteArray.mk (Array.mk [])), Value.string (subB s (IntKind.wrap IntKind.i64 ((↑i : Int) + (2 : Int))) (IntKind.wrap IntKind.i64 ((↑i : Int) + ixB (subB s (↑i : Int) (↑(ByteArray.size s) : Int)) (125 : Int))))] cellv = Bool.true ∧ n + (0 : Nat) = List.length els ∧ n + (2 : Nat) ≤ (70368744177664 : Nat) ∧ (n + (2 : Nat)) * (32 : Nat) ≤ (140737488355328 : Nat)) ∧ HF (Value.agg (Array.mk (els ++ [Value.agg (Array.mk [Value.string (mkBytes (u8L bs (0 : Nat) (List.length bs))), Value.string (ByteArray.mk (Array.mk []))]), Value.agg (Array.mk [Value.string (ByteArray.mk (Array.mk [])), Value.string (subB s (IntKind.wrap IntKind.i64 ((↑i : Int) + (2 : Int))) (IntKind.wrap IntKind.i64 ((↑i : Int) + ixB (subB s (↑i : Int) (↑(ByteArray.size s) : Int)) (125 : Int))))])]))) ∧ again (T.node (T.node T.leaf Option.none (T.node T.leaf (Option.some (Value.pointer (Option.some (Go.Addr.mk (1 : Nat) (0 : Nat) Option.none)))) T.leaf)) (Option.some (Value.string s)) (T.node (T.node T.leaf (Option.some (Value.slice (Option.some (Go.Addr.mk (0 : Nat) (0 : Nat) Option.none)) (n + (2 : Nat)) (18446744073709551621 : Nat))) T.leaf) Option.none (T.node T.leaf (Option.some (Value.int IntKind.i64 (IntKind.wrap IntKind.i64 (IntKind.wrap IntKind.i64 ((↑i : Int) + ixB (subB s (↑i : Int) (↑(ByteArray.size s) : Int)) (125 : Int)) + (1 : Int))))) T.leaf))) (AH.mk (T.node (T.node T.leaf (Option.some (AObj.cells [Value.pointer Option.none, Value.slice Option.none (0 : Nat) (0 : Nat)] (119 : Nat))) T.leaf) (Option.some (AObj.gro (els ++ [Value.agg (Array.mk [Value.string (mkBytes (u8L bs (0 : Nat) (List.length bs))), Value.string (ByteArray.mk (Array.mk []))]), Value.agg (Array.mk [Value.string (ByteArray.mk (Array.mk [])), Value.string (subB s (IntKind.wrap IntKind.i64 ((↑i : Int) + (2 : Int))) (IntKind.wrap IntKind.i64 ((↑i : Int) + ixB (subB s (↑i : Int) (↑(ByteArray.size s) : Int)) (125 : Int))))])]) [] (126 : Nat))) T.leaf) (2 : Nat))))))) (((0 : Int) ≤ IntKind.wrap IntKind.i64 ((↑i : Int) + (1 : Int)) ∧ IntKind.wrap IntKind.i64 ((↑i : Int) + (1 : Int)) < (↑(ByteArray.size s) : Int)) ∧ Sp (decide (byteAt s (IntKind.wrap IntKind.i64 ((↑i : Int) + (1 : Int))) = (36 : Int))) ((List.length bs + (1 : Nat) ≤ (70368744177664 : Nat) ∧ (List.length bs + (1 : Nat)) * (1 : Nat) ≤ (140737488355328 : Nat) ∧ List.length bs * (1 : Nat) ≤ List.length bs) ∧ HF (Value.agg (Array.mk els)) ∧ HF (Value.agg (Array.mk (List.take (List.length bs * (1 : Nat)) bs ++ [Value.int IntKind.u8 (36 : Int)]))) ∧ again (T.node (T.node T.leaf Option.none (T.node T.leaf (Option.some (Value.pointer (Option.some (Go.Addr.mk (1 : Nat) (0 : Nat) Option.none)))) T.leaf)) (Option.some (Value.string s)) (T.node (T.node T.leaf (Option.some (Value.slice (Option.some (Go.Addr.mk (0 : Nat) (0 : Nat) Option.none)) n (18446744073709551621 : Nat))) T.leaf) Option.none (T.node T.leaf (Option.some (Value.int IntKind.i64 (IntKind.wrap IntKind.i64 (IntKind.wrap IntKind.i64 ((↑i : Int) + (1 : Int)) + (1 : Int))))) T.leaf))) (AH.mk (T.node (T.node T.leaf (Option.some (AObj.cells [Value.pointer (Option.some (Go.Addr.mk (1 : Nat) (0 : Nat) Option.none)), Value.slice (Option.some (Go.Addr.mk (2 : Nat) (0 : Nat) Option.none)) (List.length bs + (1 : Nat)) (18446744073709551616 : Nat)] (119 : Nat))) T.leaf) (Option.some (AObj.gro els [] (126 : Nat))) (T.node T.leaf (Option.some (AObj.cells (List.take (List.length bs * (1 : Nat)) bs ++ [Value.int IntKind.u8 (36 : Int)]) (5 : Nat))) T.leaf)) (3 : Nat))) (((0 : Int) ≤ (↑i : Int) ∧ (↑i : Int) ≤ (↑(ByteArray.size s) : Int)) ∧ Sp (decide (ixB (subB s (↑i : Int) (↑(ByteArray.size s) : Int)) (125 : Int) < (0 : Int))) (K (Value.tuple (Array.mk [Value.slice Option.none (0 : Nat) (0 : Nat), Value.int IntKind.i64 (↑i : Int)])) (AH.mk (T.node (T.node T.leaf (Option.some (AObj.cells [Value.pointer (Option.some (Go.Addr.mk (1 : Nat) (0 : Nat) Option.none)), Value.slice (Option.some (Go.Addr.mk (2 : Nat) (0 : Nat) Option.none)) (List.length bs) (18446744073709551616 : Nat)] (119 : Nat))) T.leaf) (Option.some (AObj.gro els [] (126 : Nat))) (T.node T.leaf (Option.some (AObj.cells bs (5 : Nat))) T.leaf)) (3 : Nat))) (((0 : Int) ≤ IntKind.wrap IntKind.i64 ((↑i : Int) + (2 : Int)) ∧ IntKind.wrap IntKind.i64 ((↑i : Int) + (2 : Int)) ≤ IntKind.wrap IntKind.i64 ((↑i : Int) + ixB (subB s (↑i : Int) (↑(ByteArray.size s) : Int)) (125 : Int)) ∧ IntKind.wrap IntKind.i64 ((↑i : Int) + ixB (subB s (↑i : Int) (↑(ByteArray.size s) : Int)) (125 : Int)) ≤ (↑(ByteArray.size s) : Int)) ∧ ByteArray.size (subB s (IntKind.wrap IntKind.i64 ((↑i : Int) + (2 : Int))) (IntKind.wrap IntKind.i64 ((↑i : Int) + ixB (subB s (↑i : Int) (↑(ByteArray.size s) : Int)) (125 : Int)))) < (9223372036854775808 : Nat) ∧ Sp (!nameB (subB s (IntKind.wrap IntKind.i64 ((↑i : Int) + (2 : Int))) (IntKind.wrap IntKind.i64 ((↑i : Int) + ixB (subB s (↑i : Int) (↑(ByteArray.size s) : Int)) (125 : Int))))) (K (Value.tuple (Array.mk [Value.slice Option.none (0 : Nat) (0 : Nat), Value.int IntKind.i64 (↑i : Int)])) (AH.mk (T.node (T.node T.leaf (Option.some (AObj.cells [Value.pointer (Option.some (Go.Addr.mk (1 : Nat) (0 : Nat) Option.none)), Value.slice (Option.some (Go.Addr.mk (2 : Nat) (0 : Nat) Option.none)) (List.length bs) (18446744073709551616 : Nat)] (119 : Nat))) T.leaf) (Option.some (AObj.gro els [] (126 : Nat))) (T.node T.leaf (Option.some (AObj.cells bs (5 : Nat))) T.leaf)) (3 : Nat))) ((IsB bs (0 : Nat) (List.length bs) ∧ (0 : Nat) < List.length bs ∧ List.length bs ≤ (9223372036854775807 : Nat)) ∧ ((0 : Int) ≤ IntKind.wrap IntKind.i64 ((↑i : Int) + (2 : Int)) ∧ IntKind.wrap IntKind.i64 ((↑i : Int) + (2 : Int)) ≤ IntKind.wrap IntKind.i64 ((↑i : Int) + ixB (subB s (↑i : Int) (↑(ByteArray.size s) : Int)) (125 : Int)) ∧ IntKind.wrap IntKind.i64 ((↑i : Int) + ixB (subB s (↑i : Int) (↑(ByteArray.size s) : Int)) (125 : Int)) ≤ (↑(ByteArray.size s) : Int)) ∧ (List.all [Value.string (mkBytes (u8L bs (0 : Nat) (List.length bs))), Value.string (ByteArray.mk (Array.mk [])), Value.string (ByteArray.mk (Array.mk [])), Value.string (subB s (IntKind.wrap IntKind.i64 ((↑i : Int) + (2 : Int))) (IntKind.wrap IntKind.i64 ((↑i : Int) + ixB (subB s (↑i : Int) (↑(ByteArray.size s) : Int)) (125 : Int))))] cellv = Bool.true ∧ n + (0 : Nat) = List.length els ∧ n + (2 : Nat) ≤ (70368744177664 : Nat) ∧ (n + (2 : Nat)) * (32 : Nat) ≤ (140737488355328 : Nat)) ∧ HF (Value.agg (Array.mk (els ++ [Value.agg (Array.mk [Value.string (mkBytes (u8L bs (0 : Nat) (List.length bs))), Value.string (ByteArray.mk (Array.mk []))]), Value.agg (Array.mk [Value.string (ByteArray.mk (Array.mk [])), Value.string (subB s (IntKind.wrap IntKind.i64 ((↑i : Int) + (2 : Int))) (IntKind.wrap IntKind.i64 ((↑i : Int) + ixB (subB s (↑i : Int) (↑(ByteArray.size s) : Int)) (125 : Int))))])]))) ∧ again (T.node (T.node T.leaf Option.none (T.node T.leaf (Option.some (Value.pointer (Option.some (Go.Addr.mk (1 : Nat) (0 : Nat) Option.none)))) T.leaf)) (Option.some (Value.string s)) (T.node (T.node T.leaf (Option.some (Value.slice (Option.some (Go.Addr.mk (0 : Nat) (0 : Nat) Option.none)) (n + (2 : Nat)) (18446744073709551621 : Nat))) T.leaf) Option.none (T.node T.leaf (Option.some (Value.int IntKind.i64 (IntKind.wrap IntKind.i64 (IntKind.wrap IntKind.i64 ((↑i : Int) + ixB (subB s (↑i : Int) (↑(ByteArray.size s) : Int)) (125 : Int)) + (1 : Int))))) T.leaf))) (AH.mk (T.node (T.node T.leaf (Option.some (AObj.cells [Value.pointer Option.none, Value.slice Option.none (0 : Nat) (0 : Nat)] (119 : Nat))) T.leaf) (Option.some (AObj.gro (els ++ [Value.agg (Array.mk [Value.string (mkBytes (u8L bs (0 : Nat) (List.length bs))), Value.string (ByteArray.mk (Array.mk []))]), Value.agg (Array.mk [Value.string (ByteArray.mk (Array.mk [])), Value.string (subB s (IntKind.wrap IntKind.i64 ((↑i : Int) + (2 : Int))) (IntKind.wrap IntKind.i64 ((↑i : Int) + ixB (subB s (↑i : Int) (↑(ByteArray.size s) : Int)) (125 : Int))))])]) [] (126 : Nat))) T.leaf) (2 : Nat))))))))) ((IsB bs (0 : Nat) (List.length bs) ∧ (0 : Nat) < List.length bs ∧ List.length bs ≤ (9223372036854775807 : Nat)) ∧ (List.all [Value.string (mkBytes (u8L bs (0 : Nat) (List.length bs))), Value.string (ByteArray.mk (Array.mk []))] cellv = Bool.true ∧ n + (0 : Nat) = List.length els ∧ n + (1 : Nat) ≤ (70368744177664 : Nat) ∧ (n + (1 : Nat)) * (32 : Nat) ≤ (140737488355328 : Nat)) ∧ K (Value.tuple (Array.mk [Value.slice (Option.some (Go.Addr.mk (4 : Nat) (0 : Nat) Option.none)) (n + (1 : Nat)) (18446744073709551621 : Nat), Value.int IntKind.i64 (-1 : Int)])) (AH.mk (T.node (T.node (T.node T.leaf (Option.some (AObj.cells [Value.string (mkBytes (u8L bs (0 : Nat) (List.length bs))), Value.string (ByteArray.mk (Array.mk []))] (126 : Nat))) T.leaf) (Option.some (AObj.cells [Value.pointer (Option.some (Go.Addr.mk (1 : Nat) (0 : Nat) Option.none)), Value.slice (Option.some (Go.Addr.mk (2 : Nat) (0 : Nat) Option.none)) (List.length bs) (18446744073709551616 : Nat)] (119 : Nat))) T.leaf) (Option.some AObj.dead) (T.node (T.node T.leaf (Option.some (AObj.gro els [Value.agg (Array.mk [Value.string (mkBytes (u8L bs (0 : Nat) (List.length bs))), Value.string (ByteArray.mk (Array.mk []))])] (126 : Nat))) T.leaf) (Option.some AObj.dead) T.leaf)) (5 : Nat)))) := by kernel_rfl
def pcv (p : SB × SB) : Value := .agg ⟨[.string p.1, .string p.2]⟩
def pv (l : List (SB × SB)) : List Value := l.map pcv
def u8v (l : List UInt8) : List Value := l.map fun b => Value.int .u8 b.toNat
theorem HF_pcv (p : SB × SB) : HF (pcv p) := .agg (HF.cons (.scal rfl) (HF.cons (.scal rfl) HF.nil))
theorem HF_pv (l : List (SB × SB)) : ∀ x ∈ pv l, HF x := fun x hx => by obtain ⟨p, _, rfl⟩ := List.mem_map.1 hx; exact HF_pcv p
theorem HF_u8 (l : List UInt8) : ∀ x ∈ u8v l, HF x := fun x hx => by obtain ⟨p, _, rfl⟩ := List.mem_map.1 hx; exact .scal rfl
theorem pv_len (l : List (SB × SB)) : (pv l).length = l.length := by simp [pv]
theorem u8_len (l : List UInt8) : (u8v l).length = l.length := by simp [u8v]
theorem u8_is (l : List UInt8) : IsB (u8v l) 0 (u8v l).length := ⟨l, by rw [List.drop_zero, List.take_length]; rfl, (u8_len l).symm⟩
theorem u8_L (l : List UInt8) : u8L (u8v l) 0 (u8v l).length = l := by
  unfold u8L; rw [List.drop_zero, List.take_length]; exact u8_map l
theorem u8_app (l : List UInt8) (b : UInt8) : (u8v l).take ((u8v l).length * 1) ++ [Value.int .u8 b.toNat] = u8v (l ++ [b]) := by
  rw [Nat.mul_one, List.take_length]; simp [u8v]
theorem pv_app (l m : List (SB × SB)) : pv l ++ pv m = pv (l ++ m) := by simp [pv]
theorem frz_pv {A : AH} {B n : Nat} {els tl : List Value} {e : TypeId} {l : List (SB × SB)} (hg : A.t.get B = some (.gro els tl e)) (h0 : els ++ tl = pv l) (hn : n = l.length) : Frz A (.slice (some ⟨B, 0, none⟩) n (unk + 3 + 2)) (.func (.yield 2) ⟨pv l⟩ ⟨[]⟩) := by
  have hsz : ∀ x ∈ pv l, x.cells.size = 2 := fun x hx => by obtain ⟨p, _, rfl⟩ := List.mem_map.1 hx; rfl
  have ht : ((pv l).drop 0).take n = pv l := by rw [List.drop_zero, List.take_of_length_le (by rw [pv_len]; omega)]
  refine .gsl (lo := 0) (els0 := pv l) (c2 := cellsL (pv l)) hg h0 (by kernel_rfl) (by kernel_rfl) (by decide) rfl hsz (by rw [pv_len]; omega) ?_ rfl hsz (by rw [pv_len]; omega)
  rw [ht]
  refine FrzL.same fun x hx => ?_
  obtain ⟨y, hy, hxy⟩ := List.mem_flatMap.1 hx
  obtain ⟨p, _, rfl⟩ := List.mem_map.1 hy
  have : x = .string p.1 ∨ x = .string p.2 := by simpa [pcv, Value.cells] using hxy
  rcases this with rfl | rfl <;> exact .scal rfl
def pcR (s : SB) : Value := .tuple ⟨[dat 2 (pv (pcs s 0 [] []).1), .int .i64 (pcs s 0 [] []).2]⟩
def PI (s : SB) (k : Nat) (F : T Value) (A : AH) : Prop := ∃ (i : Nat) (out : List (SB × SB)), F = frP s i out.length ∧ i + k = s.size ∧ out.length ≤ 2 * i ∧
  ((A = hPE (pv out) ∧ pcs s 0 [] [] = pcs s i [] out) ∨ ∃ txt, txt ≠ [] ∧ txt.length ≤ i ∧ A = hPN (pv out) (u8v txt) ∧ pcs s 0 [] [] = pcs s i txt out)
theorem P_stepE (s : SB) (hs : s.size ≤ 1000000) (i k : Nat) (out : List (SB × SB)) (hk : i + k = s.size) (hn : out.length ≤ 2 * i) (hx : pcs s 0 [] [] = pcs s i [] out) :
    jPcE (fun v A => Frz A v (pcR s)) (fun F' A' => ∃ m', m' < k ∧ PI s m' F' A') s i out.length (pv out) := by
  refine (jPcE_nf _ _ s i _ _).mpr ?_
  refine Sp.intro (fun c => ?_) (fun c => ?_)
  · have hlt : i < s.size := by simpa using c
    have hw : IntKind.i64.wrap ((i : Int) + 1) = ((i + 1 : Nat) : Int) := by rw [i64_in (by omega) (by omega)]; rfl
    have hw2 : IntKind.i64.wrap ((i : Int) + 2) = ((i + 2 : Nat) : Int) := by rw [i64_in (by omega) (by omega)]; rfl
    have hw3 : IntKind.i64.wrap (((i + 1 : Nat) : Int) + 1) = ((i + 2 : Nat) : Int) := by rw [i64_in (by omega) (by omega)]; omega
    have HP : HF (.agg ⟨pv out⟩) := .agg (HF_pv out)
    have hpl : plB s i = true → ∃ m', m' < k ∧ PI s m' (frP s (i + 1) out.length) (hPN (pv out) [Value.int .u8 (byteAt s i)]) := fun h => by
      rw [byteAt_nat hlt]
      exact ⟨k - 1, by omega, i + 1, out, rfl, by omega, by omega, .inr ⟨[bAt s i], by simp, by simp, rfl, by rw [hx, pcs_pl hlt h]; rfl⟩⟩
    have hdd : plB s i = false → byteAt s ((i + 1 : Nat) : Int) = 36 → ∃ m', m' < k ∧ PI s m' (frP s (i + 2) out.length) (hPN (pv out) [Value.int .u8 36]) := fun h h2 => by
      have hb := (plB_false hlt h).2.1
      exact ⟨k - 2, by omega, i + 2, out, rfl, by omega, by omega, .inr ⟨[36], by simp, by simp, rfl, by rw [hx, pcs_dd hlt h h2]; rfl⟩⟩
    have HB : HF (.agg ⟨[Value.int .u8 (byteAt s i)]⟩) := .agg (HF.cons (.scal rfl) HF.nil)
    have HD : HF (.agg ⟨[Value.int .u8 36]⟩) := .agg (HF.cons (.scal rfl) HF.nil)
    simp only [hw, hw2, hw3]
    refine ⟨⟨by omega, by omega⟩, Sp.intro (fun c0 => ⟨⟨by omega, by omega⟩, HP, HB, hpl (by unfold plB; rw [c0]; rfl)⟩) (fun c0 => Sp.intro (fun c1 => ⟨⟨by omega, by omega⟩, HP, HB, hpl ?_⟩) (fun c1 => ?_))⟩
    · unfold plB; rw [show decide (i + 1 = s.size) = true by (have := of_decide_eq_true c1; simp; omega)]; simp
    · have hi1 : i + 1 < s.size := by
        have : ¬ ((i : Int) + 1 = s.size) := by simpa using c1
        omega
      have hne : decide (i + 1 = s.size) = false := by simp; omega
      refine ⟨⟨by omega, by omega⟩, Sp.intro (fun c2 => ⟨⟨by omega, by omega⟩, Sp.intro (fun c3 => ⟨⟨by omega, by omega⟩, HP, HB, hpl ?_⟩) (fun c3 => ⟨⟨by omega, by omega⟩, Sp.intro (fun c4 => ⟨HP, HD, hdd ?_ (of_decide_eq_true c4)⟩) (fun c4 => ?_)⟩)⟩) (fun c2 => ⟨⟨by omega, by omega⟩, Sp.intro (fun c4 => ⟨HP, HD, hdd ?_ (of_decide_eq_true c4)⟩) (fun c4 => ?_)⟩)⟩
      · unfold plB; rw [c0, hne, c2, c3]; rfl
      · unfold plB; rw [c0, hne, c2, c3]; rfl
      rotate_left
      · unfold plB; rw [c0, hne, c2]; rfl
      all_goals
        have hP : plB s i = false := by
          unfold plB
          first
            | (rw [c0, hne, c2, c3]; rfl)
            | (rw [c0, hne, c2]; rfl)
        have h36 : ¬ byteAt s ((i + 1 : Nat) : Int) = 36 := of_decide_eq_false c4
        refine ⟨⟨by omega, by omega⟩, Sp.intro (fun c5 => ?_) (fun c5 => ?_)⟩
        · have hb : badN s i = true := by unfold badN lenN; rw [c5]; rfl
          have e := hx.trans (pcs_bad hlt hP h36 hb _ _)
          unfold pcR; rw [e]
          exact .tuple (.cons (.nils 2) (.cons (.same (HFi _ _)) .nil))
        · have h5 : ¬ lenN s i < 0 := of_decide_eq_false c5
          obtain ⟨hl1, hl2⟩ := lenN_in hlt hP h36 h5
          have hwL : IntKind.i64.wrap ((i : Int) + ixB (subB s (i : Int) (s.size : Int)) 125) = ((i + (lenN s i).toNat : Nat) : Int) := by
            show IntKind.i64.wrap ((i : Int) + lenN s i) = _
            rw [i64_in (by omega) (by omega)]; omega
          have hwM : IntKind.i64.wrap (((i + (lenN s i).toNat : Nat) : Int) + 1) = ((i + (lenN s i).toNat + 1 : Nat) : Int) := by rw [i64_in (by omega) (by omega)]; omega
          simp only [hwL, hwM]
          have hsz : (subB s ((i + 2 : Nat) : Int) ((i + (lenN s i).toNat : Nat) : Int)).size < 9223372036854775808 := by
            rw [subB_size (by omega) (by omega)]; omega
          refine ⟨⟨by omega, by omega, by omega⟩, hsz, Sp.intro (fun c6 => ?_) (fun c6 => ⟨⟨by omega, by omega, by omega⟩, ⟨by rfl, by rw [pv_len]; rfl, by omega, by omega⟩, ?_⟩)⟩
          · have hb : badN s i = true := by unfold badN namN; rw [c6]; simp
            have e := hx.trans (pcs_bad hlt hP h36 hb _ _)
            unfold pcR; rw [e]
            exact .tuple (.cons (.nils 2) (.cons (.same (HFi _ _)) .nil))
          · have hb : badN s i = false := by
              unfold badN namN; rw [c6, decide_eq_false h5]; rfl
            have e := hx.trans (pcs_nm hlt hP h36 hb _ _)
            have epv : pv out ++ [Value.agg ⟨[Value.string ⟨⟨[]⟩⟩, Value.string ⟨⟨[]⟩⟩]⟩, Value.agg ⟨[Value.string ⟨⟨[]⟩⟩, Value.string (subB s ((i + 2 : Nat) : Int) ((i + (lenN s i).toNat : Nat) : Int))]⟩] = pv (out ++ [(mkBytes [], mkBytes []), (mkBytes [], namN s i)]) := pv_app out [(mkBytes [], mkBytes []), (mkBytes [], namN s i)]
            rw [epv]
            exact ⟨.agg (HF_pv _), k - ((lenN s i).toNat + 1), by omega, i + (lenN s i).toNat + 1, out ++ [(mkBytes [], mkBytes []), (mkBytes [], namN s i)], by rw [List.length_append]; rfl, by omega, by simp; omega, .inl ⟨rfl, e⟩⟩
  · have hge : ¬ i < s.size := by simp at c; omega
    have e := hx.trans (pcs_end hge _ _)
    refine ⟨⟨by rfl, by rw [pv_len]; rfl, by omega, by omega⟩, ?_⟩
    unfold pcR; rw [e]
    exact .tuple (.cons (frz_pv rfl (pv_app out [(mkBytes [], mkBytes [])]) (by simp)) (.cons (.same (HFi _ _)) .nil))
end
end Go.T9
set_option maxRecDepth 1000000
set_option linter.unusedVariables false
set_option linter.unusedSimpArgs false
set_option maxHeartbeats 4000000
namespace Go.T9
open Go Go.AM Go.MK
noncomputable section
def hPM (els bs : List Value) (n : Nat) : AH := ⟨.node (.node .leaf (some (.cells [.pointer (some ⟨1, 0, none⟩), .slice (some ⟨2, 0, none⟩) n unk] 119)) .leaf) (some (.gro els [] 126)) (.node .leaf (some (.cells bs 5)) .leaf), 3⟩
theorem u8_len1 (l : List UInt8) (b : UInt8) : (u8v l).length + 1 = (u8v (l ++ [b])).length := by simp [u8v]
theorem u8_app36 (l : List UInt8) : (u8v l).take ((u8v l).length * 1) ++ [Value.int .u8 36] = u8v (l ++ [36]) := u8_app l 36
theorem P_stepN (s : SB) (hs : s.size ≤ 1000000) (i k : Nat) (out : List (SB × SB)) (txt : List UInt8) (ht0 : txt ≠ []) (ht : txt.length ≤ i) (hk : i + k = s.size) (hn : out.length ≤ 2 * i) (hx : pcs s 0 [] [] = pcs s i txt out) :
    jPcN (fun v A => Frz A v (pcR s)) (fun F' A' => ∃ m', m' < k ∧ PI s m' F' A') s i out.length (pv out) (u8v txt) := by
  have htl : 0 < txt.length := by rcases txt with _ | ⟨x, l⟩; exact absurd rfl ht0; simp
  have hul : (u8v txt).length = txt.length := u8_len txt
  refine (jPcN_nf _ _ s i _ _ _).mpr ?_
  refine Sp.intro (fun c => ?_) (fun c => ?_)
  · have hlt : i < s.size := by simpa using c
    have hw : IntKind.i64.wrap ((i : Int) + 1) = ((i + 1 : Nat) : Int) := by rw [i64_in (by omega) (by omega)]; rfl
    have hw2 : IntKind.i64.wrap ((i : Int) + 2) = ((i + 2 : Nat) : Int) := by rw [i64_in (by omega) (by omega)]; rfl
    have hw3 : IntKind.i64.wrap (((i + 1 : Nat) : Int) + 1) = ((i + 2 : Nat) : Int) := by rw [i64_in (by omega) (by omega)]; omega
    have HP : HF (.agg ⟨pv out⟩) := .agg (HF_pv out)
    have hpl : plB s i = true → ∃ m', m' < k ∧ PI s m' (frP s (i + 1) out.length) (hPM (pv out) ((u8v txt).take ((u8v txt).length * 1) ++ [Value.int .u8 (byteAt s i)]) ((u8v txt).length + 1)) := fun h => by
      rw [byteAt_nat hlt, u8_app, u8_len1 txt (bAt s i)]
      exact ⟨k - 1, by omega, i + 1, out, rfl, by omega, by omega, .inr ⟨txt ++ [bAt s i], by simp, by simp; omega, rfl, by rw [hx, pcs_pl hlt h]⟩⟩
    have hdd : plB s i = false → byteAt s ((i + 1 : Nat) : Int) = 36 → ∃ m', m' < k ∧ PI s m' (frP s (i + 2) out.length) (hPM (pv out) ((u8v txt).take ((u8v txt).length * 1) ++ [Value.int .u8 36]) ((u8v txt).length + 1)) := fun h h2 => by
      have hb := (plB_false hlt h).2.1
      rw [u8_app36, u8_len1 txt 36]
      exact ⟨k - 2, by omega, i + 2, out, rfl, by omega, by omega, .inr ⟨txt ++ [36], by simp, by simp; omega, rfl, by rw [hx, pcs_dd hlt h h2]⟩⟩
    have HB : HF (.agg ⟨(u8v txt).take ((u8v txt).length * 1) ++ [Value.int .u8 (byteAt s i)]⟩) := by rw [byteAt_nat hlt, u8_app]; exact .agg (HF_u8 _)
    have HD : HF (.agg ⟨(u8v txt).take ((u8v txt).length * 1) ++ [Value.int .u8 36]⟩) := by rw [u8_app36]; exact .agg (HF_u8 _)
    have HC : (u8v txt).length + 1 ≤ 70368744177664 ∧ ((u8v txt).length + 1) * 1 ≤ 140737488355328 ∧ (u8v txt).length * 1 ≤ (u8v txt).length := ⟨by omega, by omega, by omega⟩
    simp only [hw, hw2, hw3]
    refine ⟨⟨by omega, by omega⟩, Sp.intro (fun c0 => ⟨⟨by omega, by omega⟩, HC, HP, HB, hpl (by unfold plB; rw [c0]; rfl)⟩) (fun c0 => Sp.intro (fun c1 => ⟨⟨by omega, by omega⟩, HC, HP, HB, hpl ?_⟩) (fun c1 => ?_))⟩
    · unfold plB; rw [show decide (i + 1 = s.size) = true by (have := of_decide_eq_true c1; simp; omega)]; simp
    · have hi1 : i + 1 < s.size := by
        have : ¬ ((i : Int) + 1 = s.size) := by simpa using c1
        omega
      have hne : decide (i + 1 = s.size) = false := by simp; omega
      refine ⟨⟨by omega, by omega⟩, Sp.intro (fun c2 => ⟨⟨by omega, by omega⟩, Sp.intro (fun c3 => ⟨⟨by omega, by omega⟩, HC, HP, HB, hpl ?_⟩) (fun c3 => ⟨⟨by omega, by omega⟩, Sp.intro (fun c4 => ⟨HC, HP, HD, hdd ?_ (of_decide_eq_true c4)⟩) (fun c4 => ?_)⟩)⟩) (fun c2 => ⟨⟨by omega, by omega⟩, Sp.intro (fun c4 => ⟨HC, HP, HD, hdd ?_ (of_decide_eq_true c4)⟩) (fun c4 => ?_)⟩)⟩
      · unfold plB; rw [c0, hne, c2, c3]; rfl
      · unfold plB; rw [c0, hne, c2, c3]; rfl
      rotate_left
      · unfold plB; rw [c0, hne, c2]; rfl
      all_goals
        have hP : plB s i = false := by
          unfold plB
          first
            | (rw [c0, hne, c2, c3]; rfl)
            | (rw [c0, hne, c2]; rfl)
        have h36 : ¬ byteAt s ((i + 1 : Nat) : Int) = 36 := of_decide_eq_false c4
        refine ⟨⟨by omega, by omega⟩, Sp.intro (fun c5 => ?_) (fun c5 => ?_)⟩
        · have hb : badN s i = true := by unfold badN lenN; rw [c5]; rfl
          have e := hx.trans (pcs_bad hlt hP h36 hb _ _)
          unfold pcR; rw [e]
          exact .tuple (.cons (.nils 2) (.cons (.same (HFi _ _)) .nil))
        · have h5 : ¬ lenN s i < 0 := of_decide_eq_false c5
          obtain ⟨hl1, hl2⟩ := lenN_in hlt hP h36 h5
          have hwL : IntKind.i64.wrap ((i : Int) + ixB (subB s (i : Int) (s.size : Int)) 125) = ((i + (lenN s i).toNat : Nat) : Int) := by
            show IntKind.i64.wrap ((i : Int) + lenN s i) = _
            rw [i64_in (by omega) (by omega)]; omega
          have hwM : IntKind.i64.wrap (((i + (lenN s i).toNat : Nat) : Int) + 1) = ((i + (lenN s i).toNat + 1 : Nat) : Int) := by rw [i64_in (by omega) (by omega)]; omega
          simp only [hwL, hwM]
          have hsz : (subB s ((i + 2 : Nat) : Int) ((i + (lenN s i).toNat : Nat) : Int)).size < 9223372036854775808 := by
            rw [subB_size (by omega) (by omega)]; omega
          refine ⟨⟨by omega, by omega, by omega⟩, hsz, Sp.intro (fun c6 => ?_) (fun c6 => ⟨⟨u8_is txt, by omega, by omega⟩, ⟨by omega, by omega, by omega⟩, ⟨by rfl, by rw [pv_len]; rfl, by omega, by omega⟩, ?_⟩)⟩
          · have hb : badN s i = true := by unfold badN namN; rw [c6]; simp
            have e := hx.trans (pcs_bad hlt hP h36 hb _ _)
            unfold pcR; rw [e]
            exact .tuple (.cons (.nils 2) (.cons (.same (HFi _ _)) .nil))
          · have hb : badN s i = false := by
              unfold badN namN; rw [c6, decide_eq_false h5]; rfl
            have e := hx.trans (pcs_nm hlt hP h36 hb _ _)
            have epv : pv out ++ [Value.agg ⟨[Value.string (mkBytes txt), Value.string ⟨⟨[]⟩⟩]⟩, Value.agg ⟨[Value.string ⟨⟨[]⟩⟩, Value.string (subB s ((i + 2 : Nat) : Int) ((i + (lenN s i).toNat : Nat) : Int))]⟩] = pv (out ++ [(mkBytes txt, mkBytes []), (mkBytes [], namN s i)]) := pv_app out [(mkBytes txt, mkBytes []), (mkBytes [], namN s i)]
            rw [u8_L, epv]
            exact ⟨.agg (HF_pv _), k - ((lenN s i).toNat + 1), by omega, i + (lenN s i).toNat + 1, out ++ [(mkBytes txt, mkBytes []), (mkBytes [], namN s i)], by rw [List.length_append]; rfl, by omega, by simp; omega, .inl ⟨rfl, e⟩⟩
  · have hge : ¬ i < s.size := by simp at c; omega
    have e := hx.trans (pcs_end hge _ _)
    refine ⟨⟨u8_is txt, by omega, by omega⟩, ⟨by rfl, by rw [pv_len]; rfl, by omega, by omega⟩, ?_⟩
    unfold pcR; rw [e, u8_L]
    exact .tuple (.cons (frz_pv rfl (pv_app out [(mkBytes txt, mkBytes [])]) (by simp)) (.cons (.same (HFi _ _)) .nil))
theorem P_loop (s : SB) (hs : s.size ≤ 1000000) : LAtZ XP 4 ntP ⟨.leaf, 0⟩ bdP [1, 1, 1, 0, 1, 0] (kFinP (fun v A => Frz A v (pcR s))) (frP s 0 0) (hPE []) := by
  refine LAtZ.step XP_ok rfl [(.slot 4, 126, 2)] [] [5] [0, 4, 5, 6] (by kernel_rfl) (PI s) ?_ (k := s.size) ⟨0, [], rfl, by simp, by simp, .inl ⟨rfl, rfl⟩⟩
  rintro k F A ⟨i, out, rfl, hk, hn, h | ⟨txt, h0, h1, h⟩⟩
  · obtain ⟨rfl, hx⟩ := h
    exact P_stepE s hs i k out hk hn hx
  · obtain ⟨rfl, hx⟩ := h
    exact P_stepN s hs i k out txt h0 h1 hk hn hx
theorem pc_walk (s : SB) (hs : s.size ≤ 1000000) : WalkZ envX Proofs.Tryz.f34 [.string s] ⟨.leaf, 0⟩ (pcR s) := by
  refine sxFnZ_walk XP_ok (d := 4) ((jPc_nf _ s).mpr ⟨.agg HF.nil, ?_⟩)
  exact P_loop s hs
def pcX : List Value → Option Value
  | [.string s] => some (.tuple ⟨[.func (.yield 2) ⟨pv (pcs s 0 [] []).1⟩ ⟨[]⟩, .int .i64 (pcs s 0 [] []).2]⟩)
  | _ => none
def pcPre : List Value → Option Prop
  | [.string s] => some (s.size ≤ 1000000)
  | _ => none
theorem pc_tab : ∀ args A p v A', pureR pcPre pcX args A = some (p, v, A') → PH p → CallAt envX 34 args A v A' := walk_tab envX_ok envX_gl (fn := Proofs.Tryz.f34) rfl fun args v h hp => by
  unfold pcX at h
  split at h
  · simp only [Option.some.injEq] at h
    subst h
    exact ⟨HF.cons (.scal rfl) HF.nil, pc_walk _ hp⟩
  · cases h
end
end Go.T9

/- A part of the proof. -/
import Derived.Test.YtdgjjfkjhikbaaaDoorX5
set_option linter.unusedVariables false
set_option linter.unusedSimpArgs false
set_option maxRecDepth 1000000
namespace Go.T9
open Go Go.AM Go.MK
noncomputable section
def elPr : El := { El.of (fun _ t els i => bif inL t [40, 41, 45, 46] then some (.agg ⟨[.int .i64 (prAt els i).1, .int .i64 (prAt els i).2]⟩) else bif inL t [56, 64] then some (.func (.yield 1) ⟨rowAt els i⟩ ⟨[]⟩) else bif inL t [103, 108] then some (.bool (boolAt els i)) else some (.int .i64 (intAt els i))) with app := true, gm := fun _ => true, ml := fun _ es k => some (.int .i64 (mgP es k), mhP es k), mu := fun _ es _ k v => some (msP es k v, mnP es k v) }
def nsPr : List (NPos × TypeId × Nat) := [(.slot 8, 125, 2), (.cell 9 1, 4, 1), (.cell 9 2, 50, 1)]
def XPr : SX := ⟨env, [(69, pureR (fun _ => none) cbX)], elPr, fun k => bif Nat.beq k 5 then .autoN nsPr [.cell 9 2] [] [2, 3, 4, 6, 7, 8, 9, 10] else .autoN [] [] [] [2, 3, 4, 6, 7, 8, 9, 10, 11, 12, 13, 14]⟩
theorem XPr_ok : XPr.Ok := ⟨env_ok, env_sym, env_gl, .cons cb_tab .nil⟩
def kFinPr (K : KV) : KX := finK XPr.E (Proofs.Tryd.f38.results).toList K
def zAu : AObj := .cells [.int .i64 0, nilS, nilS] 29
def hPrL (ks : List PR) (ac : List Bool) (rw : List (List Int)) (s : Int) (acc : List Bool) (nx : List (List Int)) (s2 : Int) (acc2 : List Bool) (nx2 : List (List Int)) : AH := ⟨(.node (.node (.node (.node .leaf (some (groR rw)) .leaf) (some (.map (enP (mkM ks)) ks.length)) .leaf) (some (auC s2 acc2 nx2)) (.node .leaf (some (.cells [.int .i64 0, groS 6 ac.length, groS 7 rw.length] 29)) .leaf)) (some (auC s acc nx)) (.node (.node .leaf (some (.gro (prs ks) [] 125)) .leaf) (some (zAu)) (.node .leaf (some (groB ac)) .leaf))), 8⟩
def hPrI (ks : List PR) (ac : List Bool) (rw : List (List Int)) (r : List Int) (s : Int) (acc : List Bool) (nx : List (List Int)) (s2 : Int) (acc2 : List Bool) (nx2 : List (List Int)) : AH := ⟨(.node (.node (.node (.node .leaf (some (groB ac)) .leaf) (some (.map (enP (mkM ks)) ks.length)) .leaf) (some (auC s2 acc2 nx2)) (.node .leaf (some (.cells [.int .i64 0, groS 7 ac.length, groS 8 rw.length] 29)) .leaf)) (some (auC s acc nx)) (.node (.node (.node .leaf (some (groR rw)) .leaf) (some (.gro (prs ks) [] 125)) .leaf) (some (zAu)) (.node .leaf (some (groI r)) .leaf))), 9⟩
def frPrL (kd : Int) (n i : Nat) : T Value := (.node (.node (.node (.node .leaf (some (.map (some 3))) .leaf) (some (.pointer (some ⟨0, 0, none⟩))) .leaf) none (.node (.node .leaf (some (.pointer (some ⟨5, 0, none⟩))) .leaf) none .leaf)) none (.node (.node (.node .leaf (some (groP 4 n)) .leaf) (some (.pointer (some ⟨1, 0, none⟩))) .leaf) (some (.int .i64 kd)) (.node (.node .leaf (some (.int .i64 i)) .leaf) (some (.pointer (some ⟨2, 0, none⟩))) .leaf)))
def frPrI (kd : Int) (n i : Nat) (x y : Int) (c : Nat) : T Value := (.node (.node (.node (.node .leaf (some (.map (some 3))) .leaf) (some (.pointer (some ⟨0, 0, none⟩))) (.node .leaf (some (.int .i64 x)) .leaf)) none (.node (.node .leaf (some (.pointer (some ⟨5, 0, none⟩))) .leaf) none (.node .leaf (some (groS 6 256)) .leaf))) none (.node (.node (.node .leaf (some (groP 4 n)) .leaf) (some (.pointer (some ⟨1, 0, none⟩))) (.node .leaf (some (.int .i64 y)) .leaf)) (some (.int .i64 kd)) (.node (.node .leaf (some (.int .i64 i)) .leaf) (some (.pointer (some ⟨2, 0, none⟩))) (.node .leaf (some (.int .i64 c)) .leaf))))
def jPr (K : KV) (kd : Int) (s : Int) (acc : List Bool) (nx : List (List Int)) (s2 : Int) (acc2 : List Bool) (nx2 : List (List Int)) : Prop := sxFnF XPr 1 Proofs.Tryd.f38 [.agg ⟨[.int .i64 s, dat 1 (blV acc), dat 1 (roV nx)]⟩, .agg ⟨[.int .i64 s2, dat 1 (blV acc2), dat 1 (roV nx2)]⟩, .int .i64 kd] ⟨.leaf, 0⟩ K
def jPrL (K : KV) (again : KF) (kd : Int) (ks : List PR) (ac : List Bool) (rw : List (List Int)) (s : Int) (acc : List Bool) (nx : List (List Int)) (s2 : Int) (acc2 : List Bool) (nx2 : List (List Int)) (i : Nat) : Prop := sxStepF XPr 1 (Func.ntmps Proofs.Tryd.f38) ⟨.leaf, 0⟩ (bodyOf Proofs.Tryd.f38) [1, 1, 1, 1, 0, 1, 0] (kFinPr K) nsPr [.cell 9 2] [] [2, 3, 4, 6, 7, 8, 9, 10] again (frPrL kd ks.length i) (hPrL ks ac rw s acc nx s2 acc2 nx2)
def kPr2 (K : KV) (again2 : KF) : KX := stepF XPr 1 (Func.ntmps Proofs.Tryd.f38) ⟨.leaf, 0⟩ (bodyOf Proofs.Tryd.f38) [1, 1, 1, 1, 0, 1, 0] (kFinPr K) nsPr [.cell 9 2] [] [2, 3, 4, 6, 7, 8, 9, 10] again2
def jPrI (K : KV) (again2 again : KF) (kd : Int) (ks : List PR) (ac : List Bool) (rw : List (List Int)) (r : List Int) (s : Int) (acc : List Bool) (nx : List (List Int)) (s2 : Int) (acc2 : List Bool) (nx2 : List (List Int)) (i : Nat) (x y : Int) (c : Nat) : Prop := sxStepF XPr 1 (Func.ntmps Proofs.Tryd.f38) ⟨.leaf, 0⟩ (loopBody (subC [1, 1, 1, 1, 0, 1, 0] (bodyOf Proofs.Tryd.f38))) [1, 0, 0, 1, 1, 0, 1, 0] (kPr2 K again2) [] [] [] [2, 3, 4, 6, 7, 8, 9, 10, 11, 12, 13, 14] again (frPrI kd ks.length i x y c) (hPrI ks ac rw r s acc nx s2 acc2 nx2)
set_option maxHeartbeats 1000000
theorem jPr_nf (K : KV) (kd s : Int) (acc : List Bool) (nx : List (List Int)) (s2 : Int) (acc2 : List Bool) (nx2 : List (List Int)) : jPr K kd s acc nx s2 acc2 nx2 = (mapUpdE (SX.E XPr) 131 [] 0 (Value.agg (Array.mk [Vi s, Vi s2])) (Vi 0) = some ([(Value.agg (Array.mk [Vi s, Vi s2]), Vi 0, 0)], 1) ∧ HF (Vd 1 (blV acc)) ∧ HF (Vd 1 (roV nx)) ∧ HF (Vd 1 (blV acc2)) ∧ HF (Vd 1 (roV nx2)) ∧ HF (Value.agg (Array.mk [Vi 0])) ∧ HF (Value.agg (Array.mk [Value.agg (Array.mk [Vi s, Vi s2])])) ∧ HF (Value.agg ⟨[]⟩) ∧ HF (Value.agg ⟨[]⟩) ∧ LAtZ XPr 1 (Func.ntmps Proofs.Tryd.f38) (AH.mk Lf 0) (bodyOf Proofs.Tryd.f38) [1, 1, 1, 1, 0, 1, 0] (finK (SX.E XPr) (Array.toList (Func.results Proofs.Tryd.f38)) K) (Nd (Nd (Nd (Nd Lf (some (Value.map (some 3))) Lf) (some (Value.pointer (some ⟨0, 0, none⟩))) Lf) none (Nd (Nd Lf (some (Value.pointer (some ⟨5, 0, none⟩))) Lf) none Lf)) none (Nd (Nd (Nd Lf (some (Value.slice (some ⟨4, 0, none⟩) 1 18446744073709551621)) Lf) (some (Value.pointer (some ⟨1, 0, none⟩))) Lf) (some (Vi kd)) (Nd (Nd Lf (some (Vi 0)) Lf) (some (Value.pointer (some ⟨2, 0, none⟩))) Lf))) (AH.mk (Nd (Nd (Nd (Nd Lf (some (AObj.gro [] [] 50)) Lf) (some (AObj.map [(Value.agg (Array.mk [Vi s, Vi s2]), Vi 0, 0)] 1)) Lf) (some (AObj.cells [Vi s2, Vd 1 (blV acc2), Vd 1 (roV nx2)] 29)) (Nd Lf (some (AObj.cells [Vi 0, Value.slice (some ⟨6, 0, none⟩) 0 18446744073709551620, Value.slice (some ⟨7, 0, none⟩) 0 18446744073709551620] 29)) Lf)) (some (AObj.cells [Vi s, Vd 1 (blV acc), Vd 1 (roV nx)] 29)) (Nd (Nd Lf (some (AObj.gro [Value.agg (Array.mk [Vi s, Vi s2])] [] 125)) Lf) (some (AObj.cells [Vi 0, Value.slice none 0 0, Value.slice none 0 0] 29)) (Nd Lf (some (AObj.gro [] [] 4)) Lf))) 8)) := by kernel_rfl
theorem jPrL_nf (K : KV) (again : KF) (kd : Int) (ks : List PR) (ac : List Bool) (rw : List (List Int)) (s : Int) (acc : List Bool) (nx : List (List Int)) (s2 : Int) (acc2 : List Bool) (nx2 : List (List Int)) (i : Nat) : jPrL K again kd ks ac rw s acc nx s2 acc2 nx2 i = (Sp (decide ((i : Int) < (↑(List.length ks) : Int))) ((0 ≤ (i : Int) ∧ (i : Int) < (↑(List.length ks) : Int)) ∧ nth (prs ks) (Int.toNat (↑(i) : Int)) = some (Value.agg (Array.mk [Vi (Prod.fst (prAt (prs ks) (↑(Int.toNat (i : Int)) : Int))), Vi (Prod.snd (prAt (prs ks) (↑(Int.toNat (i : Int)) : Int)))])) ∧ (0 ≤ (i : Int) ∧ (i : Int) < (↑(List.length ks) : Int)) ∧ nth (prs ks) (Int.toNat (↑(i) : Int)) = some (Value.agg (Array.mk [Vi (Prod.fst (prAt (prs ks) (↑(Int.toNat (i : Int)) : Int))), Vi (Prod.snd (prAt (prs ks) (↑(Int.toNat (i : Int)) : Int)))])) ∧ ((0 : Int) ≤ (256 : Int) ∧ (256 : Int) ≤ (256 : Int) ∧ (256 : Int) ≤ (281474976710656 : Int) ∧ (2048 : Nat) ≤ (281474976710656 : Nat)) ∧ HF (Vd 1 (blV acc)) ∧ HF (Vd 1 (roV nx)) ∧ HF (Vd 1 (blV acc2)) ∧ HF (Vd 1 (roV nx2)) ∧ HF (Value.agg (Array.mk (mvl (enP (mkM ks))))) ∧ HF (Value.agg (Array.mk (prs ks))) ∧ HF (Value.agg (Array.mk (inV z256))) ∧ HF (Value.agg (Array.mk (blV ac))) ∧ HF (Value.agg (Array.mk (roV rw))) ∧ LAtZ XPr 1 (Func.ntmps Proofs.Tryd.f38) (AH.mk Lf 0) (loopBody (subC [1, 1, 1, 1, 0, 1, 0] (bodyOf Proofs.Tryd.f38))) [1, 0, 0, 1, 1, 0, 1, 0] (stepF XPr 1 (Func.ntmps Proofs.Tryd.f38) (AH.mk Lf 0) (bodyOf Proofs.Tryd.f38) [1, 1, 1, 1, 0, 1, 0] (kFinPr K) nsPr [NPos.cell 9 2] [] [2, 3, 4, 6, 7, 8, 9, 10] again) (Nd (Nd (Nd (Nd Lf (some (Value.map (some 3))) Lf) (some (Value.pointer (some ⟨0, 0, none⟩))) (Nd Lf (some (Vi (Prod.fst (prAt (prs ks) (↑(Int.toNat (i : Int)) : Int))))) Lf)) none (Nd (Nd Lf (some (Value.pointer (some ⟨5, 0, none⟩))) Lf) none (Nd Lf (some (Value.slice (some ⟨6, 0, none⟩) 256 18446744073709551620)) Lf))) none (Nd (Nd (Nd Lf (some (Value.slice (some ⟨4, 0, none⟩) (List.length ks) 18446744073709551621)) Lf) (some (Value.pointer (some ⟨1, 0, none⟩))) (Nd Lf (some (Vi (Prod.snd (prAt (prs ks) (↑(Int.toNat (i : Int)) : Int))))) Lf)) (some (Vi kd)) (Nd (Nd Lf (some (Vi (i : Int))) Lf) (some (Value.pointer (some ⟨2, 0, none⟩))) (Nd Lf (some (Vi 0)) Lf)))) (AH.mk (Nd (Nd (Nd (Nd Lf (some (AObj.gro (blV ac) [] 4)) Lf) (some (AObj.map (enP (mkM ks)) (List.length ks))) Lf) (some (AObj.cells [Vi s2, Vd 1 (blV acc2), Vd 1 (roV nx2)] 29)) (Nd Lf (some (AObj.cells [Vi 0, Value.slice (some ⟨7, 0, none⟩) (List.length ac) 18446744073709551620, Value.slice (some ⟨8, 0, none⟩) (List.length rw) 18446744073709551620] 29)) Lf)) (some (AObj.cells [Vi s, Vd 1 (blV acc), Vd 1 (roV nx)] 29)) (Nd (Nd (Nd Lf (some (AObj.gro (roV rw) [] 50)) Lf) (some (AObj.gro (prs ks) [] 125)) Lf) (some (AObj.cells [Vi 0, Value.slice none 0 0, Value.slice none 0 0] 29)) (Nd Lf (some (AObj.gro (inV z256) [] 3)) Lf))) 9)) (K (Value.agg (Array.mk [Vi 0, Value.slice (some ⟨6, 0, none⟩) (List.length ac) 18446744073709551620, Value.slice (some ⟨7, 0, none⟩) (List.length rw) 18446744073709551620])) (AH.mk (Nd (Nd (Nd (Nd Lf (some (AObj.gro (roV rw) [] 50)) Lf) (some (AObj.map (enP (mkM ks)) (List.length ks))) Lf) (some (AObj.cells [Vi s2, Vd 1 (blV acc2), Vd 1 (roV nx2)] 29)) (Nd Lf (some (AObj.cells [Vi 0, Value.slice (some ⟨6, 0, none⟩) (List.length ac) 18446744073709551620, Value.slice (some ⟨7, 0, none⟩) (List.length rw) 18446744073709551620] 29)) Lf)) (some (AObj.cells [Vi s, Vd 1 (blV acc), Vd 1 (roV nx)] 29)) (Nd (Nd Lf (some (AObj.gro (prs ks) [] 125)) Lf) (some (AObj.cells [Vi 0, Value.slice (some ⟨6, 0, none⟩) (List.length ac) 18446744073709551620, Value.slice (some ⟨7, 0, none⟩) (List.length rw) 18446744073709551620] 29)) (Nd Lf (some (AObj.gro (blV ac) [] 4)) Lf))) 8))) := by kernel_rfl
theorem jPrI_nf (K : KV) (again2 : KF) (again : KF) (kd : Int) (ks : List PR) (ac : List Bool) (rw : List (List Int)) (r : List Int) (s : Int) (acc : List Bool) (nx : List (List Int)) (s2 : Int) (acc2 : List Bool) (nx2 : List (List Int)) (i : Nat) (x y : Int) (c : Nat) : jPrI K again2 again kd ks ac rw r s acc nx s2 acc2 nx2 i x y c = (Sp (decide ((c : Int) < 256)) ((0 ≤ x ∧ x < (↑(List.length (roV nx)) : Int)) ∧ nth (roV nx) (Int.toNat (↑(Int.toNat x) : Int)) = some (Vd 1 (rowAt (roV nx) (↑(Int.toNat x) : Int))) ∧ (0 ≤ (c : Int) ∧ (c : Int) < (↑(List.length (rowAt (roV nx) (↑(Int.toNat x) : Int))) : Int)) ∧ nth (rowAt (roV nx) (↑(Int.toNat x) : Int)) (c) = some (Vi (intAt (rowAt (roV nx) (↑(Int.toNat x) : Int)) (c : Int))) ∧ (0 ≤ y ∧ y < (↑(List.length (roV nx2)) : Int)) ∧ nth (roV nx2) (Int.toNat (↑(Int.toNat y) : Int)) = some (Vd 1 (rowAt (roV nx2) (↑(Int.toNat y) : Int))) ∧ (0 ≤ (c : Int) ∧ (c : Int) < (↑(List.length (rowAt (roV nx2) (↑(Int.toNat y) : Int))) : Int)) ∧ nth (rowAt (roV nx2) (↑(Int.toNat y) : Int)) (c) = some (Vi (intAt (rowAt (roV nx2) (↑(Int.toNat y) : Int)) (c : Int))) ∧ lookE (SX.E XPr) 131 (enP (mkM ks)) (Value.agg (Array.mk [Vi (intAt (rowAt (roV nx) (↑(Int.toNat x) : Int)) (c : Int)), Vi (intAt (rowAt (roV nx2) (↑(Int.toNat y) : Int)) (c : Int))])) = some (Vi (mgP (enP (mkM ks)) (Value.agg (Array.mk [Vi (intAt (rowAt (roV nx) (↑(Int.toNat x) : Int)) (c : Int)), Vi (intAt (rowAt (roV nx2) (↑(Int.toNat y) : Int)) (c : Int))]))), mhP (enP (mkM ks)) (Value.agg (Array.mk [Vi (intAt (rowAt (roV nx) (↑(Int.toNat x) : Int)) (c : Int)), Vi (intAt (rowAt (roV nx2) (↑(Int.toNat y) : Int)) (c : Int))]))) ∧ Sp (!mhP (enP (mkM ks)) (Value.agg (Array.mk [Vi (intAt (rowAt (roV nx) (↑(Int.toNat x) : Int)) (c : Int)), Vi (intAt (rowAt (roV nx2) (↑(Int.toNat y) : Int)) (c : Int))]))) (mapUpdE (SX.E XPr) 131 (enP (mkM ks)) (List.length ks) (Value.agg (Array.mk [Vi (intAt (rowAt (roV nx) (↑(Int.toNat x) : Int)) (c : Int)), Vi (intAt (rowAt (roV nx2) (↑(Int.toNat y) : Int)) (c : Int))])) (Vi (↑(List.length ks) : Int)) = some (msP (enP (mkM ks)) (Value.agg (Array.mk [Vi (intAt (rowAt (roV nx) (↑(Int.toNat x) : Int)) (c : Int)), Vi (intAt (rowAt (roV nx2) (↑(Int.toNat y) : Int)) (c : Int))])) (Vi (↑(List.length ks) : Int)), mnP (enP (mkM ks)) (Value.agg (Array.mk [Vi (intAt (rowAt (roV nx) (↑(Int.toNat x) : Int)) (c : Int)), Vi (intAt (rowAt (roV nx2) (↑(Int.toNat y) : Int)) (c : Int))])) (Vi (↑(List.length ks) : Int))) ∧ (List.all [Vi (intAt (rowAt (roV nx) (↑(Int.toNat x) : Int)) (c : Int)), Vi (intAt (rowAt (roV nx2) (↑(Int.toNat y) : Int)) (c : Int))] cellv = true ∧ List.length ks + 0 = List.length (prs ks) ∧ List.length ks + (1 : Nat) ≤ (70368744177664 : Nat) ∧ (List.length ks + 1) * (16 : Nat) ≤ (140737488355328 : Nat)) ∧ (0 ≤ (c : Int) ∧ (c : Int) < 256) ∧ c < List.length (inV r) ∧ HF (Vd 1 (blV acc)) ∧ HF (Vd 1 (roV nx)) ∧ HF (Vd 1 (blV acc2)) ∧ HF (Vd 1 (roV nx2)) ∧ HF (Value.agg (Array.mk (mvl (msP (enP (mkM ks)) (Value.agg (Array.mk [Vi (intAt (rowAt (roV nx) (↑(Int.toNat x) : Int)) (c : Int)), Vi (intAt (rowAt (roV nx2) (↑(Int.toNat y) : Int)) (c : Int))])) (Vi (↑(List.length ks) : Int)))))) ∧ HF (Value.agg (Array.mk (prs ks ++ [Value.agg (Array.mk [Vi (intAt (rowAt (roV nx) (↑(Int.toNat x) : Int)) (c : Int)), Vi (intAt (rowAt (roV nx2) (↑(Int.toNat y) : Int)) (c : Int))])]))) ∧ HF (Value.agg (Array.mk (List.set (inV r) (c) (Vi (↑(List.length ks) : Int))))) ∧ HF (Value.agg (Array.mk (blV ac))) ∧ HF (Value.agg (Array.mk (roV rw))) ∧ again (Nd (Nd (Nd (Nd Lf (some (Value.map (some 3))) Lf) (some (Value.pointer (some ⟨0, 0, none⟩))) (Nd Lf (some (Vi x)) Lf)) none (Nd (Nd Lf (some (Value.pointer (some ⟨5, 0, none⟩))) Lf) none (Nd Lf (some (Value.slice (some ⟨6, 0, none⟩) 256 18446744073709551620)) Lf))) none (Nd (Nd (Nd Lf (some (Value.slice (some ⟨4, 0, none⟩) (List.length ks + 1) 18446744073709551621)) Lf) (some (Value.pointer (some ⟨1, 0, none⟩))) (Nd Lf (some (Vi y)) Lf)) (some (Vi kd)) (Nd (Nd Lf (some (Vi (i : Int))) Lf) (some (Value.pointer (some ⟨2, 0, none⟩))) (Nd Lf (some (Vi (IntKind.wrap .i64 ((c : Int) + 1)))) Lf)))) (AH.mk (Nd (Nd (Nd (Nd Lf (some (AObj.gro (blV ac) [] 4)) Lf) (some (AObj.map (msP (enP (mkM ks)) (Value.agg (Array.mk [Vi (intAt (rowAt (roV nx) (↑(Int.toNat x) : Int)) (c : Int)), Vi (intAt (rowAt (roV nx2) (↑(Int.toNat y) : Int)) (c : Int))])) (Vi (↑(List.length ks) : Int))) (mnP (enP (mkM ks)) (Value.agg (Array.mk [Vi (intAt (rowAt (roV nx) (↑(Int.toNat x) : Int)) (c : Int)), Vi (intAt (rowAt (roV nx2) (↑(Int.toNat y) : Int)) (c : Int))])) (Vi (↑(List.length ks) : Int))))) Lf) (some (AObj.cells [Vi s2, Vd 1 (blV acc2), Vd 1 (roV nx2)] 29)) (Nd Lf (some (AObj.cells [Vi 0, Value.slice (some ⟨7, 0, none⟩) (List.length ac) 18446744073709551620, Value.slice (some ⟨8, 0, none⟩) (List.length rw) 18446744073709551620] 29)) Lf)) (some (AObj.cells [Vi s, Vd 1 (blV acc), Vd 1 (roV nx)] 29)) (Nd (Nd (Nd Lf (some (AObj.gro (roV rw) [] 50)) Lf) (some (AObj.gro (prs ks ++ [Value.agg (Array.mk [Vi (intAt (rowAt (roV nx) (↑(Int.toNat x) : Int)) (c : Int)), Vi (intAt (rowAt (roV nx2) (↑(Int.toNat y) : Int)) (c : Int))])]) [] 125)) Lf) (some (AObj.cells [Vi 0, Value.slice none 0 0, Value.slice none 0 0] 29)) (Nd Lf (some (AObj.gro (List.set (inV r) (c) (Vi (↑(List.length ks) : Int))) [] 3)) Lf))) 9)) ((0 ≤ (c : Int) ∧ (c : Int) < 256) ∧ c < List.length (inV r) ∧ HF (Vd 1 (blV acc)) ∧ HF (Vd 1 (roV nx)) ∧ HF (Vd 1 (blV acc2)) ∧ HF (Vd 1 (roV nx2)) ∧ HF (Value.agg (Array.mk (mvl (enP (mkM ks))))) ∧ HF (Value.agg (Array.mk (prs ks))) ∧ HF (Value.agg (Array.mk (List.set (inV r) (c) (Vi (mgP (enP (mkM ks)) (Value.agg (Array.mk [Vi (intAt (rowAt (roV nx) (↑(Int.toNat x) : Int)) (c : Int)), Vi (intAt (rowAt (roV nx2) (↑(Int.toNat y) : Int)) (c : Int))]))))))) ∧ HF (Value.agg (Array.mk (blV ac))) ∧ HF (Value.agg (Array.mk (roV rw))) ∧ again (Nd (Nd (Nd (Nd Lf (some (Value.map (some 3))) Lf) (some (Value.pointer (some ⟨0, 0, none⟩))) (Nd Lf (some (Vi x)) Lf)) none (Nd (Nd Lf (some (Value.pointer (some ⟨5, 0, none⟩))) Lf) none (Nd Lf (some (Value.slice (some ⟨6, 0, none⟩) 256 18446744073709551620)) Lf))) none (Nd (Nd (Nd Lf (some (Value.slice (some ⟨4, 0, none⟩) (List.length ks) 18446744073709551621)) Lf) (some (Value.pointer (some ⟨1, 0, none⟩))) (Nd Lf (some (Vi y)) Lf)) (some (Vi kd)) (Nd (Nd Lf (some (Vi (i : Int))) Lf) (some (Value.pointer (some ⟨2, 0, none⟩))) (Nd Lf (some (Vi (IntKind.wrap .i64 ((c : Int) + 1)))) Lf)))) (AH.mk (Nd (Nd (Nd (Nd Lf (some (AObj.gro (blV ac) [] 4)) Lf) (some (AObj.map (enP (mkM ks)) (List.length ks))) Lf) (some (AObj.cells [Vi s2, Vd 1 (blV acc2), Vd 1 (roV nx2)] 29)) (Nd Lf (some (AObj.cells [Vi 0, Value.slice (some ⟨7, 0, none⟩) (List.length ac) 18446744073709551620, Value.slice (some ⟨8, 0, none⟩) (List.length rw) 18446744073709551620] 29)) Lf)) (some (AObj.cells [Vi s, Vd 1 (blV acc), Vd 1 (roV nx)] 29)) (Nd (Nd (Nd Lf (some (AObj.gro (roV rw) [] 50)) Lf) (some (AObj.gro (prs ks) [] 125)) Lf) (some (AObj.cells [Vi 0, Value.slice none 0 0, Value.slice none 0 0] 29)) (Nd Lf (some (AObj.gro (List.set (inV r) (c) (Vi (mgP (enP (mkM ks)) (Value.agg (Array.mk [Vi (intAt (rowAt (roV nx) (↑(Int.toNat x) : Int)) (c : Int)), Vi (intAt (rowAt (roV nx2) (↑(Int.toNat y) : Int)) (c : Int))]))))) [] 3)) Lf))) 9))) ((List.all [Value.slice (some ⟨6, 0, none⟩) 256 18446744073709551620] cellv = true ∧ List.length rw + 0 = List.length (roV rw) ∧ List.length rw + (1 : Nat) ≤ (70368744177664 : Nat) ∧ (List.length rw + 1) * (24 : Nat) ≤ (140737488355328 : Nat)) ∧ (0 ≤ x ∧ x < (↑(List.length (blV acc)) : Int)) ∧ nth (blV acc) (Int.toNat (↑(Int.toNat x) : Int)) = some (Value.bool (boolAt (blV acc) (↑(Int.toNat x) : Int))) ∧ (0 ≤ y ∧ y < (↑(List.length (blV acc2)) : Int)) ∧ nth (blV acc2) (Int.toNat (↑(Int.toNat y) : Int)) = some (Value.bool (boolAt (blV acc2) (↑(Int.toNat y) : Int))) ∧ Value.slice (some ⟨7, 0, none⟩) (List.length ac) 18446744073709551620 = Value.slice (some ⟨7, 0, none⟩) (List.length ac) 18446744073709551620 ∧ (List.all [Value.bool (cmbI kd (boolAt (blV acc) (↑(Int.toNat x) : Int)) (boolAt (blV acc2) (↑(Int.toNat y) : Int)))] cellv = true ∧ List.length ac + 0 = List.length (blV ac) ∧ List.length ac + (1 : Nat) ≤ (70368744177664 : Nat) ∧ (List.length ac + 1) * (1 : Nat) ≤ (140737488355328 : Nat)) ∧ List.length (inV r) = 256 ∧ HF (Vd 1 (blV acc)) ∧ HF (Vd 1 (roV nx)) ∧ HF (Vd 1 (blV acc2)) ∧ HF (Vd 1 (roV nx2)) ∧ HF (Value.agg (Array.mk (mvl (enP (mkM ks))))) ∧ HF (Value.agg (Array.mk (prs ks))) ∧ HF (Value.agg (Array.mk (blV ac ++ [Value.bool (cmbI kd (boolAt (blV acc) (↑(Int.toNat x) : Int)) (boolAt (blV acc2) (↑(Int.toNat y) : Int)))]))) ∧ HF (Value.agg (Array.mk (roV rw ++ [Vd 1 (inV r)]))) ∧ again2 (Nd (Nd (Nd (Nd Lf (some (Value.map (some 3))) Lf) (some (Value.pointer (some ⟨0, 0, none⟩))) Lf) none (Nd (Nd Lf (some (Value.pointer (some ⟨5, 0, none⟩))) Lf) none Lf)) none (Nd (Nd (Nd Lf (some (Value.slice (some ⟨4, 0, none⟩) (List.length ks) 18446744073709551621)) Lf) (some (Value.pointer (some ⟨1, 0, none⟩))) Lf) (some (Vi kd)) (Nd (Nd Lf (some (Vi (IntKind.wrap .i64 ((i : Int) + 1)))) Lf) (some (Value.pointer (some ⟨2, 0, none⟩))) Lf))) (AH.mk (Nd (Nd (Nd (Nd Lf (some (AObj.gro (roV rw ++ [Vd 1 (inV r)]) [] 50)) Lf) (some (AObj.map (enP (mkM ks)) (List.length ks))) Lf) (some (AObj.cells [Vi s2, Vd 1 (blV acc2), Vd 1 (roV nx2)] 29)) (Nd Lf (some (AObj.cells [Vi 0, Value.slice (some ⟨6, 0, none⟩) (List.length ac + 1) 18446744073709551620, Value.slice (some ⟨7, 0, none⟩) (List.length rw + 1) 18446744073709551620] 29)) Lf)) (some (AObj.cells [Vi s, Vd 1 (blV acc), Vd 1 (roV nx)] 29)) (Nd (Nd Lf (some (AObj.gro (prs ks) [] 125)) Lf) (some (AObj.cells [Vi 0, Value.slice none 0 0, Value.slice none 0 0] 29)) (Nd Lf (some (AObj.gro (blV ac ++ [Value.bool (cmbI kd (boolAt (blV acc) (↑(Int.toNat x) : Int)) (boolAt (blV acc2) (↑(Int.toNat y) : Int)))]) [] 4)) Lf))) 8))) := by kernel_rfl
theorem frzF {X : SX} (hX : X.Ok) {d : Nat} {fn : Func} {args : List Value} {v : Value} (h : sxFnF X d fn args ⟨.leaf, 0⟩ (fun v2 A2 => Frz A2 v2 v)) : Walk X.E fn args v := by
 unfold sxFnF at h
 split at h
 · rename_i c hc
   split at h
   · rename_i F hF
     cases hb : Nat.ble args.length fn.ntmps with
     | false => rw [hb] at h; exact h.elim
     | true =>
       rw [hb] at h
       refine ⟨c, F, hc, hb, hF, (sx_ok hX (d := d) h).mono fun ex F' A' q => ?_⟩
       obtain ⟨q1, v2, q2, q3⟩ := finK_ok q
       exact ⟨q1, v2, q2, q3⟩
   · exact h.elim
 · exact h.elim
theorem cellsL_one : ∀ {l : List Value}, (∀ x ∈ l, x.cells.toList = [x]) → cellsL l = l
 | [], _ => rfl
 | x :: l, h => by rw [cellsL_cons, h x (by simp), cellsL_one fun y hy => h y (by simp [hy])]; rfl
theorem frz_gro {A : AH} {B n : Nat} {els : List Value} {e : TypeId} (hg : A.t.get B = some (.gro els [] e)) (hn : n = els.length) (h1 : ∀ x ∈ els, x.cells.toList = [x]) (hf : ∀ x ∈ els, HF x) : Frz A (.slice (some ⟨B, 0, none⟩) n (unk + 3 + 1)) (.func (.yield 1) ⟨els⟩ ⟨[]⟩) := by
 have hs : ∀ x ∈ els, x.cells.size = 1 := fun x hx => by have := congrArg List.length (h1 x hx); simpa using this
 refine Frz.gsl (lo := 0) (sz := 1) (els0 := els) (c2 := els) hg (List.append_nil _) rfl rfl (by omega) (by omega) hs (by omega) ?_ (cellsL_one h1) hs (by omega)
 rw [List.drop_zero, hn, List.take_length, cellsL_one h1]
 exact FrzL.same hf
theorem one_bl (l : List Bool) : ∀ x ∈ blV l, x.cells.toList = [x] := fun x hx => by obtain ⟨b, _, rfl⟩ := List.mem_map.1 hx; rfl
theorem one_ro (l : List (List Int)) : ∀ x ∈ roV l, x.cells.toList = [x] := fun x hx => by obtain ⟨b, _, rfl⟩ := List.mem_map.1 hx; rfl
theorem stp_at {a : AU} (h : OkA a) {q : Int} (hq : inA a q) {c : Nat} (hc : c < 256) :
 (0 ≤ q ∧ q < ((roV a.2.2).length : Int)) ∧ nth (roV a.2.2) q.toNat = some (dat 1 (rowAt (roV a.2.2) q)) ∧ ((rowAt (roV a.2.2) q).length = 256) ∧ nth (rowAt (roV a.2.2) q) c = some (.int .i64 (stp a.2.2 q c)) ∧ intAt (rowAt (roV a.2.2) q) (c : Int) = stp a.2.2 q c := by
 obtain ⟨g1, g2, g3, g4, g5⟩ := stp_row h hq.1 hq.2 hc
 rw [g5] at g4
 exact ⟨g1, g2, g3, g4, g5⟩
theorem pr_inner (K : KV) (again2 : KF) (F : List Nat) (hFl : F.length = 256) (hFc : ∀ c (h : c < F.length), F[c] = c) {a b : AU} (ok : OkA a) (ok2 : OkA b) (kd : Int) (ks0 : List PR) (nd : ks0.Nodup) (inp : ∀ k ∈ ks0, inP2 a b k) (k : PR) (hk : inP2 a b k) (ac : List Bool) (rw0 : List (List Int)) (hac : ac.length ≤ 90000) (hrw : rw0.length ≤ 90000) (i : Nat) (hi : i ≤ 90000)
 (hag : again2 (frPrL kd (addS ks0 (scF F (stP a b) k)).length (i + 1)) (hPrL (addS ks0 (scF F (stP a b) k)) (ac ++ [cmbI kd (accA a k.1) (accA b k.2)]) (rw0 ++ [nums (addS ks0 (scF F (stP a b) k)) (scF F (stP a b) k)]) a.1 a.2.1 a.2.2 b.1 b.2.1 b.2.2)) :
 LAtZ XPr 1 (Func.ntmps Proofs.Tryd.f38) ⟨.leaf, 0⟩ (loopBody (subC [1, 1, 1, 1, 0, 1, 0] (bodyOf Proofs.Tryd.f38))) [1, 0, 0, 1, 1, 0, 1, 0] (kPr2 K again2) (frPrI kd ks0.length i k.1 k.2 0) (hPrI ks0 ac rw0 (rowC ks0 [] 256 0) a.1 a.2.1 a.2.2 b.1 b.2.1 b.2.2) := by
 have hF : ∀ c ∈ F, c < 256 := fun c hc => by
  obtain ⟨j, hj, e⟩ := List.mem_iff_getElem.1 hc
  have := hFc j hj
  omega
 refine LAtZ.stepF XPr_ok [] [] [] [2, 3, 4, 6, 7, 8, 9, 10, 11, 12, 13, 14] (by kernel_rfl) (fun m G A => ∃ c : Nat, G = frPrI kd (addS ks0 ((F.take c).map (stP a b k))).length i k.1 k.2 c ∧ A = hPrI (addS ks0 ((F.take c).map (stP a b k))) ac rw0 (rowC (addS ks0 ((F.take c).map (stP a b k))) ((F.take c).map (stP a b k)) 256 c) a.1 a.2.1 a.2.2 b.1 b.2.1 b.2.2 ∧ c + m = 256) ?_ (k := 256) ⟨0, rfl, rfl, by omega⟩
 rintro m G A ⟨c, rfl, rfl, hcm⟩
 generalize hl : (F.take c).map (stP a b k) = l
 generalize hks : addS ks0 l = ks
 have hll : l.length = c := by rw [← hl, List.length_map, List.length_take]; omega
 have hlm : ∀ x ∈ l, x ∈ ks := fun x hx => by rw [← hks]; exact addS_new hx
 have hnd : ks.Nodup := by rw [← hks]; exact addS_nodup nd
 have hinp : ∀ x ∈ ks, inP2 a b x := fun x hx => by
  rw [← hks] at hx
  rcases addS_mem hx with q | q
  · exact inp x q
  · rw [← hl] at q
    obtain ⟨b', hb, rfl⟩ := List.mem_map.1 q
    exact inP_step ok ok2 hF k hk _ (List.mem_map.2 ⟨b', List.mem_of_mem_take hb, rfl⟩)
 have hkl : ks.length ≤ 90000 := inP_le ok ok2 ks hnd hinp
 have hrl := rowC_len (ks := ks) (n := 256) hll (by omega)
 have hx0 := hk.1.1
 have hy0 := hk.2.1
 refine (jPrI_nf _ _ _ kd ks ac rw0 (rowC ks l 256 c) a.1 a.2.1 a.2.2 b.1 b.2.1 b.2.2 i k.1 k.2 c).mpr ?_
 rw [show (↑(Int.toNat k.1) : Int) = k.1 by omega, show (↑(Int.toNat k.2) : Int) = k.2 by omega]
 refine Sp.intro (fun q => ?_) (fun q => ?_)
 · have q := of_decide_eq_true q
   have hc : c < 256 := by omega
   have hcF : c < F.length := by omega
   have hsn := addS_snoc (stP a b k c) l ks0
   rw [hks] at hsn
   have hlc : (F.take (c + 1)).map (stP a b k) = l ++ [stP a b k c] := by rw [take_map_snoc hcF, hl, hFc c hcF]
   obtain ⟨a1, a2, a3, a4, a5⟩ := stp_at ok hk.1 hc
   obtain ⟨b1, b2, b3, b4, b5⟩ := stp_at ok2 hk.2 hc
   rw [a5, b5, a3, b3]
   have es : Value.agg (Array.mk [Vi (stp a.2.2 k.1 c), Vi (stp b.2.2 k.2 c)]) = prV (stP a b k c) := rfl
   rw [es, mhP_e]
   refine ⟨a1, a2, ⟨by omega, by omega⟩, a4, b1, b2, ⟨by omega, by omega⟩, b4, (lookP _ _).trans (by rw [mhP_e]), Sp.intro (fun g => ?_) (fun g => ?_)⟩
   · have g : ¬ stP a b k c ∈ ks := by simpa using g
     rw [if_neg g] at hsn
     have ep : [prV (stP a b k c)] = prs [stP a b k c] := rfl
     rw [msP_e _ _ g, mnP_e _ _ g, ep, prs_app, inV_set, rowC_new hll hc hlm g, i64_in (x := (c : Int) + 1) (by omega) (by omega)]
     refine ⟨updP_e _ _ g, ⟨rfl, by rw [prs_len]; omega, by omega, by omega⟩, ⟨by omega, by omega⟩, by rw [inV_len, hrl]; omega, .dat (HF_bl _), .dat (HF_ro _), .dat (HF_bl _), .dat (HF_ro _), HF_enP _, HF_prs _, HF_inA _, HF_blA _, HF_roA _, m - 1, by omega, c + 1, ?_, ?_, by omega⟩
     · rw [hlc, hsn, List.length_append]; rfl
     · rw [hlc, hsn]; rfl
   · have g : stP a b k c ∈ ks := by simpa using g
     rw [if_pos g] at hsn
     rw [mgP_e _ _ g, inV_set, rowC_old hll hc, i64_in (x := (c : Int) + 1) (by omega) (by omega)]
     refine ⟨⟨by omega, by omega⟩, by rw [inV_len, hrl]; omega, .dat (HF_bl _), .dat (HF_ro _), .dat (HF_bl _), .dat (HF_ro _), HF_enP _, HF_prs _, HF_inA _, HF_blA _, HF_roA _, m - 1, by omega, c + 1, ?_, ?_, by omega⟩
     · rw [hlc, hsn]; rfl
     · rw [hlc, hsn]; rfl
 · have q := of_decide_eq_false q
   obtain rfl : c = 256 := by omega
   rw [← hFl, List.take_length] at hl
   have hle : l = scF F (stP a b) k := hl.symm
   rw [← hle, hks] at hag
   obtain ⟨a1, a2, a3⟩ := acc_at ok hk.1
   obtain ⟨b1, b2, b3⟩ := acc_at ok2 hk.2
   rw [a3] at a2
   rw [b3] at b2
   rw [rowC_end, a3, b3, blV_app, i64_in (x := (i : Int) + 1) (by omega) (by omega)]
   have hn1 := nums_len ks l
   have er : roV rw0 ++ [Vd 1 (inV (nums ks l))] = roV (rw0 ++ [nums ks l]) := roV_app _ _
   rw [er]
   refine ⟨⟨rfl, by rw [roV_len]; omega, by omega, by omega⟩, a1, a2, b1, b2, rfl, ⟨rfl, by rw [blV_len]; omega, by omega, by omega⟩, by rw [inV_len]; omega, .dat (HF_bl _), .dat (HF_ro _), .dat (HF_bl _), .dat (HF_ro _), HF_enP _, HF_prs _, HF_blA _, HF_roA _, ?_⟩
   have e1 : (ac ++ [cmbI kd (accA a k.1) (accA b k.2)]).length = ac.length + 1 := by rw [List.length_append]; rfl
   have e2 : (rw0 ++ [nums ks l]).length = rw0.length + 1 := by rw [List.length_append]; rfl
   unfold hPrL at hag
   rw [e1, e2] at hag
   exact hag
def acR (kd : Int) (a b : AU) (k : PR) : Bool := cmbI kd (accA a k.1) (accA b k.2)
def prA (F : List Nat) (kd : Int) (a b : AU) : AU := (0, (reP F a b).map (acR kd a b), rowsT (scF F (stP a b)) (reP F a b) (reP F a b).length)
theorem pr_walk (F : List Nat) (hFl : F.length = 256) (hFc : ∀ c (h : c < F.length), F[c] = c) {a b : AU} (ok : OkA a) (ok2 : OkA b) (kd : Int) : Walk env Proofs.Tryd.f38 [auV a, auV b, .int .i64 kd] (auV (prA F kd a b)) := by
 have hF : ∀ c ∈ F, c < 256 := fun c hc => by
  obtain ⟨j, hj, e⟩ := List.mem_iff_getElem.1 hc
  have := hFc j hj
  omega
 refine frzF XPr_ok (d := 1) ((jPr_nf _ kd a.1 a.2.1 a.2.2 b.1 b.2.1 b.2.2).mpr ⟨?_, .dat (HF_bl _), .dat (HF_ro _), .dat (HF_bl _), .dat (HF_ro _), HF_inA [0], HF_prs [(a.1, b.1)], HF_blA [], HF_roA [], ?_⟩)
 · have := updP ([] : List (PR × Int)) (a.1, b.1) 0
   exact this
 refine LAtZ.stepF XPr_ok nsPr [.cell 9 2] [] [2, 3, 4, 6, 7, 8, 9, 10] (by kernel_rfl) (fun m G A => ∃ (i : Nat) (ks : List PR), G = frPrL kd ks.length i ∧ A = hPrL ks ((ks.take i).map (acR kd a b)) (rowsT (scF F (stP a b)) ks i) a.1 a.2.1 a.2.2 b.1 b.2.1 b.2.2 ∧ EI (scF F (stP a b)) (inP2 a b) 90001 (a.1, b.1) ks i ∧ i + m = 90001) ?_ (k := 90001) ⟨0, [(a.1, b.1)], rfl, rfl, EI.init ⟨ok.st, ok2.st⟩, by omega⟩
 rintro m G A ⟨i, ks, rfl, rfl, hE, him⟩
 have hkl : ks.length ≤ 90000 := inP_le ok ok2 ks hE.nd hE.inp
 have hil := hE.le
 refine (jPrL_nf _ _ kd ks _ _ a.1 a.2.1 a.2.2 b.1 b.2.1 b.2.2 i).mpr (Sp.intro (fun q => ?_) (fun q => ?_))
 · have q := of_decide_eq_true q
   have hi : i < ks.length := by omega
   have hk := hE.inp _ (List.getElem_mem hi)
   have hgi : ks[i]? = some ks[i] := List.getElem?_eq_getElem hi
   obtain ⟨hE2, hrow⟩ := hE.step (inP_step ok ok2 hF) hgi (by omega)
   have hl1 : ((ks.take i).map (acR kd a b)).length = i := by rw [List.length_map, List.length_take]; omega
   have hl2 : (rowsT (scF F (stP a b)) ks i).length = i := by unfold rowsT; rw [List.length_map, List.length_take]; omega
   rw [Int.toNat_natCast, prAt_prs hi, show z256 = rowC ks [] 256 0 from rfl]
   refine ⟨⟨by omega, q⟩, nth_prs hi, ⟨by omega, q⟩, nth_prs hi, ⟨by omega, by omega, by omega, by omega⟩, .dat (HF_bl _), .dat (HF_ro _), .dat (HF_bl _), .dat (HF_ro _), HF_enP _, HF_prs _, HF_inA _, HF_blA _, HF_roA _, ?_⟩
   refine pr_inner _ _ F hFl hFc ok ok2 kd ks hE.nd hE.inp ks[i] hk _ _ (by rw [hl1]; omega) (by rw [hl2]; omega) i (by omega) ?_
   refine ⟨m - 1, by omega, i + 1, addS ks (scF F (stP a b) ks[i]), rfl, ?_, hE2, by omega⟩
   rw [hrow]
   obtain ⟨r, hr⟩ := addS_pre (scF F (stP a b) ks[i]) ks
   have e2 : ((addS ks (scF F (stP a b) ks[i])).take (i + 1)).map (acR kd a b) = (ks.take i).map (acR kd a b) ++ [acR kd a b ks[i]] := by
    rw [hr, List.take_append_of_le_length (by omega), List.take_succ_eq_append_getElem hi, List.map_append]; rfl
   rw [e2]; rfl
 · have q := of_decide_eq_false q
   obtain ⟨e1, e2⟩ := hE.done (by omega) (by omega)
   subst e1
   have e3 : prA F kd a b = (0, (ks.take ks.length).map (acR kd a b), rowsT (scF F (stP a b)) ks ks.length) := by
    unfold prA
    rw [List.take_length]
    unfold reP
    rw [← e2]
   rw [e3]
   refine .agg (.cons (.same (HFi _ _)) (.cons (frz_gro rfl (by rw [blV_len]) (one_bl _) (HF_bl _)) (.cons (frz_gro rfl (by rw [roV_len]) (one_ro _) (HF_ro _)) .nil)))
theorem ga_prA (F : List Nat) (hFl : F.length = 256) (hFc : ∀ c (h : c < F.length), F[c] = c) {a b : AU} (ok : OkA a) (ok2 : OkA b) (kd : Int) : GA (prA F kd a b) := by
 have hF : ∀ c ∈ F, c < 256 := fun c hc => by
  obtain ⟨j, hj, e⟩ := List.mem_iff_getElem.1 hc
  have := hFc j hj
  omega
 have e := ei_P ok ok2 hF
 have d := dw_ei (acR kd a b) e (inP_le ok ok2 _ e.nd e.inp) hF (by omega)
 have n0 := d.n0
 exact ⟨d.n0, d.n1, d.acl, fun r hr => by rw [d.row r hr, hFl], ⟨Int.le_refl 0, by show (0 : Int) < _; unfold prA; dsimp only; omega⟩, d.ent⟩
def prX (Pr : Int → AU → AU → AU) : List Value → Option Value
 | [u, v, .int .i64 kd] => (match auQ u, auQ v with | some a, some b => some (auV (Pr kd a b)) | _, _ => none)
 | _ => none
def prP : List Value → Option Prop
 | [u, v, .int .i64 kd] => (match auQ u, auQ v with | some a, some b => some (u = auV a ∧ OkA a ∧ v = auV b ∧ OkA b) | _, _ => none)
 | _ => none
def rsX (W : AU → Option LB) : List Value → Option Value
 | [u] => (match auQ u with | some a => some (shV (W a)) | none => none)
 | _ => none
def rsP : List Value → Option Prop
 | [u] => (match auQ u with | some a => some (u = auV a ∧ GA a) | none => none)
 | _ => none
def XRcG (Pr : Int → AU → AU → AU) (W : AU → Option LB) : SX := ⟨env, [(39, pureR caP caX), (38, pureR prP (prX Pr)), (37, pureR rsP (rsX W))], noEl, fun _ => .unroll 0⟩
def jRc (K : KV) (Pr : Int → AU → AU → AU) (W : AU → Option LB) (s : Int) (acc : List Bool) (nx : List (List Int)) (s2 : Int) (acc2 : List Bool) (nx2 : List (List Int)) : Prop := sxFnF (XRcG Pr W) 2 Proofs.Tryd.f12 [.agg ⟨[.int .i64 s, dat 1 (blV acc), dat 1 (roV nx)]⟩, .agg ⟨[.int .i64 s2, dat 1 (blV acc2), dat 1 (roV nx2)]⟩] ⟨.leaf, 0⟩ K
def jRe (K : KV) (Pr : Int → AU → AU → AU) (W : AU → Option LB) (s : Int) (acc : List Bool) (nx : List (List Int)) : Prop := sxFnF (XRcG Pr W) 2 Proofs.Tryd.f15 [.agg ⟨[.int .i64 s, dat 1 (blV acc), dat 1 (roV nx)]⟩] ⟨.leaf, 0⟩ K
theorem jRc_nf (K : KV) (Pr : Int → AU → AU → AU) (W : AU → Option LB) (s : Int) (acc : List Bool) (nx : List (List Int)) (s2 : Int) (acc2 : List Bool) (nx2 : List (List Int)) : jRc K Pr W s acc nx s2 acc2 nx2 = (WfV (Value.agg (Array.mk [Vi s, Vd 1 (blV acc), Vd 1 (roV nx)])) ∧ Sp (!decide (chkA (s, List.map deB (blV acc), List.map deR (roV nx)) = 0)) (Sp (!decide (chkA (s, List.map deB (blV acc), List.map deR (roV nx)) = 0)) (K (Value.tuple (Array.mk [Vs (ByteArray.mk ⟨[]⟩), Value.bool false, Vi (chkA (s, List.map deB (blV acc), List.map deR (roV nx)))])) (AH.mk (Nd (Nd (Nd Lf (some (AObj.cells [Vi s2, Vd 1 (blV acc2), Vd 1 (roV nx2)] 29)) Lf) (some (AObj.cells [Vi s2, Vd 1 (blV acc2), Vd 1 (roV nx2)] 29)) Lf) (some (AObj.cells [Vi s, Vd 1 (blV acc), Vd 1 (roV nx)] 29)) (Nd Lf (some (AObj.cells [Vi s, Vd 1 (blV acc), Vd 1 (roV nx)] 29)) Lf)) 4)) ((Value.agg (Array.mk [Vi s2, Vd 1 (blV acc2), Vd 1 (roV nx2)]) = Value.agg (Array.mk [Vi s2, Vd 1 (blV (List.map deB (blV acc2))), Vd 1 (roV (List.map deR (roV nx2)))]) ∧ OkA (s2, List.map deB (blV acc2), List.map deR (roV nx2)) ∧ Value.agg (Array.mk [Vi s, Vd 1 (blV acc), Vd 1 (roV nx)]) = Value.agg (Array.mk [Vi s, Vd 1 (blV (List.map deB (blV acc))), Vd 1 (roV (List.map deR (roV nx)))]) ∧ OkA (s, List.map deB (blV acc), List.map deR (roV nx))) ∧ (Value.agg (Array.mk [Vi (Prod.fst (Pr 3 (s2, List.map deB (blV acc2), List.map deR (roV nx2)) (s, List.map deB (blV acc), List.map deR (roV nx)))), Vd 1 (blV (Prod.fst (Prod.snd (Pr 3 (s2, List.map deB (blV acc2), List.map deR (roV nx2)) (s, List.map deB (blV acc), List.map deR (roV nx)))))), Vd 1 (roV (Prod.snd (Prod.snd (Pr 3 (s2, List.map deB (blV acc2), List.map deR (roV nx2)) (s, List.map deB (blV acc), List.map deR (roV nx))))))]) = Value.agg (Array.mk [Vi (Prod.fst (Pr 3 (s2, List.map deB (blV acc2), List.map deR (roV nx2)) (s, List.map deB (blV acc), List.map deR (roV nx)))), Vd 1 (blV (List.map deB (blV (Prod.fst (Prod.snd (Pr 3 (s2, List.map deB (blV acc2), List.map deR (roV nx2)) (s, List.map deB (blV acc), List.map deR (roV nx)))))))), Vd 1 (roV (List.map deR (roV (Prod.snd (Prod.snd (Pr 3 (s2, List.map deB (blV acc2), List.map deR (roV nx2)) (s, List.map deB (blV acc), List.map deR (roV nx))))))))]) ∧ GA (Prod.fst (Pr 3 (s2, List.map deB (blV acc2), List.map deR (roV nx2)) (s, List.map deB (blV acc), List.map deR (roV nx))), List.map deB (blV (Prod.fst (Prod.snd (Pr 3 (s2, List.map deB (blV acc2), List.map deR (roV nx2)) (s, List.map deB (blV acc), List.map deR (roV nx)))))), List.map deR (roV (Prod.snd (Prod.snd (Pr 3 (s2, List.map deB (blV acc2), List.map deR (roV nx2)) (s, List.map deB (blV acc), List.map deR (roV nx)))))))) ∧ Sp (Option.isSome (W (Prod.fst (Pr 3 (s2, List.map deB (blV acc2), List.map deR (roV nx2)) (s, List.map deB (blV acc), List.map deR (roV nx))), List.map deB (blV (Prod.fst (Prod.snd (Pr 3 (s2, List.map deB (blV acc2), List.map deR (roV nx2)) (s, List.map deB (blV acc), List.map deR (roV nx)))))), List.map deR (roV (Prod.snd (Prod.snd (Pr 3 (s2, List.map deB (blV acc2), List.map deR (roV nx2)) (s, List.map deB (blV acc), List.map deR (roV nx))))))))) (K (Value.tuple (Array.mk [Vs (ByteArray.mk (Array.mk (Option.getD (W (Prod.fst (Pr 3 (s2, List.map deB (blV acc2), List.map deR (roV nx2)) (s, List.map deB (blV acc), List.map deR (roV nx))), List.map deB (blV (Prod.fst (Prod.snd (Pr 3 (s2, List.map deB (blV acc2), List.map deR (roV nx2)) (s, List.map deB (blV acc), List.map deR (roV nx)))))), List.map deR (roV (Prod.snd (Prod.snd (Pr 3 (s2, List.map deB (blV acc2), List.map deR (roV nx2)) (s, List.map deB (blV acc), List.map deR (roV nx)))))))) []))), Value.bool false, Vi 0])) (AH.mk (Nd (Nd (Nd Lf (some (AObj.cells [Vi s2, Vd 1 (blV acc2), Vd 1 (roV nx2)] 29)) Lf) (some (AObj.cells [Vi s2, Vd 1 (blV acc2), Vd 1 (roV nx2)] 29)) Lf) (some (AObj.cells [Vi s, Vd 1 (blV acc), Vd 1 (roV nx)] 29)) (Nd Lf (some (AObj.cells [Vi s, Vd 1 (blV acc), Vd 1 (roV nx)] 29)) Lf)) 4)) (K (Value.tuple (Array.mk [Vs (ByteArray.mk ⟨[]⟩), Value.bool true, Vi 0])) (AH.mk (Nd (Nd (Nd Lf (some (AObj.cells [Vi s2, Vd 1 (blV acc2), Vd 1 (roV nx2)] 29)) Lf) (some (AObj.cells [Vi s2, Vd 1 (blV acc2), Vd 1 (roV nx2)] 29)) Lf) (some (AObj.cells [Vi s, Vd 1 (blV acc), Vd 1 (roV nx)] 29)) (Nd Lf (some (AObj.cells [Vi s, Vd 1 (blV acc), Vd 1 (roV nx)] 29)) Lf)) 4)))) (WfV (Value.agg (Array.mk [Vi s2, Vd 1 (blV acc2), Vd 1 (roV nx2)])) ∧ Sp (!decide (chkA (s2, List.map deB (blV acc2), List.map deR (roV nx2)) = 0)) (K (Value.tuple (Array.mk [Vs (ByteArray.mk ⟨[]⟩), Value.bool false, Vi (chkA (s2, List.map deB (blV acc2), List.map deR (roV nx2)))])) (AH.mk (Nd (Nd (Nd Lf (some (AObj.cells [Vi s2, Vd 1 (blV acc2), Vd 1 (roV nx2)] 29)) Lf) (some (AObj.cells [Vi s2, Vd 1 (blV acc2), Vd 1 (roV nx2)] 29)) Lf) (some (AObj.cells [Vi s, Vd 1 (blV acc), Vd 1 (roV nx)] 29)) (Nd Lf (some (AObj.cells [Vi s, Vd 1 (blV acc), Vd 1 (roV nx)] 29)) Lf)) 4)) ((Value.agg (Array.mk [Vi s2, Vd 1 (blV acc2), Vd 1 (roV nx2)]) = Value.agg (Array.mk [Vi s2, Vd 1 (blV (List.map deB (blV acc2))), Vd 1 (roV (List.map deR (roV nx2)))]) ∧ OkA (s2, List.map deB (blV acc2), List.map deR (roV nx2)) ∧ Value.agg (Array.mk [Vi s, Vd 1 (blV acc), Vd 1 (roV nx)]) = Value.agg (Array.mk [Vi s, Vd 1 (blV (List.map deB (blV acc))), Vd 1 (roV (List.map deR (roV nx)))]) ∧ OkA (s, List.map deB (blV acc), List.map deR (roV nx))) ∧ (Value.agg (Array.mk [Vi (Prod.fst (Pr 3 (s2, List.map deB (blV acc2), List.map deR (roV nx2)) (s, List.map deB (blV acc), List.map deR (roV nx)))), Vd 1 (blV (Prod.fst (Prod.snd (Pr 3 (s2, List.map deB (blV acc2), List.map deR (roV nx2)) (s, List.map deB (blV acc), List.map deR (roV nx)))))), Vd 1 (roV (Prod.snd (Prod.snd (Pr 3 (s2, List.map deB (blV acc2), List.map deR (roV nx2)) (s, List.map deB (blV acc), List.map deR (roV nx))))))]) = Value.agg (Array.mk [Vi (Prod.fst (Pr 3 (s2, List.map deB (blV acc2), List.map deR (roV nx2)) (s, List.map deB (blV acc), List.map deR (roV nx)))), Vd 1 (blV (List.map deB (blV (Prod.fst (Prod.snd (Pr 3 (s2, List.map deB (blV acc2), List.map deR (roV nx2)) (s, List.map deB (blV acc), List.map deR (roV nx)))))))), Vd 1 (roV (List.map deR (roV (Prod.snd (Prod.snd (Pr 3 (s2, List.map deB (blV acc2), List.map deR (roV nx2)) (s, List.map deB (blV acc), List.map deR (roV nx))))))))]) ∧ GA (Prod.fst (Pr 3 (s2, List.map deB (blV acc2), List.map deR (roV nx2)) (s, List.map deB (blV acc), List.map deR (roV nx))), List.map deB (blV (Prod.fst (Prod.snd (Pr 3 (s2, List.map deB (blV acc2), List.map deR (roV nx2)) (s, List.map deB (blV acc), List.map deR (roV nx)))))), List.map deR (roV (Prod.snd (Prod.snd (Pr 3 (s2, List.map deB (blV acc2), List.map deR (roV nx2)) (s, List.map deB (blV acc), List.map deR (roV nx)))))))) ∧ Sp (Option.isSome (W (Prod.fst (Pr 3 (s2, List.map deB (blV acc2), List.map deR (roV nx2)) (s, List.map deB (blV acc), List.map deR (roV nx))), List.map deB (blV (Prod.fst (Prod.snd (Pr 3 (s2, List.map deB (blV acc2), List.map deR (roV nx2)) (s, List.map deB (blV acc), List.map deR (roV nx)))))), List.map deR (roV (Prod.snd (Prod.snd (Pr 3 (s2, List.map deB (blV acc2), List.map deR (roV nx2)) (s, List.map deB (blV acc), List.map deR (roV nx))))))))) (K (Value.tuple (Array.mk [Vs (ByteArray.mk (Array.mk (Option.getD (W (Prod.fst (Pr 3 (s2, List.map deB (blV acc2), List.map deR (roV nx2)) (s, List.map deB (blV acc), List.map deR (roV nx))), List.map deB (blV (Prod.fst (Prod.snd (Pr 3 (s2, List.map deB (blV acc2), List.map deR (roV nx2)) (s, List.map deB (blV acc), List.map deR (roV nx)))))), List.map deR (roV (Prod.snd (Prod.snd (Pr 3 (s2, List.map deB (blV acc2), List.map deR (roV nx2)) (s, List.map deB (blV acc), List.map deR (roV nx)))))))) []))), Value.bool false, Vi 0])) (AH.mk (Nd (Nd (Nd Lf (some (AObj.cells [Vi s2, Vd 1 (blV acc2), Vd 1 (roV nx2)] 29)) Lf) (some (AObj.cells [Vi s2, Vd 1 (blV acc2), Vd 1 (roV nx2)] 29)) Lf) (some (AObj.cells [Vi s, Vd 1 (blV acc), Vd 1 (roV nx)] 29)) (Nd Lf (some (AObj.cells [Vi s, Vd 1 (blV acc), Vd 1 (roV nx)] 29)) Lf)) 4)) (K (Value.tuple (Array.mk [Vs (ByteArray.mk ⟨[]⟩), Value.bool true, Vi 0])) (AH.mk (Nd (Nd (Nd Lf (some (AObj.cells [Vi s2, Vd 1 (blV acc2), Vd 1 (roV nx2)] 29)) Lf) (some (AObj.cells [Vi s2, Vd 1 (blV acc2), Vd 1 (roV nx2)] 29)) Lf) (some (AObj.cells [Vi s, Vd 1 (blV acc), Vd 1 (roV nx)] 29)) (Nd Lf (some (AObj.cells [Vi s, Vd 1 (blV acc), Vd 1 (roV nx)] 29)) Lf)) 4))))) := by kernel_rfl
theorem jRe_nf (K : KV) (Pr : Int → AU → AU → AU) (W : AU → Option LB) (s : Int) (acc : List Bool) (nx : List (List Int)) : jRe K Pr W s acc nx = (WfV (Value.agg (Array.mk [Vi s, Vd 1 (blV acc), Vd 1 (roV nx)])) ∧ Sp (!decide (chkA (s, List.map deB (blV acc), List.map deR (roV nx)) = 0)) (K (Value.tuple (Array.mk [Value.bool false, Vi (chkA (s, List.map deB (blV acc), List.map deR (roV nx)))])) (AH.mk (Nd Lf (some (AObj.cells [Vi s, Vd 1 (blV acc), Vd 1 (roV nx)] 29)) Lf) 1)) ((Value.agg (Array.mk [Vi s, Vd 1 (blV acc), Vd 1 (roV nx)]) = Value.agg (Array.mk [Vi s, Vd 1 (blV (List.map deB (blV acc))), Vd 1 (roV (List.map deR (roV nx)))]) ∧ GA (s, List.map deB (blV acc), List.map deR (roV nx))) ∧ K (Value.tuple (Array.mk [Value.bool !Option.isSome (W (s, List.map deB (blV acc), List.map deR (roV nx))), Vi 0])) (AH.mk (Nd Lf (some (AObj.cells [Vi s, Vd 1 (blV acc), Vd 1 (roV nx)] 29)) Lf) 1))) := by kernel_rfl
def r256 : List Nat := List.range 256
theorem r256_eq : List.range 256 = r256 := by unfold r256; exact Eq.refl _
theorem r256_len : r256.length = 256 := by unfold r256; rw [List.length_range]
theorem r256_at : ∀ c (h : c < r256.length), r256[c] = c := by unfold r256; intro c h; rw [List.getElem_range]
def wR (a : AU) : Option LB := bfs (scD r256 a.2.2) (acD a.2.1) 90001 [(a.1, [])] 0
theorem scR_ga {a : AU} (h : GA a) : ScR a.2.2 (scD r256 a.2.2) := fun k hk => by
 have hr : a.2.2[k].length = 256 := h.row _ (List.getElem_mem hk)
 have hl : (scD r256 a.2.2 (k : Int)).length = 256 := by
  unfold scD
  rw [List.length_zip, List.length_map, r256_len, Int.toNat_natCast, gD hk, hr]; rfl
 refine ⟨hl, fun b hb => ?_⟩
 rw [List.getElem?_eq_getElem (by rw [hl]; exact hb)]
 congr 1
 unfold scD
 rw [List.getElem_zip, List.getElem_map, r256_at]
 congr 1
 simp only [Int.toNat_natCast, gD hk]
 exact (gD (by omega)).symm
theorem pr_tab : ∀ args A p v A', pureR prP (prX (prA r256)) args A = some (p, v, A') → PH p → CallAt env 38 args A v A' := walk_tab env_ok env_gl (fn := Proofs.Tryd.f38) rfl fun args v h hp => by
 unfold prX at h
 split at h
 · rename_i u w kd
   split at h
   · rename_i a b ha hb
     simp only [Option.some.injEq] at h
     subst h
     simp only [prP, ha, hb] at hp
     obtain ⟨rfl, h1, rfl, h2⟩ : u = auV a ∧ OkA a ∧ w = auV b ∧ OkA b := hp
     exact ⟨HF.cons (HF_au _) (HF.cons (HF_au _) (HF.cons (HFi _ _) HF.nil)), pr_walk r256 r256_len r256_at h1 h2 kd⟩
   · cases h
 · cases h
theorem rs_tab : ∀ args A p v A', pureR rsP (rsX wR) args A = some (p, v, A') → PH p → CallAt env 37 args A v A' := walk_tab env_ok env_gl (fn := Proofs.Tryd.f37) rfl fun args v h hp => by
 unfold rsX at h
 split at h
 · rename_i u
   split at h
   · rename_i a ha
     simp only [Option.some.injEq] at h
     subst h
     simp only [rsP, ha] at hp
     obtain ⟨rfl, h1⟩ : u = auV a ∧ GA a := hp
     exact ⟨HF.cons (HF_au _) HF.nil, rs_walk h1 (scR_ga h1)⟩
   · cases h
 · cases h
theorem XRc_ok : (XRcG (prA r256) wR).Ok := ⟨env_ok, env_sym, env_gl, .cons cr_tab (.cons pr_tab (.cons rs_tab .nil))⟩
theorem rc_gen (K : KV) (Pr : Int → AU → AU → AU) (W : AU → Option LB) {a b : AU} (hwa : WfA a) (hwb : WfA b)
 (h1 : chkA a ≠ 0 → ∀ A, K (.tuple ⟨[.string (mkBytes []), .bool false, .int .i64 (chkA a)]⟩) A) (h2 : chkA a = 0 → chkA b ≠ 0 → ∀ A, K (.tuple ⟨[.string (mkBytes []), .bool false, .int .i64 (chkA b)]⟩) A)
 (h3 : OkA a → OkA b → GA (Pr 3 b a) ∧ ∀ A, ((W (Pr 3 b a)).isSome = true → K (.tuple ⟨[.string (mkBytes ((W (Pr 3 b a)).getD [])), .bool false, .int .i64 0]⟩) A) ∧ ((W (Pr 3 b a)).isSome = false → K (.tuple ⟨[.string (mkBytes []), .bool true, .int .i64 0]⟩) A)) : jRc K Pr W a.1 a.2.1 a.2.2 b.1 b.2.1 b.2.2 := by
 obtain ⟨s, acc, nx⟩ := a
 obtain ⟨s2, acc2, nx2⟩ := b
 refine (jRc_nf K Pr W s acc nx s2 acc2 nx2).mpr ?_
 rw [blV_de acc, roV_de nx, blV_de acc2, roV_de nx2, blV_de (Prod.fst _), roV_de (Prod.snd (Prod.snd _))]
 refine ⟨wfV_au hwa, Sp.intro (fun c => ?_) (fun c => ?_)⟩
 · rw [c]
   exact h1 (chk_dec c) _
 · have c0 := chk_dec0 c
   refine ⟨wfV_au hwb, Sp.intro (fun d => ?_) (fun d => ?_)⟩
   · exact h2 c0 (chk_dec d) _
   · have oka := chk_ok hwa c0
     have okb := chk_ok hwb (chk_dec0 d)
     obtain ⟨hG, hK⟩ := h3 oka okb
     exact ⟨⟨rfl, okb, rfl, oka⟩, ⟨rfl, hG⟩, Sp.intro (hK _).1 (hK _).2⟩
theorem re_gen (K : KV) (Pr : Int → AU → AU → AU) (W : AU → Option LB) {a : AU} (hwa : WfA a)
 (h1 : chkA a ≠ 0 → ∀ A, K (.tuple ⟨[.bool false, .int .i64 (chkA a)]⟩) A)
 (h3 : OkA a → ∀ A, K (.tuple ⟨[.bool (!(W a).isSome), .int .i64 0]⟩) A) : jRe K Pr W a.1 a.2.1 a.2.2 := by
 obtain ⟨s, acc, nx⟩ := a
 refine (jRe_nf K Pr W s acc nx).mpr ?_
 rw [blV_de acc, roV_de nx]
 refine ⟨wfV_au hwa, Sp.intro (fun c => ?_) (fun c => ?_)⟩
 · exact h1 (chk_dec c) _
 · have oka := chk_ok hwa (chk_dec0 c)
   exact ⟨⟨rfl, oka.ga⟩, h3 oka _⟩
theorem wR_P {a b : AU} (h : OkA a) (h2 : OkA b) : wR (prA r256 3 b a) = wordP a b := by
 have e := word_R h h2 (acR 3 b a) fun k => by
  unfold acR acP2 cmbI
  dsimp only
  rw [show decide ((3 : Int) = 1) = false from rfl, show decide ((3 : Int) = 2) = false from rfl]; rfl
 rw [r256_eq] at e
 unfold wR prA
 exact e
theorem wR_S {a : AU} (h : OkA a) : wR a = wordS a := by
 have e := word_E h
 rw [r256_eq] at e
 unfold wR
 exact e
theorem rc_walk {a b : AU} (ha : WfA a) (hb : WfA b) : Walk env Proofs.Tryd.f12 [auV a, auV b] (coV (coI a b)) := by
 refine plainF XRc_ok (d := 2) (HF_co _) (rc_gen _ (prA r256) wR ha hb (fun h A => ?_) (fun h h2 A => ?_) (fun h h2 => ⟨ga_prA r256 r256_len r256_at h2 h 3, fun A => ⟨fun g => ?_, fun g => ?_⟩⟩))
 · rw [coI_1 h]; rfl
 · rw [coI_2 h h2]; rfl
 · rw [wR_P h h2] at g ⊢
   rw [coI_3 (chk_okA h) (chk_okA h2), g]; rfl
 · rw [wR_P h h2] at g
   rw [coI_3 (chk_okA h) (chk_okA h2), g]
   have e : wordP a b = none := by
    cases hw : wordP a b with
    | none => rfl
    | some w => rw [hw] at g; cases g
   rw [e]; rfl
theorem re_walk {a : AU} (ha : WfA a) : Walk env Proofs.Tryd.f15 [auV a] (acV (emI a)) := by
 refine plainF XRc_ok (d := 2) (HF_ac _) (re_gen _ (prA r256) wR ha (fun h A => ?_) (fun h A => ?_))
 · rw [emI_1 h]; rfl
 · rw [emI_3 (chk_okA h), wR_S h]; rfl
def coXG (f : AU → AU → LB × Bool × Int) : List Value → Option Value
 | [u, v] => (match auQ u, auQ v with | some a, some b => some (coV (f a b)) | _, _ => none)
 | _ => none
def cvP : List Value → Option Prop
 | [u, v] => some (WfV u ∧ WfV v)
 | _ => none
def emXG (f : AU → Bool × Int) : List Value → Option Value
 | [u] => (match auQ u with | some a => some (acV (f a)) | none => none)
 | _ => none
theorem coX_ok {fn : Func} (hw : ∀ a b, WfA a → WfA b → Walk env fn [auV a, auV b] (coV (coI a b))) : ∀ args v, coXG coI args = some v → PH (cvP args) → (∀ x ∈ args, HF x) ∧ Walk env fn args v := fun args v h hp => by
 unfold coXG at h
 split at h
 · rename_i u w
   obtain ⟨⟨h1, h2⟩, h3, h4⟩ : WfV u ∧ WfV w := hp
   split at h
   rotate_left
   · cases h
   rename_i a b ha hb
   simp only [Option.some.injEq] at h
   subst h
   rw [auQ_of h1 ha, auQ_of h3 hb]
   have := hw _ _ h2 h4
   rw [← h1, ← h3] at this
   exact ⟨HF.cons (by rw [h1]; exact HF_au _) (HF.cons (by rw [h3]; exact HF_au _) HF.nil), this⟩
 · cases h
theorem emX_ok {fn : Func} (hw : ∀ a, WfA a → Walk env fn [auV a] (acV (emI a))) : ∀ args v, emXG emI args = some v → PH (caP args) → (∀ x ∈ args, HF x) ∧ Walk env fn args v := fun args v h hp => by
 unfold emXG at h
 split at h
 · rename_i u
   obtain ⟨h1, h2⟩ : WfV u := hp
   split at h
   rotate_left
   · cases h
   rename_i a ha
   simp only [Option.some.injEq] at h
   subst h
   rw [auQ_of h1 ha]
   have := hw _ h2
   rw [← h1] at this
   exact ⟨HF.cons (by rw [h1]; exact HF_au _) HF.nil, this⟩
 · cases h
theorem pc_tab : ∀ args A p v A', pureR cvP (coXG coI) args A = some (p, v, A') → PH p → CallAt env 11 args A v A' := walk_tab env_ok env_gl (fn := Proofs.Tryd.f11) rfl (coX_ok fun a b h1 h2 => pc_walk h1 h2)
theorem rc_tab : ∀ args A p v A', pureR cvP (coXG coI) args A = some (p, v, A') → PH p → CallAt env 12 args A v A' := walk_tab env_ok env_gl (fn := Proofs.Tryd.f12) rfl (coX_ok fun a b h1 h2 => rc_walk h1 h2)
theorem pe_tab : ∀ args A p v A', pureR caP (emXG emI) args A = some (p, v, A') → PH p → CallAt env 14 args A v A' := walk_tab env_ok env_gl (fn := Proofs.Tryd.f14) rfl (emX_ok fun a h1 => pe_walk h1)
theorem re_tab : ∀ args A p v A', pureR caP (emXG emI) args A = some (p, v, A') → PH p → CallAt env 15 args A v A' := walk_tab env_ok env_gl (fn := Proofs.Tryd.f15) rfl (emX_ok fun a h1 => re_walk h1)
end
end Go.T9

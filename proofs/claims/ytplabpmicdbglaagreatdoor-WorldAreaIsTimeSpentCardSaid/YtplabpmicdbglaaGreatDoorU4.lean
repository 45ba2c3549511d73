/- A part of the proof. -/
import Derived.Test.YtplabpmicdbglaaGreatDoorU3
import Derived.KernelRfl
import Derived.Test.YtplabpmicdbglaaGreatDoorU2
import Derived.Test.YtplabpmicdbglaaGreatDoorU1
import Derived.Test.YtplabpmicdbglaaGreatDoorC
set_option maxRecDepth 1000000
set_option linter.unusedVariables false
set_option linter.unusedSimpArgs false
set_option maxHeartbeats 4000000
namespace Go.T9
open Go Go.AM
noncomputable section
theorem jOr_nf (Q : Go.Value → Prop) (QA : KV) (t : Int) (o : Int) : jOr Q QA t o = (Sp (decide (t = (-1 : Int))) (Q (Value.int .i64 o)) (Q (Value.int .i64 t))) := by kernel_rfl
theorem jEnd_nf (Q : Go.Value → Prop) (QA : KV) (u : Int) (ts : List Go.Value) (vs : List Go.Value) (x : Ty) : jEnd Q QA u ts vs x = (Sp (decide (Ty.le x = (-1 : Int))) (Q (Value.int .i64 u)) (Q (Value.int .i64 (Ty.le x)))) := by kernel_rfl
theorem jAdm_nf (Q : Go.Value → Prop) (QA : KV) (x : Ty) (s : Int) : jAdm Q QA x s = (Sp (decide (Ty.sn x = s)) (Sp (!decide (Ty.ca x = (-1 : Int))) (Sp (!decide (Ty.be x = (-1 : Int))) (Q (Value.bool Bool.true)) (Q (Value.bool (decide (Ty.le x = (-1 : Int)))))) (Q (Value.bool Bool.false))) (Q (Value.bool Bool.false))) := by kernel_rfl
theorem jSty_nf (Q : Go.Value → Prop) (QA : KV) (x : Ty) (s : Int) : jSty Q QA x s = (Sp (decide (Ty.sn x = s)) (Sp (!decide (Ty.ca x = (-1 : Int))) (Sp (decide (Ty.be x = (-1 : Int))) (Q (Value.bool !!decide (Ty.le x = (-1 : Int)))) (Q (Value.bool Bool.true))) (Q (Value.bool Bool.false))) (Q (Value.bool Bool.false))) := by kernel_rfl
theorem jIW_nf (K : KV) (u : Int) (s : Int) (ts : List Ty) (vs : List Vi) : jIW K u s ts vs = ((List.map tyv ts = List.map tyv ts ∧ List.map viv vs = List.map viv vs) ∧ Sp (!decide (stE u ts vs s = (0 : Int))) (K (Value.tuple (Array.mk [Value.slice none (0 : Nat) (0 : Nat), Value.int .i64 (stE u ts vs s)])) (AH.mk (T.node T.leaf (some (AObj.cells [Value.int .i64 u, Value.func (Go.Fn.yield (16 : Nat)) (Array.mk (List.map tyv ts)) (Array.mk []), Value.func (Go.Fn.yield (7 : Nat)) (Array.mk (List.map viv vs)) (Array.mk [])] (25 : Nat))) T.leaf) (1 : Nat))) (HF (Value.func (Go.Fn.yield (16 : Nat)) (Array.mk (List.map tyv ts)) (Array.mk [])) ∧ HF (Value.func (Go.Fn.yield (16 : Nat)) (Array.mk (List.map tyv ts)) (Array.mk [])) ∧ HF (Value.func (Go.Fn.yield (7 : Nat)) (Array.mk (List.map viv vs)) (Array.mk [])) ∧ HF (Value.agg (Array.mk [])) ∧ HF (Value.agg (Array.mk [])) ∧ LAt (XN ts vs) (1 : Nat) (Go.Func.ntmps Go.Proofs.Tryz.f20) (bodyOf Go.Proofs.Tryz.f20) [(1 : Nat), (1 : Nat), (1 : Nat), (0 : Nat), (1 : Nat), (0 : Nat)] (finK (SX.E (XN ts vs)) (Array.toList (Go.Func.results Go.Proofs.Tryz.f20)) K) (T.node (T.node (T.node (T.node T.leaf (some (Value.slice (some (Go.Addr.mk (1 : Nat) (0 : Nat) none)) (0 : Nat) (18446744073709551620 : Nat))) T.leaf) none (T.node (T.node T.leaf (some (Value.int .i64 (↑(List.length (List.map tyv ts)) : Int))) T.leaf) none T.leaf)) (some (Value.int .i64 s)) T.leaf) none (T.node (T.node (T.node T.leaf (some (Value.slice (some (Go.Addr.mk (2 : Nat) (0 : Nat) none)) (0 : Nat) (18446744073709551620 : Nat))) T.leaf) none (T.node (T.node T.leaf (some (Value.int .i64 (0 : Int))) T.leaf) none T.leaf)) (some (Value.pointer (some (Go.Addr.mk (0 : Nat) (0 : Nat) none)))) (T.node (T.node (T.node T.leaf (some (Value.func (Go.Fn.yield (16 : Nat)) (Array.mk (List.map tyv ts)) (Array.mk []))) T.leaf) none T.leaf) none T.leaf))) (AH.mk (T.node (T.node T.leaf (some (AObj.gro [] [] (3 : Nat))) T.leaf) (some (AObj.cells [Value.int .i64 u, Value.func (Go.Fn.yield (16 : Nat)) (Array.mk (List.map tyv ts)) (Array.mk []), Value.func (Go.Fn.yield (7 : Nat)) (Array.mk (List.map viv vs)) (Array.mk [])] (25 : Nat))) (T.node T.leaf (some (AObj.gro [] [] (3 : Nat))) T.leaf)) (3 : Nat)))) := by kernel_rfl
theorem jIR_nf (K : KV) (u : Int) (s : Int) (ts : List Ty) (vs : List Vi) : jIR K u s ts vs = ((List.map tyv ts = List.map tyv ts ∧ List.map viv vs = List.map viv vs) ∧ Sp (!decide (stE u ts vs s = (0 : Int))) (K (Value.tuple (Array.mk [Value.slice none (0 : Nat) (0 : Nat), Value.int .i64 (stE u ts vs s)])) (AH.mk (T.node T.leaf (some (AObj.cells [Value.int .i64 u, Value.func (Go.Fn.yield (16 : Nat)) (Array.mk (List.map tyv ts)) (Array.mk []), Value.func (Go.Fn.yield (7 : Nat)) (Array.mk (List.map viv vs)) (Array.mk [])] (25 : Nat))) T.leaf) (1 : Nat))) (HF (Value.func (Go.Fn.yield (16 : Nat)) (Array.mk (List.map tyv ts)) (Array.mk [])) ∧ HF (Value.func (Go.Fn.yield (16 : Nat)) (Array.mk (List.map tyv ts)) (Array.mk [])) ∧ HF (Value.func (Go.Fn.yield (7 : Nat)) (Array.mk (List.map viv vs)) (Array.mk [])) ∧ HF (Value.agg (Array.mk [])) ∧ HF (Value.agg (Array.mk [])) ∧ LAt (XN ts vs) (1 : Nat) (Go.Func.ntmps Go.Proofs.Tryz.f21) (bodyOf Go.Proofs.Tryz.f21) [(1 : Nat), (1 : Nat), (1 : Nat), (0 : Nat), (1 : Nat), (0 : Nat)] (finK (SX.E (XN ts vs)) (Array.toList (Go.Func.results Go.Proofs.Tryz.f21)) K) (T.node (T.node (T.node (T.node T.leaf (some (Value.slice (some (Go.Addr.mk (1 : Nat) (0 : Nat) none)) (0 : Nat) (18446744073709551620 : Nat))) T.leaf) none (T.node (T.node T.leaf (some (Value.int .i64 (↑(List.length (List.map tyv ts)) : Int))) T.leaf) none T.leaf)) (some (Value.int .i64 s)) T.leaf) none (T.node (T.node (T.node T.leaf (some (Value.slice (some (Go.Addr.mk (2 : Nat) (0 : Nat) none)) (0 : Nat) (18446744073709551620 : Nat))) T.leaf) none (T.node (T.node T.leaf (some (Value.int .i64 (0 : Int))) T.leaf) none T.leaf)) (some (Value.pointer (some (Go.Addr.mk (0 : Nat) (0 : Nat) none)))) (T.node (T.node (T.node T.leaf (some (Value.func (Go.Fn.yield (16 : Nat)) (Array.mk (List.map tyv ts)) (Array.mk []))) T.leaf) none T.leaf) none T.leaf))) (AH.mk (T.node (T.node T.leaf (some (AObj.gro [] [] (3 : Nat))) T.leaf) (some (AObj.cells [Value.int .i64 u, Value.func (Go.Fn.yield (16 : Nat)) (Array.mk (List.map tyv ts)) (Array.mk []), Value.func (Go.Fn.yield (7 : Nat)) (Array.mk (List.map viv vs)) (Array.mk [])] (25 : Nat))) (T.node T.leaf (some (AObj.gro [] [] (3 : Nat))) T.leaf)) (3 : Nat)))) := by kernel_rfl
theorem jBW_nf (K : KV) (u : Int) (s : Int) (ts : List Ty) (vs : List Vi) : jBW K u s ts vs = ((List.map tyv ts = List.map tyv ts ∧ List.map viv vs = List.map viv vs) ∧ Sp (!decide (stE u ts vs s = (0 : Int))) (K (Value.tuple (Array.mk [Value.slice none (0 : Nat) (0 : Nat), Value.int .i64 (stE u ts vs s)])) (AH.mk (T.node T.leaf (some (AObj.cells [Value.int .i64 u, Value.func (Go.Fn.yield (16 : Nat)) (Array.mk (List.map tyv ts)) (Array.mk []), Value.func (Go.Fn.yield (7 : Nat)) (Array.mk (List.map viv vs)) (Array.mk [])] (25 : Nat))) T.leaf) (1 : Nat))) (HF (Value.func (Go.Fn.yield (16 : Nat)) (Array.mk (List.map tyv ts)) (Array.mk [])) ∧ HF (Value.func (Go.Fn.yield (16 : Nat)) (Array.mk (List.map tyv ts)) (Array.mk [])) ∧ HF (Value.func (Go.Fn.yield (7 : Nat)) (Array.mk (List.map viv vs)) (Array.mk [])) ∧ HF (Value.agg (Array.mk [])) ∧ HF (Value.agg (Array.mk [])) ∧ LAt (XN ts vs) (1 : Nat) (Go.Func.ntmps Go.Proofs.Tryz.f22) (bodyOf Go.Proofs.Tryz.f22) [(1 : Nat), (1 : Nat), (1 : Nat), (0 : Nat), (1 : Nat), (0 : Nat)] (finK (SX.E (XN ts vs)) (Array.toList (Go.Func.results Go.Proofs.Tryz.f22)) K) (T.node (T.node (T.node (T.node T.leaf (some (Value.slice (some (Go.Addr.mk (1 : Nat) (0 : Nat) none)) (0 : Nat) (18446744073709551620 : Nat))) T.leaf) none (T.node (T.node T.leaf (some (Value.int .i64 (↑(List.length (List.map tyv ts)) : Int))) T.leaf) none T.leaf)) (some (Value.int .i64 s)) T.leaf) none (T.node (T.node (T.node T.leaf (some (Value.slice (some (Go.Addr.mk (2 : Nat) (0 : Nat) none)) (0 : Nat) (18446744073709551620 : Nat))) T.leaf) none (T.node (T.node T.leaf (some (Value.int .i64 (0 : Int))) T.leaf) none T.leaf)) (some (Value.pointer (some (Go.Addr.mk (0 : Nat) (0 : Nat) none)))) (T.node (T.node (T.node T.leaf (some (Value.func (Go.Fn.yield (16 : Nat)) (Array.mk (List.map tyv ts)) (Array.mk []))) T.leaf) none T.leaf) none T.leaf))) (AH.mk (T.node (T.node T.leaf (some (AObj.gro [] [] (3 : Nat))) T.leaf) (some (AObj.cells [Value.int .i64 u, Value.func (Go.Fn.yield (16 : Nat)) (Array.mk (List.map tyv ts)) (Array.mk []), Value.func (Go.Fn.yield (7 : Nat)) (Array.mk (List.map viv vs)) (Array.mk [])] (25 : Nat))) (T.node T.leaf (some (AObj.gro [] [] (3 : Nat))) T.leaf)) (3 : Nat)))) := by kernel_rfl
theorem jBR_nf (K : KV) (u : Int) (s : Int) (ts : List Ty) (vs : List Vi) : jBR K u s ts vs = ((List.map tyv ts = List.map tyv ts ∧ List.map viv vs = List.map viv vs) ∧ Sp (!decide (stE u ts vs s = (0 : Int))) (K (Value.tuple (Array.mk [Value.slice none (0 : Nat) (0 : Nat), Value.int .i64 (stE u ts vs s)])) (AH.mk (T.node T.leaf (some (AObj.cells [Value.int .i64 u, Value.func (Go.Fn.yield (16 : Nat)) (Array.mk (List.map tyv ts)) (Array.mk []), Value.func (Go.Fn.yield (7 : Nat)) (Array.mk (List.map viv vs)) (Array.mk [])] (25 : Nat))) T.leaf) (1 : Nat))) (HF (Value.func (Go.Fn.yield (16 : Nat)) (Array.mk (List.map tyv ts)) (Array.mk [])) ∧ HF (Value.func (Go.Fn.yield (16 : Nat)) (Array.mk (List.map tyv ts)) (Array.mk [])) ∧ HF (Value.func (Go.Fn.yield (7 : Nat)) (Array.mk (List.map viv vs)) (Array.mk [])) ∧ HF (Value.agg (Array.mk [])) ∧ HF (Value.agg (Array.mk [])) ∧ LAt (XN ts vs) (1 : Nat) (Go.Func.ntmps Go.Proofs.Tryz.f26) (bodyOf Go.Proofs.Tryz.f26) [(1 : Nat), (1 : Nat), (1 : Nat), (0 : Nat), (1 : Nat), (0 : Nat)] (finK (SX.E (XN ts vs)) (Array.toList (Go.Func.results Go.Proofs.Tryz.f26)) K) (T.node (T.node (T.node (T.node T.leaf (some (Value.slice (some (Go.Addr.mk (1 : Nat) (0 : Nat) none)) (0 : Nat) (18446744073709551620 : Nat))) T.leaf) none (T.node (T.node T.leaf (some (Value.int .i64 (↑(List.length (List.map tyv ts)) : Int))) T.leaf) none T.leaf)) (some (Value.int .i64 s)) T.leaf) none (T.node (T.node (T.node T.leaf (some (Value.slice (some (Go.Addr.mk (2 : Nat) (0 : Nat) none)) (0 : Nat) (18446744073709551620 : Nat))) T.leaf) none (T.node (T.node T.leaf (some (Value.int .i64 (0 : Int))) T.leaf) none T.leaf)) (some (Value.pointer (some (Go.Addr.mk (0 : Nat) (0 : Nat) none)))) (T.node (T.node (T.node T.leaf (some (Value.func (Go.Fn.yield (16 : Nat)) (Array.mk (List.map tyv ts)) (Array.mk []))) T.leaf) none T.leaf) none T.leaf))) (AH.mk (T.node (T.node T.leaf (some (AObj.gro [] [] (3 : Nat))) T.leaf) (some (AObj.cells [Value.int .i64 u, Value.func (Go.Fn.yield (16 : Nat)) (Array.mk (List.map tyv ts)) (Array.mk []), Value.func (Go.Fn.yield (7 : Nat)) (Array.mk (List.map viv vs)) (Array.mk [])] (25 : Nat))) (T.node T.leaf (some (AObj.gro [] [] (3 : Nat))) T.leaf)) (3 : Nat)))) := by kernel_rfl
theorem jIW1_nf (K : KV) (again : KF) (u : Int) (s : Int) (ts : List Ty) (vs : List Vi) (i : Nat) (n : Nat) (m : Nat) (l1 : List Go.Value) (l2 : List Go.Value) : jIW1 K again u s ts vs i n m l1 l2 = (Sp (decide ((↑i : Int) < (↑(List.length (List.map tyv ts)) : Int))) (((0 : Int) ≤ (↑i : Int) ∧ (↑i : Int) < (↑(List.length (List.map tyv ts)) : Int)) ∧ nth (List.map tyv ts) (Int.toNat (↑(Int.toNat (↑i : Int)) : Int)) = some (Value.agg (Array.mk [Value.int .i64 (Ty.g (tyAt (List.map tyv ts) (↑(Int.toNat (↑i : Int)) : Int))), Value.int .i64 (Ty.u (tyAt (List.map tyv ts) (↑(Int.toNat (↑i : Int)) : Int))), Value.int .i64 (Ty.a (tyAt (List.map tyv ts) (↑(Int.toNat (↑i : Int)) : Int))), Value.int .i64 (Ty.y (tyAt (List.map tyv ts) (↑(Int.toNat (↑i : Int)) : Int))), Value.string (Ty.nm (tyAt (List.map tyv ts) (↑(Int.toNat (↑i : Int)) : Int))), Value.int .i64 (Ty.sn (tyAt (List.map tyv ts) (↑(Int.toNat (↑i : Int)) : Int))), Value.int .i64 (Ty.se (tyAt (List.map tyv ts) (↑(Int.toNat (↑i : Int)) : Int))), Value.int .i64 (Ty.ca (tyAt (List.map tyv ts) (↑(Int.toNat (↑i : Int)) : Int))), Value.int .i64 (Ty.be (tyAt (List.map tyv ts) (↑(Int.toNat (↑i : Int)) : Int))), Value.int .i64 (Ty.le (tyAt (List.map tyv ts) (↑(Int.toNat (↑i : Int)) : Int))), Value.int .i64 (Ty.ba (tyAt (List.map tyv ts) (↑(Int.toNat (↑i : Int)) : Int))), Value.int .i64 (Ty.en (tyAt (List.map tyv ts) (↑(Int.toNat (↑i : Int)) : Int))), Value.int .i64 (Ty.oc (tyAt (List.map tyv ts) (↑(Int.toNat (↑i : Int)) : Int))), Value.int .i64 (Ty.su (tyAt (List.map tyv ts) (↑(Int.toNat (↑i : Int)) : Int))), Value.int .i64 (Ty.sb (tyAt (List.map tyv ts) (↑(Int.toNat (↑i : Int)) : Int))), Value.int .i64 (Ty.fa (tyAt (List.map tyv ts) (↑(Int.toNat (↑i : Int)) : Int)))])) ∧ Sp (staysB (tyAt (List.map tyv ts) (↑(Int.toNat (↑i : Int)) : Int)) s) ((List.all [Value.int .i64 (Ty.ca (tyAt (List.map tyv ts) (↑(Int.toNat (↑i : Int)) : Int)))] cellv = Bool.true ∧ n + (0 : Nat) = List.length l1 ∧ n + (1 : Nat) ≤ (70368744177664 : Nat) ∧ (n + (1 : Nat)) * (8 : Nat) ≤ (140737488355328 : Nat)) ∧ Value.int .i64 (Ty.le (tyAt (List.map tyv ts) (↑(Int.toNat (↑i : Int)) : Int))) = Value.int .i64 (Ty.le (tyAt (List.map tyv ts) (↑(Int.toNat (↑i : Int)) : Int))) ∧ Value.int .i64 u = Value.int .i64 u ∧ (List.all [Value.int .i64 (orI (Ty.le (tyAt (List.map tyv ts) (↑(Int.toNat (↑i : Int)) : Int))) u)] cellv = Bool.true ∧ m + (0 : Nat) = List.length l2 ∧ m + (1 : Nat) ≤ (70368744177664 : Nat) ∧ (m + (1 : Nat)) * (8 : Nat) ≤ (140737488355328 : Nat)) ∧ HF (Value.func (Go.Fn.yield (16 : Nat)) (Array.mk (List.map tyv ts)) (Array.mk [])) ∧ HF (Value.func (Go.Fn.yield (16 : Nat)) (Array.mk (List.map tyv ts)) (Array.mk [])) ∧ HF (Value.func (Go.Fn.yield (7 : Nat)) (Array.mk (List.map viv vs)) (Array.mk [])) ∧ HF (Value.agg (Array.mk (l1 ++ [Value.int .i64 (Ty.ca (tyAt (List.map tyv ts) (↑(Int.toNat (↑i : Int)) : Int)))]))) ∧ HF (Value.agg (Array.mk (l2 ++ [Value.int .i64 (orI (Ty.le (tyAt (List.map tyv ts) (↑(Int.toNat (↑i : Int)) : Int))) u)]))) ∧ again (T.node (T.node (T.node (T.node T.leaf (some (Value.slice (some (Go.Addr.mk (1 : Nat) (0 : Nat) none)) (n + (1 : Nat)) (18446744073709551620 : Nat))) T.leaf) none (T.node (T.node T.leaf (some (Value.int .i64 (↑(List.length (List.map tyv ts)) : Int))) T.leaf) none T.leaf)) (some (Value.int .i64 s)) T.leaf) none (T.node (T.node (T.node T.leaf (some (Value.slice (some (Go.Addr.mk (2 : Nat) (0 : Nat) none)) (m + (1 : Nat)) (18446744073709551620 : Nat))) T.leaf) none (T.node (T.node T.leaf (some (Value.int .i64 (IntKind.wrap .i64 ((↑i : Int) + (1 : Int))))) T.leaf) none T.leaf)) (some (Value.pointer (some (Go.Addr.mk (0 : Nat) (0 : Nat) none)))) (T.node (T.node (T.node T.leaf (some (Value.func (Go.Fn.yield (16 : Nat)) (Array.mk (List.map tyv ts)) (Array.mk []))) T.leaf) none T.leaf) none T.leaf))) (AH.mk (T.node (T.node T.leaf (some (AObj.gro (l1 ++ [Value.int .i64 (Ty.ca (tyAt (List.map tyv ts) (↑(Int.toNat (↑i : Int)) : Int)))]) [] (3 : Nat))) T.leaf) (some (AObj.cells [Value.int .i64 u, Value.func (Go.Fn.yield (16 : Nat)) (Array.mk (List.map tyv ts)) (Array.mk []), Value.func (Go.Fn.yield (7 : Nat)) (Array.mk (List.map viv vs)) (Array.mk [])] (25 : Nat))) (T.node T.leaf (some (AObj.gro (l2 ++ [Value.int .i64 (orI (Ty.le (tyAt (List.map tyv ts) (↑(Int.toNat (↑i : Int)) : Int))) u)]) [] (3 : Nat))) T.leaf)) (3 : Nat))) (HF (Value.func (Go.Fn.yield (16 : Nat)) (Array.mk (List.map tyv ts)) (Array.mk [])) ∧ HF (Value.func (Go.Fn.yield (16 : Nat)) (Array.mk (List.map tyv ts)) (Array.mk [])) ∧ HF (Value.func (Go.Fn.yield (7 : Nat)) (Array.mk (List.map viv vs)) (Array.mk [])) ∧ HF (Value.agg (Array.mk l1)) ∧ HF (Value.agg (Array.mk l2)) ∧ again (T.node (T.node (T.node (T.node T.leaf (some (Value.slice (some (Go.Addr.mk (1 : Nat) (0 : Nat) none)) n (18446744073709551620 : Nat))) T.leaf) none (T.node (T.node T.leaf (some (Value.int .i64 (↑(List.length (List.map tyv ts)) : Int))) T.leaf) none T.leaf)) (some (Value.int .i64 s)) T.leaf) none (T.node (T.node (T.node T.leaf (some (Value.slice (some (Go.Addr.mk (2 : Nat) (0 : Nat) none)) m (18446744073709551620 : Nat))) T.leaf) none (T.node (T.node T.leaf (some (Value.int .i64 (IntKind.wrap .i64 ((↑i : Int) + (1 : Int))))) T.leaf) none T.leaf)) (some (Value.pointer (some (Go.Addr.mk (0 : Nat) (0 : Nat) none)))) (T.node (T.node (T.node T.leaf (some (Value.func (Go.Fn.yield (16 : Nat)) (Array.mk (List.map tyv ts)) (Array.mk []))) T.leaf) none T.leaf) none T.leaf))) (AH.mk (T.node (T.node T.leaf (some (AObj.gro l1 [] (3 : Nat))) T.leaf) (some (AObj.cells [Value.int .i64 u, Value.func (Go.Fn.yield (16 : Nat)) (Array.mk (List.map tyv ts)) (Array.mk []), Value.func (Go.Fn.yield (7 : Nat)) (Array.mk (List.map viv vs)) (Array.mk [])] (25 : Nat))) (T.node T.leaf (some (AObj.gro l2 [] (3 : Nat))) T.leaf)) (3 : Nat)))) (ChPre l1 l2 n m ∧ K (Value.tuple (Array.mk [Value.func (Go.Fn.yield (2 : Nat)) (Array.mk (List.map cv (chgL (List.map vI l1) (List.map vI l2)))) (Array.mk []), Value.int .i64 (0 : Int)])) (AH.mk (T.node (T.node T.leaf (some AObj.dead) T.leaf) (some (AObj.cells [Value.int .i64 u, Value.func (Go.Fn.yield (16 : Nat)) (Array.mk (List.map tyv ts)) (Array.mk []), Value.func (Go.Fn.yield (7 : Nat)) (Array.mk (List.map viv vs)) (Array.mk [])] (25 : Nat))) (T.node T.leaf (some AObj.dead) T.leaf)) (3 : Nat)))) := by kernel_rfl
theorem jIR1_nf (K : KV) (again : KF) (u : Int) (s : Int) (ts : List Ty) (vs : List Vi) (i : Nat) (n : Nat) (m : Nat) (l1 : List Go.Value) (l2 : List Go.Value) : jIR1 K again u s ts vs i n m l1 l2 = (Sp (decide ((↑i : Int) < (↑(List.length (List.map tyv ts)) : Int))) (((0 : Int) ≤ (↑i : Int) ∧ (↑i : Int) < (↑(List.length (List.map tyv ts)) : Int)) ∧ nth (List.map tyv ts) (Int.toNat (↑(Int.toNat (↑i : Int)) : Int)) = some (Value.agg (Array.mk [Value.int .i64 (Ty.g (tyAt (List.map tyv ts) (↑(Int.toNat (↑i : Int)) : Int))), Value.int .i64 (Ty.u (tyAt (List.map tyv ts) (↑(Int.toNat (↑i : Int)) : Int))), Value.int .i64 (Ty.a (tyAt (List.map tyv ts) (↑(Int.toNat (↑i : Int)) : Int))), Value.int .i64 (Ty.y (tyAt (List.map tyv ts) (↑(Int.toNat (↑i : Int)) : Int))), Value.string (Ty.nm (tyAt (List.map tyv ts) (↑(Int.toNat (↑i : Int)) : Int))), Value.int .i64 (Ty.sn (tyAt (List.map tyv ts) (↑(Int.toNat (↑i : Int)) : Int))), Value.int .i64 (Ty.se (tyAt (List.map tyv ts) (↑(Int.toNat (↑i : Int)) : Int))), Value.int .i64 (Ty.ca (tyAt (List.map tyv ts) (↑(Int.toNat (↑i : Int)) : Int))), Value.int .i64 (Ty.be (tyAt (List.map tyv ts) (↑(Int.toNat (↑i : Int)) : Int))), Value.int .i64 (Ty.le (tyAt (List.map tyv ts) (↑(Int.toNat (↑i : Int)) : Int))), Value.int .i64 (Ty.ba (tyAt (List.map tyv ts) (↑(Int.toNat (↑i : Int)) : Int))), Value.int .i64 (Ty.en (tyAt (List.map tyv ts) (↑(Int.toNat (↑i : Int)) : Int))), Value.int .i64 (Ty.oc (tyAt (List.map tyv ts) (↑(Int.toNat (↑i : Int)) : Int))), Value.int .i64 (Ty.su (tyAt (List.map tyv ts) (↑(Int.toNat (↑i : Int)) : Int))), Value.int .i64 (Ty.sb (tyAt (List.map tyv ts) (↑(Int.toNat (↑i : Int)) : Int))), Value.int .i64 (Ty.fa (tyAt (List.map tyv ts) (↑(Int.toNat (↑i : Int)) : Int)))])) ∧ Sp (staysB (tyAt (List.map tyv ts) (↑(Int.toNat (↑i : Int)) : Int)) s) ((List.all [Value.int .i64 (Ty.ca (tyAt (List.map tyv ts) (↑(Int.toNat (↑i : Int)) : Int)))] cellv = Bool.true ∧ n + (0 : Nat) = List.length l1 ∧ n + (1 : Nat) ≤ (70368744177664 : Nat) ∧ (n + (1 : Nat)) * (8 : Nat) ≤ (140737488355328 : Nat)) ∧ Value.agg (Array.mk [Value.int .i64 u, Value.func (Go.Fn.yield (16 : Nat)) (Array.mk (List.map tyv ts)) (Array.mk []), Value.func (Go.Fn.yield (7 : Nat)) (Array.mk (List.map viv vs)) (Array.mk [])]) = Value.agg (Array.mk [Value.int .i64 u, Value.func (Go.Fn.yield (16 : Nat)) (Array.mk (List.map tyv ts)) (Array.mk []), Value.func (Go.Fn.yield (7 : Nat)) (Array.mk (List.map viv vs)) (Array.mk [])]) ∧ Value.agg (Array.mk [Value.int .i64 (Ty.g (tyAt (List.map tyv ts) (↑(Int.toNat (↑i : Int)) : Int))), Value.int .i64 (Ty.u (tyAt (List.map tyv ts) (↑(Int.toNat (↑i : Int)) : Int))), Value.int .i64 (Ty.a (tyAt (List.map tyv ts) (↑(Int.toNat (↑i : Int)) : Int))), Value.int .i64 (Ty.y (tyAt (List.map tyv ts) (↑(Int.toNat (↑i : Int)) : Int))), Value.string (Ty.nm (tyAt (List.map tyv ts) (↑(Int.toNat (↑i : Int)) : Int))), Value.int .i64 (Ty.sn (tyAt (List.map tyv ts) (↑(Int.toNat (↑i : Int)) : Int))), Value.int .i64 (Ty.se (tyAt (List.map tyv ts) (↑(Int.toNat (↑i : Int)) : Int))), Value.int .i64 (Ty.ca (tyAt (List.map tyv ts) (↑(Int.toNat (↑i : Int)) : Int))), Value.int .i64 (Ty.be (tyAt (List.map tyv ts) (↑(Int.toNat (↑i : Int)) : Int))), Value.int .i64 (Ty.le (tyAt (List.map tyv ts) (↑(Int.toNat (↑i : Int)) : Int))), Value.int .i64 (Ty.ba (tyAt (List.map tyv ts) (↑(Int.toNat (↑i : Int)) : Int))), Value.int .i64 (Ty.en (tyAt (List.map tyv ts) (↑(Int.toNat (↑i : Int)) : Int))), Value.int .i64 (Ty.oc (tyAt (List.map tyv ts) (↑(Int.toNat (↑i : Int)) : Int))), Value.int .i64 (Ty.su (tyAt (List.map tyv ts) (↑(Int.toNat (↑i : Int)) : Int))), Value.int .i64 (Ty.sb (tyAt (List.map tyv ts) (↑(Int.toNat (↑i : Int)) : Int))), Value.int .i64 (Ty.fa (tyAt (List.map tyv ts) (↑(Int.toNat (↑i : Int)) : Int)))]) = Value.agg (Array.mk [Value.int .i64 (Ty.g (tyAt (List.map tyv ts) (↑(Int.toNat (↑i : Int)) : Int))), Value.int .i64 (Ty.u (tyAt (List.map tyv ts) (↑(Int.toNat (↑i : Int)) : Int))), Value.int .i64 (Ty.a (tyAt (List.map tyv ts) (↑(Int.toNat (↑i : Int)) : Int))), Value.int .i64 (Ty.y (tyAt (List.map tyv ts) (↑(Int.toNat (↑i : Int)) : Int))), Value.string (Ty.nm (tyAt (List.map tyv ts) (↑(Int.toNat (↑i : Int)) : Int))), Value.int .i64 (Ty.sn (tyAt (List.map tyv ts) (↑(Int.toNat (↑i : Int)) : Int))), Value.int .i64 (Ty.se (tyAt (List.map tyv ts) (↑(Int.toNat (↑i : Int)) : Int))), Value.int .i64 (Ty.ca (tyAt (List.map tyv ts) (↑(Int.toNat (↑i : Int)) : Int))), Value.int .i64 (Ty.be (tyAt (List.map tyv ts) (↑(Int.toNat (↑i : Int)) : Int))), Value.int .i64 (Ty.le (tyAt (List.map tyv ts) (↑(Int.toNat (↑i : Int)) : Int))), Value.int .i64 (Ty.ba (tyAt (List.map tyv ts) (↑(Int.toNat (↑i : Int)) : Int))), Value.int .i64 (Ty.en (tyAt (List.map tyv ts) (↑(Int.toNat (↑i : Int)) : Int))), Value.int .i64 (Ty.oc (tyAt (List.map tyv ts) (↑(Int.toNat (↑i : Int)) : Int))), Value.int .i64 (Ty.su (tyAt (List.map tyv ts) (↑(Int.toNat (↑i : Int)) : Int))), Value.int .i64 (Ty.sb (tyAt (List.map tyv ts) (↑(Int.toNat (↑i : Int)) : Int))), Value.int .i64 (Ty.fa (tyAt (List.map tyv ts) (↑(Int.toNat (↑i : Int)) : Int)))]) ∧ (List.map tyv ts = List.map tyv ts ∧ List.map viv vs = List.map viv vs) ∧ (List.all [Value.int .i64 (orI (Ty.le (tyAt (List.map tyv ts) (↑(Int.toNat (↑i : Int)) : Int))) u)] cellv = Bool.true ∧ m + (0 : Nat) = List.length l2 ∧ m + (1 : Nat) ≤ (70368744177664 : Nat) ∧ (m + (1 : Nat)) * (8 : Nat) ≤ (140737488355328 : Nat)) ∧ HF (Value.func (Go.Fn.yield (16 : Nat)) (Array.mk (List.map tyv ts)) (Array.mk [])) ∧ HF (Value.func (Go.Fn.yield (16 : Nat)) (Array.mk (List.map tyv ts)) (Array.mk [])) ∧ HF (Value.func (Go.Fn.yield (7 : Nat)) (Array.mk (List.map viv vs)) (Array.mk [])) ∧ HF (Value.agg (Array.mk (l1 ++ [Value.int .i64 (Ty.ca (tyAt (List.map tyv ts) (↑(Int.toNat (↑i : Int)) : Int)))]))) ∧ HF (Value.agg (Array.mk (l2 ++ [Value.int .i64 (orI (Ty.le (tyAt (List.map tyv ts) (↑(Int.toNat (↑i : Int)) : Int))) u)]))) ∧ again (T.node (T.node (T.node (T.node T.leaf (some (Value.slice (some (Go.Addr.mk (1 : Nat) (0 : Nat) none)) (n + (1 : Nat)) (18446744073709551620 : Nat))) T.leaf) none (T.node (T.node T.leaf (some (Value.int .i64 (↑(List.length (List.map tyv ts)) : Int))) T.leaf) none T.leaf)) (some (Value.int .i64 s)) T.leaf) none (T.node (T.node (T.node T.leaf (some (Value.slice (some (Go.Addr.mk (2 : Nat) (0 : Nat) none)) (m + (1 : Nat)) (18446744073709551620 : Nat))) T.leaf) none (T.node (T.node T.leaf (some (Value.int .i64 (IntKind.wrap .i64 ((↑i : Int) + (1 : Int))))) T.leaf) none T.leaf)) (some (Value.pointer (some (Go.Addr.mk (0 : Nat) (0 : Nat) none)))) (T.node (T.node (T.node T.leaf (some (Value.func (Go.Fn.yield (16 : Nat)) (Array.mk (List.map tyv ts)) (Array.mk []))) T.leaf) none T.leaf) none T.leaf))) (AH.mk (T.node (T.node T.leaf (some (AObj.gro (l1 ++ [Value.int .i64 (Ty.ca (tyAt (List.map tyv ts) (↑(Int.toNat (↑i : Int)) : Int)))]) [] (3 : Nat))) T.leaf) (some (AObj.cells [Value.int .i64 u, Value.func (Go.Fn.yield (16 : Nat)) (Array.mk (List.map tyv ts)) (Array.mk []), Value.func (Go.Fn.yield (7 : Nat)) (Array.mk (List.map viv vs)) (Array.mk [])] (25 : Nat))) (T.node T.leaf (some (AObj.gro (l2 ++ [Value.int .i64 (orI (Ty.le (tyAt (List.map tyv ts) (↑(Int.toNat (↑i : Int)) : Int))) u)]) [] (3 : Nat))) T.leaf)) (3 : Nat))) (HF (Value.func (Go.Fn.yield (16 : Nat)) (Array.mk (List.map tyv ts)) (Array.mk [])) ∧ HF (Value.func (Go.Fn.yield (16 : Nat)) (Array.mk (List.map tyv ts)) (Array.mk [])) ∧ HF (Value.func (Go.Fn.yield (7 : Nat)) (Array.mk (List.map viv vs)) (Array.mk [])) ∧ HF (Value.agg (Array.mk l1)) ∧ HF (Value.agg (Array.mk l2)) ∧ again (T.node (T.node (T.node (T.node T.leaf (some (Value.slice (some (Go.Addr.mk (1 : Nat) (0 : Nat) none)) n (18446744073709551620 : Nat))) T.leaf) none (T.node (T.node T.leaf (some (Value.int .i64 (↑(List.length (List.map tyv ts)) : Int))) T.leaf) none T.leaf)) (some (Value.int .i64 s)) T.leaf) none (T.node (T.node (T.node T.leaf (some (Value.slice (some (Go.Addr.mk (2 : Nat) (0 : Nat) none)) m (18446744073709551620 : Nat))) T.leaf) none (T.node (T.node T.leaf (some (Value.int .i64 (IntKind.wrap .i64 ((↑i : Int) + (1 : Int))))) T.leaf) none T.leaf)) (some (Value.pointer (some (Go.Addr.mk (0 : Nat) (0 : Nat) none)))) (T.node (T.node (T.node T.leaf (some (Value.func (Go.Fn.yield (16 : Nat)) (Array.mk (List.map tyv ts)) (Array.mk []))) T.leaf) none T.leaf) none T.leaf))) (AH.mk (T.node (T.node T.leaf (some (AObj.gro l1 [] (3 : Nat))) T.leaf) (some (AObj.cells [Value.int .i64 u, Value.func (Go.Fn.yield (16 : Nat)) (Array.mk (List.map tyv ts)) (Array.mk []), Value.func (Go.Fn.yield (7 : Nat)) (Array.mk (List.map viv vs)) (Array.mk [])] (25 : Nat))) (T.node T.leaf (some (AObj.gro l2 [] (3 : Nat))) T.leaf)) (3 : Nat)))) (ChPre l1 l2 n m ∧ K (Value.tuple (Array.mk [Value.func (Go.Fn.yield (2 : Nat)) (Array.mk (List.map cv (chgL (List.map vI l1) (List.map vI l2)))) (Array.mk []), Value.int .i64 (0 : Int)])) (AH.mk (T.node (T.node T.leaf (some AObj.dead) T.leaf) (some (AObj.cells [Value.int .i64 u, Value.func (Go.Fn.yield (16 : Nat)) (Array.mk (List.map tyv ts)) (Array.mk []), Value.func (Go.Fn.yield (7 : Nat)) (Array.mk (List.map viv vs)) (Array.mk [])] (25 : Nat))) (T.node T.leaf (some AObj.dead) T.leaf)) (3 : Nat)))) := by kernel_rfl
theorem jBW1_nf (K : KV) (again : KF) (u : Int) (s : Int) (ts : List Ty) (vs : List Vi) (i : Nat) (n : Nat) (m : Nat) (l1 : List Go.Value) (l2 : List Go.Value) : jBW1 K again u s ts vs i n m l1 l2 = (Sp (decide ((↑i : Int) < (↑(List.length (List.map tyv ts)) : Int))) (((0 : Int) ≤ (↑i : Int) ∧ (↑i : Int) < (↑(List.length (List.map tyv ts)) : Int)) ∧ nth (List.map tyv ts) (Int.toNat (↑(Int.toNat (↑i : Int)) : Int)) = some (Value.agg (Array.mk [Value.int .i64 (Ty.g (tyAt (List.map tyv ts) (↑(Int.toNat (↑i : Int)) : Int))), Value.int .i64 (Ty.u (tyAt (List.map tyv ts) (↑(Int.toNat (↑i : Int)) : Int))), Value.int .i64 (Ty.a (tyAt (List.map tyv ts) (↑(Int.toNat (↑i : Int)) : Int))), Value.int .i64 (Ty.y (tyAt (List.map tyv ts) (↑(Int.toNat (↑i : Int)) : Int))), Value.string (Ty.nm (tyAt (List.map tyv ts) (↑(Int.toNat (↑i : Int)) : Int))), Value.int .i64 (Ty.sn (tyAt (List.map tyv ts) (↑(Int.toNat (↑i : Int)) : Int))), Value.int .i64 (Ty.se (tyAt (List.map tyv ts) (↑(Int.toNat (↑i : Int)) : Int))), Value.int .i64 (Ty.ca (tyAt (List.map tyv ts) (↑(Int.toNat (↑i : Int)) : Int))), Value.int .i64 (Ty.be (tyAt (List.map tyv ts) (↑(Int.toNat (↑i : Int)) : Int))), Value.int .i64 (Ty.le (tyAt (List.map tyv ts) (↑(Int.toNat (↑i : Int)) : Int))), Value.int .i64 (Ty.ba (tyAt (List.map tyv ts) (↑(Int.toNat (↑i : Int)) : Int))), Value.int .i64 (Ty.en (tyAt (List.map tyv ts) (↑(Int.toNat (↑i : Int)) : Int))), Value.int .i64 (Ty.oc (tyAt (List.map tyv ts) (↑(Int.toNat (↑i : Int)) : Int))), Value.int .i64 (Ty.su (tyAt (List.map tyv ts) (↑(Int.toNat (↑i : Int)) : Int))), Value.int .i64 (Ty.sb (tyAt (List.map tyv ts) (↑(Int.toNat (↑i : Int)) : Int))), Value.int .i64 (Ty.fa (tyAt (List.map tyv ts) (↑(Int.toNat (↑i : Int)) : Int)))])) ∧ Sp (decide (Ty.sn (tyAt (List.map tyv ts) (↑(Int.toNat (↑i : Int)) : Int)) = s)) (Sp (!decide (Ty.be (tyAt (List.map tyv ts) (↑(Int.toNat (↑i : Int)) : Int)) = (-1 : Int))) ((List.all [Value.int .i64 (Ty.be (tyAt (List.map tyv ts) (↑(Int.toNat (↑i : Int)) : Int)))] cellv = Bool.true ∧ n + (0 : Nat) = List.length l1 ∧ n + (1 : Nat) ≤ (70368744177664 : Nat) ∧ (n + (1 : Nat)) * (8 : Nat) ≤ (140737488355328 : Nat)) ∧ Value.int .i64 (Ty.le (tyAt (List.map tyv ts) (↑(Int.toNat (↑i : Int)) : Int))) = Value.int .i64 (Ty.le (tyAt (List.map tyv ts) (↑(Int.toNat (↑i : Int)) : Int))) ∧ Value.int .i64 u = Value.int .i64 u ∧ (List.all [Value.int .i64 (orI (Ty.le (tyAt (List.map tyv ts) (↑(Int.toNat (↑i : Int)) : Int))) u)] cellv = Bool.true ∧ m + (0 : Nat) = List.length l2 ∧ m + (1 : Nat) ≤ (70368744177664 : Nat) ∧ (m + (1 : Nat)) * (8 : Nat) ≤ (140737488355328 : Nat)) ∧ HF (Value.func (Go.Fn.yield (16 : Nat)) (Array.mk (List.map tyv ts)) (Array.mk [])) ∧ HF (Value.func (Go.Fn.yield (16 : Nat)) (Array.mk (List.map tyv ts)) (Array.mk [])) ∧ HF (Value.func (Go.Fn.yield (7 : Nat)) (Array.mk (List.map viv vs)) (Array.mk [])) ∧ HF (Value.agg (Array.mk (l1 ++ [Value.int .i64 (Ty.be (tyAt (List.map tyv ts) (↑(Int.toNat (↑i : Int)) : Int)))]))) ∧ HF (Value.agg (Array.mk (l2 ++ [Value.int .i64 (orI (Ty.le (tyAt (List.map tyv ts) (↑(Int.toNat (↑i : Int)) : Int))) u)]))) ∧ again (T.node (T.node (T.node (T.node T.leaf (some (Value.slice (some (Go.Addr.mk (1 : Nat) (0 : Nat) none)) (n + (1 : Nat)) (18446744073709551620 : Nat))) T.leaf) none (T.node (T.node T.leaf (some (Value.int .i64 (↑(List.length (List.map tyv ts)) : Int))) T.leaf) none T.leaf)) (some (Value.int .i64 s)) T.leaf) none (T.node (T.node (T.node T.leaf (some (Value.slice (some (Go.Addr.mk (2 : Nat) (0 : Nat) none)) (m + (1 : Nat)) (18446744073709551620 : Nat))) T.leaf) none (T.node (T.node T.leaf (some (Value.int .i64 (IntKind.wrap .i64 ((↑i : Int) + (1 : Int))))) T.leaf) none T.leaf)) (some (Value.pointer (some (Go.Addr.mk (0 : Nat) (0 : Nat) none)))) (T.node (T.node (T.node T.leaf (some (Value.func (Go.Fn.yield (16 : Nat)) (Array.mk (List.map tyv ts)) (Array.mk []))) T.leaf) none T.leaf) none T.leaf))) (AH.mk (T.node (T.node T.leaf (some (AObj.gro (l1 ++ [Value.int .i64 (Ty.be (tyAt (List.map tyv ts) (↑(Int.toNat (↑i : Int)) : Int)))]) [] (3 : Nat))) T.leaf) (some (AObj.cells [Value.int .i64 u, Value.func (Go.Fn.yield (16 : Nat)) (Array.mk (List.map tyv ts)) (Array.mk []), Value.func (Go.Fn.yield (7 : Nat)) (Array.mk (List.map viv vs)) (Array.mk [])] (25 : Nat))) (T.node T.leaf (some (AObj.gro (l2 ++ [Value.int .i64 (orI (Ty.le (tyAt (List.map tyv ts) (↑(Int.toNat (↑i : Int)) : Int))) u)]) [] (3 : Nat))) T.leaf)) (3 : Nat))) (HF (Value.func (Go.Fn.yield (16 : Nat)) (Array.mk (List.map tyv ts)) (Array.mk [])) ∧ HF (Value.func (Go.Fn.yield (16 : Nat)) (Array.mk (List.map tyv ts)) (Array.mk [])) ∧ HF (Value.func (Go.Fn.yield (7 : Nat)) (Array.mk (List.map viv vs)) (Array.mk [])) ∧ HF (Value.agg (Array.mk l1)) ∧ HF (Value.agg (Array.mk l2)) ∧ again (T.node (T.node (T.node (T.node T.leaf (some (Value.slice (some (Go.Addr.mk (1 : Nat) (0 : Nat) none)) n (18446744073709551620 : Nat))) T.leaf) none (T.node (T.node T.leaf (some (Value.int .i64 (↑(List.length (List.map tyv ts)) : Int))) T.leaf) none T.leaf)) (some (Value.int .i64 s)) T.leaf) none (T.node (T.node (T.node T.leaf (some (Value.slice (some (Go.Addr.mk (2 : Nat) (0 : Nat) none)) m (18446744073709551620 : Nat))) T.leaf) none (T.node (T.node T.leaf (some (Value.int .i64 (IntKind.wrap .i64 ((↑i : Int) + (1 : Int))))) T.leaf) none T.leaf)) (some (Value.pointer (some (Go.Addr.mk (0 : Nat) (0 : Nat) none)))) (T.node (T.node (T.node T.leaf (some (Value.func (Go.Fn.yield (16 : Nat)) (Array.mk (List.map tyv ts)) (Array.mk []))) T.leaf) none T.leaf) none T.leaf))) (AH.mk (T.node (T.node T.leaf (some (AObj.gro l1 [] (3 : Nat))) T.leaf) (some (AObj.cells [Value.int .i64 u, Value.func (Go.Fn.yield (16 : Nat)) (Array.mk (List.map tyv ts)) (Array.mk []), Value.func (Go.Fn.yield (7 : Nat)) (Array.mk (List.map viv vs)) (Array.mk [])] (25 : Nat))) (T.node T.leaf (some (AObj.gro l2 [] (3 : Nat))) T.leaf)) (3 : Nat)))) (HF (Value.func (Go.Fn.yield (16 : Nat)) (Array.mk (List.map tyv ts)) (Array.mk [])) ∧ HF (Value.func (Go.Fn.yield (16 : Nat)) (Array.mk (List.map tyv ts)) (Array.mk [])) ∧ HF (Value.func (Go.Fn.yield (7 : Nat)) (Array.mk (List.map viv vs)) (Array.mk [])) ∧ HF (Value.agg (Array.mk l1)) ∧ HF (Value.agg (Array.mk l2)) ∧ again (T.node (T.node (T.node (T.node T.leaf (some (Value.slice (some (Go.Addr.mk (1 : Nat) (0 : Nat) none)) n (18446744073709551620 : Nat))) T.leaf) none (T.node (T.node T.leaf (some (Value.int .i64 (↑(List.length (List.map tyv ts)) : Int))) T.leaf) none T.leaf)) (some (Value.int .i64 s)) T.leaf) none (T.node (T.node (T.node T.leaf (some (Value.slice (some (Go.Addr.mk (2 : Nat) (0 : Nat) none)) m (18446744073709551620 : Nat))) T.leaf) none (T.node (T.node T.leaf (some (Value.int .i64 (IntKind.wrap .i64 ((↑i : Int) + (1 : Int))))) T.leaf) none T.leaf)) (some (Value.pointer (some (Go.Addr.mk (0 : Nat) (0 : Nat) none)))) (T.node (T.node (T.node T.leaf (some (Value.func (Go.Fn.yield (16 : Nat)) (Array.mk (List.map tyv ts)) (Array.mk []))) T.leaf) none T.leaf) none T.leaf))) (AH.mk (T.node (T.node T.leaf (some (AObj.gro l1 [] (3 : Nat))) T.leaf) (some (AObj.cells [Value.int .i64 u, Value.func (Go.Fn.yield (16 : Nat)) (Array.mk (List.map tyv ts)) (Array.mk []), Value.func (Go.Fn.yield (7 : Nat)) (Array.mk (List.map viv vs)) (Array.mk [])] (25 : Nat))) (T.node T.leaf (some (AObj.gro l2 [] (3 : Nat))) T.leaf)) (3 : Nat)))) (ChPre l1 l2 n m ∧ K (Value.tuple (Array.mk [Value.func (Go.Fn.yield (2 : Nat)) (Array.mk (List.map cv (chgL (List.map vI l1) (List.map vI l2)))) (Array.mk []), Value.int .i64 (0 : Int)])) (AH.mk (T.node (T.node T.leaf (some AObj.dead) T.leaf) (some (AObj.cells [Value.int .i64 u, Value.func (Go.Fn.yield (16 : Nat)) (Array.mk (List.map tyv ts)) (Array.mk []), Value.func (Go.Fn.yield (7 : Nat)) (Array.mk (List.map viv vs)) (Array.mk [])] (25 : Nat))) (T.node T.leaf (some AObj.dead) T.leaf)) (3 : Nat)))) := by kernel_rfl
theorem jBR1_nf (K : KV) (again : KF) (u : Int) (s : Int) (ts : List Ty) (vs : List Vi) (i : Nat) (n : Nat) (m : Nat) (l1 : List Go.Value) (l2 : List Go.Value) : jBR1 K again u s ts vs i n m l1 l2 = (Sp (decide ((↑i : Int) < (↑(List.length (List.map tyv ts)) : Int))) (((0 : Int) ≤ (↑i : Int) ∧ (↑i : Int) < (↑(List.length (List.map tyv ts)) : Int)) ∧ nth (List.map tyv ts) (Int.toNat (↑(Int.toNat (↑i : Int)) : Int)) = some (Value.agg (Array.mk [Value.int .i64 (Ty.g (tyAt (List.map tyv ts) (↑(Int.toNat (↑i : Int)) : Int))), Value.int .i64 (Ty.u (tyAt (List.map tyv ts) (↑(Int.toNat (↑i : Int)) : Int))), Value.int .i64 (Ty.a (tyAt (List.map tyv ts) (↑(Int.toNat (↑i : Int)) : Int))), Value.int .i64 (Ty.y (tyAt (List.map tyv ts) (↑(Int.toNat (↑i : Int)) : Int))), Value.string (Ty.nm (tyAt (List.map tyv ts) (↑(Int.toNat (↑i : Int)) : Int))), Value.int .i64 (Ty.sn (tyAt (List.map tyv ts) (↑(Int.toNat (↑i : Int)) : Int))), Value.int .i64 (Ty.se (tyAt (List.map tyv ts) (↑(Int.toNat (↑i : Int)) : Int))), Value.int .i64 (Ty.ca (tyAt (List.map tyv ts) (↑(Int.toNat (↑i : Int)) : Int))), Value.int .i64 (Ty.be (tyAt (List.map tyv ts) (↑(Int.toNat (↑i : Int)) : Int))), Value.int .i64 (Ty.le (tyAt (List.map tyv ts) (↑(Int.toNat (↑i : Int)) : Int))), Value.int .i64 (Ty.ba (tyAt (List.map tyv ts) (↑(Int.toNat (↑i : Int)) : Int))), Value.int .i64 (Ty.en (tyAt (List.map tyv ts) (↑(Int.toNat (↑i : Int)) : Int))), Value.int .i64 (Ty.oc (tyAt (List.map tyv ts) (↑(Int.toNat (↑i : Int)) : Int))), Value.int .i64 (Ty.su (tyAt (List.map tyv ts) (↑(Int.toNat (↑i : Int)) : Int))), Value.int .i64 (Ty.sb (tyAt (List.map tyv ts) (↑(Int.toNat (↑i : Int)) : Int))), Value.int .i64 (Ty.fa (tyAt (List.map tyv ts) (↑(Int.toNat (↑i : Int)) : Int)))])) ∧ Sp (staysB (tyAt (List.map tyv ts) (↑(Int.toNat (↑i : Int)) : Int)) s) (Sp (!decide (Ty.be (tyAt (List.map tyv ts) (↑(Int.toNat (↑i : Int)) : Int)) = (-1 : Int))) ((List.all [Value.int .i64 (Ty.be (tyAt (List.map tyv ts) (↑(Int.toNat (↑i : Int)) : Int)))] cellv = Bool.true ∧ n + (0 : Nat) = List.length l1 ∧ n + (1 : Nat) ≤ (70368744177664 : Nat) ∧ (n + (1 : Nat)) * (8 : Nat) ≤ (140737488355328 : Nat)) ∧ Value.agg (Array.mk [Value.int .i64 u, Value.func (Go.Fn.yield (16 : Nat)) (Array.mk (List.map tyv ts)) (Array.mk []), Value.func (Go.Fn.yield (7 : Nat)) (Array.mk (List.map viv vs)) (Array.mk [])]) = Value.agg (Array.mk [Value.int .i64 u, Value.func (Go.Fn.yield (16 : Nat)) (Array.mk (List.map tyv ts)) (Array.mk []), Value.func (Go.Fn.yield (7 : Nat)) (Array.mk (List.map viv vs)) (Array.mk [])]) ∧ Value.agg (Array.mk [Value.int .i64 (Ty.g (tyAt (List.map tyv ts) (↑(Int.toNat (↑i : Int)) : Int))), Value.int .i64 (Ty.u (tyAt (List.map tyv ts) (↑(Int.toNat (↑i : Int)) : Int))), Value.int .i64 (Ty.a (tyAt (List.map tyv ts) (↑(Int.toNat (↑i : Int)) : Int))), Value.int .i64 (Ty.y (tyAt (List.map tyv ts) (↑(Int.toNat (↑i : Int)) : Int))), Value.string (Ty.nm (tyAt (List.map tyv ts) (↑(Int.toNat (↑i : Int)) : Int))), Value.int .i64 (Ty.sn (tyAt (List.map tyv ts) (↑(Int.toNat (↑i : Int)) : Int))), Value.int .i64 (Ty.se (tyAt (List.map tyv ts) (↑(Int.toNat (↑i : Int)) : Int))), Value.int .i64 (Ty.ca (tyAt (List.map tyv ts) (↑(Int.toNat (↑i : Int)) : Int))), Value.int .i64 (Ty.be (tyAt (List.map tyv ts) (↑(Int.toNat (↑i : Int)) : Int))), Value.int .i64 (Ty.le (tyAt (List.map tyv ts) (↑(Int.toNat (↑i : Int)) : Int))), Value.int .i64 (Ty.ba (tyAt (List.map tyv ts) (↑(Int.toNat (↑i : Int)) : Int))), Value.int .i64 (Ty.en (tyAt (List.map tyv ts) (↑(Int.toNat (↑i : Int)) : Int))), Value.int .i64 (Ty.oc (tyAt (List.map tyv ts) (↑(Int.toNat (↑i : Int)) : Int))), Value.int .i64 (Ty.su (tyAt (List.map tyv ts) (↑(Int.toNat (↑i : Int)) : Int))), Value.int .i64 (Ty.sb (tyAt (List.map tyv ts) (↑(Int.toNat (↑i : Int)) : Int))), Value.int .i64 (Ty.fa (tyAt (List.map tyv ts) (↑(Int.toNat (↑i : Int)) : Int)))]) = Value.agg (Array.mk [Value.int .i64 (Ty.g (tyAt (List.map tyv ts) (↑(Int.toNat (↑i : Int)) : Int))), Value.int .i64 (Ty.u (tyAt (List.map tyv ts) (↑(Int.toNat (↑i : Int)) : Int))), Value.int .i64 (Ty.a (tyAt (List.map tyv ts) (↑(Int.toNat (↑i : Int)) : Int))), Value.int .i64 (Ty.y (tyAt (List.map tyv ts) (↑(Int.toNat (↑i : Int)) : Int))), Value.string (Ty.nm (tyAt (List.map tyv ts) (↑(Int.toNat (↑i : Int)) : Int))), Value.int .i64 (Ty.sn (tyAt (List.map tyv ts) (↑(Int.toNat (↑i : Int)) : Int))), Value.int .i64 (Ty.se (tyAt (List.map tyv ts) (↑(Int.toNat (↑i : Int)) : Int))), Value.int .i64 (Ty.ca (tyAt (List.map tyv ts) (↑(Int.toNat (↑i : Int)) : Int))), Value.int .i64 (Ty.be (tyAt (List.map tyv ts) (↑(Int.toNat (↑i : Int)) : Int))), Value.int .i64 (Ty.le (tyAt (List.map tyv ts) (↑(Int.toNat (↑i : Int)) : Int))), Value.int .i64 (Ty.ba (tyAt (List.map tyv ts) (↑(Int.toNat (↑i : Int)) : Int))), Value.int .i64 (Ty.en (tyAt (List.map tyv ts) (↑(Int.toNat (↑i : Int)) : Int))), Value.int .i64 (Ty.oc (tyAt (List.map tyv ts) (↑(Int.toNat (↑i : Int)) : Int))), Value.int .i64 (Ty.su (tyAt (List.map tyv ts) (↑(Int.toNat (↑i : Int)) : Int))), Value.int .i64 (Ty.sb (tyAt (List.map tyv ts) (↑(Int.toNat (↑i : Int)) : Int))), Value.int .i64 (Ty.fa (tyAt (List.map tyv ts) (↑(Int.toNat (↑i : Int)) : Int)))]) ∧ (List.map tyv ts = List.map tyv ts ∧ List.map viv vs = List.map viv vs) ∧ (List.all [Value.int .i64 (orI (Ty.le (tyAt (List.map tyv ts) (↑(Int.toNat (↑i : Int)) : Int))) u)] cellv = Bool.true ∧ m + (0 : Nat) = List.length l2 ∧ m + (1 : Nat) ≤ (70368744177664 : Nat) ∧ (m + (1 : Nat)) * (8 : Nat) ≤ (140737488355328 : Nat)) ∧ HF (Value.func (Go.Fn.yield (16 : Nat)) (Array.mk (List.map tyv ts)) (Array.mk [])) ∧ HF (Value.func (Go.Fn.yield (16 : Nat)) (Array.mk (List.map tyv ts)) (Array.mk [])) ∧ HF (Value.func (Go.Fn.yield (7 : Nat)) (Array.mk (List.map viv vs)) (Array.mk [])) ∧ HF (Value.agg (Array.mk (l1 ++ [Value.int .i64 (Ty.be (tyAt (List.map tyv ts) (↑(Int.toNat (↑i : Int)) : Int)))]))) ∧ HF (Value.agg (Array.mk (l2 ++ [Value.int .i64 (orI (Ty.le (tyAt (List.map tyv ts) (↑(Int.toNat (↑i : Int)) : Int))) u)]))) ∧ again (T.node (T.node (T.node (T.node T.leaf (some (Value.slice (some (Go.Addr.mk (1 : Nat) (0 : Nat) none)) (n + (1 : Nat)) (18446744073709551620 : Nat))) T.leaf) none (T.node (T.node T.leaf (some (Value.int .i64 (↑(List.length (List.map tyv ts)) : Int))) T.leaf) none T.leaf)) (some (Value.int .i64 s)) T.leaf) none (T.node (T.node (T.node T.leaf (some (Value.slice (some (Go.Addr.mk (2 : Nat) (0 : Nat) none)) (m + (1 : Nat)) (18446744073709551620 : Nat))) T.leaf) none (T.node (T.node T.leaf (some (Value.int .i64 (IntKind.wrap .i64 ((↑i : Int) + (1 : Int))))) T.leaf) none T.leaf)) (some (Value.pointer (some (Go.Addr.mk (0 : Nat) (0 : Nat) none)))) (T.node (T.node (T.node T.leaf (some (Value.func (Go.Fn.yield (16 : Nat)) (Array.mk (List.map tyv ts)) (Array.mk []))) T.leaf) none T.leaf) none T.leaf))) (AH.mk (T.node (T.node T.leaf (some (AObj.gro (l1 ++ [Value.int .i64 (Ty.be (tyAt (List.map tyv ts) (↑(Int.toNat (↑i : Int)) : Int)))]) [] (3 : Nat))) T.leaf) (some (AObj.cells [Value.int .i64 u, Value.func (Go.Fn.yield (16 : Nat)) (Array.mk (List.map tyv ts)) (Array.mk []), Value.func (Go.Fn.yield (7 : Nat)) (Array.mk (List.map viv vs)) (Array.mk [])] (25 : Nat))) (T.node T.leaf (some (AObj.gro (l2 ++ [Value.int .i64 (orI (Ty.le (tyAt (List.map tyv ts) (↑(Int.toNat (↑i : Int)) : Int))) u)]) [] (3 : Nat))) T.leaf)) (3 : Nat))) (HF (Value.func (Go.Fn.yield (16 : Nat)) (Array.mk (List.map tyv ts)) (Array.mk [])) ∧ HF (Value.func (Go.Fn.yield (16 : Nat)) (Array.mk (List.map tyv ts)) (Array.mk [])) ∧ HF (Value.func (Go.Fn.yield (7 : Nat)) (Array.mk (List.map viv vs)) (Array.mk [])) ∧ HF (Value.agg (Array.mk l1)) ∧ HF (Value.agg (Array.mk l2)) ∧ again (T.node (T.node (T.node (T.node T.leaf (some (Value.slice (some (Go.Addr.mk (1 : Nat) (0 : Nat) none)) n (18446744073709551620 : Nat))) T.leaf) none (T.node (T.node T.leaf (some (Value.int .i64 (↑(List.length (List.map tyv ts)) : Int))) T.leaf) none T.leaf)) (some (Value.int .i64 s)) T.leaf) none (T.node (T.node (T.node T.leaf (some (Value.slice (some (Go.Addr.mk (2 : Nat) (0 : Nat) none)) m (18446744073709551620 : Nat))) T.leaf) none (T.node (T.node T.leaf (some (Value.int .i64 (IntKind.wrap .i64 ((↑i : Int) + (1 : Int))))) T.leaf) none T.leaf)) (some (Value.pointer (some (Go.Addr.mk (0 : Nat) (0 : Nat) none)))) (T.node (T.node (T.node T.leaf (some (Value.func (Go.Fn.yield (16 : Nat)) (Array.mk (List.map tyv ts)) (Array.mk []))) T.leaf) none T.leaf) none T.leaf))) (AH.mk (T.node (T.node T.leaf (some (AObj.gro l1 [] (3 : Nat))) T.leaf) (some (AObj.cells [Value.int .i64 u, Value.func (Go.Fn.yield (16 : Nat)) (Array.mk (List.map tyv ts)) (Array.mk []), Value.func (Go.Fn.yield (7 : Nat)) (Array.mk (List.map viv vs)) (Array.mk [])] (25 : Nat))) (T.node T.leaf (some (AObj.gro l2 [] (3 : Nat))) T.leaf)) (3 : Nat)))) (HF (Value.func (Go.Fn.yield (16 : Nat)) (Array.mk (List.map tyv ts)) (Array.mk [])) ∧ HF (Value.func (Go.Fn.yield (16 : Nat)) (Array.mk (List.map tyv ts)) (Array.mk [])) ∧ HF (Value.func (Go.Fn.yield (7 : Nat)) (Array.mk (List.map viv vs)) (Array.mk [])) ∧ HF (Value.agg (Array.mk l1)) ∧ HF (Value.agg (Array.mk l2)) ∧ again (T.node (T.node (T.node (T.node T.leaf (some (Value.slice (some (Go.Addr.mk (1 : Nat) (0 : Nat) none)) n (18446744073709551620 : Nat))) T.leaf) none (T.node (T.node T.leaf (some (Value.int .i64 (↑(List.length (List.map tyv ts)) : Int))) T.leaf) none T.leaf)) (some (Value.int .i64 s)) T.leaf) none (T.node (T.node (T.node T.leaf (some (Value.slice (some (Go.Addr.mk (2 : Nat) (0 : Nat) none)) m (18446744073709551620 : Nat))) T.leaf) none (T.node (T.node T.leaf (some (Value.int .i64 (IntKind.wrap .i64 ((↑i : Int) + (1 : Int))))) T.leaf) none T.leaf)) (some (Value.pointer (some (Go.Addr.mk (0 : Nat) (0 : Nat) none)))) (T.node (T.node (T.node T.leaf (some (Value.func (Go.Fn.yield (16 : Nat)) (Array.mk (List.map tyv ts)) (Array.mk []))) T.leaf) none T.leaf) none T.leaf))) (AH.mk (T.node (T.node T.leaf (some (AObj.gro l1 [] (3 : Nat))) T.leaf) (some (AObj.cells [Value.int .i64 u, Value.func (Go.Fn.yield (16 : Nat)) (Array.mk (List.map tyv ts)) (Array.mk []), Value.func (Go.Fn.yield (7 : Nat)) (Array.mk (List.map viv vs)) (Array.mk [])] (25 : Nat))) (T.node T.leaf (some (AObj.gro l2 [] (3 : Nat))) T.leaf)) (3 : Nat)))) (ChPre l1 l2 n m ∧ K (Value.tuple (Array.mk [Value.func (Go.Fn.yield (2 : Nat)) (Array.mk (List.map cv (chgL (List.map vI l1) (List.map vI l2)))) (Array.mk []), Value.int .i64 (0 : Int)])) (AH.mk (T.node (T.node T.leaf (some AObj.dead) T.leaf) (some (AObj.cells [Value.int .i64 u, Value.func (Go.Fn.yield (16 : Nat)) (Array.mk (List.map tyv ts)) (Array.mk []), Value.func (Go.Fn.yield (7 : Nat)) (Array.mk (List.map viv vs)) (Array.mk [])] (25 : Nat))) (T.node T.leaf (some AObj.dead) T.leaf)) (3 : Nat)))) := by kernel_rfl
theorem or_walk (t o : Int) : Walk env Proofs.Tryz.f50 [.int .i64 t, .int .i64 o] (.int .i64 (orI t o)) := by
  refine sxFn_plain X0n_ok (d := 1) (HFi _ _) ((jOr_nf _ _ t o).mpr ?_)
  refine Sp.intro (fun h => ?_) (fun h => ?_) <;> exact congrArg (Value.int .i64) (by simp only [orI, h, cond_true, cond_false])
theorem end_walk (u : Int) (ts : List Ty) (vs : List Vi) (x : Ty) : Walk env Proofs.Tryz.f54 [logv u (ts.map tyv) (vs.map viv), tyv x] (.int .i64 (orI x.le u)) := by
  refine sxFn_plain X0n_ok (d := 1) (HFi _ _) ((jEnd_nf _ _ u _ _ x).mpr ?_)
  refine Sp.intro (fun h => ?_) (fun h => ?_) <;> exact congrArg (Value.int .i64) (by simp only [orI, h, cond_true, cond_false])
theorem adm_walk (x : Ty) (s : Int) : Walk env Proofs.Tryz.f49 [tyv x, .int .i64 s] (.bool (staysB x s)) := by
  refine sxFn_plain X0n_ok (d := 1) (HFb _) ((jAdm_nf _ _ x s).mpr ?_)
  repeat' (refine Sp.intro (fun h => ?_) (fun h => ?_))
  all_goals
    refine congrArg Value.bool ?_
    simp only [staysB, *, Bool.true_and, Bool.false_and, Bool.and_false, Bool.true_or, Bool.false_or]
theorem sty_walk (x : Ty) (s : Int) : Walk env Proofs.Tryz.f53 [tyv x, .int .i64 s] (.bool (staysB x s)) := by
  refine sxFn_plain X0n_ok (d := 1) (HFb _) ((jSty_nf _ _ x s).mpr ?_)
  repeat' (refine Sp.intro (fun h => ?_) (fun h => ?_))
  all_goals
    refine congrArg Value.bool ?_
    simp only [staysB, *, Bool.not_true, Bool.not_false, Bool.not_not, Bool.true_and, Bool.false_and, Bool.and_false, Bool.true_or, Bool.false_or]
theorem or_tab : ∀ args A p v A', pureR (fun _ => none) orX args A = some (p, v, A') → PH p → CallAt env 50 args A v A' := walk_tab env_ok env_gl (fn := Proofs.Tryz.f50) rfl fun args v h hp => by
  unfold orX at h
  split at h
  · simp only [Option.some.injEq] at h
    subst h
    exact ⟨HF.cons (HFi _ _) (HF.cons (HFi _ _) HF.nil), or_walk _ _⟩
  · cases h
theorem end_tab (ts : List Ty) (vs : List Vi) : ∀ args A p v A', pureR (csPre ts vs) (endX ts vs) args A = some (p, v, A') → PH p → CallAt env 54 args A v A' := walk_tab env_ok env_gl (fn := Proofs.Tryz.f54) rfl fun args v h hp => by
  unfold endX at h
  split at h
  · rename_i u a b x0 x1 x2 x3 x4 x5 x6 x7 x8 x9 x10 x11 x12 x13 x14 x15
    simp only [Option.some.injEq] at h
    subst h
    obtain ⟨rfl, rfl⟩ := hp
    exact ⟨HF.cons (HF_log _ ts vs) (HF.cons (HF_ty ⟨x0, x1, x2, x3, x4, x5, x6, x7, x8, x9, x10, x11, x12, x13, x14, x15⟩) HF.nil), end_walk u ts vs ⟨x0, x1, x2, x3, x4, x5, x6, x7, x8, x9, x10, x11, x12, x13, x14, x15⟩⟩
  · cases h
theorem adm_tab : ∀ args A p v A', pureR (fun _ => none) stayX args A = some (p, v, A') → PH p → CallAt env 49 args A v A' := walk_tab env_ok env_gl (fn := Proofs.Tryz.f49) rfl fun args v h hp => by
  unfold stayX at h
  split at h
  · simp only [Option.some.injEq] at h
    subst h
    exact ⟨HF.cons (HF_ty ⟨_, _, _, _, _, _, _, _, _, _, _, _, _, _, _, _⟩) (HF.cons (HFi _ _) HF.nil), adm_walk ⟨_, _, _, _, _, _, _, _, _, _, _, _, _, _, _, _⟩ _⟩
  · cases h
theorem sty_tab : ∀ args A p v A', pureR (fun _ => none) stayX args A = some (p, v, A') → PH p → CallAt env 53 args A v A' := walk_tab env_ok env_gl (fn := Proofs.Tryz.f53) rfl fun args v h hp => by
  unfold stayX at h
  split at h
  · simp only [Option.some.injEq] at h
    subst h
    exact ⟨HF.cons (HF_ty ⟨_, _, _, _, _, _, _, _, _, _, _, _, _, _, _, _⟩) (HF.cons (HFi _ _) HF.nil), sty_walk ⟨_, _, _, _, _, _, _, _, _, _, _, _, _, _, _, _⟩ _⟩
  · cases h
theorem ints_HF (l : List Int) : ∀ x ∈ cellsL (l.map (Value.int .i64)), HF x := by rw [cellsL_ints]; exact HF_ints _ l
theorem chE_ok {g : Func} (hw : ∀ us ds : List Int, us.length ≤ 20000 → ds.length ≤ 20000 → (∀ x ∈ ds, x ≤ 1000000000000) → WalkZ env g [.slice (some ⟨0, 0, none⟩) us.length (unk + 3 + 1), .slice (some ⟨1, 0, none⟩) ds.length (unk + 3 + 1)] ⟨two (.gro (us.map (Value.int .i64)) [] 3) (.gro (ds.map (Value.int .i64)) [] 3), 2⟩ (dat 2 ((chgL us ds).map cv))) :
    ∀ l1 l2 n1 n2 p v, chE l1 l2 n1 n2 = some (p, v) → PH p → (∀ x ∈ cellsL l1, HF x) ∧ (∀ x ∈ cellsL l2, HF x) ∧ WalkZ env g [.slice (some ⟨0, 0, none⟩) n1 (unk + 3 + 1), .slice (some ⟨1, 0, none⟩) n2 (unk + 3 + 1)] ⟨two (.gro l1 [] 3) (.gro l2 [] 3), 2⟩ v := by
  intro l1 l2 n1 n2 p v h hp
  simp only [chE, Option.some.injEq, Prod.mk.injEq] at h
  obtain ⟨rfl, rfl⟩ := h
  obtain ⟨ps, u, rfl, rfl, rfl, rfl, h1, h2, h3⟩ : ChPre l1 l2 n1 n2 := hp
  refine ⟨ints_HF _, ints_HF _, ?_⟩
  have h4 := hw (ups ps) (dns ps) (by simpa [ups] using h3) (by simpa [dns] using h3) (fun x hx => by have := dns_in h1 x hx; omega)
  unfold chV
  rw [vI_map, vI_map]
  simp only [ups, dns, List.length_map] at h4 ⊢
  exact h4
theorem tabN_ok (ts : List Ty) (vs : List Vi) : TabOk env (tabN ts vs) := .cons (csW_tab ts vs) (.cons (csR_tab ts vs) (.cons adm_tab (.cons sty_tab (.cons or_tab (.cons (end_tab ts vs) (.cons (eat2_ok env_ok (fn := Proofs.Tryz.f51) rfl (chE_ok fun us ds h1 h2 h3 => CW_changes us ds h1 h2 h3)) (.cons (eat2_ok env_ok (fn := Proofs.Tryz.f55) rfl (chE_ok fun us ds h1 h2 _ => CR_changes us ds h1 h2)) .nil)))))))
theorem XN_ok (ts : List Ty) (vs : List Vi) : (XN ts vs).Ok := ⟨env_ok, env_sym, env_gl, tabN_ok ts vs⟩
def wantN (o : List Ch) (e : Int) : Value := .tuple ⟨[dat 2 (o.map cv), .int .i64 e]⟩
theorem HF_wantN (o : List Ch) (e : Int) : HF (wantN o e) := .tuple (HF.cons (HF_chs o) (HF.cons (HFi _ _) HF.nil))
theorem ups_snoc (ps : Prs) (p : Int × Int) : (ups (ps ++ [p])).map (Value.int .i64) = (ups ps).map (Value.int .i64) ++ [.int .i64 p.1] := by simp [ups]
theorem dns_snoc (ps : Prs) (p : Int × Int) : (dns (ps ++ [p])).map (Value.int .i64) = (dns ps).map (Value.int .i64) ++ [.int .i64 p.2] := by simp [dns]
theorem ups_len (ps : Prs) : (ups ps).length = ps.length := by simp [ups]
theorem dns_len (ps : Prs) : (dns ps).length = ps.length := by simp [dns]
theorem selB_yes {x : Ty} {s : Int} (h1 : staysB x s = true) (h2 : (!decide (x.be = -1)) = true) : (decide (x.sn = s) && !decide (x.be = -1)) = true := by
  rw [h2, Bool.and_true]; simp [((stays_iff _ _).1 h1).1]
theorem selB_no {x : Ty} {u s : Int} (h : Times x u) (hs : staysB x s = false) : (decide (x.sn = s) && !decide (x.be = -1)) = false := by
  cases k : (decide (x.sn = s) && !decide (x.be = -1)) with
  | false => rfl
  | true =>
    simp only [Bool.and_eq_true, decide_eq_true_eq, Bool.not_eq_true', decide_eq_false_iff_not] at k
    have := (stays_iff x s).2 ⟨k.1, (h.be k.2).1, .inl k.2⟩
    rw [hs] at this
    cases this
theorem IW_loop (u s : Int) (ts : List Ty) (vs : List Vi) (ht : ts.length ≤ 20000) (hT : ∀ x ∈ ts, Times x u) (hu : 0 ≤ u ∧ u ≤ 1000000000000) (K : KV) (hK : ∀ v A, Frz A v (wantN (chO (selI s u) ts) 0) → K v A) :
    LAt (XN ts vs) 1 (Func.ntmps Proofs.Tryz.f20) (bodyOf Proofs.Tryz.f20) [1, 1, 1, 0, 1, 0] (finK (XN ts vs).E (Proofs.Tryz.f20.results).toList K) (frNs (ts.map tyv) s 0 0 0) (hNs u (ts.map tyv) (vs.map viv) [] []) := by
  refine LAt.stepN (XN_ok ts vs) nsN [] [] [1, 2, 7, 8, 18, 19, 20] (by kernel_rfl) (fun k F A => ∃ (i : Nat) (ps : Prs), F = frNs (ts.map tyv) s i ps.length ps.length ∧ A = hNs u (ts.map tyv) (vs.map viv) ((ups ps).map (Value.int .i64)) ((dns ps).map (Value.int .i64)) ∧ i + k = ts.length ∧ ps.length ≤ i ∧ ps ++ prsL (selI s u) (ts.drop i) = prsL (selI s u) ts) ?_ (k := ts.length) ⟨0, [], rfl, rfl, by simp, by simp, by simp⟩
  rintro k F A ⟨i, ps, rfl, rfl, hk, ho, he⟩
  refine (jIW1_nf _ _ u s ts vs i _ _ _ _).mpr ?_
  refine Sp.intro (fun h => ?_) (fun h => ?_)
  · have hlt : i < ts.length := by simpa using h
    rw [prs_step hlt] at he
    have hw : IntKind.i64.wrap ((i : Int) + 1) = ((i + 1 : Nat) : Int) := by rw [i64_in (by omega) (by omega)]; rfl
    have hps : ∀ ps1 : Prs, addP (selI s u) ps ts[i] = ps1 → ps1.length ≤ i + 1 := fun ps1 e => by
      subst e
      unfold addP
      cases selI s u ts[i] with
      | none => simp only; omega
      | some p => simp; omega
    have go : ∀ (ps1 : Prs) F1 A1, addP (selI s u) ps ts[i] = ps1 → F1 = frNs (ts.map tyv) s (i + 1) ps1.length ps1.length → A1 = hNs u (ts.map tyv) (vs.map viv) ((ups ps1).map (Value.int .i64)) ((dns ps1).map (Value.int .i64)) → ∃ k', k' < k ∧ ∃ (i : Nat) (ps : Prs), F1 = frNs (ts.map tyv) s i ps.length ps.length ∧ A1 = hNs u (ts.map tyv) (vs.map viv) ((ups ps).map (Value.int .i64)) ((dns ps).map (Value.int .i64)) ∧ i + k' = ts.length ∧ ps.length ≤ i ∧ ps ++ prsL (selI s u) (ts.drop i) = prsL (selI s u) ts := fun ps1 F1 A1 a1 a2 a3 =>
      ⟨k - 1, by omega, i + 1, ps1, a2, a3, by omega, hps ps1 a1, by rw [← he, a1]⟩
    simp only [Int.toNat_natCast, ty_at hlt, hw, Nat.add_zero]
    refine ⟨ty_b hlt, ty_nth hlt, Sp.intro (fun c1 => ?_) (fun c1 => ?_)⟩
    · have hs : selI s u ts[i] = some (ts[i].ca, orI ts[i].le u) := by simp only [selI, c1, cond_true]
      have ha : addP (selI s u) ps ts[i] = ps ++ [(ts[i].ca, orI ts[i].le u)] := by simp only [addP, hs]
      refine ⟨⟨by first | rfl | trivial, by rw [List.length_map, ups_len], by omega, by omega⟩, (by first | trivial | simp), (by first | trivial | simp), ⟨by first | rfl | trivial, by rw [List.length_map, dns_len], by omega, by omega⟩, HF_tys ts, HF_tys ts, HF_vis vs, ?_, ?_, ?_⟩
      · have := HF_is (ups (ps ++ [(ts[i].ca, orI ts[i].le u)])); rw [ups_snoc] at this; exact this
      · have := HF_is (dns (ps ++ [(ts[i].ca, orI ts[i].le u)])); rw [dns_snoc] at this; exact this
      · exact go _ _ _ ha (by rw [List.length_append]; rfl) (by rw [ups_snoc, dns_snoc]; rfl)
    · have hs : selI s u ts[i] = none := by simp only [selI, c1, cond_false]
      have ha : addP (selI s u) ps ts[i] = ps := by simp only [addP, hs]
      exact ⟨HF_tys ts, HF_tys ts, HF_vis vs, HF_is _, HF_is _, go _ _ _ ha rfl rfl⟩
  · have hn : ts.length ≤ i := by simpa using h
    rw [List.drop_eq_nil_of_le hn] at he
    have he : ps = prsL (selI s u) ts := by simpa [prsL] using he
    subst he
    refine ⟨⟨_, u, rfl, rfl, rfl, rfl, prs_ok (fun x hx => sel_in (hT x hx) hu.1), hu.2, by omega⟩, hK _ _ ?_⟩
    rw [vI_map, vI_map]
    exact .same (HF_wantN (chO (selI s u) ts) 0)
theorem IW_walk (u s : Int) (ts : List Ty) (vs : List Vi) : Walk env Proofs.Tryz.f20 [logv u (ts.map tyv) (vs.map viv), .int .i64 s] (wantN (bif decide (stE u ts vs s = 0) then chO (selI s u) ts else []) (stE u ts vs s)) := by
  refine sxFn_frz (XN_ok ts vs) (d := 1) ((jIW_nf _ u s ts vs).mpr ?_)
  refine ⟨⟨rfl, rfl⟩, Sp.intro (fun h => ?_) (fun h => ?_)⟩
  · rw [Bool.not_eq_true'] at h
    rw [h]
    exact .tuple (.cons (.nils 2) (.cons (.same (HFi _ _)) .nil))
  · rw [Bool.not_eq_false'] at h
    have h0 := of_decide_eq_true h
    obtain ⟨hu, hl, hc⟩ := logOk (stE0 h0)
    rw [h, h0]
    exact ⟨HF_tys ts, HF_tys ts, HF_vis vs, HF_is [], HF_is [], IW_loop u s ts vs hl.1 (fun x hx => chk_times (chkAll hc x hx)) hu _ (fun v A h => h)⟩
theorem IR_loop (u s : Int) (ts : List Ty) (vs : List Vi) (ht : ts.length ≤ 20000) (hT : ∀ x ∈ ts, Times x u) (hu : 0 ≤ u ∧ u ≤ 1000000000000) (K : KV) (hK : ∀ v A, Frz A v (wantN (chO (selI s u) ts) 0) → K v A) :
    LAt (XN ts vs) 1 (Func.ntmps Proofs.Tryz.f21) (bodyOf Proofs.Tryz.f21) [1, 1, 1, 0, 1, 0] (finK (XN ts vs).E (Proofs.Tryz.f21.results).toList K) (frNs (ts.map tyv) s 0 0 0) (hNs u (ts.map tyv) (vs.map viv) [] []) := by
  refine LAt.stepN (XN_ok ts vs) nsN [] [] [1, 2, 7, 8, 18, 19, 20] (by kernel_rfl) (fun k F A => ∃ (i : Nat) (ps : Prs), F = frNs (ts.map tyv) s i ps.length ps.length ∧ A = hNs u (ts.map tyv) (vs.map viv) ((ups ps).map (Value.int .i64)) ((dns ps).map (Value.int .i64)) ∧ i + k = ts.length ∧ ps.length ≤ i ∧ ps ++ prsL (selI s u) (ts.drop i) = prsL (selI s u) ts) ?_ (k := ts.length) ⟨0, [], rfl, rfl, by simp, by simp, by simp⟩
  rintro k F A ⟨i, ps, rfl, rfl, hk, ho, he⟩
  refine (jIR1_nf _ _ u s ts vs i _ _ _ _).mpr ?_
  refine Sp.intro (fun h => ?_) (fun h => ?_)
  · have hlt : i < ts.length := by simpa using h
    rw [prs_step hlt] at he
    have hw : IntKind.i64.wrap ((i : Int) + 1) = ((i + 1 : Nat) : Int) := by rw [i64_in (by omega) (by omega)]; rfl
    have hps : ∀ ps1 : Prs, addP (selI s u) ps ts[i] = ps1 → ps1.length ≤ i + 1 := fun ps1 e => by
      subst e
      unfold addP
      cases selI s u ts[i] with
      | none => simp only; omega
      | some p => simp; omega
    have go : ∀ (ps1 : Prs) F1 A1, addP (selI s u) ps ts[i] = ps1 → F1 = frNs (ts.map tyv) s (i + 1) ps1.length ps1.length → A1 = hNs u (ts.map tyv) (vs.map viv) ((ups ps1).map (Value.int .i64)) ((dns ps1).map (Value.int .i64)) → ∃ k', k' < k ∧ ∃ (i : Nat) (ps : Prs), F1 = frNs (ts.map tyv) s i ps.length ps.length ∧ A1 = hNs u (ts.map tyv) (vs.map viv) ((ups ps).map (Value.int .i64)) ((dns ps).map (Value.int .i64)) ∧ i + k' = ts.length ∧ ps.length ≤ i ∧ ps ++ prsL (selI s u) (ts.drop i) = prsL (selI s u) ts := fun ps1 F1 A1 a1 a2 a3 =>
      ⟨k - 1, by omega, i + 1, ps1, a2, a3, by omega, hps ps1 a1, by rw [← he, a1]⟩
    simp only [Int.toNat_natCast, ty_at hlt, hw, Nat.add_zero]
    refine ⟨ty_b hlt, ty_nth hlt, Sp.intro (fun c1 => ?_) (fun c1 => ?_)⟩
    · have hs : selI s u ts[i] = some (ts[i].ca, orI ts[i].le u) := by simp only [selI, c1, cond_true]
      have ha : addP (selI s u) ps ts[i] = ps ++ [(ts[i].ca, orI ts[i].le u)] := by simp only [addP, hs]
      refine ⟨⟨by first | rfl | trivial, by rw [List.length_map, ups_len], by omega, by omega⟩, (by first | trivial | simp), (by first | trivial | simp), (by first | trivial | simp), ⟨by first | rfl | trivial, by rw [List.length_map, dns_len], by omega, by omega⟩, HF_tys ts, HF_tys ts, HF_vis vs, ?_, ?_, ?_⟩
      · have := HF_is (ups (ps ++ [(ts[i].ca, orI ts[i].le u)])); rw [ups_snoc] at this; exact this
      · have := HF_is (dns (ps ++ [(ts[i].ca, orI ts[i].le u)])); rw [dns_snoc] at this; exact this
      · exact go _ _ _ ha (by rw [List.length_append]; rfl) (by rw [ups_snoc, dns_snoc]; rfl)
    · have hs : selI s u ts[i] = none := by simp only [selI, c1, cond_false]
      have ha : addP (selI s u) ps ts[i] = ps := by simp only [addP, hs]
      exact ⟨HF_tys ts, HF_tys ts, HF_vis vs, HF_is _, HF_is _, go _ _ _ ha rfl rfl⟩
  · have hn : ts.length ≤ i := by simpa using h
    rw [List.drop_eq_nil_of_le hn] at he
    have he : ps = prsL (selI s u) ts := by simpa [prsL] using he
    subst he
    refine ⟨⟨_, u, rfl, rfl, rfl, rfl, prs_ok (fun x hx => sel_in (hT x hx) hu.1), hu.2, by omega⟩, hK _ _ ?_⟩
    rw [vI_map, vI_map]
    exact .same (HF_wantN (chO (selI s u) ts) 0)
theorem IR_walk (u s : Int) (ts : List Ty) (vs : List Vi) : Walk env Proofs.Tryz.f21 [logv u (ts.map tyv) (vs.map viv), .int .i64 s] (wantN (bif decide (stE u ts vs s = 0) then chO (selI s u) ts else []) (stE u ts vs s)) := by
  refine sxFn_frz (XN_ok ts vs) (d := 1) ((jIR_nf _ u s ts vs).mpr ?_)
  refine ⟨⟨rfl, rfl⟩, Sp.intro (fun h => ?_) (fun h => ?_)⟩
  · rw [Bool.not_eq_true'] at h
    rw [h]
    exact .tuple (.cons (.nils 2) (.cons (.same (HFi _ _)) .nil))
  · rw [Bool.not_eq_false'] at h
    have h0 := of_decide_eq_true h
    obtain ⟨hu, hl, hc⟩ := logOk (stE0 h0)
    rw [h, h0]
    exact ⟨HF_tys ts, HF_tys ts, HF_vis vs, HF_is [], HF_is [], IR_loop u s ts vs hl.1 (fun x hx => chk_times (chkAll hc x hx)) hu _ (fun v A h => h)⟩
theorem BW_loop (u s : Int) (ts : List Ty) (vs : List Vi) (ht : ts.length ≤ 20000) (hT : ∀ x ∈ ts, Times x u) (hu : 0 ≤ u ∧ u ≤ 1000000000000) (K : KV) (hK : ∀ v A, Frz A v (wantN (chO (selB s u) ts) 0) → K v A) :
    LAt (XN ts vs) 1 (Func.ntmps Proofs.Tryz.f22) (bodyOf Proofs.Tryz.f22) [1, 1, 1, 0, 1, 0] (finK (XN ts vs).E (Proofs.Tryz.f22.results).toList K) (frNs (ts.map tyv) s 0 0 0) (hNs u (ts.map tyv) (vs.map viv) [] []) := by
  refine LAt.stepN (XN_ok ts vs) nsN [] [] [1, 2, 7, 8, 18, 19, 20] (by kernel_rfl) (fun k F A => ∃ (i : Nat) (ps : Prs), F = frNs (ts.map tyv) s i ps.length ps.length ∧ A = hNs u (ts.map tyv) (vs.map viv) ((ups ps).map (Value.int .i64)) ((dns ps).map (Value.int .i64)) ∧ i + k = ts.length ∧ ps.length ≤ i ∧ ps ++ prsL (selB s u) (ts.drop i) = prsL (selB s u) ts) ?_ (k := ts.length) ⟨0, [], rfl, rfl, by simp, by simp, by simp⟩
  rintro k F A ⟨i, ps, rfl, rfl, hk, ho, he⟩
  refine (jBW1_nf _ _ u s ts vs i _ _ _ _).mpr ?_
  refine Sp.intro (fun h => ?_) (fun h => ?_)
  · have hlt : i < ts.length := by simpa using h
    rw [prs_step hlt] at he
    have hw : IntKind.i64.wrap ((i : Int) + 1) = ((i + 1 : Nat) : Int) := by rw [i64_in (by omega) (by omega)]; rfl
    have hps : ∀ ps1 : Prs, addP (selB s u) ps ts[i] = ps1 → ps1.length ≤ i + 1 := fun ps1 e => by
      subst e
      unfold addP
      cases selB s u ts[i] with
      | none => simp only; omega
      | some p => simp; omega
    have go : ∀ (ps1 : Prs) F1 A1, addP (selB s u) ps ts[i] = ps1 → F1 = frNs (ts.map tyv) s (i + 1) ps1.length ps1.length → A1 = hNs u (ts.map tyv) (vs.map viv) ((ups ps1).map (Value.int .i64)) ((dns ps1).map (Value.int .i64)) → ∃ k', k' < k ∧ ∃ (i : Nat) (ps : Prs), F1 = frNs (ts.map tyv) s i ps.length ps.length ∧ A1 = hNs u (ts.map tyv) (vs.map viv) ((ups ps).map (Value.int .i64)) ((dns ps).map (Value.int .i64)) ∧ i + k' = ts.length ∧ ps.length ≤ i ∧ ps ++ prsL (selB s u) (ts.drop i) = prsL (selB s u) ts := fun ps1 F1 A1 a1 a2 a3 =>
      ⟨k - 1, by omega, i + 1, ps1, a2, a3, by omega, hps ps1 a1, by rw [← he, a1]⟩
    simp only [Int.toNat_natCast, ty_at hlt, hw, Nat.add_zero]
    refine ⟨ty_b hlt, ty_nth hlt, Sp.intro (fun c1 => Sp.intro (fun c2 => ?_) (fun c2 => ?_)) (fun c1 => ?_)⟩
    · have hs : selB s u ts[i] = some (ts[i].be, orI ts[i].le u) := by simp only [selB, c1, c2, Bool.and_self, cond_true]
      have ha : addP (selB s u) ps ts[i] = ps ++ [(ts[i].be, orI ts[i].le u)] := by simp only [addP, hs]
      refine ⟨⟨by first | rfl | trivial, by rw [List.length_map, ups_len], by omega, by omega⟩, (by first | trivial | simp), (by first | trivial | simp), ⟨by first | rfl | trivial, by rw [List.length_map, dns_len], by omega, by omega⟩, HF_tys ts, HF_tys ts, HF_vis vs, ?_, ?_, ?_⟩
      · have := HF_is (ups (ps ++ [(ts[i].be, orI ts[i].le u)])); rw [ups_snoc] at this; exact this
      · have := HF_is (dns (ps ++ [(ts[i].be, orI ts[i].le u)])); rw [dns_snoc] at this; exact this
      · exact go _ _ _ ha (by rw [List.length_append]; rfl) (by rw [ups_snoc, dns_snoc]; rfl)
    · have hs : selB s u ts[i] = none := by simp only [selB, c1, c2, Bool.and_false, cond_false]
      have ha : addP (selB s u) ps ts[i] = ps := by simp only [addP, hs]
      exact ⟨HF_tys ts, HF_tys ts, HF_vis vs, HF_is _, HF_is _, go _ _ _ ha rfl rfl⟩
    · have hs : selB s u ts[i] = none := by simp only [selB, c1, Bool.false_and, cond_false]
      have ha : addP (selB s u) ps ts[i] = ps := by simp only [addP, hs]
      exact ⟨HF_tys ts, HF_tys ts, HF_vis vs, HF_is _, HF_is _, go _ _ _ ha rfl rfl⟩
  · have hn : ts.length ≤ i := by simpa using h
    rw [List.drop_eq_nil_of_le hn] at he
    have he : ps = prsL (selB s u) ts := by simpa [prsL] using he
    subst he
    refine ⟨⟨_, u, rfl, rfl, rfl, rfl, prs_ok (fun x hx => selB_in (hT x hx) hu.1), hu.2, by omega⟩, hK _ _ ?_⟩
    rw [vI_map, vI_map]
    exact .same (HF_wantN (chO (selB s u) ts) 0)
theorem BW_walk (u s : Int) (ts : List Ty) (vs : List Vi) : Walk env Proofs.Tryz.f22 [logv u (ts.map tyv) (vs.map viv), .int .i64 s] (wantN (bif decide (stE u ts vs s = 0) then chO (selB s u) ts else []) (stE u ts vs s)) := by
  refine sxFn_frz (XN_ok ts vs) (d := 1) ((jBW_nf _ u s ts vs).mpr ?_)
  refine ⟨⟨rfl, rfl⟩, Sp.intro (fun h => ?_) (fun h => ?_)⟩
  · rw [Bool.not_eq_true'] at h
    rw [h]
    exact .tuple (.cons (.nils 2) (.cons (.same (HFi _ _)) .nil))
  · rw [Bool.not_eq_false'] at h
    have h0 := of_decide_eq_true h
    obtain ⟨hu, hl, hc⟩ := logOk (stE0 h0)
    rw [h, h0]
    exact ⟨HF_tys ts, HF_tys ts, HF_vis vs, HF_is [], HF_is [], BW_loop u s ts vs hl.1 (fun x hx => chk_times (chkAll hc x hx)) hu _ (fun v A h => h)⟩
theorem BR_loop (u s : Int) (ts : List Ty) (vs : List Vi) (ht : ts.length ≤ 20000) (hT : ∀ x ∈ ts, Times x u) (hu : 0 ≤ u ∧ u ≤ 1000000000000) (K : KV) (hK : ∀ v A, Frz A v (wantN (chO (selB s u) ts) 0) → K v A) :
    LAt (XN ts vs) 1 (Func.ntmps Proofs.Tryz.f26) (bodyOf Proofs.Tryz.f26) [1, 1, 1, 0, 1, 0] (finK (XN ts vs).E (Proofs.Tryz.f26.results).toList K) (frNs (ts.map tyv) s 0 0 0) (hNs u (ts.map tyv) (vs.map viv) [] []) := by
  refine LAt.stepN (XN_ok ts vs) nsN [] [] [1, 2, 7, 8, 18, 19, 20] (by kernel_rfl) (fun k F A => ∃ (i : Nat) (ps : Prs), F = frNs (ts.map tyv) s i ps.length ps.length ∧ A = hNs u (ts.map tyv) (vs.map viv) ((ups ps).map (Value.int .i64)) ((dns ps).map (Value.int .i64)) ∧ i + k = ts.length ∧ ps.length ≤ i ∧ ps ++ prsL (selB s u) (ts.drop i) = prsL (selB s u) ts) ?_ (k := ts.length) ⟨0, [], rfl, rfl, by simp, by simp, by simp⟩
  rintro k F A ⟨i, ps, rfl, rfl, hk, ho, he⟩
  refine (jBR1_nf _ _ u s ts vs i _ _ _ _).mpr ?_
  refine Sp.intro (fun h => ?_) (fun h => ?_)
  · have hlt : i < ts.length := by simpa using h
    rw [prs_step hlt] at he
    have hw : IntKind.i64.wrap ((i : Int) + 1) = ((i + 1 : Nat) : Int) := by rw [i64_in (by omega) (by omega)]; rfl
    have hps : ∀ ps1 : Prs, addP (selB s u) ps ts[i] = ps1 → ps1.length ≤ i + 1 := fun ps1 e => by
      subst e
      unfold addP
      cases selB s u ts[i] with
      | none => simp only; omega
      | some p => simp; omega
    have go : ∀ (ps1 : Prs) F1 A1, addP (selB s u) ps ts[i] = ps1 → F1 = frNs (ts.map tyv) s (i + 1) ps1.length ps1.length → A1 = hNs u (ts.map tyv) (vs.map viv) ((ups ps1).map (Value.int .i64)) ((dns ps1).map (Value.int .i64)) → ∃ k', k' < k ∧ ∃ (i : Nat) (ps : Prs), F1 = frNs (ts.map tyv) s i ps.length ps.length ∧ A1 = hNs u (ts.map tyv) (vs.map viv) ((ups ps).map (Value.int .i64)) ((dns ps).map (Value.int .i64)) ∧ i + k' = ts.length ∧ ps.length ≤ i ∧ ps ++ prsL (selB s u) (ts.drop i) = prsL (selB s u) ts := fun ps1 F1 A1 a1 a2 a3 =>
      ⟨k - 1, by omega, i + 1, ps1, a2, a3, by omega, hps ps1 a1, by rw [← he, a1]⟩
    simp only [Int.toNat_natCast, ty_at hlt, hw, Nat.add_zero]
    refine ⟨ty_b hlt, ty_nth hlt, Sp.intro (fun c1 => Sp.intro (fun c2 => ?_) (fun c2 => ?_)) (fun c1 => ?_)⟩
    · have hs : selB s u ts[i] = some (ts[i].be, orI ts[i].le u) := by unfold selB; rw [selB_yes c1 c2]; rfl
      have ha : addP (selB s u) ps ts[i] = ps ++ [(ts[i].be, orI ts[i].le u)] := by simp only [addP, hs]
      refine ⟨⟨by first | rfl | trivial, by rw [List.length_map, ups_len], by omega, by omega⟩, (by first | trivial | simp), (by first | trivial | simp), (by first | trivial | simp), ⟨by first | rfl | trivial, by rw [List.length_map, dns_len], by omega, by omega⟩, HF_tys ts, HF_tys ts, HF_vis vs, ?_, ?_, ?_⟩
      · have := HF_is (ups (ps ++ [(ts[i].be, orI ts[i].le u)])); rw [ups_snoc] at this; exact this
      · have := HF_is (dns (ps ++ [(ts[i].be, orI ts[i].le u)])); rw [dns_snoc] at this; exact this
      · exact go _ _ _ ha (by rw [List.length_append]; rfl) (by rw [ups_snoc, dns_snoc]; rfl)
    · have hs : selB s u ts[i] = none := by simp only [selB, c2, Bool.and_false, cond_false]
      have ha : addP (selB s u) ps ts[i] = ps := by simp only [addP, hs]
      exact ⟨HF_tys ts, HF_tys ts, HF_vis vs, HF_is _, HF_is _, go _ _ _ ha rfl rfl⟩
    · have hs : selB s u ts[i] = none := by unfold selB; rw [selB_no (hT ts[i] (List.getElem_mem hlt)) c1]; rfl
      have ha : addP (selB s u) ps ts[i] = ps := by simp only [addP, hs]
      exact ⟨HF_tys ts, HF_tys ts, HF_vis vs, HF_is _, HF_is _, go _ _ _ ha rfl rfl⟩
  · have hn : ts.length ≤ i := by simpa using h
    rw [List.drop_eq_nil_of_le hn] at he
    have he : ps = prsL (selB s u) ts := by simpa [prsL] using he
    subst he
    refine ⟨⟨_, u, rfl, rfl, rfl, rfl, prs_ok (fun x hx => selB_in (hT x hx) hu.1), hu.2, by omega⟩, hK _ _ ?_⟩
    rw [vI_map, vI_map]
    exact .same (HF_wantN (chO (selB s u) ts) 0)
theorem BR_walk (u s : Int) (ts : List Ty) (vs : List Vi) : Walk env Proofs.Tryz.f26 [logv u (ts.map tyv) (vs.map viv), .int .i64 s] (wantN (bif decide (stE u ts vs s = 0) then chO (selB s u) ts else []) (stE u ts vs s)) := by
  refine sxFn_frz (XN_ok ts vs) (d := 1) ((jBR_nf _ u s ts vs).mpr ?_)
  refine ⟨⟨rfl, rfl⟩, Sp.intro (fun h => ?_) (fun h => ?_)⟩
  · rw [Bool.not_eq_true'] at h
    rw [h]
    exact .tuple (.cons (.nils 2) (.cons (.same (HFi _ _)) .nil))
  · rw [Bool.not_eq_false'] at h
    have h0 := of_decide_eq_true h
    obtain ⟨hu, hl, hc⟩ := logOk (stE0 h0)
    rw [h, h0]
    exact ⟨HF_tys ts, HF_tys ts, HF_vis vs, HF_is [], HF_is [], BR_loop u s ts vs hl.1 (fun x hx => chk_times (chkAll hc x hx)) hu _ (fun v A h => h)⟩
end
end Go.T9
set_option maxRecDepth 1000000
set_option linter.unusedVariables false
set_option linter.unusedSimpArgs false
set_option maxHeartbeats 4000000
namespace Go.T9
open Go Go.AM
noncomputable section
theorem jSW_nf (K : KV) (u : Int) (s : Int) (ts : List Ty) (vs : List Vi) : jSW K u s ts vs = ((List.map tyv ts = List.map tyv ts ∧ List.map viv vs = List.map viv vs) ∧ Sp (!decide (stE u ts vs s = (0 : Int))) (K (Value.tuple (Array.mk [Value.int .i64 (0 : Int), Value.int .i64 (0 : Int), Value.int .i64 (stE u ts vs s)])) (AH.mk (T.node T.leaf (some (AObj.cells [Value.int .i64 u, Value.func (Go.Fn.yield (16 : Nat)) (Array.mk (List.map tyv ts)) (Array.mk []), Value.func (Go.Fn.yield (7 : Nat)) (Array.mk (List.map viv vs)) (Array.mk [])] (25 : Nat))) T.leaf) (1 : Nat))) (HF (Value.func (Go.Fn.yield (16 : Nat)) (Array.mk (List.map tyv ts)) (Array.mk [])) ∧ HF (Value.func (Go.Fn.yield (16 : Nat)) (Array.mk (List.map tyv ts)) (Array.mk [])) ∧ HF (Value.func (Go.Fn.yield (7 : Nat)) (Array.mk (List.map viv vs)) (Array.mk [])) ∧ LAt (XN ts vs) (1 : Nat) (Go.Func.ntmps Go.Proofs.Tryz.f23) (bodyOf Go.Proofs.Tryz.f23) [(1 : Nat), (1 : Nat), (0 : Nat), (1 : Nat), (0 : Nat)] (finK (SX.E (XN ts vs)) (Array.toList (Go.Func.results Go.Proofs.Tryz.f23)) K) (T.node (T.node (T.node T.leaf none (T.node (T.node T.leaf (some (Value.int .i64 (0 : Int))) T.leaf) none T.leaf)) (some (Value.int .i64 s)) (T.node (T.node (T.node T.leaf (some (Value.func (Go.Fn.yield (16 : Nat)) (Array.mk (List.map tyv ts)) (Array.mk []))) T.leaf) none T.leaf) (some (Value.int .i64 (0 : Int))) T.leaf)) none (T.node (T.node T.leaf (some (Value.int .i64 (0 : Int))) T.leaf) (some (Value.pointer (some (Go.Addr.mk (0 : Nat) (0 : Nat) none)))) (T.node (T.node (T.node T.leaf (some (Value.int .i64 (↑(List.length (List.map tyv ts)) : Int))) T.leaf) none T.leaf) none T.leaf))) (AH.mk (T.node T.leaf (some (AObj.cells [Value.int .i64 u, Value.func (Go.Fn.yield (16 : Nat)) (Array.mk (List.map tyv ts)) (Array.mk []), Value.func (Go.Fn.yield (7 : Nat)) (Array.mk (List.map viv vs)) (Array.mk [])] (25 : Nat))) T.leaf) (1 : Nat)))) := by kernel_rfl
theorem jSR_nf (K : KV) (u : Int) (s : Int) (ts : List Ty) (vs : List Vi) : jSR K u s ts vs = ((List.map tyv ts = List.map tyv ts ∧ List.map viv vs = List.map viv vs) ∧ Sp (!decide (stE u ts vs s = (0 : Int))) (K (Value.tuple (Array.mk [Value.int .i64 (0 : Int), Value.int .i64 (0 : Int), Value.int .i64 (stE u ts vs s)])) (AH.mk (T.node T.leaf (some (AObj.cells [Value.int .i64 u, Value.func (Go.Fn.yield (16 : Nat)) (Array.mk (List.map tyv ts)) (Array.mk []), Value.func (Go.Fn.yield (7 : Nat)) (Array.mk (List.map viv vs)) (Array.mk [])] (25 : Nat))) T.leaf) (1 : Nat))) (HF (Value.func (Go.Fn.yield (16 : Nat)) (Array.mk (List.map tyv ts)) (Array.mk [])) ∧ HF (Value.func (Go.Fn.yield (16 : Nat)) (Array.mk (List.map tyv ts)) (Array.mk [])) ∧ HF (Value.func (Go.Fn.yield (7 : Nat)) (Array.mk (List.map viv vs)) (Array.mk [])) ∧ LAt (XN ts vs) (1 : Nat) (Go.Func.ntmps Go.Proofs.Tryz.f27) (bodyOf Go.Proofs.Tryz.f27) [(1 : Nat), (1 : Nat), (0 : Nat), (1 : Nat), (0 : Nat)] (finK (SX.E (XN ts vs)) (Array.toList (Go.Func.results Go.Proofs.Tryz.f27)) K) (T.node (T.node (T.node T.leaf none (T.node (T.node T.leaf (some (Value.int .i64 (0 : Int))) T.leaf) none T.leaf)) (some (Value.int .i64 s)) (T.node (T.node (T.node T.leaf (some (Value.func (Go.Fn.yield (16 : Nat)) (Array.mk (List.map tyv ts)) (Array.mk []))) T.leaf) none T.leaf) (some (Value.int .i64 (0 : Int))) T.leaf)) none (T.node (T.node T.leaf (some (Value.int .i64 (0 : Int))) T.leaf) (some (Value.pointer (some (Go.Addr.mk (0 : Nat) (0 : Nat) none)))) (T.node (T.node (T.node T.leaf (some (Value.int .i64 (↑(List.length (List.map tyv ts)) : Int))) T.leaf) none T.leaf) none T.leaf))) (AH.mk (T.node T.leaf (some (AObj.cells [Value.int .i64 u, Value.func (Go.Fn.yield (16 : Nat)) (Array.mk (List.map tyv ts)) (Array.mk []), Value.func (Go.Fn.yield (7 : Nat)) (Array.mk (List.map viv vs)) (Array.mk [])] (25 : Nat))) T.leaf) (1 : Nat)))) := by kernel_rfl
theorem jSW1_nf (K : KV) (again : KF) (u : Int) (s : Int) (w : Int) (v : Int) (ts : List Ty) (vs : List Vi) (i : Nat) : jSW1 K again u s w v ts vs i = (Sp (decide ((↑i : Int) < (↑(List.length (List.map tyv ts)) : Int))) (((0 : Int) ≤ (↑i : Int) ∧ (↑i : Int) < (↑(List.length (List.map tyv ts)) : Int)) ∧ nth (List.map tyv ts) (Int.toNat (↑(Int.toNat (↑i : Int)) : Int)) = some (Value.agg (Array.mk [Value.int .i64 (Ty.g (tyAt (List.map tyv ts) (↑(Int.toNat (↑i : Int)) : Int))), Value.int .i64 (Ty.u (tyAt (List.map tyv ts) (↑(Int.toNat (↑i : Int)) : Int))), Value.int .i64 (Ty.a (tyAt (List.map tyv ts) (↑(Int.toNat (↑i : Int)) : Int))), Value.int .i64 (Ty.y (tyAt (List.map tyv ts) (↑(Int.toNat (↑i : Int)) : Int))), Value.string (Ty.nm (tyAt (List.map tyv ts) (↑(Int.toNat (↑i : Int)) : Int))), Value.int .i64 (Ty.sn (tyAt (List.map tyv ts) (↑(Int.toNat (↑i : Int)) : Int))), Value.int .i64 (Ty.se (tyAt (List.map tyv ts) (↑(Int.toNat (↑i : Int)) : Int))), Value.int .i64 (Ty.ca (tyAt (List.map tyv ts) (↑(Int.toNat (↑i : Int)) : Int))), Value.int .i64 (Ty.be (tyAt (List.map tyv ts) (↑(Int.toNat (↑i : Int)) : Int))), Value.int .i64 (Ty.le (tyAt (List.map tyv ts) (↑(Int.toNat (↑i : Int)) : Int))), Value.int .i64 (Ty.ba (tyAt (List.map tyv ts) (↑(Int.toNat (↑i : Int)) : Int))), Value.int .i64 (Ty.en (tyAt (List.map tyv ts) (↑(Int.toNat (↑i : Int)) : Int))), Value.int .i64 (Ty.oc (tyAt (List.map tyv ts) (↑(Int.toNat (↑i : Int)) : Int))), Value.int .i64 (Ty.su (tyAt (List.map tyv ts) (↑(Int.toNat (↑i : Int)) : Int))), Value.int .i64 (Ty.sb (tyAt (List.map tyv ts) (↑(Int.toNat (↑i : Int)) : Int))), Value.int .i64 (Ty.fa (tyAt (List.map tyv ts) (↑(Int.toNat (↑i : Int)) : Int)))])) ∧ Sp (!staysB (tyAt (List.map tyv ts) (↑(Int.toNat (↑i : Int)) : Int)) s) (HF (Value.func (Go.Fn.yield (16 : Nat)) (Array.mk (List.map tyv ts)) (Array.mk [])) ∧ HF (Value.func (Go.Fn.yield (16 : Nat)) (Array.mk (List.map tyv ts)) (Array.mk [])) ∧ HF (Value.func (Go.Fn.yield (7 : Nat)) (Array.mk (List.map viv vs)) (Array.mk [])) ∧ again (T.node (T.node (T.node T.leaf none (T.node (T.node T.leaf (some (Value.int .i64 (IntKind.wrap .i64 ((↑i : Int) + (1 : Int))))) T.leaf) none T.leaf)) (some (Value.int .i64 s)) (T.node (T.node (T.node T.leaf (some (Value.func (Go.Fn.yield (16 : Nat)) (Array.mk (List.map tyv ts)) (Array.mk []))) T.leaf) none T.leaf) (some (Value.int .i64 v)) T.leaf)) none (T.node (T.node T.leaf (some (Value.int .i64 w)) T.leaf) (some (Value.pointer (some (Go.Addr.mk (0 : Nat) (0 : Nat) none)))) (T.node (T.node (T.node T.leaf (some (Value.int .i64 (↑(List.length (List.map tyv ts)) : Int))) T.leaf) none T.leaf) none T.leaf))) (AH.mk (T.node T.leaf (some (AObj.cells [Value.int .i64 u, Value.func (Go.Fn.yield (16 : Nat)) (Array.mk (List.map tyv ts)) (Array.mk []), Value.func (Go.Fn.yield (7 : Nat)) (Array.mk (List.map viv vs)) (Array.mk [])] (25 : Nat))) T.leaf) (1 : Nat))) (Value.int .i64 (Ty.ca (tyAt (List.map tyv ts) (↑(Int.toNat (↑i : Int)) : Int))) = Value.int .i64 (Ty.ca (tyAt (List.map tyv ts) (↑(Int.toNat (↑i : Int)) : Int))) ∧ Sp (!decide (Ty.be (tyAt (List.map tyv ts) (↑(Int.toNat (↑i : Int)) : Int)) = (-1 : Int))) (Value.int .i64 (Ty.be (tyAt (List.map tyv ts) (↑(Int.toNat (↑i : Int)) : Int))) = Value.int .i64 (Ty.be (tyAt (List.map tyv ts) (↑(Int.toNat (↑i : Int)) : Int))) ∧ HF (Value.func (Go.Fn.yield (16 : Nat)) (Array.mk (List.map tyv ts)) (Array.mk [])) ∧ HF (Value.func (Go.Fn.yield (16 : Nat)) (Array.mk (List.map tyv ts)) (Array.mk [])) ∧ HF (Value.func (Go.Fn.yield (7 : Nat)) (Array.mk (List.map viv vs)) (Array.mk [])) ∧ again (T.node (T.node (T.node T.leaf none (T.node (T.node T.leaf (some (Value.int .i64 (IntKind.wrap .i64 ((↑i : Int) + (1 : Int))))) T.leaf) none T.leaf)) (some (Value.int .i64 s)) (T.node (T.node (T.node T.leaf (some (Value.func (Go.Fn.yield (16 : Nat)) (Array.mk (List.map tyv ts)) (Array.mk []))) T.leaf) none T.leaf) (some (Value.int .i64 (IntKind.wrap .i64 (v + IntKind.wrap .i64 (orI (Ty.le (tyAt (List.map tyv ts) (↑(Int.toNat (↑i : Int)) : Int))) u - Ty.be (tyAt (List.map tyv ts) (↑(Int.toNat (↑i : Int)) : Int))))))) T.leaf)) none (T.node (T.node T.leaf (some (Value.int .i64 (IntKind.wrap .i64 (w + IntKind.wrap .i64 (orI (Ty.be (tyAt (List.map tyv ts) (↑(Int.toNat (↑i : Int)) : Int))) u - Ty.ca (tyAt (List.map tyv ts) (↑(Int.toNat (↑i : Int)) : Int))))))) T.leaf) (some (Value.pointer (some (Go.Addr.mk (0 : Nat) (0 : Nat) none)))) (T.node (T.node (T.node T.leaf (some (Value.int .i64 (↑(List.length (List.map tyv ts)) : Int))) T.leaf) none T.leaf) none T.leaf))) (AH.mk (T.node T.leaf (some (AObj.cells [Value.int .i64 u, Value.func (Go.Fn.yield (16 : Nat)) (Array.mk (List.map tyv ts)) (Array.mk []), Value.func (Go.Fn.yield (7 : Nat)) (Array.mk (List.map viv vs)) (Array.mk [])] (25 : Nat))) T.leaf) (1 : Nat))) (HF (Value.func (Go.Fn.yield (16 : Nat)) (Array.mk (List.map tyv ts)) (Array.mk [])) ∧ HF (Value.func (Go.Fn.yield (16 : Nat)) (Array.mk (List.map tyv ts)) (Array.mk [])) ∧ HF (Value.func (Go.Fn.yield (7 : Nat)) (Array.mk (List.map viv vs)) (Array.mk [])) ∧ again (T.node (T.node (T.node T.leaf none (T.node (T.node T.leaf (some (Value.int .i64 (IntKind.wrap .i64 ((↑i : Int) + (1 : Int))))) T.leaf) none T.leaf)) (some (Value.int .i64 s)) (T.node (T.node (T.node T.leaf (some (Value.func (Go.Fn.yield (16 : Nat)) (Array.mk (List.map tyv ts)) (Array.mk []))) T.leaf) none T.leaf) (some (Value.int .i64 v)) T.leaf)) none (T.node (T.node T.leaf (some (Value.int .i64 (IntKind.wrap .i64 (w + IntKind.wrap .i64 (orI (Ty.be (tyAt (List.map tyv ts) (↑(Int.toNat (↑i : Int)) : Int))) u - Ty.ca (tyAt (List.map tyv ts) (↑(Int.toNat (↑i : Int)) : Int))))))) T.leaf) (some (Value.pointer (some (Go.Addr.mk (0 : Nat) (0 : Nat) none)))) (T.node (T.node (T.node T.leaf (some (Value.int .i64 (↑(List.length (List.map tyv ts)) : Int))) T.leaf) none T.leaf) none T.leaf))) (AH.mk (T.node T.leaf (some (AObj.cells [Value.int .i64 u, Value.func (Go.Fn.yield (16 : Nat)) (Array.mk (List.map tyv ts)) (Array.mk []), Value.func (Go.Fn.yield (7 : Nat)) (Array.mk (List.map viv vs)) (Array.mk [])] (25 : Nat))) T.leaf) (1 : Nat))))) (K (Value.tuple (Array.mk [Value.int .i64 w, Value.int .i64 v, Value.int .i64 (0 : Int)])) (AH.mk (T.node T.leaf (some (AObj.cells [Value.int .i64 u, Value.func (Go.Fn.yield (16 : Nat)) (Array.mk (List.map tyv ts)) (Array.mk []), Value.func (Go.Fn.yield (7 : Nat)) (Array.mk (List.map viv vs)) (Array.mk [])] (25 : Nat))) T.leaf) (1 : Nat)))) := by kernel_rfl
theorem jSR1_nf (K : KV) (again : KF) (u : Int) (s : Int) (w : Int) (v : Int) (ts : List Ty) (vs : List Vi) (i : Nat) : jSR1 K again u s w v ts vs i = (Sp (decide ((↑i : Int) < (↑(List.length (List.map tyv ts)) : Int))) (((0 : Int) ≤ (↑i : Int) ∧ (↑i : Int) < (↑(List.length (List.map tyv ts)) : Int)) ∧ nth (List.map tyv ts) (Int.toNat (↑(Int.toNat (↑i : Int)) : Int)) = some (Value.agg (Array.mk [Value.int .i64 (Ty.g (tyAt (List.map tyv ts) (↑(Int.toNat (↑i : Int)) : Int))), Value.int .i64 (Ty.u (tyAt (List.map tyv ts) (↑(Int.toNat (↑i : Int)) : Int))), Value.int .i64 (Ty.a (tyAt (List.map tyv ts) (↑(Int.toNat (↑i : Int)) : Int))), Value.int .i64 (Ty.y (tyAt (List.map tyv ts) (↑(Int.toNat (↑i : Int)) : Int))), Value.string (Ty.nm (tyAt (List.map tyv ts) (↑(Int.toNat (↑i : Int)) : Int))), Value.int .i64 (Ty.sn (tyAt (List.map tyv ts) (↑(Int.toNat (↑i : Int)) : Int))), Value.int .i64 (Ty.se (tyAt (List.map tyv ts) (↑(Int.toNat (↑i : Int)) : Int))), Value.int .i64 (Ty.ca (tyAt (List.map tyv ts) (↑(Int.toNat (↑i : Int)) : Int))), Value.int .i64 (Ty.be (tyAt (List.map tyv ts) (↑(Int.toNat (↑i : Int)) : Int))), Value.int .i64 (Ty.le (tyAt (List.map tyv ts) (↑(Int.toNat (↑i : Int)) : Int))), Value.int .i64 (Ty.ba (tyAt (List.map tyv ts) (↑(Int.toNat (↑i : Int)) : Int))), Value.int .i64 (Ty.en (tyAt (List.map tyv ts) (↑(Int.toNat (↑i : Int)) : Int))), Value.int .i64 (Ty.oc (tyAt (List.map tyv ts) (↑(Int.toNat (↑i : Int)) : Int))), Value.int .i64 (Ty.su (tyAt (List.map tyv ts) (↑(Int.toNat (↑i : Int)) : Int))), Value.int .i64 (Ty.sb (tyAt (List.map tyv ts) (↑(Int.toNat (↑i : Int)) : Int))), Value.int .i64 (Ty.fa (tyAt (List.map tyv ts) (↑(Int.toNat (↑i : Int)) : Int)))])) ∧ Sp (!staysB (tyAt (List.map tyv ts) (↑(Int.toNat (↑i : Int)) : Int)) s) (HF (Value.func (Go.Fn.yield (16 : Nat)) (Array.mk (List.map tyv ts)) (Array.mk [])) ∧ HF (Value.func (Go.Fn.yield (16 : Nat)) (Array.mk (List.map tyv ts)) (Array.mk [])) ∧ HF (Value.func (Go.Fn.yield (7 : Nat)) (Array.mk (List.map viv vs)) (Array.mk [])) ∧ again (T.node (T.node (T.node T.leaf none (T.node (T.node T.leaf (some (Value.int .i64 (IntKind.wrap .i64 ((↑i : Int) + (1 : Int))))) T.leaf) none T.leaf)) (some (Value.int .i64 s)) (T.node (T.node (T.node T.leaf (some (Value.func (Go.Fn.yield (16 : Nat)) (Array.mk (List.map tyv ts)) (Array.mk []))) T.leaf) none T.leaf) (some (Value.int .i64 v)) T.leaf)) none (T.node (T.node T.leaf (some (Value.int .i64 w)) T.leaf) (some (Value.pointer (some (Go.Addr.mk (0 : Nat) (0 : Nat) none)))) (T.node (T.node (T.node T.leaf (some (Value.int .i64 (↑(List.length (List.map tyv ts)) : Int))) T.leaf) none T.leaf) none T.leaf))) (AH.mk (T.node T.leaf (some (AObj.cells [Value.int .i64 u, Value.func (Go.Fn.yield (16 : Nat)) (Array.mk (List.map tyv ts)) (Array.mk []), Value.func (Go.Fn.yield (7 : Nat)) (Array.mk (List.map viv vs)) (Array.mk [])] (25 : Nat))) T.leaf) (1 : Nat))) (Sp (decide (Ty.be (tyAt (List.map tyv ts) (↑(Int.toNat (↑i : Int)) : Int)) = (-1 : Int))) (HF (Value.func (Go.Fn.yield (16 : Nat)) (Array.mk (List.map tyv ts)) (Array.mk [])) ∧ HF (Value.func (Go.Fn.yield (16 : Nat)) (Array.mk (List.map tyv ts)) (Array.mk [])) ∧ HF (Value.func (Go.Fn.yield (7 : Nat)) (Array.mk (List.map viv vs)) (Array.mk [])) ∧ again (T.node (T.node (T.node T.leaf none (T.node (T.node T.leaf (some (Value.int .i64 (IntKind.wrap .i64 ((↑i : Int) + (1 : Int))))) T.leaf) none T.leaf)) (some (Value.int .i64 s)) (T.node (T.node (T.node T.leaf (some (Value.func (Go.Fn.yield (16 : Nat)) (Array.mk (List.map tyv ts)) (Array.mk []))) T.leaf) none T.leaf) (some (Value.int .i64 v)) T.leaf)) none (T.node (T.node T.leaf (some (Value.int .i64 (IntKind.wrap .i64 (w + IntKind.wrap .i64 (u - Ty.ca (tyAt (List.map tyv ts) (↑(Int.toNat (↑i : Int)) : Int))))))) T.leaf) (some (Value.pointer (some (Go.Addr.mk (0 : Nat) (0 : Nat) none)))) (T.node (T.node (T.node T.leaf (some (Value.int .i64 (↑(List.length (List.map tyv ts)) : Int))) T.leaf) none T.leaf) none T.leaf))) (AH.mk (T.node T.leaf (some (AObj.cells [Value.int .i64 u, Value.func (Go.Fn.yield (16 : Nat)) (Array.mk (List.map tyv ts)) (Array.mk []), Value.func (Go.Fn.yield (7 : Nat)) (Array.mk (List.map viv vs)) (Array.mk [])] (25 : Nat))) T.leaf) (1 : Nat))) ((List.map tyv ts = List.map tyv ts ∧ List.map viv vs = List.map viv vs) ∧ Value.int .i64 (Ty.be (tyAt (List.map tyv ts) (↑(Int.toNat (↑i : Int)) : Int))) = Value.int .i64 (Ty.be (tyAt (List.map tyv ts) (↑(Int.toNat (↑i : Int)) : Int))) ∧ HF (Value.func (Go.Fn.yield (16 : Nat)) (Array.mk (List.map tyv ts)) (Array.mk [])) ∧ HF (Value.func (Go.Fn.yield (16 : Nat)) (Array.mk (List.map tyv ts)) (Array.mk [])) ∧ HF (Value.func (Go.Fn.yield (7 : Nat)) (Array.mk (List.map viv vs)) (Array.mk [])) ∧ again (T.node (T.node (T.node T.leaf none (T.node (T.node T.leaf (some (Value.int .i64 (IntKind.wrap .i64 ((↑i : Int) + (1 : Int))))) T.leaf) none T.leaf)) (some (Value.int .i64 s)) (T.node (T.node (T.node T.leaf (some (Value.func (Go.Fn.yield (16 : Nat)) (Array.mk (List.map tyv ts)) (Array.mk []))) T.leaf) none T.leaf) (some (Value.int .i64 (IntKind.wrap .i64 (v + IntKind.wrap .i64 (orI (Ty.le (tyAt (List.map tyv ts) (↑(Int.toNat (↑i : Int)) : Int))) u - Ty.be (tyAt (List.map tyv ts) (↑(Int.toNat (↑i : Int)) : Int))))))) T.leaf)) none (T.node (T.node T.leaf (some (Value.int .i64 (IntKind.wrap .i64 (w + IntKind.wrap .i64 (Ty.be (tyAt (List.map tyv ts) (↑(Int.toNat (↑i : Int)) : Int)) - Ty.ca (tyAt (List.map tyv ts) (↑(Int.toNat (↑i : Int)) : Int))))))) T.leaf) (some (Value.pointer (some (Go.Addr.mk (0 : Nat) (0 : Nat) none)))) (T.node (T.node (T.node T.leaf (some (Value.int .i64 (↑(List.length (List.map tyv ts)) : Int))) T.leaf) none T.leaf) none T.leaf))) (AH.mk (T.node T.leaf (some (AObj.cells [Value.int .i64 u, Value.func (Go.Fn.yield (16 : Nat)) (Array.mk (List.map tyv ts)) (Array.mk []), Value.func (Go.Fn.yield (7 : Nat)) (Array.mk (List.map viv vs)) (Array.mk [])] (25 : Nat))) T.leaf) (1 : Nat))))) (K (Value.tuple (Array.mk [Value.int .i64 w, Value.int .i64 v, Value.int .i64 (0 : Int)])) (AH.mk (T.node T.leaf (some (AObj.cells [Value.int .i64 u, Value.func (Go.Fn.yield (16 : Nat)) (Array.mk (List.map tyv ts)) (Array.mk []), Value.func (Go.Fn.yield (7 : Nat)) (Array.mk (List.map viv vs)) (Array.mk [])] (25 : Nat))) T.leaf) (1 : Nat)))) := by kernel_rfl
theorem jOW_nf (K : KV) (u : Int) (g : Int) (ts : List Ty) (vs : List Vi) : jOW K u g ts vs = ((List.map tyv ts = List.map tyv ts ∧ List.map viv vs = List.map viv vs) ∧ Sp (!decide (logE u ts vs = (0 : Int))) (K (Value.tuple (Array.mk [Value.slice none (0 : Nat) (0 : Nat), Value.int .i64 (logE u ts vs)])) (AH.mk (T.node T.leaf (some (AObj.cells [Value.int .i64 u, Value.func (Go.Fn.yield (16 : Nat)) (Array.mk (List.map tyv ts)) (Array.mk []), Value.func (Go.Fn.yield (7 : Nat)) (Array.mk (List.map viv vs)) (Array.mk [])] (25 : Nat))) T.leaf) (1 : Nat))) (Sp (!(decide ((0 : Int) ≤ g) && decide (g ≤ (19 : Int)))) (K (Value.tuple (Array.mk [Value.slice none (0 : Nat) (0 : Nat), Value.int .i64 (9 : Int)])) (AH.mk (T.node T.leaf (some (AObj.cells [Value.int .i64 u, Value.func (Go.Fn.yield (16 : Nat)) (Array.mk (List.map tyv ts)) (Array.mk []), Value.func (Go.Fn.yield (7 : Nat)) (Array.mk (List.map viv vs)) (Array.mk [])] (25 : Nat))) T.leaf) (1 : Nat))) (((0 : Int) ≤ (4 : Int) ∧ (4 : Int) ≤ (4 : Int) ∧ (4 : Int) ≤ (281474976710656 : Int) ∧ (32 : Nat) ≤ (281474976710656 : Nat)) ∧ HF (Value.func (Go.Fn.yield (16 : Nat)) (Array.mk (List.map tyv ts)) (Array.mk [])) ∧ HF (Value.agg (Array.mk [Value.int .i64 (0 : Int), Value.int .i64 (0 : Int), Value.int .i64 (0 : Int), Value.int .i64 (0 : Int)])) ∧ LAt (XOw ts vs) (1 : Nat) (Go.Func.ntmps Go.Proofs.Tryz.f28) (bodyOf Go.Proofs.Tryz.f28) [(1 : Nat), (1 : Nat), (1 : Nat), (1 : Nat), (0 : Nat), (1 : Nat), (0 : Nat)] (finK (SX.E (XOw ts vs)) (Array.toList (Go.Func.results Go.Proofs.Tryz.f28)) K) (T.node (T.node (T.node (T.node T.leaf (some (Value.slice (some (Go.Addr.mk (0 : Nat) (0 : Nat) none)) (4 : Nat) (18446744073709551620 : Nat))) T.leaf) none T.leaf) (some (Value.int .i64 g)) (T.node T.leaf none (T.node (T.node T.leaf (some (Value.int .i64 (↑(List.length (List.map tyv ts)) : Int))) T.leaf) none T.leaf))) none (T.node (T.node T.leaf none (T.node (T.node T.leaf (some (Value.func (Go.Fn.yield (16 : Nat)) (Array.mk (List.map tyv ts)) (Array.mk []))) T.leaf) none T.leaf)) none (T.node T.leaf none (T.node (T.node T.leaf (some (Value.int .i64 (0 : Int))) T.leaf) none T.leaf)))) (AH.mk (T.node T.leaf (some (AObj.gro [Value.int .i64 (0 : Int), Value.int .i64 (0 : Int), Value.int .i64 (0 : Int), Value.int .i64 (0 : Int)] [] (3 : Nat))) T.leaf) (1 : Nat))))) := by kernel_rfl
theorem jOR_nf (K : KV) (u : Int) (g : Int) (ts : List Ty) (vs : List Vi) : jOR K u g ts vs = ((List.map tyv ts = List.map tyv ts ∧ List.map viv vs = List.map viv vs) ∧ Sp (!decide (logE u ts vs = (0 : Int))) (K (Value.tuple (Array.mk [Value.slice none (0 : Nat) (0 : Nat), Value.int .i64 (logE u ts vs)])) (AH.mk (T.node T.leaf (some (AObj.cells [Value.int .i64 u, Value.func (Go.Fn.yield (16 : Nat)) (Array.mk (List.map tyv ts)) (Array.mk []), Value.func (Go.Fn.yield (7 : Nat)) (Array.mk (List.map viv vs)) (Array.mk [])] (25 : Nat))) T.leaf) (1 : Nat))) (Sp (!(decide ((0 : Int) ≤ g) && decide (g ≤ (19 : Int)))) (K (Value.tuple (Array.mk [Value.slice none (0 : Nat) (0 : Nat), Value.int .i64 (9 : Int)])) (AH.mk (T.node T.leaf (some (AObj.cells [Value.int .i64 u, Value.func (Go.Fn.yield (16 : Nat)) (Array.mk (List.map tyv ts)) (Array.mk []), Value.func (Go.Fn.yield (7 : Nat)) (Array.mk (List.map viv vs)) (Array.mk [])] (25 : Nat))) T.leaf) (1 : Nat))) (((0 : Int) ≤ (4 : Int) ∧ (4 : Int) ≤ (4 : Int) ∧ (4 : Int) ≤ (281474976710656 : Int) ∧ (32 : Nat) ≤ (281474976710656 : Nat)) ∧ HF (Value.func (Go.Fn.yield (16 : Nat)) (Array.mk (List.map tyv ts)) (Array.mk [])) ∧ HF (Value.agg (Array.mk [Value.int .i64 (0 : Int), Value.int .i64 (0 : Int), Value.int .i64 (0 : Int), Value.int .i64 (0 : Int)])) ∧ LAt (XOr ts vs) (1 : Nat) (Go.Func.ntmps Go.Proofs.Tryz.f29) (bodyOf Go.Proofs.Tryz.f29) [(1 : Nat), (1 : Nat), (1 : Nat), (1 : Nat), (0 : Nat), (1 : Nat), (0 : Nat)] (finK (SX.E (XOr ts vs)) (Array.toList (Go.Func.results Go.Proofs.Tryz.f29)) K) (T.node (T.node (T.node (T.node T.leaf (some (Value.slice (some (Go.Addr.mk (0 : Nat) (0 : Nat) none)) (4 : Nat) (18446744073709551620 : Nat))) T.leaf) none (T.node (T.node T.leaf (some (Value.func (Go.Fn.yield (16 : Nat)) (Array.mk (List.map tyv ts)) (Array.mk []))) T.leaf) none T.leaf)) (some (Value.int .i64 g)) (T.node T.leaf none (T.node (T.node T.leaf (some (Value.int .i64 (0 : Int))) T.leaf) none T.leaf))) none (T.node (T.node T.leaf none (T.node (T.node T.leaf (some (Value.int .i64 (↑(List.length (List.map tyv ts)) : Int))) T.leaf) none T.leaf)) none T.leaf)) (AH.mk (T.node T.leaf (some (AObj.gro [Value.int .i64 (0 : Int), Value.int .i64 (0 : Int), Value.int .i64 (0 : Int), Value.int .i64 (0 : Int)] [] (3 : Nat))) T.leaf) (1 : Nat))))) := by kernel_rfl
theorem jOW1_nf (K : KV) (again : KF) (g : Int) (ts : List Ty) (vs : List Vi) (i : Nat) (o : List Go.Value) : jOW1 K again g ts vs i o = (Sp (decide ((↑i : Int) < (↑(List.length (List.map tyv ts)) : Int))) (((0 : Int) ≤ (↑i : Int) ∧ (↑i : Int) < (↑(List.length (List.map tyv ts)) : Int)) ∧ nth (List.map tyv ts) (Int.toNat (↑(Int.toNat (↑i : Int)) : Int)) = some (Value.agg (Array.mk [Value.int .i64 (Ty.g (tyAt (List.map tyv ts) (↑(Int.toNat (↑i : Int)) : Int))), Value.int .i64 (Ty.u (tyAt (List.map tyv ts) (↑(Int.toNat (↑i : Int)) : Int))), Value.int .i64 (Ty.a (tyAt (List.map tyv ts) (↑(Int.toNat (↑i : Int)) : Int))), Value.int .i64 (Ty.y (tyAt (List.map tyv ts) (↑(Int.toNat (↑i : Int)) : Int))), Value.string (Ty.nm (tyAt (List.map tyv ts) (↑(Int.toNat (↑i : Int)) : Int))), Value.int .i64 (Ty.sn (tyAt (List.map tyv ts) (↑(Int.toNat (↑i : Int)) : Int))), Value.int .i64 (Ty.se (tyAt (List.map tyv ts) (↑(Int.toNat (↑i : Int)) : Int))), Value.int .i64 (Ty.ca (tyAt (List.map tyv ts) (↑(Int.toNat (↑i : Int)) : Int))), Value.int .i64 (Ty.be (tyAt (List.map tyv ts) (↑(Int.toNat (↑i : Int)) : Int))), Value.int .i64 (Ty.le (tyAt (List.map tyv ts) (↑(Int.toNat (↑i : Int)) : Int))), Value.int .i64 (Ty.ba (tyAt (List.map tyv ts) (↑(Int.toNat (↑i : Int)) : Int))), Value.int .i64 (Ty.en (tyAt (List.map tyv ts) (↑(Int.toNat (↑i : Int)) : Int))), Value.int .i64 (Ty.oc (tyAt (List.map tyv ts) (↑(Int.toNat (↑i : Int)) : Int))), Value.int .i64 (Ty.su (tyAt (List.map tyv ts) (↑(Int.toNat (↑i : Int)) : Int))), Value.int .i64 (Ty.sb (tyAt (List.map tyv ts) (↑(Int.toNat (↑i : Int)) : Int))), Value.int .i64 (Ty.fa (tyAt (List.map tyv ts) (↑(Int.toNat (↑i : Int)) : Int)))])) ∧ Sp (decide (Ty.g (tyAt (List.map tyv ts) (↑(Int.toNat (↑i : Int)) : Int)) = g)) (((0 : Int) ≤ IntKind.wrap .i64 (Ty.oc (tyAt (List.map tyv ts) (↑(Int.toNat (↑i : Int)) : Int)) - (1 : Int)) ∧ IntKind.wrap .i64 (Ty.oc (tyAt (List.map tyv ts) (↑(Int.toNat (↑i : Int)) : Int)) - (1 : Int)) < (4 : Int)) ∧ nth o (Int.toNat (↑(Int.toNat (IntKind.wrap .i64 (Ty.oc (tyAt (List.map tyv ts) (↑(Int.toNat (↑i : Int)) : Int)) - (1 : Int))) + (0 : Nat)) : Int)) = some (Value.int .i64 (intAt o (↑(Int.toNat (IntKind.wrap .i64 (Ty.oc (tyAt (List.map tyv ts) (↑(Int.toNat (↑i : Int)) : Int)) - (1 : Int))) + (0 : Nat)) : Int))) ∧ ((0 : Int) ≤ IntKind.wrap .i64 (Ty.oc (tyAt (List.map tyv ts) (↑(Int.toNat (↑i : Int)) : Int)) - (1 : Int)) ∧ IntKind.wrap .i64 (Ty.oc (tyAt (List.map tyv ts) (↑(Int.toNat (↑i : Int)) : Int)) - (1 : Int)) < (4 : Int)) ∧ Int.toNat (↑(Int.toNat (IntKind.wrap .i64 (Ty.oc (tyAt (List.map tyv ts) (↑(Int.toNat (↑i : Int)) : Int)) - (1 : Int))) + (0 : Nat)) : Int) < List.length o ∧ HF (Value.func (Go.Fn.yield (16 : Nat)) (Array.mk (List.map tyv ts)) (Array.mk [])) ∧ HF (Value.agg (Array.mk (List.set o (Int.toNat (↑(Int.toNat (IntKind.wrap .i64 (Ty.oc (tyAt (List.map tyv ts) (↑(Int.toNat (↑i : Int)) : Int)) - (1 : Int))) + (0 : Nat)) : Int)) (Value.int .i64 (IntKind.wrap .i64 (intAt o (↑(Int.toNat (IntKind.wrap .i64 (Ty.oc (tyAt (List.map tyv ts) (↑(Int.toNat (↑i : Int)) : Int)) - (1 : Int))) + (0 : Nat)) : Int) + (1 : Int))))))) ∧ again (T.node (T.node (T.node (T.node T.leaf (some (Value.slice (some (Go.Addr.mk (0 : Nat) (0 : Nat) none)) (4 : Nat) (18446744073709551620 : Nat))) T.leaf) none T.leaf) (some (Value.int .i64 g)) (T.node T.leaf none (T.node (T.node T.leaf (some (Value.int .i64 (↑(List.length (List.map tyv ts)) : Int))) T.leaf) none T.leaf))) none (T.node (T.node T.leaf none (T.node (T.node T.leaf (some (Value.func (Go.Fn.yield (16 : Nat)) (Array.mk (List.map tyv ts)) (Array.mk []))) T.leaf) none T.leaf)) none (T.node T.leaf none (T.node (T.node T.leaf (some (Value.int .i64 (IntKind.wrap .i64 ((↑i : Int) + (1 : Int))))) T.leaf) none T.leaf)))) (AH.mk (T.node T.leaf (some (AObj.gro (List.set o (Int.toNat (↑(Int.toNat (IntKind.wrap .i64 (Ty.oc (tyAt (List.map tyv ts) (↑(Int.toNat (↑i : Int)) : Int)) - (1 : Int))) + (0 : Nat)) : Int)) (Value.int .i64 (IntKind.wrap .i64 (intAt o (↑(Int.toNat (IntKind.wrap .i64 (Ty.oc (tyAt (List.map tyv ts) (↑(Int.toNat (↑i : Int)) : Int)) - (1 : Int))) + (0 : Nat)) : Int) + (1 : Int))))) [] (3 : Nat))) T.leaf) (1 : Nat))) (HF (Value.func (Go.Fn.yield (16 : Nat)) (Array.mk (List.map tyv ts)) (Array.mk [])) ∧ HF (Value.agg (Array.mk o)) ∧ again (T.node (T.node (T.node (T.node T.leaf (some (Value.slice (some (Go.Addr.mk (0 : Nat) (0 : Nat) none)) (4 : Nat) (18446744073709551620 : Nat))) T.leaf) none T.leaf) (some (Value.int .i64 g)) (T.node T.leaf none (T.node (T.node T.leaf (some (Value.int .i64 (↑(List.length (List.map tyv ts)) : Int))) T.leaf) none T.leaf))) none (T.node (T.node T.leaf none (T.node (T.node T.leaf (some (Value.func (Go.Fn.yield (16 : Nat)) (Array.mk (List.map tyv ts)) (Array.mk []))) T.leaf) none T.leaf)) none (T.node T.leaf none (T.node (T.node T.leaf (some (Value.int .i64 (IntKind.wrap .i64 ((↑i : Int) + (1 : Int))))) T.leaf) none T.leaf)))) (AH.mk (T.node T.leaf (some (AObj.gro o [] (3 : Nat))) T.leaf) (1 : Nat)))) (K (Value.tuple (Array.mk [Value.slice (some (Go.Addr.mk (0 : Nat) (0 : Nat) none)) (4 : Nat) (18446744073709551620 : Nat), Value.int .i64 (0 : Int)])) (AH.mk (T.node T.leaf (some (AObj.gro o [] (3 : Nat))) T.leaf) (1 : Nat)))) := by kernel_rfl
theorem jOR1_nf (K : KV) (again : KF) (g : Int) (ts : List Ty) (vs : List Vi) (i : Nat) (o : List Go.Value) : jOR1 K again g ts vs i o = (Sp (decide ((↑i : Int) < (↑(List.length (List.map tyv ts)) : Int))) (((0 : Int) ≤ (↑i : Int) ∧ (↑i : Int) < (↑(List.length (List.map tyv ts)) : Int)) ∧ nth (List.map tyv ts) (Int.toNat (↑(Int.toNat (↑i : Int)) : Int)) = some (Value.agg (Array.mk [Value.int .i64 (Ty.g (tyAt (List.map tyv ts) (↑(Int.toNat (↑i : Int)) : Int))), Value.int .i64 (Ty.u (tyAt (List.map tyv ts) (↑(Int.toNat (↑i : Int)) : Int))), Value.int .i64 (Ty.a (tyAt (List.map tyv ts) (↑(Int.toNat (↑i : Int)) : Int))), Value.int .i64 (Ty.y (tyAt (List.map tyv ts) (↑(Int.toNat (↑i : Int)) : Int))), Value.string (Ty.nm (tyAt (List.map tyv ts) (↑(Int.toNat (↑i : Int)) : Int))), Value.int .i64 (Ty.sn (tyAt (List.map tyv ts) (↑(Int.toNat (↑i : Int)) : Int))), Value.int .i64 (Ty.se (tyAt (List.map tyv ts) (↑(Int.toNat (↑i : Int)) : Int))), Value.int .i64 (Ty.ca (tyAt (List.map tyv ts) (↑(Int.toNat (↑i : Int)) : Int))), Value.int .i64 (Ty.be (tyAt (List.map tyv ts) (↑(Int.toNat (↑i : Int)) : Int))), Value.int .i64 (Ty.le (tyAt (List.map tyv ts) (↑(Int.toNat (↑i : Int)) : Int))), Value.int .i64 (Ty.ba (tyAt (List.map tyv ts) (↑(Int.toNat (↑i : Int)) : Int))), Value.int .i64 (Ty.en (tyAt (List.map tyv ts) (↑(Int.toNat (↑i : Int)) : Int))), Value.int .i64 (Ty.oc (tyAt (List.map tyv ts) (↑(Int.toNat (↑i : Int)) : Int))), Value.int .i64 (Ty.su (tyAt (List.map tyv ts) (↑(Int.toNat (↑i : Int)) : Int))), Value.int .i64 (Ty.sb (tyAt (List.map tyv ts) (↑(Int.toNat (↑i : Int)) : Int))), Value.int .i64 (Ty.fa (tyAt (List.map tyv ts) (↑(Int.toNat (↑i : Int)) : Int)))])) ∧ Sp (decide (Ty.g (tyAt (List.map tyv ts) (↑(Int.toNat (↑i : Int)) : Int)) = g)) (((0 : Int) ≤ IntKind.wrap .i64 (Ty.oc (tyAt (List.map tyv ts) (↑(Int.toNat (↑i : Int)) : Int)) - (1 : Int)) ∧ IntKind.wrap .i64 (Ty.oc (tyAt (List.map tyv ts) (↑(Int.toNat (↑i : Int)) : Int)) - (1 : Int)) < (4 : Int)) ∧ nth o (Int.toNat (↑(Int.toNat (IntKind.wrap .i64 (Ty.oc (tyAt (List.map tyv ts) (↑(Int.toNat (↑i : Int)) : Int)) - (1 : Int))) + (0 : Nat)) : Int)) = some (Value.int .i64 (intAt o (↑(Int.toNat (IntKind.wrap .i64 (Ty.oc (tyAt (List.map tyv ts) (↑(Int.toNat (↑i : Int)) : Int)) - (1 : Int))) + (0 : Nat)) : Int))) ∧ ((0 : Int) ≤ IntKind.wrap .i64 (Ty.oc (tyAt (List.map tyv ts) (↑(Int.toNat (↑i : Int)) : Int)) - (1 : Int)) ∧ IntKind.wrap .i64 (Ty.oc (tyAt (List.map tyv ts) (↑(Int.toNat (↑i : Int)) : Int)) - (1 : Int)) < (4 : Int)) ∧ Int.toNat (↑(Int.toNat (IntKind.wrap .i64 (Ty.oc (tyAt (List.map tyv ts) (↑(Int.toNat (↑i : Int)) : Int)) - (1 : Int))) + (0 : Nat)) : Int) < List.length o ∧ HF (Value.func (Go.Fn.yield (16 : Nat)) (Array.mk (List.map tyv ts)) (Array.mk [])) ∧ HF (Value.agg (Array.mk (List.set o (Int.toNat (↑(Int.toNat (IntKind.wrap .i64 (Ty.oc (tyAt (List.map tyv ts) (↑(Int.toNat (↑i : Int)) : Int)) - (1 : Int))) + (0 : Nat)) : Int)) (Value.int .i64 (IntKind.wrap .i64 (intAt o (↑(Int.toNat (IntKind.wrap .i64 (Ty.oc (tyAt (List.map tyv ts) (↑(Int.toNat (↑i : Int)) : Int)) - (1 : Int))) + (0 : Nat)) : Int) + (1 : Int))))))) ∧ again (T.node (T.node (T.node (T.node T.leaf (some (Value.slice (some (Go.Addr.mk (0 : Nat) (0 : Nat) none)) (4 : Nat) (18446744073709551620 : Nat))) T.leaf) none (T.node (T.node T.leaf (some (Value.func (Go.Fn.yield (16 : Nat)) (Array.mk (List.map tyv ts)) (Array.mk []))) T.leaf) none T.leaf)) (some (Value.int .i64 g)) (T.node T.leaf none (T.node (T.node T.leaf (some (Value.int .i64 (IntKind.wrap .i64 ((↑i : Int) + (1 : Int))))) T.leaf) none T.leaf))) none (T.node (T.node T.leaf none (T.node (T.node T.leaf (some (Value.int .i64 (↑(List.length (List.map tyv ts)) : Int))) T.leaf) none T.leaf)) none T.leaf)) (AH.mk (T.node T.leaf (some (AObj.gro (List.set o (Int.toNat (↑(Int.toNat (IntKind.wrap .i64 (Ty.oc (tyAt (List.map tyv ts) (↑(Int.toNat (↑i : Int)) : Int)) - (1 : Int))) + (0 : Nat)) : Int)) (Value.int .i64 (IntKind.wrap .i64 (intAt o (↑(Int.toNat (IntKind.wrap .i64 (Ty.oc (tyAt (List.map tyv ts) (↑(Int.toNat (↑i : Int)) : Int)) - (1 : Int))) + (0 : Nat)) : Int) + (1 : Int))))) [] (3 : Nat))) T.leaf) (1 : Nat))) (HF (Value.func (Go.Fn.yield (16 : Nat)) (Array.mk (List.map tyv ts)) (Array.mk [])) ∧ HF (Value.agg (Array.mk o)) ∧ again (T.node (T.node (T.node (T.node T.leaf (some (Value.slice (some (Go.Addr.mk (0 : Nat) (0 : Nat) none)) (4 : Nat) (18446744073709551620 : Nat))) T.leaf) none (T.node (T.node T.leaf (some (Value.func (Go.Fn.yield (16 : Nat)) (Array.mk (List.map tyv ts)) (Array.mk []))) T.leaf) none T.leaf)) (some (Value.int .i64 g)) (T.node T.leaf none (T.node (T.node T.leaf (some (Value.int .i64 (IntKind.wrap .i64 ((↑i : Int) + (1 : Int))))) T.leaf) none T.leaf))) none (T.node (T.node T.leaf none (T.node (T.node T.leaf (some (Value.int .i64 (↑(List.length (List.map tyv ts)) : Int))) T.leaf) none T.leaf)) none T.leaf)) (AH.mk (T.node T.leaf (some (AObj.gro o [] (3 : Nat))) T.leaf) (1 : Nat)))) (K (Value.tuple (Array.mk [Value.slice (some (Go.Addr.mk (0 : Nat) (0 : Nat) none)) (4 : Nat) (18446744073709551620 : Nat), Value.int .i64 (0 : Int)])) (AH.mk (T.node T.leaf (some (AObj.gro o [] (3 : Nat))) T.leaf) (1 : Nat)))) := by kernel_rfl
def wantP (w v e : Int) : Value := .tuple ⟨[.int .i64 w, .int .i64 v, .int .i64 e]⟩
theorem HF_wantP (w v e : Int) : HF (wantP w v e) := .tuple (HF.cons (HFi _ _) (HF.cons (HFi _ _) (HF.cons (HFi _ _) HF.nil)))
theorem SW_loop (u s : Int) (ts : List Ty) (vs : List Vi) (ht : ts.length ≤ 20000) (hT : ∀ x ∈ ts, Times x u) (hu : 0 ≤ u ∧ u ≤ 1000000000000) (K : KV) (hK : ∀ v A, Frz A v (wantP (sumT (tw s u) ts) (sumT (tv s u) ts) 0) → K v A) :
    LAt (XN ts vs) 1 (Func.ntmps Proofs.Tryz.f23) (bodyOf Proofs.Tryz.f23) [1, 1, 0, 1, 0] (finK (XN ts vs).E (Proofs.Tryz.f23.results).toList K) (frPs (ts.map tyv) s 0 0 0) (hL u (ts.map tyv) (vs.map viv)) := by
  refine LAt.stepN (XN_ok ts vs) [] [] [] [1, 2, 4, 5, 17, 18, 19] (by kernel_rfl) (fun k F A => ∃ (i : Nat) (w v : Int), F = frPs (ts.map tyv) s w v i ∧ A = hL u (ts.map tyv) (vs.map viv) ∧ i + k = ts.length ∧ (0 ≤ w ∧ w ≤ 1000000000000 * (i : Int)) ∧ (0 ≤ v ∧ v ≤ 1000000000000 * (i : Int)) ∧ w + sumT (tw s u) (ts.drop i) = sumT (tw s u) ts ∧ v + sumT (tv s u) (ts.drop i) = sumT (tv s u) ts) ?_ (k := ts.length) ⟨0, 0, 0, rfl, rfl, by simp, by simp, by simp, by simp, by simp⟩
  rintro k F A ⟨i, w, v, rfl, rfl, hk, hw0, hv0, hew, hev⟩
  refine (jSW1_nf _ _ u s w v ts vs i).mpr ?_
  refine Sp.intro (fun h => ?_) (fun h => ?_)
  · have hlt : i < ts.length := by simpa using h
    rw [sumT_step hlt] at hew hev
    have hx := tw_in (s := s) (hT ts[i] (List.getElem_mem hlt)) hu.1
    obtain ⟨hx1, hx2, _, _⟩ := hx
    have hw : IntKind.i64.wrap ((i : Int) + 1) = ((i + 1 : Nat) : Int) := by rw [i64_in (by omega) (by omega)]; rfl
    have wr : ∀ x : Int, -9223372036854775808 ≤ x → x < 9223372036854775808 → IntKind.i64.wrap x = x := fun x a b => i64_in a b
    have go : ∀ (w1 v1 : Int) F1 A1, w1 = w + tw s u ts[i] → v1 = v + tv s u ts[i] → F1 = frPs (ts.map tyv) s w1 v1 (i + 1) → A1 = hL u (ts.map tyv) (vs.map viv) → ∃ k', k' < k ∧ ∃ (i : Nat) (w v : Int), F1 = frPs (ts.map tyv) s w v i ∧ A1 = hL u (ts.map tyv) (vs.map viv) ∧ i + k' = ts.length ∧ (0 ≤ w ∧ w ≤ 1000000000000 * (i : Int)) ∧ (0 ≤ v ∧ v ≤ 1000000000000 * (i : Int)) ∧ w + sumT (tw s u) (ts.drop i) = sumT (tw s u) ts ∧ v + sumT (tv s u) (ts.drop i) = sumT (tv s u) ts := fun w1 v1 F1 A1 a1 a2 a3 a4 =>
      ⟨k - 1, by omega, i + 1, w1, v1, a3, a4, by omega, by omega, by omega, by omega, by omega⟩
    simp only [Int.toNat_natCast, ty_at hlt, hw]
    refine ⟨ty_b hlt, ty_nth hlt, Sp.intro (fun c1 => ?_) (fun c1 => ⟨(by first | trivial | simp), Sp.intro (fun c2 => ?_) (fun c2 => ?_)⟩)⟩
    · rw [Bool.not_eq_true'] at c1
      exact ⟨HF_tys ts, HF_tys ts, HF_vis vs, go _ _ _ _ (by simp only [tw, c1, cond_false]; omega) (by simp only [tv, c1, cond_false]; omega) rfl rfl⟩
    · rw [Bool.not_eq_false'] at c1
      rw [Bool.not_eq_true'] at c2
      have e1 : tw s u ts[i] = orI ts[i].be u - ts[i].ca := by simp only [tw, c1, cond_true]
      have e2 : tv s u ts[i] = orI ts[i].le u - ts[i].be := by simp only [tv, c1, c2, cond_true, cond_false]
      refine ⟨(by first | trivial | simp), HF_tys ts, HF_tys ts, HF_vis vs, go _ _ _ _ ?_ ?_ rfl rfl⟩
      · rw [← e1, wr (tw s u ts[i]) (by omega) (by omega), wr (w + tw s u ts[i]) (by omega) (by omega)]
      · rw [← e2, wr (tv s u ts[i]) (by omega) (by omega), wr (v + tv s u ts[i]) (by omega) (by omega)]
    · rw [Bool.not_eq_false'] at c1
      rw [Bool.not_eq_false'] at c2
      have e1 : tw s u ts[i] = orI ts[i].be u - ts[i].ca := by simp only [tw, c1, cond_true]
      have e2 : tv s u ts[i] = 0 := by simp only [tv, c1, c2, cond_true]
      refine ⟨HF_tys ts, HF_tys ts, HF_vis vs, go _ _ _ _ ?_ ?_ rfl rfl⟩
      · rw [← e1, wr (tw s u ts[i]) (by omega) (by omega), wr (w + tw s u ts[i]) (by omega) (by omega)]
      · rw [e2]; omega
  · have hn : ts.length ≤ i := by simpa using h
    rw [List.drop_eq_nil_of_le hn] at hew hev
    simp only [sumT, Int.add_zero] at hew hev
    subst hew
    subst hev
    exact hK _ _ (.same (HF_wantP _ _ _))
theorem SW_walk (u s : Int) (ts : List Ty) (vs : List Vi) : Walk env Proofs.Tryz.f23 [logv u (ts.map tyv) (vs.map viv), .int .i64 s] (wantP (waO u ts vs s) (seO u ts vs s) (stE u ts vs s)) := by
  refine sxFn_frz (XN_ok ts vs) (d := 1) ((jSW_nf _ u s ts vs).mpr ?_)
  unfold waO seO
  refine ⟨⟨rfl, rfl⟩, Sp.intro (fun h => ?_) (fun h => ?_)⟩
  · rw [Bool.not_eq_true'] at h
    rw [h]
    exact .same (HF_wantP _ _ _)
  · rw [Bool.not_eq_false'] at h
    have h0 := of_decide_eq_true h
    obtain ⟨hu, hl, hc⟩ := logOk (stE0 h0)
    rw [h, h0]
    exact ⟨HF_tys ts, HF_tys ts, HF_vis vs, SW_loop u s ts vs hl.1 (fun x hx => chk_times (chkAll hc x hx)) hu _ (fun v A h => h)⟩
theorem SR_loop (u s : Int) (ts : List Ty) (vs : List Vi) (ht : ts.length ≤ 20000) (hT : ∀ x ∈ ts, Times x u) (hu : 0 ≤ u ∧ u ≤ 1000000000000) (K : KV) (hK : ∀ v A, Frz A v (wantP (sumT (tw s u) ts) (sumT (tv s u) ts) 0) → K v A) :
    LAt (XN ts vs) 1 (Func.ntmps Proofs.Tryz.f27) (bodyOf Proofs.Tryz.f27) [1, 1, 0, 1, 0] (finK (XN ts vs).E (Proofs.Tryz.f27.results).toList K) (frPs (ts.map tyv) s 0 0 0) (hL u (ts.map tyv) (vs.map viv)) := by
  refine LAt.stepN (XN_ok ts vs) [] [] [] [1, 2, 4, 5, 17, 18, 19] (by kernel_rfl) (fun k F A => ∃ (i : Nat) (w v : Int), F = frPs (ts.map tyv) s w v i ∧ A = hL u (ts.map tyv) (vs.map viv) ∧ i + k = ts.length ∧ (0 ≤ w ∧ w ≤ 1000000000000 * (i : Int)) ∧ (0 ≤ v ∧ v ≤ 1000000000000 * (i : Int)) ∧ w + sumT (tw s u) (ts.drop i) = sumT (tw s u) ts ∧ v + sumT (tv s u) (ts.drop i) = sumT (tv s u) ts) ?_ (k := ts.length) ⟨0, 0, 0, rfl, rfl, by simp, by simp, by simp, by simp, by simp⟩
  rintro k F A ⟨i, w, v, rfl, rfl, hk, hw0, hv0, hew, hev⟩
  refine (jSR1_nf _ _ u s w v ts vs i).mpr ?_
  refine Sp.intro (fun h => ?_) (fun h => ?_)
  · have hlt : i < ts.length := by simpa using h
    rw [sumT_step hlt] at hew hev
    have hx := tw_in (s := s) (hT ts[i] (List.getElem_mem hlt)) hu.1
    obtain ⟨hx1, hx2, _, _⟩ := hx
    have hw : IntKind.i64.wrap ((i : Int) + 1) = ((i + 1 : Nat) : Int) := by rw [i64_in (by omega) (by omega)]; rfl
    have wr : ∀ x : Int, -9223372036854775808 ≤ x → x < 9223372036854775808 → IntKind.i64.wrap x = x := fun x a b => i64_in a b
    have go : ∀ (w1 v1 : Int) F1 A1, w1 = w + tw s u ts[i] → v1 = v + tv s u ts[i] → F1 = frPs (ts.map tyv) s w1 v1 (i + 1) → A1 = hL u (ts.map tyv) (vs.map viv) → ∃ k', k' < k ∧ ∃ (i : Nat) (w v : Int), F1 = frPs (ts.map tyv) s w v i ∧ A1 = hL u (ts.map tyv) (vs.map viv) ∧ i + k' = ts.length ∧ (0 ≤ w ∧ w ≤ 1000000000000 * (i : Int)) ∧ (0 ≤ v ∧ v ≤ 1000000000000 * (i : Int)) ∧ w + sumT (tw s u) (ts.drop i) = sumT (tw s u) ts ∧ v + sumT (tv s u) (ts.drop i) = sumT (tv s u) ts := fun w1 v1 F1 A1 a1 a2 a3 a4 =>
      ⟨k - 1, by omega, i + 1, w1, v1, a3, a4, by omega, by omega, by omega, by omega, by omega⟩
    simp only [Int.toNat_natCast, ty_at hlt, hw]
    refine ⟨ty_b hlt, ty_nth hlt, Sp.intro (fun c1 => ?_) (fun c1 => Sp.intro (fun c2 => ?_) (fun c2 => ?_))⟩
    · rw [Bool.not_eq_true'] at c1
      exact ⟨HF_tys ts, HF_tys ts, HF_vis vs, go _ _ _ _ (by simp only [tw, c1, cond_false]; omega) (by simp only [tv, c1, cond_false]; omega) rfl rfl⟩
    · rw [Bool.not_eq_false'] at c1
      have e1 : tw s u ts[i] = u - ts[i].ca := by simp only [tw, orI, c1, c2, cond_true]
      have e2 : tv s u ts[i] = 0 := by simp only [tv, c1, c2, cond_true]
      refine ⟨HF_tys ts, HF_tys ts, HF_vis vs, go _ _ _ _ ?_ ?_ rfl rfl⟩
      · rw [← e1, wr (tw s u ts[i]) (by omega) (by omega), wr (w + tw s u ts[i]) (by omega) (by omega)]
      · rw [e2]; omega
    · rw [Bool.not_eq_false'] at c1
      have e1 : tw s u ts[i] = ts[i].be - ts[i].ca := by simp only [tw, orI, c1, c2, cond_true, cond_false]
      have e2 : tv s u ts[i] = orI ts[i].le u - ts[i].be := by simp only [tv, c1, c2, cond_true, cond_false]
      refine ⟨(by first | trivial | simp), (by first | trivial | simp), HF_tys ts, HF_tys ts, HF_vis vs, go _ _ _ _ ?_ ?_ rfl rfl⟩
      · rw [← e1, wr (tw s u ts[i]) (by omega) (by omega), wr (w + tw s u ts[i]) (by omega) (by omega)]
      · rw [← e2, wr (tv s u ts[i]) (by omega) (by omega), wr (v + tv s u ts[i]) (by omega) (by omega)]
  · have hn : ts.length ≤ i := by simpa using h
    rw [List.drop_eq_nil_of_le hn] at hew hev
    simp only [sumT, Int.add_zero] at hew hev
    subst hew
    subst hev
    exact hK _ _ (.same (HF_wantP _ _ _))
theorem SR_walk (u s : Int) (ts : List Ty) (vs : List Vi) : Walk env Proofs.Tryz.f27 [logv u (ts.map tyv) (vs.map viv), .int .i64 s] (wantP (waO u ts vs s) (seO u ts vs s) (stE u ts vs s)) := by
  refine sxFn_frz (XN_ok ts vs) (d := 1) ((jSR_nf _ u s ts vs).mpr ?_)
  unfold waO seO
  refine ⟨⟨rfl, rfl⟩, Sp.intro (fun h => ?_) (fun h => ?_)⟩
  · rw [Bool.not_eq_true'] at h
    rw [h]
    exact .same (HF_wantP _ _ _)
  · rw [Bool.not_eq_false'] at h
    have h0 := of_decide_eq_true h
    obtain ⟨hu, hl, hc⟩ := logOk (stE0 h0)
    rw [h, h0]
    exact ⟨HF_tys ts, HF_tys ts, HF_vis vs, SR_loop u s ts vs hl.1 (fun x hx => chk_times (chkAll hc x hx)) hu _ (fun v A h => h)⟩
def incO (o : List Int) (c : Int) : List Int := o.set (c - 1).toNat (IntKind.i64.wrap (intAt (o.map (Value.int .i64)) (((c - 1).toNat : Nat) : Int) + 1))
def outL (g : Int) : List Ty → List Int → List Int
  | [], o => o
  | x :: ts, o => outL g ts (bif decide (x.g = g) then incO o x.oc else o)
def ouE (u : Int) (ts : List Ty) (vs : List Vi) (g : Int) : Int := bif decide (logE u ts vs = 0) then (bif isIn g 0 19 then 0 else 9) else logE u ts vs
def ouO (u : Int) (ts : List Ty) (vs : List Vi) (g : Int) : List Int := bif decide (ouE u ts vs g = 0) then outL g ts [0, 0, 0, 0] else []
def wantO (o : List Int) (e : Int) : Value := .tuple ⟨[dat 1 (o.map (Value.int .i64)), .int .i64 e]⟩
theorem outL_step {g : Int} {ts : List Ty} {i : Nat} (h : i < ts.length) (o : List Int) : outL g (ts.drop i) o = outL g (ts.drop (i + 1)) (bif decide (ts[i].g = g) then incO o ts[i].oc else o) := by
  rw [List.drop_eq_getElem_cons h]; rfl
theorem incO_len (o : List Int) (c : Int) : (incO o c).length = o.length := by simp [incO]
theorem outL_len (g : Int) : ∀ (ts : List Ty) (o : List Int), (outL g ts o).length = o.length
  | [], o => rfl
  | x :: ts, o => by
    show (outL g ts _).length = _
    rw [outL_len g ts]
    cases decide (x.g = g) with
    | true => exact incO_len o x.oc
    | false => rfl
theorem frz_is {A : AH} {B n : Nat} {o : List Int} (hg : A.t.get B = some (.gro (o.map (Value.int .i64)) [] 3)) (hn : n = o.length) : Frz A (.slice (some ⟨B, 0, none⟩) n (unk + 3 + 1)) (dat 1 (o.map (Value.int .i64))) := by
  subst hn
  have hs : ∀ x ∈ o.map (Value.int .i64), x.cells.size = 1 := fun x hx => by
    obtain ⟨y, _, rfl⟩ := List.mem_map.1 hx
    rfl
  refine .gsl (lo := 0) hg (List.append_nil _) rfl rfl (by omega) (by simp) hs (by simp) ?_ rfl hs (by simp)
  rw [List.drop_zero, List.take_of_length_le (by simp), cellsL_ints]
  refine FrzL.same fun x hx => ?_
  obtain ⟨z, _, rfl⟩ := List.mem_map.1 hx
  exact HFi _ _
theorem OW_loop (u g : Int) (ts : List Ty) (vs : List Vi) (ht : ts.length ≤ 20000) (hT : ∀ x ∈ ts, Times x u) (K : KV) (hK : ∀ v A, Frz A v (wantO (outL g ts [0, 0, 0, 0]) 0) → K v A) :
    LAt (XOw ts vs) 1 (Func.ntmps Proofs.Tryz.f28) (bodyOf Proofs.Tryz.f28) [1, 1, 1, 1, 0, 1, 0] (finK (XOw ts vs).E (Proofs.Tryz.f28.results).toList K) (frOw (ts.map tyv) g 0) (hOs (([0, 0, 0, 0] : List Int).map (Value.int .i64))) := by
  refine LAt.stepN (XOw_ok ts vs) [] [] [] [1, 7, 20, 21, 22] (by kernel_rfl) (fun k F A => ∃ (i : Nat) (o : List Int), F = frOw (ts.map tyv) g i ∧ A = hOs (o.map (Value.int .i64)) ∧ i + k = ts.length ∧ o.length = 4 ∧ outL g (ts.drop i) o = outL g ts [0, 0, 0, 0]) ?_ (k := ts.length) ⟨0, [0, 0, 0, 0], rfl, rfl, by simp, rfl, rfl⟩
  rintro k F A ⟨i, o, rfl, rfl, hk, ho, he⟩
  refine (jOW1_nf _ _ g ts vs i _).mpr ?_
  refine Sp.intro (fun h => ?_) (fun h => ?_)
  · have hlt : i < ts.length := by simpa using h
    rw [outL_step hlt] at he
    have hoc := (hT ts[i] (List.getElem_mem hlt)).oc
    have hw : IntKind.i64.wrap ((i : Int) + 1) = ((i + 1 : Nat) : Int) := by rw [i64_in (by omega) (by omega)]; rfl
    have hwc : IntKind.i64.wrap (ts[i].oc - 1) = ts[i].oc - 1 := i64_in (by omega) (by omega)
    have hn : (ts[i].oc - 1).toNat < o.length := by omega
    simp only [Int.toNat_natCast, ty_at hlt, hw, hwc, Nat.add_zero]
    refine ⟨ty_b hlt, ty_nth hlt, Sp.intro (fun c => ?_) (fun c => ?_)⟩
    · have hs : (o.map (Value.int .i64)).set (ts[i].oc - 1).toNat (.int .i64 (IntKind.i64.wrap (intAt (o.map (Value.int .i64)) (((ts[i].oc - 1).toNat : Nat) : Int) + 1))) = (incO o ts[i].oc).map (Value.int .i64) := by
        unfold incO
        rw [List.map_set]
      have hc : nth (o.map (Value.int .i64)) (ts[i].oc - 1).toNat = some (.int .i64 (intAt (o.map (Value.int .i64)) (((ts[i].oc - 1).toNat : Nat) : Int))) := by rw [in_nth hn, in_at hn]
      refine ⟨⟨by omega, by omega⟩, hc, ⟨by omega, by omega⟩, by simpa using hn, HF_tys ts, by rw [hs]; exact HF_is _, k - 1, by omega, i + 1, incO o ts[i].oc, rfl, by rw [hs]; rfl, by omega, by rw [incO_len]; exact ho, ?_⟩
      rw [← he, c]; rfl
    · refine ⟨HF_tys ts, HF_is o, k - 1, by omega, i + 1, o, rfl, rfl, by omega, ho, ?_⟩
      rw [← he, c]; rfl
  · have hn : ts.length ≤ i := by simpa using h
    rw [List.drop_eq_nil_of_le hn] at he
    have he : o = outL g ts [0, 0, 0, 0] := he
    subst he
    exact hK _ _ (.tuple (.cons (frz_is rfl ho.symm) (.cons (.same (HFi _ _)) .nil)))
theorem OW_walk (u g : Int) (ts : List Ty) (vs : List Vi) : Walk env Proofs.Tryz.f28 [logv u (ts.map tyv) (vs.map viv), .int .i64 g] (wantO (ouO u ts vs g) (ouE u ts vs g)) := by
  refine sxFn_frz (XOw_ok ts vs) (d := 1) ((jOW_nf _ u g ts vs).mpr ?_)
  unfold ouO
  refine ⟨⟨rfl, rfl⟩, Sp.intro (fun h => ?_) (fun h => Sp.intro (fun h1 => ?_) (fun h1 => ?_))⟩
  · rw [Bool.not_eq_true'] at h
    have e : ouE u ts vs g = logE u ts vs := by simp only [ouE, h, cond_false]
    rw [e, h]
    exact .tuple (.cons (.nils 1) (.cons (.same (HFi _ _)) .nil))
  · rw [Bool.not_eq_false'] at h
    rw [Bool.not_eq_true'] at h1
    have e : ouE u ts vs g = 9 := by simp only [ouE, isIn, h, h1, cond_true, cond_false]
    rw [e]
    exact .tuple (.cons (.nils 1) (.cons (.same (HFi _ _)) .nil))
  · rw [Bool.not_eq_false'] at h h1
    have e : ouE u ts vs g = 0 := by simp only [ouE, isIn, h, h1, cond_true]
    obtain ⟨hu, hl, hc⟩ := logOk (of_decide_eq_true h)
    rw [e]
    exact ⟨⟨by omega, by omega, by omega, by omega⟩, HF_tys ts, HF_is [0, 0, 0, 0], OW_loop u g ts vs hl.1 (fun x hx => chk_times (chkAll hc x hx)) _ (fun v A h => h)⟩
theorem OR_loop (u g : Int) (ts : List Ty) (vs : List Vi) (ht : ts.length ≤ 20000) (hT : ∀ x ∈ ts, Times x u) (K : KV) (hK : ∀ v A, Frz A v (wantO (outL g ts [0, 0, 0, 0]) 0) → K v A) :
    LAt (XOr ts vs) 1 (Func.ntmps Proofs.Tryz.f29) (bodyOf Proofs.Tryz.f29) [1, 1, 1, 1, 0, 1, 0] (finK (XOr ts vs).E (Proofs.Tryz.f29.results).toList K) (frOr (ts.map tyv) g 0) (hOs (([0, 0, 0, 0] : List Int).map (Value.int .i64))) := by
  refine LAt.stepN (XOr_ok ts vs) [] [] [] [1, 7, 19, 20, 21] (by kernel_rfl) (fun k F A => ∃ (i : Nat) (o : List Int), F = frOr (ts.map tyv) g i ∧ A = hOs (o.map (Value.int .i64)) ∧ i + k = ts.length ∧ o.length = 4 ∧ outL g (ts.drop i) o = outL g ts [0, 0, 0, 0]) ?_ (k := ts.length) ⟨0, [0, 0, 0, 0], rfl, rfl, by simp, rfl, rfl⟩
  rintro k F A ⟨i, o, rfl, rfl, hk, ho, he⟩
  refine (jOR1_nf _ _ g ts vs i _).mpr ?_
  refine Sp.intro (fun h => ?_) (fun h => ?_)
  · have hlt : i < ts.length := by simpa using h
    rw [outL_step hlt] at he
    have hoc := (hT ts[i] (List.getElem_mem hlt)).oc
    have hw : IntKind.i64.wrap ((i : Int) + 1) = ((i + 1 : Nat) : Int) := by rw [i64_in (by omega) (by omega)]; rfl
    have hwc : IntKind.i64.wrap (ts[i].oc - 1) = ts[i].oc - 1 := i64_in (by omega) (by omega)
    have hn : (ts[i].oc - 1).toNat < o.length := by omega
    simp only [Int.toNat_natCast, ty_at hlt, hw, hwc, Nat.add_zero]
    refine ⟨ty_b hlt, ty_nth hlt, Sp.intro (fun c => ?_) (fun c => ?_)⟩
    · have hs : (o.map (Value.int .i64)).set (ts[i].oc - 1).toNat (.int .i64 (IntKind.i64.wrap (intAt (o.map (Value.int .i64)) (((ts[i].oc - 1).toNat : Nat) : Int) + 1))) = (incO o ts[i].oc).map (Value.int .i64) := by
        unfold incO
        rw [List.map_set]
      have hc : nth (o.map (Value.int .i64)) (ts[i].oc - 1).toNat = some (.int .i64 (intAt (o.map (Value.int .i64)) (((ts[i].oc - 1).toNat : Nat) : Int))) := by rw [in_nth hn, in_at hn]
      refine ⟨⟨by omega, by omega⟩, hc, ⟨by omega, by omega⟩, by simpa using hn, HF_tys ts, by rw [hs]; exact HF_is _, k - 1, by omega, i + 1, incO o ts[i].oc, rfl, by rw [hs]; rfl, by omega, by rw [incO_len]; exact ho, ?_⟩
      rw [← he, c]; rfl
    · refine ⟨HF_tys ts, HF_is o, k - 1, by omega, i + 1, o, rfl, rfl, by omega, ho, ?_⟩
      rw [← he, c]; rfl
  · have hn : ts.length ≤ i := by simpa using h
    rw [List.drop_eq_nil_of_le hn] at he
    have he : o = outL g ts [0, 0, 0, 0] := he
    subst he
    exact hK _ _ (.tuple (.cons (frz_is rfl ho.symm) (.cons (.same (HFi _ _)) .nil)))
theorem OR_walk (u g : Int) (ts : List Ty) (vs : List Vi) : Walk env Proofs.Tryz.f29 [logv u (ts.map tyv) (vs.map viv), .int .i64 g] (wantO (ouO u ts vs g) (ouE u ts vs g)) := by
  refine sxFn_frz (XOr_ok ts vs) (d := 1) ((jOR_nf _ u g ts vs).mpr ?_)
  unfold ouO
  refine ⟨⟨rfl, rfl⟩, Sp.intro (fun h => ?_) (fun h => Sp.intro (fun h1 => ?_) (fun h1 => ?_))⟩
  · rw [Bool.not_eq_true'] at h
    have e : ouE u ts vs g = logE u ts vs := by simp only [ouE, h, cond_false]
    rw [e, h]
    exact .tuple (.cons (.nils 1) (.cons (.same (HFi _ _)) .nil))
  · rw [Bool.not_eq_false'] at h
    rw [Bool.not_eq_true'] at h1
    have e : ouE u ts vs g = 9 := by simp only [ouE, isIn, h, h1, cond_true, cond_false]
    rw [e]
    exact .tuple (.cons (.nils 1) (.cons (.same (HFi _ _)) .nil))
  · rw [Bool.not_eq_false'] at h h1
    have e : ouE u ts vs g = 0 := by simp only [ouE, isIn, h, h1, cond_true]
    obtain ⟨hu, hl, hc⟩ := logOk (of_decide_eq_true h)
    rw [e]
    exact ⟨⟨by omega, by omega, by omega, by omega⟩, HF_tys ts, HF_is [0, 0, 0, 0], OR_loop u g ts vs hl.1 (fun x hx => chk_times (chkAll hc x hx)) _ (fun v A h => h)⟩
end
end Go.T9
set_option maxRecDepth 1000000
set_option linter.unusedVariables false
set_option linter.unusedSimpArgs false
namespace Go.T9
open Go Go.AM
noncomputable section
def XA : SX := ⟨env, tabI, elG, fun k => bif Nat.beq k 4 then .auto [] [0, 1, 2, 17, 18, 19] else .auto [] [0, 1, 2, 10, 61, 62, 63]⟩
theorem XA_ok : XA.Ok := ⟨env_ok, env_sym, env_gl, tabI_ok⟩
def frA1 (xs : List Value) (fr to : Int) (i : Nat) : T Value := (.node (.node (.node .leaf none (.node (.node .leaf (some (.int .i64 i)) .leaf) none .leaf)) (some (.int .i64 fr)) (.node (.node (.node .leaf (some (dat 2 xs)) .leaf) none .leaf) none .leaf)) (some (dat 2 xs)) (.node .leaf (some (.int .i64 to)) (.node (.node (.node .leaf (some (.int .i64 xs.length)) .leaf) none .leaf) none .leaf)))
def frA2 (xs : List Value) (fr to S : Int) (i : Nat) : T Value := (.node (.node (.node (.node (.node (.node (.node .leaf (some (.int .i64 i)) .leaf) none .leaf) none .leaf) none .leaf) none .leaf) (some (.int .i64 fr)) (.node .leaf none (.node .leaf none (.node .leaf none (.node .leaf (some (dat 2 xs)) .leaf))))) (some (dat 2 xs)) (.node .leaf (some (.int .i64 to)) (.node (.node .leaf (some (.int .i64 S)) .leaf) none (.node .leaf none (.node .leaf none (.node .leaf (some (.int .i64 xs.length)) .leaf))))))
def jAr (Q : Value → Prop) (QA : KV) (xs : List Value) (fr to : Int) : Prop := sxFn XA 1 Proofs.Tryz.f24 [dat 2 xs, .int .i64 fr, .int .i64 to] (leafK Q QA)
def jAr1 (Q : Value → Prop) (QA : KV) (again : KF) (xs : List Value) (fr to : Int) (i : Nat) : Prop := sxStepA XA 1 Proofs.Tryz.f24 [1, 1, 0, 1, 0] (leafK Q QA) [] [0, 1, 2, 17, 18, 19] again (frA1 xs fr to i) ⟨.leaf, 0⟩
def jAr2 (Q : Value → Prop) (QA : KV) (again : KF) (xs : List Value) (fr to S : Int) (i : Nat) : Prop := sxStepA XA 1 Proofs.Tryz.f24 [1, 1, 1, 1, 1, 0, 1, 0] (leafK Q QA) [] [0, 1, 2, 10, 61, 62, 63] again (frA2 xs fr to S i) ⟨.leaf, 0⟩
end
end Go.T9
set_option maxRecDepth 1000000
set_option linter.unusedVariables false
set_option linter.unusedSimpArgs false
set_option maxHeartbeats 4000000
namespace Go.T9
open Go Go.AM
noncomputable section
theorem jAr_nf (Q : Go.Value → Prop) (QA : KV) (xs : List Go.Value) (fr : Int) (to : Int) : jAr Q QA xs fr to = (Sp (decide ((40000 : Int) < (↑(List.length xs) : Int))) (Q (Value.tuple (Array.mk [Value.int .i64 (0 : Int), Value.int .i64 (3 : Int)]))) (HF (Value.func (Go.Fn.yield (2 : Nat)) (Array.mk xs) (Array.mk [])) ∧ HF (Value.func (Go.Fn.yield (2 : Nat)) (Array.mk xs) (Array.mk [])) ∧ LAt XA (1 : Nat) (Go.Func.ntmps Go.Proofs.Tryz.f24) (bodyOf Go.Proofs.Tryz.f24) [(1 : Nat), (1 : Nat), (0 : Nat), (1 : Nat), (0 : Nat)] (finK (SX.E XA) (Array.toList (Go.Func.results Go.Proofs.Tryz.f24)) (leafK Q QA)) (T.node (T.node (T.node T.leaf none (T.node (T.node T.leaf (some (Value.int .i64 (0 : Int))) T.leaf) none T.leaf)) (some (Value.int .i64 fr)) (T.node (T.node (T.node T.leaf (some (Value.func (Go.Fn.yield (2 : Nat)) (Array.mk xs) (Array.mk []))) T.leaf) none T.leaf) none T.leaf)) (some (Value.func (Go.Fn.yield (2 : Nat)) (Array.mk xs) (Array.mk []))) (T.node T.leaf (some (Value.int .i64 to)) (T.node (T.node (T.node T.leaf (some (Value.int .i64 (↑(List.length xs) : Int))) T.leaf) none T.leaf) none T.leaf))) (AH.mk T.leaf (0 : Nat)))) := by kernel_rfl
theorem jAr1_nf (Q : Go.Value → Prop) (QA : KV) (again : KF) (xs : List Go.Value) (fr : Int) (to : Int) (i : Nat) : jAr1 Q QA again xs fr to i = (Sp (decide ((↑i : Int) < (↑(List.length xs) : Int))) (((0 : Int) ≤ (↑i : Int) ∧ (↑i : Int) < (↑(List.length xs) : Int)) ∧ nth xs (Int.toNat (↑(Int.toNat (↑i : Int)) : Int)) = some (Value.agg (Array.mk [Value.int .i64 (Ch.a (chAt xs (↑(Int.toNat (↑i : Int)) : Int))), Value.int .i64 (Ch.u (chAt xs (↑(Int.toNat (↑i : Int)) : Int)))])) ∧ Sp (!(decide ((0 : Int) ≤ Ch.a (chAt xs (↑(Int.toNat (↑i : Int)) : Int))) && decide (Ch.a (chAt xs (↑(Int.toNat (↑i : Int)) : Int)) ≤ (1000000000000 : Int)))) (Q (Value.tuple (Array.mk [Value.int .i64 (0 : Int), Value.int .i64 (9 : Int)]))) (Sp (!(decide ((0 : Int) ≤ Ch.u (chAt xs (↑(Int.toNat (↑i : Int)) : Int))) && decide (Ch.u (chAt xs (↑(Int.toNat (↑i : Int)) : Int)) ≤ (40000 : Int)))) (Q (Value.tuple (Array.mk [Value.int .i64 (0 : Int), Value.int .i64 (9 : Int)]))) (Sp (decide ((0 : Int) < (↑i : Int))) (((0 : Int) ≤ IntKind.wrap .i64 ((↑i : Int) - (1 : Int)) ∧ IntKind.wrap .i64 ((↑i : Int) - (1 : Int)) < (↑(List.length xs) : Int)) ∧ nth xs (Int.toNat (↑(Int.toNat (IntKind.wrap .i64 ((↑i : Int) - (1 : Int)))) : Int)) = some (Value.agg (Array.mk [Value.int .i64 (Ch.a (chAt xs (↑(Int.toNat (IntKind.wrap .i64 ((↑i : Int) - (1 : Int)))) : Int))), Value.int .i64 (Ch.u (chAt xs (↑(Int.toNat (IntKind.wrap .i64 ((↑i : Int) - (1 : Int)))) : Int)))])) ∧ Sp (decide (Ch.a (chAt xs (↑(Int.toNat (↑i : Int)) : Int)) ≤ Ch.a (chAt xs (↑(Int.toNat (IntKind.wrap .i64 ((↑i : Int) - (1 : Int)))) : Int)))) (Q (Value.tuple (Array.mk [Value.int .i64 (0 : Int), Value.int .i64 (10 : Int)]))) (HF (Value.func (Go.Fn.yield (2 : Nat)) (Array.mk xs) (Array.mk [])) ∧ HF (Value.func (Go.Fn.yield (2 : Nat)) (Array.mk xs) (Array.mk [])) ∧ again (T.node (T.node (T.node T.leaf none (T.node (T.node T.leaf (some (Value.int .i64 (IntKind.wrap .i64 ((↑i : Int) + (1 : Int))))) T.leaf) none T.leaf)) (some (Value.int .i64 fr)) (T.node (T.node (T.node T.leaf (some (Value.func (Go.Fn.yield (2 : Nat)) (Array.mk xs) (Array.mk []))) T.leaf) none T.leaf) none T.leaf)) (some (Value.func (Go.Fn.yield (2 : Nat)) (Array.mk xs) (Array.mk []))) (T.node T.leaf (some (Value.int .i64 to)) (T.node (T.node (T.node T.leaf (some (Value.int .i64 (↑(List.length xs) : Int))) T.leaf) none T.leaf) none T.leaf))) (AH.mk T.leaf (0 : Nat)))) (HF (Value.func (Go.Fn.yield (2 : Nat)) (Array.mk xs) (Array.mk [])) ∧ HF (Value.func (Go.Fn.yield (2 : Nat)) (Array.mk xs) (Array.mk [])) ∧ again (T.node (T.node (T.node T.leaf none (T.node (T.node T.leaf (some (Value.int .i64 (IntKind.wrap .i64 ((↑i : Int) + (1 : Int))))) T.leaf) none T.leaf)) (some (Value.int .i64 fr)) (T.node (T.node (T.node T.leaf (some (Value.func (Go.Fn.yield (2 : Nat)) (Array.mk xs) (Array.mk []))) T.leaf) none T.leaf) none T.leaf)) (some (Value.func (Go.Fn.yield (2 : Nat)) (Array.mk xs) (Array.mk []))) (T.node T.leaf (some (Value.int .i64 to)) (T.node (T.node (T.node T.leaf (some (Value.int .i64 (↑(List.length xs) : Int))) T.leaf) none T.leaf) none T.leaf))) (AH.mk T.leaf (0 : Nat)))))) (Sp (decide (fr < (0 : Int))) (Q (Value.tuple (Array.mk [Value.int .i64 (0 : Int), Value.int .i64 (9 : Int)]))) (Sp (decide (to < fr)) (Q (Value.tuple (Array.mk [Value.int .i64 (0 : Int), Value.int .i64 (9 : Int)]))) (Sp (decide ((1000000000000 : Int) < to)) (Q (Value.tuple (Array.mk [Value.int .i64 (0 : Int), Value.int .i64 (9 : Int)]))) (HF (Value.func (Go.Fn.yield (2 : Nat)) (Array.mk xs) (Array.mk [])) ∧ HF (Value.func (Go.Fn.yield (2 : Nat)) (Array.mk xs) (Array.mk [])) ∧ LAt XA (1 : Nat) (Go.Func.ntmps Go.Proofs.Tryz.f24) (bodyOf Go.Proofs.Tryz.f24) [(1 : Nat), (1 : Nat), (1 : Nat), (1 : Nat), (1 : Nat), (0 : Nat), (1 : Nat), (0 : Nat)] (finK (SX.E XA) (Array.toList (Go.Func.results Go.Proofs.Tryz.f24)) (leafK Q QA)) (T.node (T.node (T.node (T.node (T.node (T.node (T.node T.leaf (some (Value.int .i64 (0 : Int))) T.leaf) none T.leaf) none T.leaf) none T.leaf) none T.leaf) (some (Value.int .i64 fr)) (T.node T.leaf none (T.node T.leaf none (T.node T.leaf none (T.node T.leaf (some (Value.func (Go.Fn.yield (2 : Nat)) (Array.mk xs) (Array.mk []))) T.leaf))))) (some (Value.func (Go.Fn.yield (2 : Nat)) (Array.mk xs) (Array.mk []))) (T.node T.leaf (some (Value.int .i64 to)) (T.node (T.node T.leaf (some (Value.int .i64 (0 : Int))) T.leaf) none (T.node T.leaf none (T.node T.leaf none (T.node T.leaf (some (Value.int .i64 (↑(List.length xs) : Int))) T.leaf)))))) (AH.mk T.leaf (0 : Nat))))))) := by kernel_rfl
theorem jAr2_nf (Q : Go.Value → Prop) (QA : KV) (again : KF) (xs : List Go.Value) (fr : Int) (to : Int) (S : Int) (i : Nat) : jAr2 Q QA again xs fr to S i = (Sp (decide ((↑i : Int) < (↑(List.length xs) : Int))) (((0 : Int) ≤ (↑i : Int) ∧ (↑i : Int) < (↑(List.length xs) : Int)) ∧ nth xs (Int.toNat (↑(Int.toNat (↑i : Int)) : Int)) = some (Value.agg (Array.mk [Value.int .i64 (Ch.a (chAt xs (↑(Int.toNat (↑i : Int)) : Int))), Value.int .i64 (Ch.u (chAt xs (↑(Int.toNat (↑i : Int)) : Int)))])) ∧ Sp (decide (IntKind.wrap .i64 ((↑i : Int) + (1 : Int)) < (↑(List.length xs) : Int))) (((0 : Int) ≤ IntKind.wrap .i64 ((↑i : Int) + (1 : Int)) ∧ IntKind.wrap .i64 ((↑i : Int) + (1 : Int)) < (↑(List.length xs) : Int)) ∧ nth xs (Int.toNat (↑(Int.toNat (IntKind.wrap .i64 ((↑i : Int) + (1 : Int)))) : Int)) = some (Value.agg (Array.mk [Value.int .i64 (Ch.a (chAt xs (↑(Int.toNat (IntKind.wrap .i64 ((↑i : Int) + (1 : Int)))) : Int))), Value.int .i64 (Ch.u (chAt xs (↑(Int.toNat (IntKind.wrap .i64 ((↑i : Int) + (1 : Int)))) : Int)))])) ∧ HF (Value.func (Go.Fn.yield (2 : Nat)) (Array.mk xs) (Array.mk [])) ∧ HF (Value.func (Go.Fn.yield (2 : Nat)) (Array.mk xs) (Array.mk [])) ∧ again (T.node (T.node (T.node (T.node (T.node (T.node (T.node T.leaf (some (Value.int .i64 (IntKind.wrap .i64 ((↑i : Int) + (1 : Int))))) T.leaf) none T.leaf) none T.leaf) none T.leaf) none T.leaf) (some (Value.int .i64 fr)) (T.node T.leaf none (T.node T.leaf none (T.node T.leaf none (T.node T.leaf (some (Value.func (Go.Fn.yield (2 : Nat)) (Array.mk xs) (Array.mk []))) T.leaf))))) (some (Value.func (Go.Fn.yield (2 : Nat)) (Array.mk xs) (Array.mk []))) (T.node T.leaf (some (Value.int .i64 to)) (T.node (T.node T.leaf (some (Value.int .i64 (IntKind.wrap .i64 (S + IntKind.wrap .i64 (Ch.u (chAt xs (↑(Int.toNat (↑i : Int)) : Int)) * Max.max (0 : Int) (IntKind.wrap .i64 (Min.min to (Ch.a (chAt xs (↑(Int.toNat (IntKind.wrap .i64 ((↑i : Int) + (1 : Int)))) : Int))) - Max.max (Ch.a (chAt xs (↑(Int.toNat (↑i : Int)) : Int))) fr))))))) T.leaf) none (T.node T.leaf none (T.node T.leaf none (T.node T.leaf (some (Value.int .i64 (↑(List.length xs) : Int))) T.leaf)))))) (AH.mk T.leaf (0 : Nat))) (HF (Value.func (Go.Fn.yield (2 : Nat)) (Array.mk xs) (Array.mk [])) ∧ HF (Value.func (Go.Fn.yield (2 : Nat)) (Array.mk xs) (Array.mk [])) ∧ again (T.node (T.node (T.node (T.node (T.node (T.node (T.node T.leaf (some (Value.int .i64 (IntKind.wrap .i64 ((↑i : Int) + (1 : Int))))) T.leaf) none T.leaf) none T.leaf) none T.leaf) none T.leaf) (some (Value.int .i64 fr)) (T.node T.leaf none (T.node T.leaf none (T.node T.leaf none (T.node T.leaf (some (Value.func (Go.Fn.yield (2 : Nat)) (Array.mk xs) (Array.mk []))) T.leaf))))) (some (Value.func (Go.Fn.yield (2 : Nat)) (Array.mk xs) (Array.mk []))) (T.node T.leaf (some (Value.int .i64 to)) (T.node (T.node T.leaf (some (Value.int .i64 (IntKind.wrap .i64 (S + IntKind.wrap .i64 (Ch.u (chAt xs (↑(Int.toNat (↑i : Int)) : Int)) * Max.max (0 : Int) (IntKind.wrap .i64 (to - Max.max (Ch.a (chAt xs (↑(Int.toNat (↑i : Int)) : Int))) fr))))))) T.leaf) none (T.node T.leaf none (T.node T.leaf none (T.node T.leaf (some (Value.int .i64 (↑(List.length xs) : Int))) T.leaf)))))) (AH.mk T.leaf (0 : Nat)))) (Q (Value.tuple (Array.mk [Value.int .i64 S, Value.int .i64 (0 : Int)])))) := by kernel_rfl
theorem wrap_add (x y : Int) : IntKind.i64.wrap (IntKind.i64.wrap x + IntKind.i64.wrap y) = IntKind.i64.wrap (x + y) := by
  have e1 : (2 : Int) ^ IntKind.i64.bits = 18446744073709551616 := by decide
  have e2 : (2 : Int) ^ (IntKind.i64.bits - 1) = 9223372036854775808 := by decide
  have e3 : IntKind.i64.signed = true := rfl
  unfold IntKind.wrap
  rw [e1, e2, e3]
  simp only [Bool.true_and, decide_eq_true_eq]
  split <;> split <;> split <;> split <;> omega
def prevC (xs : List Ch) : Nat → Option Int
  | 0 => none
  | i + 1 => (xs[i]?).map (·.a)
theorem fault_cons {p : Option Int} {x : Ch} {l : List Ch} (h : faultB p (x :: l) = 0) : (0 ≤ x.a ∧ x.a ≤ 1000000000000 ∧ 0 ≤ x.u ∧ x.u ≤ 40000) ∧ leP p x.a = false ∧ faultB (some x.a) l = 0 := by
  unfold faultB at h
  cases h1 : chpB x with
  | false => rw [h1] at h; simp at h
  | true =>
    rw [h1] at h
    simp only [cond_true] at h
    cases h2 : leP p x.a with
    | true => rw [h2] at h; simp at h
    | false =>
      rw [h2] at h
      simp only [cond_false] at h
      refine ⟨?_, rfl, h⟩
      simp only [chpB, Bool.and_eq_true, decide_eq_true_eq] at h1
      omega
theorem fault_each : ∀ {xs : List Ch} {p : Option Int}, faultB p xs = 0 → ∀ x ∈ xs, 0 ≤ x.a ∧ x.a ≤ 1000000000000 ∧ 0 ≤ x.u ∧ x.u ≤ 40000
  | [], _, _, x, hx => by simp at hx
  | y :: l, p, h, x, hx => by
    obtain ⟨h1, _, h3⟩ := fault_cons h
    rcases List.mem_cons.1 hx with rfl | e
    · exact h1
    · exact fault_each h3 x e
def okA (xs : List Ch) (fr to : Int) : Prop := xs.length ≤ 40000 ∧ faultB none xs = 0 ∧ 0 ≤ fr ∧ fr ≤ to ∧ to ≤ 1000000000000
def wantA (xs : List Ch) (fr to : Int) : Value := .tuple ⟨[.int .i64 (IntKind.i64.wrap (areaS fr to xs)), .int .i64 0]⟩
theorem area_drop {fr to : Int} {xs : List Ch} {i : Nat} (h : i < xs.length) : areaS fr to (xs.drop i) = xs[i].u * max 0 (nextA to (xs.drop (i + 1)) - max xs[i].a fr) + areaS fr to (xs.drop (i + 1)) := by
  rw [List.drop_eq_getElem_cons h]; rfl
theorem A2_loop (Q : Value → Prop) (QA : KV) (xs : List Ch) (fr to : Int) (h : okA xs fr to) (hQ : Q (wantA xs fr to)) :
    LAt XA 1 (Func.ntmps Proofs.Tryz.f24) (bodyOf Proofs.Tryz.f24) [1, 1, 1, 1, 1, 0, 1, 0] (finK XA.E (Proofs.Tryz.f24.results).toList (leafK Q QA)) (frA2 (xs.map cv) fr to 0 0) ⟨.leaf, 0⟩ := by
  obtain ⟨hl, hf, h0, h1, h2⟩ := h
  refine LAt.stepA XA_ok [] [0, 1, 2, 10, 61, 62, 63] (by kernel_rfl) (fun k F A => ∃ (i : Nat) (S : Int), F = frA2 (xs.map cv) fr to (IntKind.i64.wrap S) i ∧ A = ⟨.leaf, 0⟩ ∧ i + k = xs.length ∧ S + areaS fr to (xs.drop i) = areaS fr to xs) ?_ (k := xs.length) ⟨0, 0, rfl, rfl, by simp, by simp⟩
  rintro k F A ⟨i, S, rfl, rfl, hk, hS⟩
  refine (jAr2_nf _ _ _ _ fr to _ i).mpr ?_
  refine Sp.intro (fun c => ?_) (fun c => ?_)
  · have hlt : i < xs.length := by simpa using c
    have hx := fault_each hf xs[i] (List.getElem_mem hlt)
    rw [area_drop hlt] at hS
    have hw : IntKind.i64.wrap ((i : Int) + 1) = ((i + 1 : Nat) : Int) := by rw [i64_in (by omega) (by omega)]; rfl
    have wr : ∀ x : Int, -9223372036854775808 ≤ x → x < 9223372036854775808 → IntKind.i64.wrap x = x := fun x a b => i64_in a b
    simp only [Int.toNat_natCast, ch_at hlt, hw]
    refine ⟨ch_b hlt, ch_nth hlt, Sp.intro (fun c2 => ?_) (fun c2 => ?_)⟩
    · have hlt2 : i + 1 < xs.length := by simp at c2; omega
      have hy := fault_each hf xs[i + 1] (List.getElem_mem hlt2)
      have en : nextA to (xs.drop (i + 1)) = min to xs[i + 1].a := by rw [List.drop_eq_getElem_cons hlt2]; rfl
      simp only [ch_at hlt2]
      refine ⟨ch_b hlt2, ch_nth hlt2, HF_chs xs, HF_chs xs, k - 1, by omega, i + 1, S + xs[i].u * max 0 (nextA to (xs.drop (i + 1)) - max xs[i].a fr), ?_, by first | trivial | rfl, by omega, by omega⟩
      rw [en, wr (min to xs[i + 1].a - max xs[i].a fr) (by omega) (by omega), wrap_add]
      rfl
    · have en : nextA to (xs.drop (i + 1)) = to := by rw [List.drop_eq_nil_of_le (by simp at c2; omega)]; rfl
      refine ⟨HF_chs xs, HF_chs xs, k - 1, by omega, i + 1, S + xs[i].u * max 0 (nextA to (xs.drop (i + 1)) - max xs[i].a fr), ?_, by first | trivial | rfl, by omega, by omega⟩
      rw [en, wr (to - max xs[i].a fr) (by omega) (by omega), wrap_add]
      rfl
  · have hn : xs.drop i = [] := List.drop_eq_nil_of_le (by simp at c; omega)
    rw [hn] at hS
    have hS : S = areaS fr to xs := by simpa [areaS] using hS
    subst hS
    exact hQ
theorem A1_loop (Q : Value → Prop) (QA : KV) (xs : List Ch) (fr to : Int) (h : okA xs fr to) (hQ : Q (wantA xs fr to)) :
    LAt XA 1 (Func.ntmps Proofs.Tryz.f24) (bodyOf Proofs.Tryz.f24) [1, 1, 0, 1, 0] (finK XA.E (Proofs.Tryz.f24.results).toList (leafK Q QA)) (frA1 (xs.map cv) fr to 0) ⟨.leaf, 0⟩ := by
  have hok := h
  obtain ⟨hl, hf, h0, h1, h2⟩ := h
  refine LAt.stepA XA_ok [] [0, 1, 2, 17, 18, 19] (by kernel_rfl) (fun k F A => ∃ i : Nat, F = frA1 (xs.map cv) fr to i ∧ A = ⟨.leaf, 0⟩ ∧ i + k = xs.length ∧ faultB (prevC xs i) (xs.drop i) = 0) ?_ (k := xs.length) ⟨0, rfl, rfl, by simp, by simpa [prevC] using hf⟩
  rintro k F A ⟨i, rfl, rfl, hk, he⟩
  refine (jAr1_nf _ _ _ _ fr to i).mpr ?_
  refine Sp.intro (fun c => ?_) (fun c => ?_)
  · have hlt : i < xs.length := by simpa using c
    rw [List.drop_eq_getElem_cons hlt] at he
    obtain ⟨hx, hle, hnext⟩ := fault_cons he
    have hw : IntKind.i64.wrap ((i : Int) + 1) = ((i + 1 : Nat) : Int) := by rw [i64_in (by omega) (by omega)]; rfl
    simp only [Int.toNat_natCast, ch_at hlt, hw]
    refine ⟨ch_b hlt, ch_nth hlt, Sp.intro (fun c2 => by simp at c2; omega) (fun _ => Sp.intro (fun c2 => by simp at c2; omega) (fun _ => Sp.intro (fun c3 => ?_) (fun c3 => ⟨HF_chs xs, HF_chs xs, k - 1, by omega, i + 1, rfl, by first | trivial | rfl, by omega, by simpa [prevC, List.getElem?_eq_getElem hlt] using hnext⟩)))⟩
    have hi0 : 0 < i := by simpa using c3
    have hp : IntKind.i64.wrap ((i : Int) - 1) = ((i - 1 : Nat) : Int) := by rw [i64_in (by omega) (by omega)]; omega
    have hlt1 : i - 1 < xs.length := by omega
    simp only [hp, Int.toNat_natCast, ch_at hlt1]
    refine ⟨ch_b hlt1, ch_nth hlt1, Sp.intro (fun c4 => ?_) (fun _ => ⟨HF_chs xs, HF_chs xs, k - 1, by omega, i + 1, rfl, by first | trivial | rfl, by omega, by simpa [prevC, List.getElem?_eq_getElem hlt] using hnext⟩)⟩
    exfalso
    have e : prevC xs i = some xs[i - 1].a := by
      obtain ⟨j, rfl⟩ : ∃ j, i = j + 1 := ⟨i - 1, by omega⟩
      simp [prevC, List.getElem?_eq_getElem (show j < xs.length by omega)]
    rw [e] at hle
    simp only [leP] at hle
    rw [hle] at c4
    cases c4
  · refine Sp.intro (fun c2 => by simp at c2; omega) (fun _ => Sp.intro (fun c2 => by simp at c2; omega) (fun _ => Sp.intro (fun c2 => by simp at c2; omega) (fun _ => ⟨HF_chs xs, HF_chs xs, A2_loop Q QA xs fr to hok hQ⟩)))
theorem area_walk (xs : List Ch) (fr to : Int) (h : okA xs fr to) : Walk env Proofs.Tryz.f24 [dat 2 (xs.map cv), .int .i64 fr, .int .i64 to] (wantA xs fr to) := by
  refine sxFn_plain XA_ok (d := 1) (.tuple (HF.cons (HFi _ _) (HF.cons (HFi _ _) HF.nil))) ((jAr_nf _ _ _ fr to).mpr ?_)
  refine Sp.intro (fun c => ?_) (fun c => ⟨HF_chs xs, HF_chs xs, A1_loop _ _ xs fr to h rfl⟩)
  have := h.1
  simp at c
  omega
def vCh : Value → Ch
  | .agg ⟨[.int _ a, .int _ u]⟩ => ⟨a, u⟩
  | _ => ⟨0, 0⟩
theorem vCh_map (xs : List Ch) : (xs.map cv).map vCh = xs := by
  rw [List.map_map]
  exact (List.map_congr_left fun x _ => rfl).trans (List.map_id _)
def areaX : List Value → Option Value
  | [.func (.yield 2) ⟨els⟩ ⟨[]⟩, .int .i64 a, .int .i64 b] => some (.tuple ⟨[.int .i64 (IntKind.i64.wrap (areaS a b (els.map vCh))), .int .i64 0]⟩)
  | _ => none
def areaPre : List Value → Option Prop
  | [.func (.yield 2) ⟨els⟩ ⟨[]⟩, .int .i64 a, .int .i64 b] => some (∃ xs : List Ch, els = xs.map cv ∧ okA xs a b)
  | _ => none
theorem area_tab : ∀ args A p v A', pureR areaPre areaX args A = some (p, v, A') → PH p → CallAt env 24 args A v A' := walk_tab env_ok env_gl (fn := Proofs.Tryz.f24) rfl fun args v h hp => by
  unfold areaX at h
  split at h
  · simp only [Option.some.injEq] at h
    subst h
    obtain ⟨xs, rfl, hok⟩ := hp
    refine ⟨HF.cons (HF_chs xs) (HF.cons (HFi _ _) (HF.cons (HFi _ _) HF.nil)), ?_⟩
    rw [vCh_map]
    exact area_walk xs _ _ hok
  · cases h
def inX (ts : List Ty) (vs : List Vi) : List Value → Option Value
  | [.agg ⟨[.int .i64 u, .func (.yield 16) ⟨_⟩ ⟨[]⟩, .func (.yield 7) ⟨_⟩ ⟨[]⟩]⟩, .int .i64 s] => some (.tuple ⟨[dat 2 ((inO u ts vs s).map cv), .int .i64 (stE u ts vs s)]⟩)
  | _ => none
def buX (ts : List Ty) (vs : List Vi) : List Value → Option Value
  | [.agg ⟨[.int .i64 u, .func (.yield 16) ⟨_⟩ ⟨[]⟩, .func (.yield 7) ⟨_⟩ ⟨[]⟩]⟩, .int .i64 s] => some (.tuple ⟨[dat 2 ((buO u ts vs s).map cv), .int .i64 (stE u ts vs s)]⟩)
  | _ => none
def spX (ts : List Ty) (vs : List Vi) : List Value → Option Value
  | [.agg ⟨[.int .i64 u, .func (.yield 16) ⟨_⟩ ⟨[]⟩, .func (.yield 7) ⟨_⟩ ⟨[]⟩]⟩, .int .i64 s] => some (.tuple ⟨[.int .i64 (waO u ts vs s), .int .i64 (seO u ts vs s), .int .i64 (stE u ts vs s)]⟩)
  | _ => none
def ouX (ts : List Ty) (vs : List Vi) : List Value → Option Value
  | [.agg ⟨[.int .i64 u, .func (.yield 16) ⟨_⟩ ⟨[]⟩, .func (.yield 7) ⟨_⟩ ⟨[]⟩]⟩, .int .i64 s] => some (.tuple ⟨[dat 1 ((ouO u ts vs s).map (Value.int .i64)), .int .i64 (ouE u ts vs s)]⟩)
  | _ => none
theorem inW_tab (ts : List Ty) (vs : List Vi) : ∀ args A p v A', pureR (csPre ts vs) (inX ts vs) args A = some (p, v, A') → PH p → CallAt env 20 args A v A' := walk_tab env_ok env_gl (fn := Proofs.Tryz.f20) rfl fun args v h hp => by
  unfold inX at h
  split at h
  · simp only [Option.some.injEq] at h
    subst h
    obtain ⟨rfl, rfl⟩ := hp
    exact ⟨HF.cons (HF_log _ ts vs) (HF.cons (HFi _ _) HF.nil), IW_walk _ _ ts vs⟩
  · cases h
theorem inR_tab (ts : List Ty) (vs : List Vi) : ∀ args A p v A', pureR (csPre ts vs) (inX ts vs) args A = some (p, v, A') → PH p → CallAt env 21 args A v A' := walk_tab env_ok env_gl (fn := Proofs.Tryz.f21) rfl fun args v h hp => by
  unfold inX at h
  split at h
  · simp only [Option.some.injEq] at h
    subst h
    obtain ⟨rfl, rfl⟩ := hp
    exact ⟨HF.cons (HF_log _ ts vs) (HF.cons (HFi _ _) HF.nil), IR_walk _ _ ts vs⟩
  · cases h
theorem buW_tab (ts : List Ty) (vs : List Vi) : ∀ args A p v A', pureR (csPre ts vs) (buX ts vs) args A = some (p, v, A') → PH p → CallAt env 22 args A v A' := walk_tab env_ok env_gl (fn := Proofs.Tryz.f22) rfl fun args v h hp => by
  unfold buX at h
  split at h
  · simp only [Option.some.injEq] at h
    subst h
    obtain ⟨rfl, rfl⟩ := hp
    exact ⟨HF.cons (HF_log _ ts vs) (HF.cons (HFi _ _) HF.nil), BW_walk _ _ ts vs⟩
  · cases h
theorem buR_tab (ts : List Ty) (vs : List Vi) : ∀ args A p v A', pureR (csPre ts vs) (buX ts vs) args A = some (p, v, A') → PH p → CallAt env 26 args A v A' := walk_tab env_ok env_gl (fn := Proofs.Tryz.f26) rfl fun args v h hp => by
  unfold buX at h
  split at h
  · simp only [Option.some.injEq] at h
    subst h
    obtain ⟨rfl, rfl⟩ := hp
    exact ⟨HF.cons (HF_log _ ts vs) (HF.cons (HFi _ _) HF.nil), BR_walk _ _ ts vs⟩
  · cases h
theorem spW_tab (ts : List Ty) (vs : List Vi) : ∀ args A p v A', pureR (csPre ts vs) (spX ts vs) args A = some (p, v, A') → PH p → CallAt env 23 args A v A' := walk_tab env_ok env_gl (fn := Proofs.Tryz.f23) rfl fun args v h hp => by
  unfold spX at h
  split at h
  · simp only [Option.some.injEq] at h
    subst h
    obtain ⟨rfl, rfl⟩ := hp
    exact ⟨HF.cons (HF_log _ ts vs) (HF.cons (HFi _ _) HF.nil), SW_walk _ _ ts vs⟩
  · cases h
theorem spR_tab (ts : List Ty) (vs : List Vi) : ∀ args A p v A', pureR (csPre ts vs) (spX ts vs) args A = some (p, v, A') → PH p → CallAt env 27 args A v A' := walk_tab env_ok env_gl (fn := Proofs.Tryz.f27) rfl fun args v h hp => by
  unfold spX at h
  split at h
  · simp only [Option.some.injEq] at h
    subst h
    obtain ⟨rfl, rfl⟩ := hp
    exact ⟨HF.cons (HF_log _ ts vs) (HF.cons (HFi _ _) HF.nil), SR_walk _ _ ts vs⟩
  · cases h
theorem ouW_tab (ts : List Ty) (vs : List Vi) : ∀ args A p v A', pureR (csPre ts vs) (ouX ts vs) args A = some (p, v, A') → PH p → CallAt env 28 args A v A' := walk_tab env_ok env_gl (fn := Proofs.Tryz.f28) rfl fun args v h hp => by
  unfold ouX at h
  split at h
  · simp only [Option.some.injEq] at h
    subst h
    obtain ⟨rfl, rfl⟩ := hp
    exact ⟨HF.cons (HF_log _ ts vs) (HF.cons (HFi _ _) HF.nil), OW_walk _ _ ts vs⟩
  · cases h
theorem ouR_tab (ts : List Ty) (vs : List Vi) : ∀ args A p v A', pureR (csPre ts vs) (ouX ts vs) args A = some (p, v, A') → PH p → CallAt env 29 args A v A' := walk_tab env_ok env_gl (fn := Proofs.Tryz.f29) rfl fun args v h hp => by
  unfold ouX at h
  split at h
  · simp only [Option.some.injEq] at h
    subst h
    obtain ⟨rfl, rfl⟩ := hp
    exact ⟨HF.cons (HF_log _ ts vs) (HF.cons (HFi _ _) HF.nil), OR_walk _ _ ts vs⟩
  · cases h
def tabLw (ts : List Ty) (vs : List Vi) : Tab := [(20, pureR (csPre ts vs) (inX ts vs)), (21, pureR (csPre ts vs) (inX ts vs)), (22, pureR (csPre ts vs) (buX ts vs)), (26, pureR (csPre ts vs) (buX ts vs)), (23, pureR (csPre ts vs) (spX ts vs)), (27, pureR (csPre ts vs) (spX ts vs)), (28, pureR (csPre ts vs) (ouX ts vs)), (29, pureR (csPre ts vs) (ouX ts vs)), (24, pureR areaPre areaX), (25, pureR eqCPre eqCX), (19, pureR eqIPre eqIX), (12, pureR (fun _ => none) ranP)]
theorem tabLw_ok (ts : List Ty) (vs : List Vi) : TabOk env (tabLw ts vs) := .cons (inW_tab ts vs) (.cons (inR_tab ts vs) (.cons (buW_tab ts vs) (.cons (buR_tab ts vs) (.cons (spW_tab ts vs) (.cons (spR_tab ts vs) (.cons (ouW_tab ts vs) (.cons (ouR_tab ts vs) (.cons area_tab (.cons eqC_tab (.cons eqI_tab (.cons (con_tab ranP_con) .nil)))))))))))
def XLw (ts : List Ty) (vs : List Vi) : SX := ⟨env, tabLw ts vs, noEl, fun _ => .unroll 0⟩
theorem XLw_ok (ts : List Ty) (vs : List Vi) : (XLw ts vs).Ok := ⟨env_ok, env_sym, env_gl, tabLw_ok ts vs⟩
def jLI (K : KV) (u s : Int) (ts : List Ty) (vs : List Vi) : Prop := sxFn (XLw ts vs) 1 Proofs.Tryz.f6 [logv u (ts.map tyv) (vs.map viv), .int .i64 s] K
def jLA (K : KV) (u s : Int) (ts : List Ty) (vs : List Vi) : Prop := sxFn (XLw ts vs) 1 Proofs.Tryz.f5 [logv u (ts.map tyv) (vs.map viv), .int .i64 s] K
end
end Go.T9
set_option maxRecDepth 1000000
set_option linter.unusedVariables false
set_option linter.unusedSimpArgs false
namespace Go.T9
open Go Go.AM
noncomputable section
theorem opens_ty : Opens Proofs.Tryz.prog 59 (fun acs => ∃ x : Ty, acs = (tyv x).cells.toList) := by
  intro H enc w base sp held fuel cs x hx
  have I : Opens Proofs.Tryz.prog 3 _ := opens_int Proofs.Tryz.underlying3
  obtain ⟨acs, hR, hv⟩ := opens_struct Proofs.Tryz.underlying59 (by kernel_rfl) (.cons (by kernel_rfl) I (.cons (by kernel_rfl) I (.cons (by kernel_rfl) I (.cons (by kernel_rfl) I (.cons (by kernel_rfl) (opens_string Proofs.Tryz.underlying9) (.cons (by kernel_rfl) I (.cons (by kernel_rfl) I (.cons (by kernel_rfl) I (.cons (by kernel_rfl) I (.cons (by kernel_rfl) I (.cons (by kernel_rfl) I (.cons (by kernel_rfl) I (.cons (by kernel_rfl) I (.cons (by kernel_rfl) I (.cons (by kernel_rfl) I (.cons (by kernel_rfl) I .nil)))))))))))))))) enc w base sp held fuel cs x hx
  obtain ⟨_, _, ⟨a0, rfl, _⟩, ⟨_, _, ⟨a1, rfl, _⟩, ⟨_, _, ⟨a2, rfl, _⟩, ⟨_, _, ⟨a3, rfl, _⟩, ⟨_, _, ⟨s4, rfl, _⟩, ⟨_, _, ⟨a5, rfl, _⟩, ⟨_, _, ⟨a6, rfl, _⟩, ⟨_, _, ⟨a7, rfl, _⟩, ⟨_, _, ⟨a8, rfl, _⟩, ⟨_, _, ⟨a9, rfl, _⟩, ⟨_, _, ⟨a10, rfl, _⟩, ⟨_, _, ⟨a11, rfl, _⟩, ⟨_, _, ⟨a12, rfl, _⟩, ⟨_, _, ⟨a13, rfl, _⟩, ⟨_, _, ⟨a14, rfl, _⟩, ⟨_, _, ⟨a15, rfl, _⟩, rfl, rfl⟩, rfl⟩, rfl⟩, rfl⟩, rfl⟩, rfl⟩, rfl⟩, rfl⟩, rfl⟩, rfl⟩, rfl⟩, rfl⟩, rfl⟩, rfl⟩, rfl⟩, rfl⟩ := hR
  exact ⟨_, ⟨⟨a0, a1, a2, a3, s4, a5, a6, a7, a8, a9, a10, a11, a12, a13, a14, a15⟩, rfl⟩, hv⟩
theorem opens_vi : Opens Proofs.Tryz.prog 62 (fun acs => ∃ x : Vi, acs = (viv x).cells.toList) := by
  intro H enc w base sp held fuel cs x hx
  have I : Opens Proofs.Tryz.prog 3 _ := opens_int Proofs.Tryz.underlying3
  obtain ⟨acs, hR, hv⟩ := opens_struct Proofs.Tryz.underlying62 (by kernel_rfl) (.cons (by kernel_rfl) I (.cons (by kernel_rfl) I (.cons (by kernel_rfl) I (.cons (by kernel_rfl) I (.cons (by kernel_rfl) I (.cons (by kernel_rfl) I (.cons (by kernel_rfl) (opens_string Proofs.Tryz.underlying9) .nil))))))) enc w base sp held fuel cs x hx
  obtain ⟨_, _, ⟨a0, rfl, _⟩, ⟨_, _, ⟨a1, rfl, _⟩, ⟨_, _, ⟨a2, rfl, _⟩, ⟨_, _, ⟨a3, rfl, _⟩, ⟨_, _, ⟨a4, rfl, _⟩, ⟨_, _, ⟨a5, rfl, _⟩, ⟨_, _, ⟨s6, rfl, _⟩, rfl, rfl⟩, rfl⟩, rfl⟩, rfl⟩, rfl⟩, rfl⟩, rfl⟩ := hR
  exact ⟨_, ⟨⟨a0, a1, a2, a3, a4, a5, s6⟩, rfl⟩, hv⟩
theorem opens_tys : Opens Proofs.Tryz.prog 22 (fun acs => ∃ xs : List Ty, acs = [dat 16 (xs.map tyv)] ∧ xs.length ≤ maxLen) :=
  opens_slice (sz := 16) (ev := tyv) Proofs.Tryz.underlying22 (by kernel_rfl) (by decide) (fun _ => rfl) opens_ty (fun _ h => h)
theorem opens_vis : Opens Proofs.Tryz.prog 23 (fun acs => ∃ xs : List Vi, acs = [dat 7 (xs.map viv)] ∧ xs.length ≤ maxLen) :=
  opens_slice (sz := 7) (ev := viv) Proofs.Tryz.underlying23 (by kernel_rfl) (by decide) (fun _ => rfl) opens_vi (fun _ h => h)
theorem opens_log : Opens Proofs.Tryz.prog 25 (fun acs => ∃ (u : Int) (ts : List Ty) (vs : List Vi), .agg ⟨acs⟩ = logv u (ts.map tyv) (vs.map viv)) := by
  intro H enc w base sp held fuel cs x hx
  obtain ⟨acs, hR, hv⟩ := opens_struct Proofs.Tryz.underlying25 (by kernel_rfl) (.cons (by kernel_rfl) (opens_int Proofs.Tryz.underlying3) (.cons (by kernel_rfl) opens_tys (.cons (by kernel_rfl) opens_vis .nil))) enc w base sp held fuel cs x hx
  obtain ⟨_, _, ⟨a, rfl, _⟩, ⟨_, _, ⟨ts, rfl, _⟩, ⟨_, _, ⟨vs, rfl, _⟩, rfl, rfl⟩, rfl⟩, rfl⟩ := hR
  exact ⟨_, ⟨a, ts, vs, rfl⟩, hv⟩
theorem arg_log {H : Type} {enc : TypeId × Value → H} {w : World} {r : Reach} {b0 base : Nat} {sp : Nat → Bool} {held : Bool} {v : Value} {d : DataW H} {ps : List MemPlace} (hv : Value.okWide Proofs.Tryz.prog w r b0 25 v) (hT : DataW.Trod enc Proofs.Tryz.prog w base sp held 25 v d ps) : ∃ (u : Int) (ts : List Ty) (vs : List Vi), VR (sig0 w) (logv u (ts.map tyv) (vs.map viv)) v := by
  obtain ⟨acs, ⟨u, ts, vs, hp⟩, h⟩ := arg_struct Proofs.Tryz.underlying25 opens_log hv hT
  exact ⟨u, ts, vs, hp ▸ h⟩
end
end Go.T9
set_option maxRecDepth 1000000
set_option linter.unusedVariables false
set_option linter.unusedSimpArgs false
namespace Go.T9
open Go Go.AM
noncomputable section
theorem jLI_nf (K : KV) (u : Int) (s : Int) (ts : List Ty) (vs : List Vi) : jLI K u s ts vs = ((List.map tyv ts = List.map tyv ts ∧ List.map viv vs = List.map viv vs) ∧ (List.map tyv ts = List.map tyv ts ∧ List.map viv vs = List.map viv vs) ∧ Sp (!decide (stE u ts vs s = stE u ts vs s)) (K (Value.bool Bool.false) (AH.mk (T.node T.leaf (some (AObj.cells [Value.int .i64 u, Value.func (Go.Fn.yield (16 : Nat)) (Array.mk (List.map tyv ts)) (Array.mk []), Value.func (Go.Fn.yield (7 : Nat)) (Array.mk (List.map viv vs)) (Array.mk [])] (25 : Nat))) T.leaf) (1 : Nat))) ((List.map cv (inO u ts vs s) = List.map cv (inO u ts vs s) ∧ ∃ (l : List Ch), List.map cv (inO u ts vs s) = List.map cv l ∧ List.length l < (9223372036854775807 : Nat)) ∧ (List.map tyv ts = List.map tyv ts ∧ List.map viv vs = List.map viv vs) ∧ (List.map tyv ts = List.map tyv ts ∧ List.map viv vs = List.map viv vs) ∧ Sp (!decide (stE u ts vs s = stE u ts vs s)) (K (Value.bool Bool.false) (AH.mk (T.node T.leaf (some (AObj.cells [Value.int .i64 u, Value.func (Go.Fn.yield (16 : Nat)) (Array.mk (List.map tyv ts)) (Array.mk []), Value.func (Go.Fn.yield (7 : Nat)) (Array.mk (List.map viv vs)) (Array.mk [])] (25 : Nat))) T.leaf) (1 : Nat))) ((List.map cv (buO u ts vs s) = List.map cv (buO u ts vs s) ∧ ∃ (l : List Ch), List.map cv (buO u ts vs s) = List.map cv l ∧ List.length l < (9223372036854775807 : Nat)) ∧ (List.map tyv ts = List.map tyv ts ∧ List.map viv vs = List.map viv vs) ∧ (List.map tyv ts = List.map tyv ts ∧ List.map viv vs = List.map viv vs) ∧ Sp (!decide (waO u ts vs s = waO u ts vs s)) (K (Value.bool Bool.false) (AH.mk (T.node T.leaf (some (AObj.cells [Value.int .i64 u, Value.func (Go.Fn.yield (16 : Nat)) (Array.mk (List.map tyv ts)) (Array.mk []), Value.func (Go.Fn.yield (7 : Nat)) (Array.mk (List.map viv vs)) (Array.mk [])] (25 : Nat))) T.leaf) (1 : Nat))) (Sp (!decide (seO u ts vs s = seO u ts vs s)) (K (Value.bool Bool.false) (AH.mk (T.node T.leaf (some (AObj.cells [Value.int .i64 u, Value.func (Go.Fn.yield (16 : Nat)) (Array.mk (List.map tyv ts)) (Array.mk []), Value.func (Go.Fn.yield (7 : Nat)) (Array.mk (List.map viv vs)) (Array.mk [])] (25 : Nat))) T.leaf) (1 : Nat))) (Sp (!decide (stE u ts vs s = stE u ts vs s)) (K (Value.bool Bool.false) (AH.mk (T.node T.leaf (some (AObj.cells [Value.int .i64 u, Value.func (Go.Fn.yield (16 : Nat)) (Array.mk (List.map tyv ts)) (Array.mk []), Value.func (Go.Fn.yield (7 : Nat)) (Array.mk (List.map viv vs)) (Array.mk [])] (25 : Nat))) T.leaf) (1 : Nat))) ((List.map tyv ts = List.map tyv ts ∧ List.map viv vs = List.map viv vs) ∧ (List.map tyv ts = List.map tyv ts ∧ List.map viv vs = List.map viv vs) ∧ Sp (decide (ouE u ts vs s = ouE u ts vs s)) ((List.map (Value.int .i64) (ouO u ts vs s) = List.map (Value.int .i64) (ouO u ts vs s) ∧ ∃ (l : List Int), List.map (Value.int .i64) (ouO u ts vs s) = List.map (Value.int .i64) l ∧ List.length l < (9223372036854775807 : Nat)) ∧ K (Value.bool Bool.true) (AH.mk (T.node T.leaf (some (AObj.cells [Value.int .i64 u, Value.func (Go.Fn.yield (16 : Nat)) (Array.mk (List.map tyv ts)) (Array.mk []), Value.func (Go.Fn.yield (7 : Nat)) (Array.mk (List.map viv vs)) (Array.mk [])] (25 : Nat))) T.leaf) (1 : Nat))) (K (Value.bool Bool.false) (AH.mk (T.node T.leaf (some (AObj.cells [Value.int .i64 u, Value.func (Go.Fn.yield (16 : Nat)) (Array.mk (List.map tyv ts)) (Array.mk []), Value.func (Go.Fn.yield (7 : Nat)) (Array.mk (List.map viv vs)) (Array.mk [])] (25 : Nat))) T.leaf) (1 : Nat))))))))) := by kernel_rfl
theorem jLA_nf (K : KV) (u : Int) (s : Int) (ts : List Ty) (vs : List Vi) : jLA K u s ts vs = ((List.map tyv ts = List.map tyv ts ∧ List.map viv vs = List.map viv vs) ∧ Sp (!decide (stE u ts vs s = (0 : Int))) ((List.map tyv ts = List.map tyv ts ∧ List.map viv vs = List.map viv vs) ∧ Sp (decide (stE u ts vs s = stE u ts vs s)) (K (Value.bool Bool.true) (AH.mk (T.node T.leaf (some (AObj.cells [Value.int .i64 u, Value.func (Go.Fn.yield (16 : Nat)) (Array.mk (List.map tyv ts)) (Array.mk []), Value.func (Go.Fn.yield (7 : Nat)) (Array.mk (List.map viv vs)) (Array.mk [])] (25 : Nat))) T.leaf) (1 : Nat))) (K (Value.bool Bool.false) (AH.mk (T.node T.leaf (some (AObj.cells [Value.int .i64 u, Value.func (Go.Fn.yield (16 : Nat)) (Array.mk (List.map tyv ts)) (Array.mk []), Value.func (Go.Fn.yield (7 : Nat)) (Array.mk (List.map viv vs)) (Array.mk [])] (25 : Nat))) T.leaf) (1 : Nat)))) ((List.map tyv ts = List.map tyv ts ∧ List.map viv vs = List.map viv vs) ∧ Sp (!decide (stE u ts vs s = (0 : Int))) (K (Value.bool Bool.false) (AH.mk (T.node T.leaf (some (AObj.cells [Value.int .i64 u, Value.func (Go.Fn.yield (16 : Nat)) (Array.mk (List.map tyv ts)) (Array.mk []), Value.func (Go.Fn.yield (7 : Nat)) (Array.mk (List.map viv vs)) (Array.mk [])] (25 : Nat))) T.leaf) (1 : Nat))) ((List.map tyv ts = List.map tyv ts ∧ List.map viv vs = List.map viv vs) ∧ Sp (!decide (stE u ts vs s = (0 : Int))) (K (Value.bool Bool.false) (AH.mk (T.node T.leaf (some (AObj.cells [Value.int .i64 u, Value.func (Go.Fn.yield (16 : Nat)) (Array.mk (List.map tyv ts)) (Array.mk []), Value.func (Go.Fn.yield (7 : Nat)) (Array.mk (List.map viv vs)) (Array.mk [])] (25 : Nat))) T.leaf) (1 : Nat))) ((∃ (xs : List Ch), List.map cv (inO u ts vs s) = List.map cv xs ∧ okA xs (0 : Int) u) ∧ (∃ (xs : List Ch), List.map cv (buO u ts vs s) = List.map cv xs ∧ okA xs (0 : Int) u) ∧ Sp (decide (IntKind.wrap .i64 (areaS (0 : Int) u (List.map vCh (List.map cv (inO u ts vs s)))) = IntKind.wrap .i64 (waO u ts vs s + seO u ts vs s))) (Sp (decide (IntKind.wrap .i64 (areaS (0 : Int) u (List.map vCh (List.map cv (buO u ts vs s)))) = seO u ts vs s)) (K (Value.bool Bool.true) (AH.mk (T.node T.leaf (some (AObj.cells [Value.int .i64 u, Value.func (Go.Fn.yield (16 : Nat)) (Array.mk (List.map tyv ts)) (Array.mk []), Value.func (Go.Fn.yield (7 : Nat)) (Array.mk (List.map viv vs)) (Array.mk [])] (25 : Nat))) T.leaf) (1 : Nat))) (K (Value.bool Bool.false) (AH.mk (T.node T.leaf (some (AObj.cells [Value.int .i64 u, Value.func (Go.Fn.yield (16 : Nat)) (Array.mk (List.map tyv ts)) (Array.mk []), Value.func (Go.Fn.yield (7 : Nat)) (Array.mk (List.map viv vs)) (Array.mk [])] (25 : Nat))) T.leaf) (1 : Nat)))) (K (Value.bool Bool.false) (AH.mk (T.node T.leaf (some (AObj.cells [Value.int .i64 u, Value.func (Go.Fn.yield (16 : Nat)) (Array.mk (List.map tyv ts)) (Array.mk []), Value.func (Go.Fn.yield (7 : Nat)) (Array.mk (List.map viv vs)) (Array.mk [])] (25 : Nat))) T.leaf) (1 : Nat))))))) := by kernel_rfl
theorem inO_len (u : Int) (ts : List Ty) (vs : List Vi) (s : Int) : (inO u ts vs s).length < 9223372036854775807 := by
  cases h : decide (stE u ts vs s = 0) with
  | true => have h1 := (spent_law (of_decide_eq_true h)).2.2.1; omega
  | false => unfold inO; rw [h]; simp
theorem buO_len (u : Int) (ts : List Ty) (vs : List Vi) (s : Int) : (buO u ts vs s).length < 9223372036854775807 := by
  cases h : decide (stE u ts vs s = 0) with
  | true => have h1 := (spent_law (of_decide_eq_true h)).2.2.2.1; omega
  | false => unfold buO; rw [h]; simp
theorem ouO_len (u : Int) (ts : List Ty) (vs : List Vi) (s : Int) : (ouO u ts vs s).length < 9223372036854775807 := by
  unfold ouO
  cases decide (ouE u ts vs s = 0) with
  | true => simp only [cond_true, outL_len]; simp
  | false => simp
theorem lawI_walk (u s : Int) (ts : List Ty) (vs : List Vi) : Walk env Proofs.Tryz.f6 [logv u (ts.map tyv) (vs.map viv), .int .i64 s] (.bool true) := by
  refine sxFn_frz (XLw_ok ts vs) (d := 1) ((jLI_nf _ u s ts vs).mpr ?_)
  have e2 : ∀ {p q : Prop}, Sp (!true) p q = q := rfl
  have e1 : ∀ {p q : Prop}, Sp true p q = p := rfl
  simp only [decide_true, e1, e2, true_and, and_self]
  exact ⟨⟨inO u ts vs s, rfl, inO_len u ts vs s⟩, ⟨buO u ts vs s, rfl, buO_len u ts vs s⟩, ⟨ouO u ts vs s, rfl, ouO_len u ts vs s⟩, .same (HFb _)⟩
theorem seO_in {u : Int} {ts : List Ty} {vs : List Vi} {s : Int} (h : stE u ts vs s = 0) : 0 ≤ seO u ts vs s ∧ seO u ts vs s ≤ 20000000000000000 := by
  obtain ⟨hu, hl, hc⟩ := logOk (stE0 h)
  have ht : ∀ x ∈ ts, Times x u := fun x hx => chk_times (chkAll hc x hx)
  have e : decide (stE u ts vs s = 0) = true := by simp [h]
  simp only [seO, e, cond_true]
  have h1 := sumT_in hu.1 (f := tv s u) (ts := ts) fun x hx => (tw_in (ht x hx) hu.1).2.1
  refine ⟨h1.1, Int.le_trans h1.2 ?_⟩
  have h2 : u * (ts.length : Int) ≤ 1000000000000 * (20000 : Int) := Int.mul_le_mul hu.2 (by omega) (by omega) (by omega)
  omega
theorem lawA_walk (u s : Int) (ts : List Ty) (vs : List Vi) : Walk env Proofs.Tryz.f5 [logv u (ts.map tyv) (vs.map viv), .int .i64 s] (.bool true) := by
  refine sxFn_frz (XLw_ok ts vs) (d := 1) ((jLA_nf _ u s ts vs).mpr ?_)
  refine ⟨⟨rfl, rfl⟩, Sp.intro (fun _ => ⟨⟨rfl, rfl⟩, Sp.intro (fun _ => .same (HFb _)) (fun h => by simp at h)⟩) (fun h => ?_)⟩
  have h0 : stE u ts vs s = 0 := by simpa using h
  obtain ⟨f1, f2, l1, l2, a1, a2⟩ := spent_law h0
  have hu := (logOk (stE0 h0)).1
  have hs := seO_in h0
  have hw : IntKind.i64.wrap (seO u ts vs s) = seO u ts vs s := i64_in (by omega) (by omega)
  have n0 : ¬ (!decide (stE u ts vs s = (0 : Int))) = true := by simp [h0]
  simp only [vCh_map, a1, a2, hw]
  refine ⟨⟨by first | trivial | rfl, by first | trivial | rfl⟩, Sp.intro (fun h => absurd h n0) (fun _ => ⟨⟨by first | trivial | rfl, by first | trivial | rfl⟩, Sp.intro (fun h => absurd h n0) (fun _ => ⟨⟨_, rfl, l1, f1, by omega, hu.1, hu.2⟩, ⟨_, rfl, l2, f2, by omega, hu.1, hu.2⟩, ?_⟩)⟩)⟩
  exact Sp.intro (fun _ => Sp.intro (fun _ => .same (HFb _)) (fun h => by simp at h)) (fun h => by simp at h)
theorem inside_law (u s : Int) (ts : List Ty) (vs : List Vi) (w : World) {v : Value} (hv : VR (sig0 w) (logv u (ts.map tyv) (vs.map viv)) v) : Calls Proofs.Tryz.prog 6 #[v, .int .i64 s] w fun e w' => e = .returned (.bool true) ∧ RowKit.Below w.heap.size w w' :=
  calls_flat (con_one env_ok env_gl (fn := Proofs.Tryz.f6) rfl (HF.cons (HF_log u ts vs) (HF.cons (HFi _ _) HF.nil)) (lawI_walk u s ts vs)) (one_self _ _) rfl w (env_none w) (.cons hv (.cons (.int _ _) .nil))
theorem timespent_law (u s : Int) (ts : List Ty) (vs : List Vi) (w : World) {v : Value} (hv : VR (sig0 w) (logv u (ts.map tyv) (vs.map viv)) v) : Calls Proofs.Tryz.prog 5 #[v, .int .i64 s] w fun e w' => e = .returned (.bool true) ∧ RowKit.Below w.heap.size w w' :=
  calls_flat (con_one env_ok env_gl (fn := Proofs.Tryz.f5) rfl (HF.cons (HF_log u ts vs) (HF.cons (HFi _ _) HF.nil)) (lawA_walk u s ts vs)) (one_self _ _) rfl w (env_none w) (.cons hv (.cons (.int _ _) .nil))
end
end Go.T9

/- A part of the proof. -/
import Derived.Test.YtibbcafgmjcilaaGreatDoorX1
import Derived.Test.YtibbcafgmjcilaaGreatDoorU2
import Derived.KernelRfl
set_option maxRecDepth 1000000
set_option linter.unusedVariables false
set_option linter.unusedSimpArgs false
set_option maxHeartbeats 4000000
namespace Go.T9
open Go Go.AM Go.MK
noncomputable section
def tabQ : Tab := [(27, pureR nmPre nmX)]
theorem tabQ_ok : TabOk envX tabQ := .cons (toX is_tab) .nil
def XQ : SX := ⟨envX, tabQ, elA, fun _ => .autoN [(.slot 5, 75, 2)] [] [5] [0, 5, 6, 7]⟩
theorem XQ_ok : XQ.Ok := ⟨envX_ok, envX_sym, envX_gl, tabQ_ok⟩
def frQE (s : SB) (i n : Nat) : T Value := (.node (.node (.node (.node .leaf (some (.int .i64 i)) .leaf) none .leaf) none (.node .leaf (some (.slice (some ⟨0, 0, none⟩) n (unk + 3 + 2))) .leaf)) (some (.string s)) (.node .leaf none (.node .leaf (some (.slice none 0 0)) .leaf)))
def frQN (s : SB) (i n b : Nat) : T Value := (.node (.node (.node (.node .leaf (some (.int .i64 i)) .leaf) none .leaf) none (.node .leaf (some (.slice (some ⟨0, 0, none⟩) n (unk + 3 + 2))) .leaf)) (some (.string s)) (.node .leaf none (.node .leaf (some (.slice (some ⟨1, 0, none⟩) b unk)) .leaf)))
def hQE (els : List Value) : AH := ⟨.node .leaf (some (.gro els [] 75)) .leaf, 1⟩
def hQN (els bs : List Value) : AH := ⟨.node (.node .leaf (some (.cells bs 5)) .leaf) (some (.gro els [] 75)) .leaf, 2⟩
def ntQ : Nat := Func.ntmps Proofs.Tryz.f35
def bdQ : Code := bodyOf Proofs.Tryz.f35
def kFinQ (K : KV) : KX := finK XQ.E (Proofs.Tryz.f35.results).toList K
def jQc (K : KV) (s : SB) : Prop := sxFnZ XQ 4 Proofs.Tryz.f35 [.string s] ⟨.leaf, 0⟩ K
def jQcE (K : KV) (again : KF) (s : SB) (i n : Nat) (els : List Value) : Prop := sxStepZ XQ 4 ntQ ⟨.leaf, 0⟩ bdQ [1, 1, 1, 1, 0, 1, 0] (kFinQ K) [(.slot 5, 75, 2)] [] [5] [0, 5, 6, 7] again (frQE s i n) (hQE els)
def jQcN (K : KV) (again : KF) (s : SB) (i n : Nat) (els bs : List Value) : Prop := sxStepZ XQ 4 ntQ ⟨.leaf, 0⟩ bdQ [1, 1, 1, 1, 0, 1, 0] (kFinQ K) [(.slot 5, 75, 2)] [] [5] [0, 5, 6, 7] again (frQN s i n bs.length) (hQN els bs)
end
end Go.T9
set_option maxRecDepth 1000000
set_option linter.unusedVariables false
set_option linter.unusedSimpArgs false
set_option maxHeartbeats 4000000
namespace Go.T9
open Go Go.AM Go.MK
noncomputable section
theorem jQc_nf (K : KV) (s : SB) : jQc K s = (Sp (decide ((1000000 : Int) < (↑(ByteArray.size s) : Int))) (K (Value.tuple (Array.mk [Value.slice Option.none (0 : Nat) (0 : Nat), Value.int IntKind.i64 (0 : Int), Value.int IntKind.i64 (3 : Int)])) (AH.mk T.leaf (0 : Nat))) (HF (Value.agg (Array.mk [])) ∧ LAtZ XQ (4 : Nat) (Go.Func.ntmps Go.Proofs.Tryz.f35) (AH.mk (AH.t (AH.mk T.leaf (0 : Nat))) (0 : Nat)) (bodyOf Go.Proofs.Tryz.f35) [(1 : Nat), (1 : Nat), (1 : Nat), (1 : Nat), (0 : Nat), (1 : Nat), (0 : Nat)] (finK (SX.E XQ) (Array.toList (Go.Func.results Go.Proofs.Tryz.f35)) K) (T.node (T.node (T.node (T.node T.leaf (Option.some (Value.int IntKind.i64 (0 : Int))) T.leaf) Option.none T.leaf) Option.none (T.node T.leaf (Option.some (Value.slice (Option.some (Go.Addr.mk (0 : Nat) (0 : Nat) Option.none)) (0 : Nat) (18446744073709551621 : Nat))) T.leaf)) (Option.some (Value.string s)) (T.node T.leaf Option.none (T.node T.leaf (Option.some (Value.slice Option.none (0 : Nat) (0 : Nat))) T.leaf))) (AH.mk (T.node T.leaf (Option.some (AObj.gro [] [] (75 : Nat))) T.leaf) (1 : Nat)))) := by kernel_rfl
theorem jQcE_nf (K : KV) (again : KF) (s : SB) (i : Nat) (n : Nat) (els : List Go.Value) : jQcE K again s i n els = (Sp (decide ((↑i : Int) < (↑(ByteArray.size s) : Int))) (((0 : Int) ≤ (↑i : Int) ∧ (↑i : Int) ≤ (↑(ByteArray.size s) : Int)) ∧ Sp (decide ((2 : Int) ≤ (↑(ByteArray.size (subB s (↑i : Int) (↑(ByteArray.size s) : Int))) : Int))) (((0 : Int) ≤ (2 : Int) ∧ (2 : Int) ≤ (↑(ByteArray.size (subB s (↑i : Int) (↑(ByteArray.size s) : Int))) : Int)) ∧ Sp (eqL (Array.toList (ByteArray.data (subB (subB s (↑i : Int) (↑(ByteArray.size s) : Int)) (0 : Int) (↑(ByteArray.size (ByteArray.mk #[(36 : UInt8), (36 : UInt8)])) : Int)))) (Array.toList (ByteArray.data (ByteArray.mk #[(36 : UInt8), (36 : UInt8)])))) (HF (Value.agg (Array.mk els)) ∧ HF (Value.agg (Array.mk [Value.int IntKind.u8 (36 : Int)])) ∧ again (T.node (T.node (T.node (T.node T.leaf (Option.some (Value.int IntKind.i64 (IntKind.wrap IntKind.i64 ((↑i : Int) + (2 : Int))))) T.leaf) Option.none T.leaf) Option.none (T.node T.leaf (Option.some (Value.slice (Option.some (Go.Addr.mk (0 : Nat) (0 : Nat) Option.none)) n (18446744073709551621 : Nat))) T.leaf)) (Option.some (Value.string s)) (T.node T.leaf Option.none (T.node T.leaf (Option.some (Value.slice (Option.some (Go.Addr.mk (1 : Nat) (0 : Nat) Option.none)) (1 : Nat) (18446744073709551616 : Nat))) T.leaf))) (AH.mk (T.node (T.node T.leaf (Option.some (AObj.cells [Value.int IntKind.u8 (36 : Int)] (5 : Nat))) T.leaf) (Option.some (AObj.gro els [] (75 : Nat))) T.leaf) (2 : Nat))) (((0 : Int) ≤ (↑i : Int) ∧ (↑i : Int) ≤ (↑(ByteArray.size s) : Int)) ∧ Sp (decide ((2 : Int) ≤ (↑(ByteArray.size (subB s (↑i : Int) (↑(ByteArray.size s) : Int))) : Int))) (((0 : Int) ≤ (2 : Int) ∧ (2 : Int) ≤ (↑(ByteArray.size (subB s (↑i : Int) (↑(ByteArray.size s) : Int))) : Int)) ∧ Sp (eqL (Array.toList (ByteArray.data (subB (subB s (↑i : Int) (↑(ByteArray.size s) : Int)) (0 : Int) (↑(ByteArray.size (ByteArray.mk #[(36 : UInt8), (123 : UInt8)])) : Int)))) (Array.toList (ByteArray.data (ByteArray.mk #[(36 : UInt8), (123 : UInt8)])))) (((0 : Int) ≤ (↑i : Int) ∧ (↑i : Int) ≤ (↑(ByteArray.size s) : Int)) ∧ Sp (decide (ixB (subB s (↑i : Int) (↑(ByteArray.size s) : Int)) (125 : Int) < (0 : Int))) (K (Value.tuple (Array.mk [Value.slice Option.none (0 : Nat) (0 : Nat), Value.int IntKind.i64 (↑i : Int), Value.int IntKind.i64 (6 : Int)])) (AH.mk (T.node T.leaf (Option.some (AObj.gro els [] (75 : Nat))) T.leaf) (1 : Nat))) (((0 : Int) ≤ IntKind.wrap IntKind.i64 ((↑i : Int) + (2 : Int)) ∧ IntKind.wrap IntKind.i64 ((↑i : Int) + (2 : Int)) ≤ IntKind.wrap IntKind.i64 ((↑i : Int) + ixB (subB s (↑i : Int) (↑(ByteArray.size s) : Int)) (125 : Int)) ∧ IntKind.wrap IntKind.i64 ((↑i : Int) + ixB (subB s (↑i : Int) (↑(ByteArray.size s) : Int)) (125 : Int)) ≤ (↑(ByteArray.size s) : Int)) ∧ ByteArray.size (subB s (IntKind.wrap IntKind.i64 ((↑i : Int) + (2 : Int))) (IntKind.wrap IntKind.i64 ((↑i : Int) + ixB (subB s (↑i : Int) (↑(ByteArray.size s) : Int)) (125 : Int)))) < (9223372036854775808 : Nat) ∧ Sp (!nameB (subB s (IntKind.wrap IntKind.i64 ((↑i : Int) + (2 : Int))) (IntKind.wrap IntKind.i64 ((↑i : Int) + ixB (subB s (↑i : Int) (↑(ByteArray.size s) : Int)) (125 : Int))))) (K (Value.tuple (Array.mk [Value.slice Option.none (0 : Nat) (0 : Nat), Value.int IntKind.i64 (↑i : Int), Value.int IntKind.i64 (6 : Int)])) (AH.mk (T.node T.leaf (Option.some (AObj.gro els [] (75 : Nat))) T.leaf) (1 : Nat))) (((0 : Int) ≤ IntKind.wrap IntKind.i64 ((↑i : Int) + (2 : Int)) ∧ IntKind.wrap IntKind.i64 ((↑i : Int) + (2 : Int)) ≤ IntKind.wrap IntKind.i64 ((↑i : Int) + ixB (subB s (↑i : Int) (↑(ByteArray.size s) : Int)) (125 : Int)) ∧ IntKind.wrap IntKind.i64 ((↑i : Int) + ixB (subB s (↑i : Int) (↑(ByteArray.size s) : Int)) (125 : Int)) ≤ (↑(ByteArray.size s) : Int)) ∧ (List.all [Value.string (ByteArray.mk (Array.mk [])), Value.string (ByteArray.mk (Array.mk [])), Value.string (ByteArray.mk (Array.mk [])), Value.string (subB s (IntKind.wrap IntKind.i64 ((↑i : Int) + (2 : Int))) (IntKind.wrap IntKind.i64 ((↑i : Int) + ixB (subB s (↑i : Int) (↑(ByteArray.size s) : Int)) (125 : Int))))] cellv = Bool.true ∧ n + (0 : Nat) = List.length els ∧ n + (2 : Nat) ≤ (70368744177664 : Nat) ∧ (n + (2 : Nat)) * (32 : Nat) ≤ (140737488355328 : Nat)) ∧ HF (Value.agg (Array.mk (els ++ [Value.agg (Array.mk [Value.string (ByteArray.mk (Array.mk [])), Value.string (ByteArray.mk (Array.mk []))]), Value.agg (Array.mk [Value.string (ByteArray.mk (Array.mk [])), Value.string (subB s (IntKind.wrap IntKind.i64 ((↑i : Int) + (2 : Int))) (IntKind.wrap IntKind.i64 ((↑i : Int) + ixB (subB s (↑i : Int) (↑(ByteArray.size s) : Int)) (125 : Int))))])]))) ∧ again (T.node (T.node (T.node (T.node T.leaf (Option.some (Value.int IntKind.i64 (IntKind.wrap IntKind.i64 ((↑i : Int) + IntKind.wrap IntKind.i64 (ixB (subB s (↑i : Int) (↑(ByteArray.size s) : Int)) (125 : Int) + (1 : Int)))))) T.leaf) Option.none T.leaf) Option.none (T.node T.leaf (Option.some (Value.slice (Option.some (Go.Addr.mk (0 : Nat) (0 : Nat) Option.none)) (n + (2 : Nat)) (18446744073709551621 : Nat))) T.leaf)) (Option.some (Value.string s)) (T.node T.leaf Option.none (T.node T.leaf (Option.some (Value.slice Option.none (0 : Nat) (0 : Nat))) T.leaf))) (AH.mk (T.node T.leaf (Option.some (AObj.gro (els ++ [Value.agg (Array.mk [Value.string (ByteArray.mk (Array.mk [])), Value.string (ByteArray.mk (Array.mk []))]), Value.agg (Array.mk [Value.string (ByteArray.mk (Array.mk [])), Value.string (subB s (IntKind.wrap IntKind.i64 ((↑i : Int) + (2 : Int))) (IntKind.wrap IntKind.i64 ((↑i : Int) + ixB (subB s (↑i : Int) (↑(ByteArray.size s) : Int)) (125 : Int))))])]) [] (75 : Nat))) T.leaf) (1 : Nat))))) (((0 : Int) ≤ (↑i : Int) ∧ (↑i : Int) < (↑(ByteArray.size s) : Int)) ∧ HF (Value.agg (Array.mk els)) ∧ HF (Value.agg (Array.mk [Value.int IntKind.u8 (byteAt s (↑i : Int))])) ∧ again (T.node (T.node (T.node (T.node T.leaf (Option.some (Value.int IntKind.i64 (IntKind.wrap IntKind.i64 ((↑i : Int) + (1 : Int))))) T.leaf) Option.none T.leaf) Option.none (T.node T.leaf (Option.some (Value.slice (Option.some (Go.Addr.mk (0 : Nat) (0 : Nat) Option.none)) n (18446744073709551621 : Nat))) T.leaf)) (Option.some (Value.string s)) (T.node T.leaf Option.none (T.node T.leaf (Option.some (Value.slice (Option.some (Go.Addr.mk (1 : Nat) (0 : Nat) Option.none)) (1 : Nat) (18446744073709551616 : Nat))) T.leaf))) (AH.mk (T.node (T.node T.leaf (Option.some (AObj.cells [Value.int IntKind.u8 (byteAt s (↑i : Int))] (5 : Nat))) T.leaf) (Option.some (AObj.gro els [] (75 : Nat))) T.leaf) (2 : Nat)))) (((0 : Int) ≤ (↑i : Int) ∧ (↑i : Int) < (↑(ByteArray.size s) : Int)) ∧ HF (Value.agg (Array.mk els)) ∧ HF (Value.agg (Array.mk [Value.int IntKind.u8 (byteAt s (↑i : Int))])) ∧ again (T.node (T.node (T.node (T.node T.leaf (Option.some (Value.int IntKind.i64 (IntKind.wrap IntKind.i64 ((↑i : Int) + (1 : Int))))) T.leaf) Option.none T.leaf) Option.none (T.node T.leaf (Option.some (Value.slice (Option.some (Go.Addr.mk (0 : Nat) (0 : Nat) Option.none)) n (18446744073709551621 : Nat))) T.leaf)) (Option.some (Value.string s)) (T.node T.leaf Option.none (T.node T.leaf (Option.some (Value.slice (Option.some (Go.Addr.mk (1 : Nat) (0 : Nat) Option.none)) (1 : Nat) (18446744073709551616 : Nat))) T.leaf))) (AH.mk (T.node (T.node T.leaf (Option.some (AObj.cells [Value.int IntKind.u8 (byteAt s (↑i : Int))] (5 : Nat))) T.leaf) (Option.some (AObj.gro els [] (75 : Nat))) T.leaf) (2 : Nat))))) (((0 : Int) ≤ (↑i : Int) ∧ (↑i : Int) ≤ (↑(ByteArray.size s) : Int)) ∧ Sp (decide ((2 : Int) ≤ (↑(ByteArray.size (subB s (↑i : Int) (↑(ByteArray.size s) : Int))) : Int))) (((0 : Int) ≤ (2 : Int) ∧ (2 : Int) ≤ (↑(ByteArray.size (subB s (↑i : Int) (↑(ByteArray.size s) : Int))) : Int)) ∧ Sp (eqL (Array.toList (ByteArray.data (subB (subB s (↑i : Int) (↑(ByteArray.size s) : Int)) (0 : Int) (↑(ByteArray.size (ByteArray.mk #[(36 : UInt8), (123 : UInt8)])) : Int)))) (Array.toList (ByteArray.data (ByteArray.mk #[(36 : UInt8), (123 : UInt8)])))) (((0 : Int) ≤ (↑i : Int) ∧ (↑i : Int) ≤ (↑(ByteArray.size s) : Int)) ∧ Sp (decide (ixB (subB s (↑i : Int) (↑(ByteArray.size s) : Int)) (125 : Int) < (0 : Int))) (K (Value.tuple (Array.mk [Value.slice Option.none (0 : Nat) (0 : Nat), Value.int IntKind.i64 (↑i : Int), Value.int IntKind.i64 (6 : Int)])) (AH.mk (T.node T.leaf (Option.some (AObj.gro els [] (75 : Nat))) T.leaf) (1 : Nat))) (((0 : Int) ≤ IntKind.wrap IntKind.i64 ((↑i : Int) + (2 : Int)) ∧ IntKind.wrap IntKind.i64 ((↑i : Int) + (2 : Int)) ≤ IntKind.wrap IntKind.i64 ((↑i : Int) + ixB (subB s (↑i : Int) (↑(ByteArray.size s) : Int)) (125 : Int)) ∧ IntKind.wrap IntKind.i64 ((↑i : Int) + ixB (subB s (↑i : Int) (↑(ByteArray.size s) : Int)) (125 : Int)) ≤ (↑(ByteArray.size s) : Int)) ∧ ByteArray.size (subB s (IntKind.wrap IntKind.i64 ((↑i : Int) + (2 : Int))) (IntKind.wrap IntKind.i64 ((↑i : Int) + ixB (subB s (↑i : Int) (↑(ByteArray.size s) : Int)) (125 : Int)))) < (9223372036854775808 : Nat) ∧ Sp (!nameB (subB s (IntKind.wrap IntKind.i64 ((↑i : Int) + (2 : Int))) (IntKind.wrap IntKind.i64 ((↑i : Int) + ixB (subB s (↑i : Int) (↑(ByteArray.size s) : Int)) (125 : Int))))) (K (Value.tuple (Array.mk [Value.slice Option.none (0 : Nat) (0 : Nat), Value.int IntKind.i64 (↑i : Int), Value.int IntKind.i64 (6 : Int)])) (AH.mk (T.node T.leaf (Option.some (AObj.gro els [] (75 : Nat))) T.leaf) (1 : Nat))) (((0 : Int) ≤ IntKind.wrap IntKind.i64 ((↑i : Int) + (2 : Int)) ∧ IntKind.wrap IntKind.i64 ((↑i : Int) + (2 : Int)) ≤ IntKind.wrap IntKind.i64 ((↑i : Int) + ixB (subB s (↑i : Int) (↑(ByteArray.size s) : Int)) (125 : Int)) ∧ IntKind.wrap IntKind.i64 ((↑i : Int) + ixB (subB s (↑i : Int) (↑(ByteArray.size s) : Int)) (125 : Int)) ≤ (↑(ByteArray.size s) : Int)) ∧ (List.all [Value.string (ByteArray.mk (Array.mk [])), Value.string (ByteArray.mk (Array.mk [])), Value.string (ByteArray.mk (Array.mk [])), Value.string (subB s (IntKind.wrap IntKind.i64 ((↑i : Int) + (2 : Int))) (IntKind.wrap IntKind.i64 ((↑i : Int) + ixB (subB s (↑i : Int) (↑(ByteArray.size s) : Int)) (125 : Int))))] cellv = Bool.true ∧ n + (0 : Nat) = List.length els ∧ n + (2 : Nat) ≤ (70368744177664 : Nat) ∧ (n + (2 : Nat)) * (32 : Nat) ≤ (140737488355328 : Nat)) ∧ HF (Value.agg (Array.mk (els ++ [Value.agg (Array.mk [Value.string (ByteArray.mk (Array.mk [])), Value.string (ByteArray.mk (Array.mk []))]), Value.agg (Array.mk [Value.string (ByteArray.mk (Array.mk [])), Value.string (subB s (IntKind.wrap IntKind.i64 ((↑i : Int) + (2 : Int))) (IntKind.wrap IntKind.i64 ((↑i : Int) + ixB (subB s (↑i : Int) (↑(ByteArray.size s) : Int)) (125 : Int))))])]))) ∧ again (T.node (T.node (T.node (T.node T.leaf (Option.some (Value.int IntKind.i64 (IntKind.wrap IntKind.i64 ((↑i : Int) + IntKind.wrap IntKind.i64 (ixB (subB s (↑i : Int) (↑(ByteArray.size s) : Int)) (125 : Int) + (1 : Int)))))) T.leaf) Option.none T.leaf) Option.none (T.node T.leaf (Option.some (Value.slice (Option.some (Go.Addr.mk (0 : Nat) (0 : Nat) Option.none)) (n + (2 : Nat)) (18446744073709551621 : Nat))) T.leaf)) (Option.some (Value.string s)) (T.node T.leaf Option.none (T.node T.leaf (Option.some (Value.slice Option.none (0 : Nat) (0 : Nat))) T.leaf))) (AH.mk (T.node T.leaf (Option.some (AObj.gro (els ++ [Value.agg (Array.mk [Value.string (ByteArray.mk (Array.mk [])), Value.string (ByteArray.mk (Array.mk []))]), Value.agg (Array.mk [Value.string (ByteArray.mk (Array.mk [])), Value.string (subB s (IntKind.wrap IntKind.i64 ((↑i : Int) + (2 : Int))) (IntKind.wrap IntKind.i64 ((↑i : Int) + ixB (subB s (↑i : Int) (↑(ByteArray.size s) : Int)) (125 : Int))))])]) [] (75 : Nat))) T.leaf) (1 : Nat))))) (((0 : Int) ≤ (↑i : Int) ∧ (↑i : Int) < (↑(ByteArray.size s) : Int)) ∧ HF (Value.agg (Array.mk els)) ∧ HF (Value.agg (Array.mk [Value.int IntKind.u8 (byteAt s (↑i : Int))])) ∧ again (T.node (T.node (T.node (T.node T.leaf (Option.some (Value.int IntKind.i64 (IntKind.wrap IntKind.i64 ((↑i : Int) + (1 : Int))))) T.leaf) Option.none T.leaf) Option.none (T.node T.leaf (Option.some (Value.slice (Option.some (Go.Addr.mk (0 : Nat) (0 : Nat) Option.none)) n (18446744073709551621 : Nat))) T.leaf)) (Option.some (Value.string s)) (T.node T.leaf Option.none (T.node T.leaf (Option.some (Value.slice (Option.some (Go.Addr.mk (1 : Nat) (0 : Nat) Option.none)) (1 : Nat) (18446744073709551616 : Nat))) T.leaf))) (AH.mk (T.node (T.node T.leaf (Option.some (AObj.cells [Value.int IntKind.u8 (byteAt s (↑i : Int))] (5 : Nat))) T.leaf) (Option.some (AObj.gro els [] (75 : Nat))) T.leaf) (2 : Nat)))) (((0 : Int) ≤ (↑i : Int) ∧ (↑i : Int) < (↑(ByteArray.size s) : Int)) ∧ HF (Value.agg (Array.mk els)) ∧ HF (Value.agg (Array.mk [Value.int IntKind.u8 (byteAt s (↑i : Int))])) ∧ again (T.node (T.node (T.node (T.node T.leaf (Option.some (Value.int IntKind.i64 (IntKind.wrap IntKind.i64 ((↑i : Int) + (1 : Int))))) T.leaf) Option.none T.leaf) Option.none (T.node T.leaf (Option.some (Value.slice (Option.some (Go.Addr.mk (0 : Nat) (0 : Nat) Option.none)) n (18446744073709551621 : Nat))) T.leaf)) (Option.some (Value.string s)) (T.node T.leaf Option.none (T.node T.leaf (Option.some (Value.slice (Option.some (Go.Addr.mk (1 : Nat) (0 : Nat) Option.none)) (1 : Nat) (18446744073709551616 : Nat))) T.leaf))) (AH.mk (T.node (T.node T.leaf (Option.some (AObj.cells [Value.int IntKind.u8 (byteAt s (↑i : Int))] (5 : Nat))) T.leaf) (Option.some (AObj.gro els [] (75 : Nat))) T.leaf) (2 : Nat))))) ((List.all [Value.string (ByteArray.mk (Array.mk [])), Value.string (ByteArray.mk (Array.mk []))] cellv = Bool.true ∧ n + (0 : Nat) = List.length els ∧ n + (1 : Nat) ≤ (70368744177664 : Nat) ∧ (n + (1 : Nat)) * (32 : Nat) ≤ (140737488355328 : Nat)) ∧ K (Value.tuple (Array.mk [Value.slice (Option.some (Go.Addr.mk (2 : Nat) (0 : Nat) Option.none)) (n + (1 : Nat)) (18446744073709551621 : Nat), Value.int IntKind.i64 (0 : Int), Value.int IntKind.i64 (0 : Int)])) (AH.mk (T.node (T.node T.leaf (Option.some (AObj.cells [Value.string (ByteArray.mk (Array.mk [])), Value.string (ByteArray.mk (Array.mk []))] (75 : Nat))) T.leaf) (Option.some AObj.dead) (T.node T.leaf (Option.some (AObj.gro els [Value.agg (Array.mk [Value.string (ByteArray.mk (Array.mk [])), Value.string (ByteArray.mk (Array.mk []))])] (75 : Nat))) T.leaf)) (3 : Nat)))) := by kernel_rfl
theorem jQcN_nf (K : KV) (again : KF) (s : SB) (i : Nat) (n : Nat) (els : List Go.Value) (bs : List Go.Value) : jQcN K again s i n els bs = (Sp (decide ((↑i : Int) < (↑(ByteArray.size s) : Int))) (((0 : Int) ≤ (↑i : Int) ∧ (↑i : Int) ≤ (↑(ByteArray.size s) : Int)) ∧ Sp (decide ((2 : Int) ≤ (↑(ByteArray.size (subB s (↑i : Int) (↑(ByteArray.size s) : Int))) : Int))) (((0 : Int) ≤ (2 : Int) ∧ (2 : Int) ≤ (↑(ByteArray.size (subB s (↑i : Int) (↑(ByteArray.size s) : Int))) : Int)) ∧ Sp (eqL (Array.toList (ByteArray.data (subB (subB s (↑i : Int) (↑(ByteArray.size s) : Int)) (0 : Int) (↑(ByteArray.size (ByteArray.mk #[(36 : UInt8), (36 : UInt8)])) : Int)))) (Array.toList (ByteArray.data (ByteArray.mk #[(36 : UInt8), (36 : UInt8)])))) ((List.length bs + (1 : Nat) ≤ (70368744177664 : Nat) ∧ (List.length bs + (1 : Nat)) * (1 : Nat) ≤ (140737488355328 : Nat) ∧ List.length bs * (1 : Nat) ≤ List.length bs) ∧ HF (Value.agg (Array.mk els)) ∧ HF (Value.agg (Array.mk (List.take (List.length bs * (1 : Nat)) bs ++ [Value.int IntKind.u8 (36 : Int)]))) ∧ again (T.node (T.node (T.node (T.node T.leaf (Option.some (Value.int IntKind.i64 (IntKind.wrap IntKind.i64 ((↑i : Int) + (2 : Int))))) T.leaf) Option.none T.leaf) Option.none (T.node T.leaf (Option.some (Value.slice (Option.some (Go.Addr.mk (0 : Nat) (0 : Nat) Option.none)) n (18446744073709551621 : Nat))) T.leaf)) (Option.some (Value.string s)) (T.node T.leaf Option.none (T.node T.leaf (Option.some (Value.slice (Option.some (Go.Addr.mk (1 : Nat) (0 : Nat) Option.none)) (List.length bs + (1 : Nat)) (18446744073709551616 : Nat))) T.leaf))) (AH.mk (T.node (T.node T.leaf (Option.some (AObj.cells (List.take (List.length bs * (1 : Nat)) bs ++ [Value.int IntKind.u8 (36 : Int)]) (5 : Nat))) T.leaf) (Option.some (AObj.gro els [] (75 : Nat))) T.leaf) (2 : Nat))) (((0 : Int) ≤ (↑i : Int) ∧ (↑i : Int) ≤ (↑(ByteArray.size s) : Int)) ∧ Sp (decide ((2 : Int) ≤ (↑(ByteArray.size (subB s (↑i : Int) (↑(ByteArray.size s) : Int))) : Int))) (((0 : Int) ≤ (2 : Int) ∧ (2 : Int) ≤ (↑(ByteArray.size (subB s (↑i : Int) (↑(ByteArray.size s) : Int))) : Int)) ∧ Sp (eqL (Array.toList (ByteArray.data (subB (subB s (↑i : Int) (↑(ByteArray.size s) : Int)) (0 : Int) (↑(ByteArray.size (ByteArray.mk #[(36 : UInt8), (123 : UInt8)])) : Int)))) (Array.toList (ByteArray.data (ByteArray.mk #[(36 : UInt8), (123 : UInt8)])))) (((0 : Int) ≤ (↑i : Int) ∧ (↑i : Int) ≤ (↑(ByteArray.size s) : Int)) ∧ Sp (decide (ixB (subB s (↑i : Int) (↑(ByteArray.size s) : Int)) (125 : Int) < (0 : Int))) (K (Value.tuple (Array.mk [Value.slice Option.none (0 : Nat) (0 : Nat), Value.int IntKind.i64 (↑i : Int), Value.int IntKind.i64 (6 : Int)])) (AH.mk (T.node (T.node T.leaf (Option.some (AObj.cells bs (5 : Nat))) T.leaf) (Option.some (AObj.gro els [] (75 : Nat))) T.leaf) (2 : Nat))) (((0 : Int) ≤ IntKind.wrap IntKind.i64 ((↑i : Int) + (2 : Int)) ∧ IntKind.wrap IntKind.i64 ((↑i : Int) + (2 : Int)) ≤ IntKind.wrap IntKind.i64 ((↑i : Int) + ixB (subB s (↑i : Int) (↑(ByteArray.size s) : Int)) (125 : Int)) ∧ IntKind.wrap IntKind.i64 ((↑i : Int) + ixB (subB s (↑i : Int) (↑(ByteArray.size s) : Int)) (125 : Int)) ≤ (↑(ByteArray.size s) : Int)) ∧ ByteArray.size (subB s (IntKind.wrap IntKind.i64 ((↑i : Int) + (2 : Int))) (IntKind.wrap IntKind.i64 ((↑i : Int) + ixB (subB s (↑i : Int) (↑(ByteArray.size s) : Int)) (125 : Int)))) < (9223372036854775808 : Nat) ∧ Sp (!nameB (subB s (IntKind.wrap IntKind.i64 ((↑i : Int) + (2 : Int))) (IntKind.wrap IntKind.i64 ((↑i : Int) + ixB (subB s (↑i : Int) (↑(ByteArray.size s) : Int)) (125 : Int))))) (K (Value.tuple (Array.mk [Value.slice Option.none (0 : Nat) (0 : Nat), Value.int IntKind.i64 (↑i : Int), Value.int IntKind.i64 (6 : Int)])) (AH.mk (T.node (T.node T.leaf (Option.some (AObj.cells bs (5 : Nat))) T.leaf) (Option.some (AObj.gro els [] (75 : Nat))) T.leaf) (2 : Nat))) (IsB bs (0 : Nat) (List.length bs) ∧ ((0 : Int) ≤ IntKind.wrap IntKind.i64 ((↑i : Int) + (2 : Int)) ∧ IntKind.wrap IntKind.i64 ((↑i : Int) + (2 : Int)) ≤ IntKind.wrap IntKind.i64 ((↑i : Int) + ixB (subB s (↑i : Int) (↑(ByteArray.size s) : Int)) (125 : Int)) ∧ IntKind.wrap IntKind.i64 ((↑i : Int) + ixB (subB s (↑i : Int) (↑(ByteArray.size s) : Int)) (125 : Int)) ≤ (↑(ByteArray.size s) : Int)) ∧ (List.all [Value.string (mkBytes (u8L bs (0 : Nat) (List.length bs))), Value.string (ByteArray.mk (Array.mk [])), Value.string (ByteArray.mk (Array.mk [])), Value.string (subB s (IntKind.wrap IntKind.i64 ((↑i : Int) + (2 : Int))) (IntKind.wrap IntKind.i64 ((↑i : Int) + ixB (subB s (↑i : Int) (↑(ByteArray.size s) : Int)) (125 : Int))))] cellv = Bool.true ∧ n + (0 : Nat) = List.length els ∧ n + (2 : Nat) ≤ (70368744177664 : Nat) ∧ (n + (2 : Nat)) * (32 : Nat) ≤ (140737488355328 : Nat)) ∧ HF (Value.agg (Array.mk (els ++ [Value.agg (Array.mk [Value.string (mkBytes (u8L bs (0 : Nat) (List.length bs))), Value.string (ByteArray.mk (Array.mk []))]), Value.agg (Array.mk [Value.string (ByteArray.mk (Array.mk [])), Value.string (subB s (IntKind.wrap IntKind.i64 ((↑i : Int) + (2 : Int))) (IntKind.wrap IntKind.i64 ((↑i : Int) + ixB (subB s (↑i : Int) (↑(ByteArray.size s) : Int)) (125 : Int))))])]))) ∧ again (T.node (T.node (T.node (T.node T.leaf (Option.some (Value.int IntKind.i64 (IntKind.wrap IntKind.i64 ((↑i : Int) + IntKind.wrap IntKind.i64 (ixB (subB s (↑i : Int) (↑(ByteArray.size s) : Int)) (125 : Int) + (1 : Int)))))) T.leaf) Option.none T.leaf) Option.none (T.node T.leaf (Option.some (Value.slice (Option.some (Go.Addr.mk (0 : Nat) (0 : Nat) Option.none)) (n + (2 : Nat)) (18446744073709551621 : Nat))) T.leaf)) (Option.some (Value.string s)) (T.node T.leaf Option.none (T.node T.leaf (Option.some (Value.slice Option.none (0 : Nat) (0 : Nat))) T.leaf))) (AH.mk (T.node T.leaf (Option.some (AObj.gro (els ++ [Value.agg (Array.mk [Value.string (mkBytes (u8L bs (0 : Nat) (List.length bs))), Value.string (ByteArray.mk (Array.mk []))]), Value.agg (Array.mk [Value.string (ByteArray.mk (Array.mk [])), Value.string (subB s (IntKind.wrap IntKind.i64 ((↑i : Int) + (2 : Int))) (IntKind.wrap IntKind.i64 ((↑i : Int) + ixB (subB s (↑i : Int) (↑(ByteArray.size s) : Int)) (125 : Int))))])]) [] (75 : Nat))) T.leaf) (1 : Nat))))) (((0 : Int) ≤ (↑i : Int) ∧ (↑i : Int) < (↑(ByteArray.size s) : Int)) ∧ (List.length bs + (1 : Nat) ≤ (70368744177664 : Nat) ∧ (List.length bs + (1 : Nat)) * (1 : Nat) ≤ (140737488355328 : Nat) ∧ List.length bs * (1 : Nat) ≤ List.length bs) ∧ HF (Value.agg (Array.mk els)) ∧ HF (Value.agg (Array.mk (List.take (List.length bs * (1 : Nat)) bs ++ [Value.int IntKind.u8 (byteAt s (↑i : Int))]))) ∧ again (T.node (T.node (T.node (T.node T.leaf (Option.some (Value.int IntKind.i64 (IntKind.wrap IntKind.i64 ((↑i : Int) + (1 : Int))))) T.leaf) Option.none T.leaf) Option.none (T.node T.leaf (Option.some (Value.slice (Option.some (Go.Addr.mk (0 : Nat) (0 : Nat) Option.none)) n (18446744073709551621 : Nat))) T.leaf)) (Option.some (Value.string s)) (T.node T.leaf Option.none (T.node T.leaf (Option.some (Value.slice (Option.some (Go.Addr.mk (1 : Nat) (0 : Nat) Option.none)) (List.length bs + (1 : Nat)) (18446744073709551616 : Nat))) T.leaf))) (AH.mk (T.node (T.node T.leaf (Option.some (AObj.cells (List.take (List.length bs * (1 : Nat)) bs ++ [Value.int IntKind.u8 (byteAt s (↑i : Int))]) (5 : Nat))) T.leaf) (Option.some (AObj.gro els [] (75 : Nat))) T.leaf) (2 : Nat)))) (((0 : Int) ≤ (↑i : Int) ∧ (↑i : Int) < (↑(ByteArray.size s) : Int)) ∧ (List.length bs + (1 : Nat) ≤ (70368744177664 : Nat) ∧ (List.length bs + (1 : Nat)) * (1 : Nat) ≤ (140737488355328 : Nat) ∧ List.length bs * (1 : Nat) ≤ List.length bs) ∧ HF (Value.agg (Array.mk els)) ∧ HF (Value.agg (Array.mk (List.take (List.length bs * (1 : Nat)) bs ++ [Value.int IntKind.u8 (byteAt s (↑i : Int))]))) ∧ again (T.node (T.node (T.node (T.node T.leaf (Option.some (Value.int IntKind.i64 (IntKind.wrap IntKind.i64 ((↑i : Int) + (1 : Int))))) T.leaf) Option.none T.leaf) Option.none (T.node T.leaf (Option.some (Value.slice (Option.some (Go.Addr.mk (0 : Nat) (0 : Nat) Option.none)) n (18446744073709551621 : Nat))) T.leaf)) (Option.some (Value.string s)) (T.node T.leaf Option.none (T.node T.leaf (Option.some (Value.slice (Option.some (Go.Addr.mk (1 : Nat) (0 : Nat) Option.none)) (List.length bs + (1 : Nat)) (18446744073709551616 : Nat))) T.leaf))) (AH.mk (T.node (T.node T.leaf (Option.some (AObj.cells (List.take (List.length bs * (1 : Nat)) bs ++ [Value.int IntKind.u8 (byteAt s (↑i : Int))]) (5 : Nat))) T.leaf) (Option.some (AObj.gro els [] (75 : Nat))) T.leaf) (2 : Nat))))) (((0 : Int) ≤ (↑i : Int) ∧ (↑i : Int) ≤ (↑(ByteArray.size s) : Int)) ∧ Sp (decide ((2 : Int) ≤ (↑(ByteArray.size (subB s (↑i : Int) (↑(ByteArray.size s) : Int))) : Int))) (((0 : Int) ≤ (2 : Int) ∧ (2 : Int) ≤ (↑(ByteArray.size (subB s (↑i : Int) (↑(ByteArray.size s) : Int))) : Int)) ∧ Sp (eqL (Array.toList (ByteArray.data (subB (subB s (↑i : Int) (↑(ByteArray.size s) : Int)) (0 : Int) (↑(ByteArray.size (ByteArray.mk #[(36 : UInt8), (123 : UInt8)])) : Int)))) (Array.toList (ByteArray.data (ByteArray.mk #[(36 : UInt8), (123 : UInt8)])))) (((0 : Int) ≤ (↑i : Int) ∧ (↑i : Int) ≤ (↑(ByteArray.size s) : Int)) ∧ Sp (decide (ixB (subB s (↑i : Int) (↑(ByteArray.size s) : Int)) (125 : Int) < (0 : Int))) (K (Value.tuple (Array.mk [Value.slice Option.none (0 : Nat) (0 : Nat), Value.int IntKind.i64 (↑i : Int), Value.int IntKind.i64 (6 : Int)])) (AH.mk (T.node (T.node T.leaf (Option.some (AObj.cells bs (5 : Nat))) T.leaf) (Option.some (AObj.gro els [] (75 : Nat))) T.leaf) (2 : Nat))) (((0 : Int) ≤ IntKind.wrap IntKind.i64 ((↑i : Int) + (2 : Int)) ∧ IntKind.wrap IntKind.i64 ((↑i : Int) + (2 : Int)) ≤ IntKind.wrap IntKind.i64 ((↑i : Int) + ixB (subB s (↑i : Int) (↑(ByteArray.size s) : Int)) (125 : Int)) ∧ IntKind.wrap IntKind.i64 ((↑i : Int) + ixB (subB s (↑i : Int) (↑(ByteArray.size s) : Int)) (125 : Int)) ≤ (↑(ByteArray.size s) : Int)) ∧ ByteArray.size (subB s (IntKind.wrap IntKind.i64 ((↑i : Int) + (2 : Int))) (IntKind.wrap IntKind.i64 ((↑i : Int) + ixB (subB s (↑i : Int) (↑(ByteArray.size s) : Int)) (125 : Int)))) < (9223372036854775808 : Nat) ∧ Sp (!nameB (subB s (IntKind.wrap IntKind.i64 ((↑i : Int) + (2 : Int))) (IntKind.wrap IntKind.i64 ((↑i : Int) + ixB (subB s (↑i : Int) (↑(ByteArray.size s) : Int)) (125 : Int))))) (K (Value.tuple (Array.mk [Value.slice Option.none (0 : Nat) (0 : Nat), Value.int IntKind.i64 (↑i : Int), Value.int IntKind.i64 (6 : Int)])) (AH.mk (T.node (T.node T.leaf (Option.some (AObj.cells bs (5 : Nat))) T.leaf) (Option.some (AObj.gro els [] (75 : Nat))) T.leaf) (2 : Nat))) (IsB bs (0 : Nat) (List.length bs) ∧ ((0 : Int) ≤ IntKind.wrap IntKind.i64 ((↑i : Int) + (2 : Int)) ∧ IntKind.wrap IntKind.i64 ((↑i : Int) + (2 : Int)) ≤ IntKind.wrap IntKind.i64 ((↑i : Int) + ixB (subB s (↑i : Int) (↑(ByteArray.size s) : Int)) (125 : Int)) ∧ IntKind.wrap IntKind.i64 ((↑i : Int) + ixB (subB s (↑i : Int) (↑(ByteArray.size s) : Int)) (125 : Int)) ≤ (↑(ByteArray.size s) : Int)) ∧ (List.all [Value.string (mkBytes (u8L bs (0 : Nat) (List.length bs))), Value.string (ByteArray.mk (Array.mk [])), Value.string (ByteArray.mk (Array.mk [])), Value.string (subB s (IntKind.wrap IntKind.i64 ((↑i : Int) + (2 : Int))) (IntKind.wrap IntKind.i64 ((↑i : Int) + ixB (subB s (↑i : Int) (↑(ByteArray.size s) : Int)) (125 : Int))))] cellv = Bool.true ∧ n + (0 : Nat) = List.length els ∧ n + (2 : Nat) ≤ (70368744177664 : Nat) ∧ (n + (2 : Nat)) * (32 : Nat) ≤ (140737488355328 : Nat)) ∧ HF (Value.agg (Array.mk (els ++ [Value.agg (Array.mk [Value.string (mkBytes (u8L bs (0 : Nat) (List.length bs))), Value.string (ByteArray.mk (Array.mk []))]), Value.agg (Array.mk [Value.string (ByteArray.mk (Array.mk [])), Value.string (subB s (IntKind.wrap IntKind.i64 ((↑i : Int) + (2 : Int))) (IntKind.wrap IntKind.i64 ((↑i : Int) + ixB (subB s (↑i : Int) (↑(ByteArray.size s) : Int)) (125 : Int))))])]))) ∧ again (T.node (T.node (T.node (T.node T.leaf (Option.some (Value.int IntKind.i64 (IntKind.wrap IntKind.i64 ((↑i : Int) + IntKind.wrap IntKind.i64 (ixB (subB s (↑i : Int) (↑(ByteArray.size s) : Int)) (125 : Int) + (1 : Int)))))) T.leaf) Option.none T.leaf) Option.none (T.node T.leaf (Option.some (Value.slice (Option.some (Go.Addr.mk (0 : Nat) (0 : Nat) Option.none)) (n + (2 : Nat)) (18446744073709551621 : Nat))) T.leaf)) (Option.some (Value.string s)) (T.node T.leaf Option.none (T.node T.leaf (Option.some (Value.slice Option.none (0 : Nat) (0 : Nat))) T.leaf))) (AH.mk (T.node T.leaf (Option.some (AObj.gro (els ++ [Value.agg (Array.mk [Value.string (mkBytes (u8L bs (0 : Nat) (List.length bs))), Value.string (ByteArray.mk (Array.mk []))]), Value.agg (Array.mk [Value.string (ByteArray.mk (Array.mk [])), Value.string (subB s (IntKind.wrap IntKind.i64 ((↑i : Int) + (2 : Int))) (IntKind.wrap IntKind.i64 ((↑i : Int) + ixB (subB s (↑i : Int) (↑(ByteArray.size s) : Int)) (125 : Int))))])]) [] (75 : Nat))) T.leaf) (1 : Nat))))) (((0 : Int) ≤ (↑i : Int) ∧ (↑i : Int) < (↑(ByteArray.size s) : Int)) ∧ (List.length bs + (1 : Nat) ≤ (70368744177664 : Nat) ∧ (List.length bs + (1 : Nat)) * (1 : Nat) ≤ (140737488355328 : Nat) ∧ List.length bs * (1 : Nat) ≤ List.length bs) ∧ HF (Value.agg (Array.mk els)) ∧ HF (Value.agg (Array.mk (List.take (List.length bs * (1 : Nat)) bs ++ [Value.int IntKind.u8 (byteAt s (↑i : Int))]))) ∧ again (T.node (T.node (T.node (T.node T.leaf (Option.some (Value.int IntKind.i64 (IntKind.wrap IntKind.i64 ((↑i : Int) + (1 : Int))))) T.leaf) Option.none T.leaf) Option.none (T.node T.leaf (Option.some (Value.slice (Option.some (Go.Addr.mk (0 : Nat) (0 : Nat) Option.none)) n (18446744073709551621 : Nat))) T.leaf)) (Option.some (Value.string s)) (T.node T.leaf Option.none (T.node T.leaf (Option.some (Value.slice (Option.some (Go.Addr.mk (1 : Nat) (0 : Nat) Option.none)) (List.length bs + (1 : Nat)) (18446744073709551616 : Nat))) T.leaf))) (AH.mk (T.node (T.node T.leaf (Option.some (AObj.cells (List.take (List.length bs * (1 : Nat)) bs ++ [Value.int IntKind.u8 (byteAt s (↑i : Int))]) (5 : Nat))) T.leaf) (Option.some (AObj.gro els [] (75 : Nat))) T.leaf) (2 : Nat)))) (((0 : Int) ≤ (↑i : Int) ∧ (↑i : Int) < (↑(ByteArray.size s) : Int)) ∧ (List.length bs + (1 : Nat) ≤ (70368744177664 : Nat) ∧ (List.length bs + (1 : Nat)) * (1 : Nat) ≤ (140737488355328 : Nat) ∧ List.length bs * (1 : Nat) ≤ List.length bs) ∧ HF (Value.agg (Array.mk els)) ∧ HF (Value.agg (Array.mk (List.take (List.length bs * (1 : Nat)) bs ++ [Value.int IntKind.u8 (byteAt s (↑i : Int))]))) ∧ again (T.node (T.node (T.node (T.node T.leaf (Option.some (Value.int IntKind.i64 (IntKind.wrap IntKind.i64 ((↑i : Int) + (1 : Int))))) T.leaf) Option.none T.leaf) Option.none (T.node T.leaf (Option.some (Value.slice (Option.some (Go.Addr.mk (0 : Nat) (0 : Nat) Option.none)) n (18446744073709551621 : Nat))) T.leaf)) (Option.some (Value.string s)) (T.node T.leaf Option.none (T.node T.leaf (Option.some (Value.slice (Option.some (Go.Addr.mk (1 : Nat) (0 : Nat) Option.none)) (List.length bs + (1 : Nat)) (18446744073709551616 : Nat))) T.leaf))) (AH.mk (T.node (T.node T.leaf (Option.some (AObj.cells (List.take (List.length bs * (1 : Nat)) bs ++ [Value.int IntKind.u8 (byteAt s (↑i : Int))]) (5 : Nat))) T.leaf) (Option.some (AObj.gro els [] (75 : Nat))) T.leaf) (2 : Nat))))) (IsB bs (0 : Nat) (List.length bs) ∧ (List.all [Value.string (mkBytes (u8L bs (0 : Nat) (List.length bs))), Value.string (ByteArray.mk (Array.mk []))] cellv = Bool.true ∧ n + (0 : Nat) = List.length els ∧ n + (1 : Nat) ≤ (70368744177664 : Nat) ∧ (n + (1 : Nat)) * (32 : Nat) ≤ (140737488355328 : Nat)) ∧ K (Value.tuple (Array.mk [Value.slice (Option.some (Go.Addr.mk (3 : Nat) (0 : Nat) Option.none)) (n + (1 : Nat)) (18446744073709551621 : Nat), Value.int IntKind.i64 (0 : Int), Value.int IntKind.i64 (0 : Int)])) (AH.mk (T.node (T.node (T.node T.leaf (Option.some (AObj.gro els [Value.agg (Array.mk [Value.string (mkBytes (u8L bs (0 : Nat) (List.length bs))), Value.string (ByteArray.mk (Array.mk []))])] (75 : Nat))) T.leaf) (Option.some (AObj.cells bs (5 : Nat))) T.leaf) (Option.some AObj.dead) (T.node T.leaf (Option.some (AObj.cells [Value.string (mkBytes (u8L bs (0 : Nat) (List.length bs))), Value.string (ByteArray.mk (Array.mk []))] (75 : Nat))) T.leaf)) (4 : Nat)))) := by kernel_rfl
theorem subsub (s : SB) {i : Nat} (h : i + 1 < s.size) : (subB (subB s (i : Int) (s.size : Int)) 0 ((2 : Nat) : Int)).data.toList = [bAt s i, bAt s (i + 1)] := by
  have hl : s.data.toList.length = s.size := by simp
  have e0 : ((0 : Int)) = ((0 : Nat) : Int) := rfl
  rw [e0, subB_list, subB_list]
  have h1 : i < s.data.toList.length := by omega
  have h2 : i + 1 < s.data.toList.length := by omega
  rw [List.drop_zero, List.take_take, show min (2 - 0) (s.size - i) = 2 by omega, List.drop_eq_getElem_cons h1, List.drop_eq_getElem_cons h2]
  simp [bAt, List.getD_eq_getElem?_getD, List.getElem?_eq_getElem h1, List.getElem?_eq_getElem h2, -List.getElem_toArray]
theorem pre2 {s : SB} {i : Nat} (h : i + 1 < s.size) (c : UInt8) : eqL (subB (subB s (i : Int) (s.size : Int)) 0 ((ByteArray.size (ByteArray.mk #[(36 : UInt8), c]) : Nat) : Int)).data.toList (ByteArray.mk #[(36 : UInt8), c]).data.toList = (decide (byteAt s (i : Int) = 36) && decide (byteAt s ((i + 1 : Nat) : Int) = (c.toNat : Int))) := by
  have e : (ByteArray.size (ByteArray.mk #[(36 : UInt8), c]) : Nat) = 2 := rfl
  rw [e, subsub s h, byteAt_nat (show i < s.size by omega), byteAt_nat h]
  have e2 : (ByteArray.mk #[(36 : UInt8), c]).data.toList = [36, c] := rfl
  rw [e2]
  cases hb : eqL [bAt s i, bAt s (i + 1)] [36, c] with
  | true =>
    have := (eqL_iff _ _).1 hb
    simp only [List.cons.injEq, and_true] at this
    rw [this.1, this.2]; simp
  | false =>
    have hne : ¬ [bAt s i, bAt s (i + 1)] = [36, c] := fun q => by rw [(eqL_iff _ _).2 q] at hb; cases hb
    simp only [List.cons.injEq, and_true] at hne
    cases h1 : decide (((bAt s i).toNat : Int) = 36) <;> cases h2 : decide (((bAt s (i + 1)).toNat : Int) = (c.toNat : Int)) <;> try rfl
    exfalso
    refine hne ⟨?_, ?_⟩
    · have := of_decide_eq_true h1; exact UInt8.toNat_inj.1 (by show (bAt s i).toNat = 36; omega)
    · have := of_decide_eq_true h2; exact UInt8.toNat_inj.1 (by omega)
theorem two_le {s : SB} {i : Nat} (h : i < s.size) : decide ((2 : Int) ≤ ((subB s (i : Int) (s.size : Int)).size : Int)) = decide (i + 1 < s.size) := by
  rw [subB_size (Nat.le_of_lt h) (Nat.le_refl _)]
  cases hb : decide (i + 1 < s.size) with
  | true => have := of_decide_eq_true hb; simp; omega
  | false => have := of_decide_eq_false hb; simp; omega
def qE (s : SB) : Int := bif decide (1000000 < (s.size : Int)) then 3 else bif decide ((pcs s 0 [] []).2 < 0) then 0 else 6
def qA (s : SB) : Int := bif decide (1000000 < (s.size : Int)) then 0 else bif decide ((pcs s 0 [] []).2 < 0) then 0 else (pcs s 0 [] []).2
def qL (s : SB) : List (SB × SB) := bif decide (1000000 < (s.size : Int)) then [] else (pcs s 0 [] []).1
def qR (s : SB) : Value := .tuple ⟨[dat 2 (pv (qL s)), .int .i64 (qA s), .int .i64 (qE s)]⟩
theorem qR_bad {s : SB} {i : Nat} (hs : s.size ≤ 1000000) (e : pcs s 0 [] [] = ([], (i : Int))) : qR s = .tuple ⟨[dat 2 [], .int .i64 i, .int .i64 6]⟩ := by
  unfold qR qL qA qE
  rw [e, show decide (1000000 < (s.size : Int)) = false by simp; omega, show decide (((i : Int)) < 0) = false by simp]; rfl
theorem qR_ok {s : SB} {l : List (SB × SB)} (hs : s.size ≤ 1000000) (e : pcs s 0 [] [] = (l, -1)) : qR s = .tuple ⟨[dat 2 (pv l), .int .i64 0, .int .i64 0]⟩ := by
  unfold qR qL qA qE
  rw [e, show decide (1000000 < (s.size : Int)) = false by simp; omega]; first | done | rfl
def QI (s : SB) (k : Nat) (F : T Value) (A : AH) : Prop := ∃ (i : Nat) (out : List (SB × SB)), i + k = s.size ∧ out.length ≤ 2 * i ∧
  ((F = frQE s i out.length ∧ A = hQE (pv out) ∧ pcs s 0 [] [] = pcs s i [] out) ∨ ∃ txt, txt ≠ [] ∧ txt.length ≤ i ∧ F = frQN s i out.length (u8v txt).length ∧ A = hQN (pv out) (u8v txt) ∧ pcs s 0 [] [] = pcs s i txt out)
theorem Q_stepE (s : SB) (hs : s.size ≤ 1000000) (i k : Nat) (out : List (SB × SB)) (hk : i + k = s.size) (hn : out.length ≤ 2 * i) (hx : pcs s 0 [] [] = pcs s i [] out) :
    jQcE (fun v A => Frz A v (qR s)) (fun F' A' => ∃ m', m' < k ∧ QI s m' F' A') s i out.length (pv out) := by
  refine (jQcE_nf _ _ s i _ _).mpr ?_
  refine Sp.intro (fun c => ?_) (fun c => ?_)
  · have hlt : i < s.size := by simpa using c
    have hw : IntKind.i64.wrap ((i : Int) + 1) = ((i + 1 : Nat) : Int) := by rw [i64_in (by omega) (by omega)]; rfl
    have hw2 : IntKind.i64.wrap ((i : Int) + 2) = ((i + 2 : Nat) : Int) := by rw [i64_in (by omega) (by omega)]; rfl
    have HP : HF (.agg ⟨pv out⟩) := .agg (HF_pv out)
    have hpl : plB s i = true → ∃ m', m' < k ∧ QI s m' (frQN s (i + 1) out.length 1) (hQN (pv out) [Value.int .u8 (byteAt s i)]) := fun h => by
      rw [byteAt_nat hlt]
      exact ⟨k - 1, by omega, i + 1, out, by omega, by omega, .inr ⟨[bAt s i], by simp, by simp, rfl, rfl, by rw [hx, pcs_pl hlt h]; rfl⟩⟩
    have hdd : plB s i = false → byteAt s ((i + 1 : Nat) : Int) = 36 → ∃ m', m' < k ∧ QI s m' (frQN s (i + 2) out.length 1) (hQN (pv out) [Value.int .u8 36]) := fun h h2 => by
      have hb := (plB_false hlt h).2.1
      exact ⟨k - 2, by omega, i + 2, out, by omega, by omega, .inr ⟨[36], by simp, by simp, rfl, rfl, by rw [hx, pcs_dd hlt h h2]; rfl⟩⟩
    have HB : HF (.agg ⟨[Value.int .u8 (byteAt s i)]⟩) := .agg (HF.cons (.scal rfl) HF.nil)
    have HD : HF (.agg ⟨[Value.int .u8 36]⟩) := .agg (HF.cons (.scal rfl) HF.nil)
    simp only [hw, hw2, two_le hlt]
    have hA : (0 : Int) ≤ i ∧ (i : Int) ≤ s.size := ⟨by omega, by omega⟩
    have hA2 : (0 : Int) ≤ i ∧ (i : Int) < s.size := ⟨by omega, by omega⟩
    refine ⟨hA, Sp.intro (fun c1 => ?_) (fun c1 => ⟨hA, Sp.intro (fun c2 => ?_) (fun c2 => ⟨hA2, HP, HB, hpl ?_⟩)⟩)⟩
    rotate_left
    · rw [c1] at c2; cases c2
    · have h1 : ¬ i + 1 < s.size := of_decide_eq_false c1
      have : decide (i + 1 = s.size) = true := by simp; omega
      unfold plB; rw [this]; simp
    have hi1 : i + 1 < s.size := of_decide_eq_true c1
    have hne : decide (i + 1 = s.size) = false := by simp; omega
    have hsz2 : ((subB s (i : Int) (s.size : Int)).size : Int) = ((s.size - i : Nat) : Int) := by rw [subB_size (Nat.le_of_lt hlt) (Nat.le_refl _)]
    have hB2 : (0 : Int) ≤ 2 ∧ (2 : Int) ≤ ((subB s (i : Int) (s.size : Int)).size : Int) := ⟨by decide, by omega⟩
    refine ⟨hB2, Sp.intro (fun c3 => ?_) (fun c3 => ⟨hA, Sp.intro (fun _ => ⟨hB2, Sp.intro (fun c4 => ?_) (fun c4 => ⟨hA2, HP, HB, hpl ?_⟩)⟩) (fun c2 => by rw [c1] at c2; cases c2)⟩)⟩
    · rw [pre2 hi1 36] at c3
      simp only [Bool.and_eq_true, decide_eq_true_eq] at c3
      have h36 : byteAt s ((i + 1 : Nat) : Int) = 36 := c3.2
      have hP : plB s i = false := by unfold plB; rw [hne, decide_eq_true c3.1, decide_eq_true h36]; rfl
      exact ⟨HP, HD, hdd hP h36⟩
    rotate_left
    · rw [pre2 hi1 36] at c3
      rw [pre2 hi1 123] at c4
      have e36 : (((36 : UInt8).toNat : Nat) : Int) = 36 := rfl
      have e123 : (((123 : UInt8).toNat : Nat) : Int) = 123 := rfl
      rw [e36] at c3
      rw [e123] at c4
      unfold plB; rw [hne]
      cases h1 : decide (byteAt s (i : Int) = 36) <;> cases h2 : decide (byteAt s ((i + 1 : Nat) : Int) = 36) <;> cases h3 : decide (byteAt s ((i + 1 : Nat) : Int) = 123) <;> rw [h1] at c3 c4 <;> rw [h2] at c3 <;> rw [h3] at c4 <;> simp at c3 c4 ⊢
    · rw [pre2 hi1 123] at c4
      simp only [Bool.and_eq_true, decide_eq_true_eq] at c4
      have h123 : byteAt s ((i + 1 : Nat) : Int) = 123 := c4.2
      have h36 : ¬ byteAt s ((i + 1 : Nat) : Int) = 36 := by rw [h123]; decide
      have hP : plB s i = false := by unfold plB; rw [hne, decide_eq_true c4.1, decide_eq_true h123]; simp
      refine ⟨hA, Sp.intro (fun c5 => ?_) (fun c5 => ?_)⟩
      · have hb : badN s i = true := by unfold badN lenN; rw [c5]; rfl
        have e := hx.trans (pcs_bad hlt hP h36 hb _ _)
        rw [qR_bad hs e]
        exact .tuple (.cons (.nils 2) (.cons (.same (HFi _ _)) (.cons (.same (HFi _ _)) .nil)))
      · have h5 : ¬ lenN s i < 0 := of_decide_eq_false c5
        obtain ⟨hl1, hl2⟩ := lenN_in hlt hP h36 h5
        have hwL : IntKind.i64.wrap ((i : Int) + ixB (subB s (i : Int) (s.size : Int)) 125) = ((i + (lenN s i).toNat : Nat) : Int) := by
          show IntKind.i64.wrap ((i : Int) + lenN s i) = _
          rw [i64_in (by omega) (by omega)]; omega
        have hwM : IntKind.i64.wrap ((i : Int) + IntKind.i64.wrap (ixB (subB s (i : Int) (s.size : Int)) 125 + 1)) = ((i + (lenN s i).toNat + 1 : Nat) : Int) := by
          show IntKind.i64.wrap ((i : Int) + IntKind.i64.wrap (lenN s i + 1)) = _
          rw [i64_in (x := lenN s i + 1) (by omega) (by omega), i64_in (by omega) (by omega)]; omega
        simp only [hwL, hwM]
        have hsz : (subB s ((i + 2 : Nat) : Int) ((i + (lenN s i).toNat : Nat) : Int)).size < 9223372036854775808 := by
          rw [subB_size (by omega) (by omega)]; omega
        refine ⟨⟨by omega, by omega, by omega⟩, hsz, Sp.intro (fun c6 => ?_) (fun c6 => ?_)⟩
        · have hb : badN s i = true := by unfold badN namN; rw [c6]; simp
          have e := hx.trans (pcs_bad hlt hP h36 hb _ _)
          rw [qR_bad hs e]
          exact .tuple (.cons (.nils 2) (.cons (.same (HFi _ _)) (.cons (.same (HFi _ _)) .nil)))
        · have hb : badN s i = false := by
            unfold badN namN; rw [c6, decide_eq_false h5]; rfl
          have e := hx.trans (pcs_nm hlt hP h36 hb _ _)
          have epv : pv out ++ [Value.agg ⟨[Value.string ⟨⟨[]⟩⟩, Value.string ⟨⟨[]⟩⟩]⟩, Value.agg ⟨[Value.string ⟨⟨[]⟩⟩, Value.string (subB s ((i + 2 : Nat) : Int) ((i + (lenN s i).toNat : Nat) : Int))]⟩] = pv (out ++ [(mkBytes [], mkBytes []), (mkBytes [], namN s i)]) := pv_app out [(mkBytes [], mkBytes []), (mkBytes [], namN s i)]
          rw [epv]
          exact ⟨⟨by omega, by omega, by omega⟩, ⟨by rfl, by rw [pv_len]; rfl, by omega, by omega⟩, .agg (HF_pv _), k - ((lenN s i).toNat + 1), by omega, i + (lenN s i).toNat + 1, out ++ [(mkBytes [], mkBytes []), (mkBytes [], namN s i)], by omega, by simp; omega, .inl ⟨by rw [List.length_append]; rfl, rfl, e⟩⟩
  · have hge : ¬ i < s.size := by simp at c; omega
    have e := hx.trans (pcs_end hge _ _)
    refine ⟨⟨by rfl, by rw [pv_len]; rfl, by omega, by omega⟩, ?_⟩
    rw [qR_ok hs e]
    exact .tuple (.cons (frz_pv rfl (pv_app out [(mkBytes [], mkBytes [])]) (by simp)) (.cons (.same (HFi _ _)) (.cons (.same (HFi _ _)) .nil)))
end
end Go.T9
set_option maxRecDepth 1000000
set_option linter.unusedVariables false
set_option linter.unusedSimpArgs false
set_option maxHeartbeats 4000000
namespace Go.T9
open Go Go.AM Go.MK
noncomputable section
theorem Q_stepN (s : SB) (hs : s.size ≤ 1000000) (i k : Nat) (out : List (SB × SB)) (txt : List UInt8) (ht0 : txt ≠ []) (ht : txt.length ≤ i) (hk : i + k = s.size) (hn : out.length ≤ 2 * i) (hx : pcs s 0 [] [] = pcs s i txt out) :
    jQcN (fun v A => Frz A v (qR s)) (fun F' A' => ∃ m', m' < k ∧ QI s m' F' A') s i out.length (pv out) (u8v txt) := by
  have htl : 0 < txt.length := by rcases txt with _ | ⟨x, l⟩; exact absurd rfl ht0; simp
  have hul : (u8v txt).length = txt.length := u8_len txt
  refine (jQcN_nf _ _ s i _ _ _).mpr ?_
  refine Sp.intro (fun c => ?_) (fun c => ?_)
  · have hlt : i < s.size := by simpa using c
    have hw : IntKind.i64.wrap ((i : Int) + 1) = ((i + 1 : Nat) : Int) := by rw [i64_in (by omega) (by omega)]; rfl
    have hw2 : IntKind.i64.wrap ((i : Int) + 2) = ((i + 2 : Nat) : Int) := by rw [i64_in (by omega) (by omega)]; rfl
    have HP : HF (.agg ⟨pv out⟩) := .agg (HF_pv out)
    have hpl : plB s i = true → ∃ m', m' < k ∧ QI s m' (frQN s (i + 1) out.length ((u8v txt).length + 1)) (hQN (pv out) ((u8v txt).take ((u8v txt).length * 1) ++ [Value.int .u8 (byteAt s i)])) := fun h => by
      rw [byteAt_nat hlt, u8_app, u8_len1 txt (bAt s i)]
      exact ⟨k - 1, by omega, i + 1, out, by omega, by omega, .inr ⟨txt ++ [bAt s i], by simp, by simp; omega, rfl, rfl, by rw [hx, pcs_pl hlt h]⟩⟩
    have hdd : plB s i = false → byteAt s ((i + 1 : Nat) : Int) = 36 → ∃ m', m' < k ∧ QI s m' (frQN s (i + 2) out.length ((u8v txt).length + 1)) (hQN (pv out) ((u8v txt).take ((u8v txt).length * 1) ++ [Value.int .u8 36])) := fun h h2 => by
      have hb := (plB_false hlt h).2.1
      rw [u8_app36, u8_len1 txt 36]
      exact ⟨k - 2, by omega, i + 2, out, by omega, by omega, .inr ⟨txt ++ [36], by simp, by simp; omega, rfl, rfl, by rw [hx, pcs_dd hlt h h2]⟩⟩
    have HB : HF (.agg ⟨(u8v txt).take ((u8v txt).length * 1) ++ [Value.int .u8 (byteAt s i)]⟩) := by rw [byteAt_nat hlt, u8_app]; exact .agg (HF_u8 _)
    have HD : HF (.agg ⟨(u8v txt).take ((u8v txt).length * 1) ++ [Value.int .u8 36]⟩) := by rw [u8_app36]; exact .agg (HF_u8 _)
    have HC : (u8v txt).length + 1 ≤ 70368744177664 ∧ ((u8v txt).length + 1) * 1 ≤ 140737488355328 ∧ (u8v txt).length * 1 ≤ (u8v txt).length := ⟨by omega, by omega, by omega⟩
    simp only [hw, hw2, two_le hlt]
    have hA : (0 : Int) ≤ i ∧ (i : Int) ≤ s.size := ⟨by omega, by omega⟩
    have hA2 : (0 : Int) ≤ i ∧ (i : Int) < s.size := ⟨by omega, by omega⟩
    refine ⟨hA, Sp.intro (fun c1 => ?_) (fun c1 => ⟨hA, Sp.intro (fun c2 => ?_) (fun c2 => ⟨hA2, HC, HP, HB, hpl ?_⟩)⟩)⟩
    rotate_left
    · rw [c1] at c2; cases c2
    · have h1 : ¬ i + 1 < s.size := of_decide_eq_false c1
      have : decide (i + 1 = s.size) = true := by simp; omega
      unfold plB; rw [this]; simp
    have hi1 : i + 1 < s.size := of_decide_eq_true c1
    have hne : decide (i + 1 = s.size) = false := by simp; omega
    have hsz2 : ((subB s (i : Int) (s.size : Int)).size : Int) = ((s.size - i : Nat) : Int) := by rw [subB_size (Nat.le_of_lt hlt) (Nat.le_refl _)]
    have hB2 : (0 : Int) ≤ 2 ∧ (2 : Int) ≤ ((subB s (i : Int) (s.size : Int)).size : Int) := ⟨by decide, by omega⟩
    refine ⟨hB2, Sp.intro (fun c3 => ?_) (fun c3 => ⟨hA, Sp.intro (fun _ => ⟨hB2, Sp.intro (fun c4 => ?_) (fun c4 => ⟨hA2, HC, HP, HB, hpl ?_⟩)⟩) (fun c2 => by rw [c1] at c2; cases c2)⟩)⟩
    · rw [pre2 hi1 36] at c3
      simp only [Bool.and_eq_true, decide_eq_true_eq] at c3
      have h36 : byteAt s ((i + 1 : Nat) : Int) = 36 := c3.2
      have hP : plB s i = false := by unfold plB; rw [hne, decide_eq_true c3.1, decide_eq_true h36]; rfl
      exact ⟨HC, HP, HD, hdd hP h36⟩
    rotate_left
    · rw [pre2 hi1 36] at c3
      rw [pre2 hi1 123] at c4
      have e36 : (((36 : UInt8).toNat : Nat) : Int) = 36 := rfl
      have e123 : (((123 : UInt8).toNat : Nat) : Int) = 123 := rfl
      rw [e36] at c3
      rw [e123] at c4
      unfold plB; rw [hne]
      cases h1 : decide (byteAt s (i : Int) = 36) <;> cases h2 : decide (byteAt s ((i + 1 : Nat) : Int) = 36) <;> cases h3 : decide (byteAt s ((i + 1 : Nat) : Int) = 123) <;> rw [h1] at c3 c4 <;> rw [h2] at c3 <;> rw [h3] at c4 <;> simp at c3 c4 ⊢
    · rw [pre2 hi1 123] at c4
      simp only [Bool.and_eq_true, decide_eq_true_eq] at c4
      have h123 : byteAt s ((i + 1 : Nat) : Int) = 123 := c4.2
      have h36 : ¬ byteAt s ((i + 1 : Nat) : Int) = 36 := by rw [h123]; decide
      have hP : plB s i = false := by unfold plB; rw [hne, decide_eq_true c4.1, decide_eq_true h123]; simp
      refine ⟨hA, Sp.intro (fun c5 => ?_) (fun c5 => ?_)⟩
      · have hb : badN s i = true := by unfold badN lenN; rw [c5]; rfl
        have e := hx.trans (pcs_bad hlt hP h36 hb _ _)
        rw [qR_bad hs e]
        exact .tuple (.cons (.nils 2) (.cons (.same (HFi _ _)) (.cons (.same (HFi _ _)) .nil)))
      · have h5 : ¬ lenN s i < 0 := of_decide_eq_false c5
        obtain ⟨hl1, hl2⟩ := lenN_in hlt hP h36 h5
        have hwL : IntKind.i64.wrap ((i : Int) + ixB (subB s (i : Int) (s.size : Int)) 125) = ((i + (lenN s i).toNat : Nat) : Int) := by
          show IntKind.i64.wrap ((i : Int) + lenN s i) = _
          rw [i64_in (by omega) (by omega)]; omega
        have hwM : IntKind.i64.wrap ((i : Int) + IntKind.i64.wrap (ixB (subB s (i : Int) (s.size : Int)) 125 + 1)) = ((i + (lenN s i).toNat + 1 : Nat) : Int) := by
          show IntKind.i64.wrap ((i : Int) + IntKind.i64.wrap (lenN s i + 1)) = _
          rw [i64_in (x := lenN s i + 1) (by omega) (by omega), i64_in (by omega) (by omega)]; omega
        simp only [hwL, hwM]
        have hsz : (subB s ((i + 2 : Nat) : Int) ((i + (lenN s i).toNat : Nat) : Int)).size < 9223372036854775808 := by
          rw [subB_size (by omega) (by omega)]; omega
        refine ⟨⟨by omega, by omega, by omega⟩, hsz, Sp.intro (fun c6 => ?_) (fun c6 => ?_)⟩
        · have hb : badN s i = true := by unfold badN namN; rw [c6]; simp
          have e := hx.trans (pcs_bad hlt hP h36 hb _ _)
          rw [qR_bad hs e]
          exact .tuple (.cons (.nils 2) (.cons (.same (HFi _ _)) (.cons (.same (HFi _ _)) .nil)))
        · have hb : badN s i = false := by
            unfold badN namN; rw [c6, decide_eq_false h5]; rfl
          have e := hx.trans (pcs_nm hlt hP h36 hb _ _)
          have epv : pv out ++ [Value.agg ⟨[Value.string (mkBytes txt), Value.string ⟨⟨[]⟩⟩]⟩, Value.agg ⟨[Value.string ⟨⟨[]⟩⟩, Value.string (subB s ((i + 2 : Nat) : Int) ((i + (lenN s i).toNat : Nat) : Int))]⟩] = pv (out ++ [(mkBytes txt, mkBytes []), (mkBytes [], namN s i)]) := pv_app out [(mkBytes txt, mkBytes []), (mkBytes [], namN s i)]
          rw [u8_L, epv]
          exact ⟨u8_is txt, ⟨by omega, by omega, by omega⟩, ⟨by rfl, by rw [pv_len]; rfl, by omega, by omega⟩, .agg (HF_pv _), k - ((lenN s i).toNat + 1), by omega, i + (lenN s i).toNat + 1, out ++ [(mkBytes txt, mkBytes []), (mkBytes [], namN s i)], by omega, by simp; omega, .inl ⟨by rw [List.length_append]; rfl, rfl, e⟩⟩
  · have hge : ¬ i < s.size := by simp at c; omega
    have e := hx.trans (pcs_end hge _ _)
    refine ⟨u8_is txt, ⟨by rfl, by rw [pv_len]; rfl, by omega, by omega⟩, ?_⟩
    rw [qR_ok hs e, u8_L]
    exact .tuple (.cons (frz_pv rfl (pv_app out [(mkBytes txt, mkBytes [])]) (by simp)) (.cons (.same (HFi _ _)) (.cons (.same (HFi _ _)) .nil)))
theorem Q_loop (s : SB) (hs : s.size ≤ 1000000) : LAtZ XQ 4 ntQ ⟨.leaf, 0⟩ bdQ [1, 1, 1, 1, 0, 1, 0] (kFinQ (fun v A => Frz A v (qR s))) (frQE s 0 0) (hQE []) := by
  refine LAtZ.step XQ_ok rfl [(.slot 5, 75, 2)] [] [5] [0, 5, 6, 7] (by kernel_rfl) (QI s) ?_ (k := s.size) ⟨0, [], by simp, by simp, .inl ⟨rfl, rfl, rfl⟩⟩
  rintro k F A ⟨i, out, hk, hn, h | ⟨txt, h0, h1, h⟩⟩
  · obtain ⟨rfl, rfl, hx⟩ := h
    exact Q_stepE s hs i k out hk hn hx
  · obtain ⟨rfl, rfl, hx⟩ := h
    exact Q_stepN s hs i k out txt h0 h1 hk hn hx
theorem qc_walk (s : SB) : WalkZ envX Proofs.Tryz.f35 [.string s] ⟨.leaf, 0⟩ (qR s) := by
  refine sxFnZ_walk XQ_ok (d := 4) ((jQc_nf _ s).mpr ?_)
  refine Sp.intro (fun c => ?_) (fun c => ⟨.agg HF.nil, ?_⟩)
  · have e : qR s = .tuple ⟨[dat 2 [], .int .i64 0, .int .i64 3]⟩ := by unfold qR qL qA qE; rw [c]; rfl
    rw [e]
    exact .tuple (.cons (.nils 2) (.cons (.same (HFi _ _)) (.cons (.same (HFi _ _)) .nil)))
  · exact Q_loop s (by have := of_decide_eq_false c; omega)
def qcX : List Value → Option Value
  | [.string s] => some (.tuple ⟨[.func (.yield 2) ⟨pv (qL s)⟩ ⟨[]⟩, .int .i64 (qA s), .int .i64 (qE s)]⟩)
  | _ => none
theorem qc_tab : ∀ args A p v A', pureR (fun _ => none) qcX args A = some (p, v, A') → PH p → CallAt envX 35 args A v A' := walk_tab envX_ok envX_gl (fn := Proofs.Tryz.f35) rfl fun args v h hp => by
  unfold qcX at h
  split at h
  · simp only [Option.some.injEq] at h
    subst h
    exact ⟨HF.cons (.scal rfl) HF.nil, qc_walk _⟩
  · cases h
end
end Go.T9

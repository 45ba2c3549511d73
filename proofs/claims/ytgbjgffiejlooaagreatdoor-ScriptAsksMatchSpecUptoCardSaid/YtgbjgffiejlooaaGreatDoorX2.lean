/- A part of the proof. -/
import Derived.Test.YtgbjgffiejlooaaGreatDoorX1
import Derived.Test.YtgbjgffiejlooaaGreatDoorU2
import Derived.KernelRfl
set_option linter.unusedVariables false
set_option linter.unusedSimpArgs false
set_option maxRecDepth 1000000
set_option maxHeartbeats 4000000
namespace Go.T9
open Go Go.AM Go.MK Go.Proofs.Tryz
noncomputable section
def tabQ : Tab := [(23, aj bg nmX)]
theorem u7 : TabOk envX tabQ := .cons (toX oO) .nil
def XQ : SX := ⟨envX, tabQ, elA, fun _ => .autoN [(.slot 5, 255, 2)] [] [5] [0, 5, 6, 7]⟩
theorem XQ_ok : XQ.Ok := ⟨ag, aw, ah, u7⟩
def frQE (s : SB) (i n : Nat) : T Value := (Nd (Nd (Nd (Nd Lf (some (.int .i64 i)) Lf) none Lf) none (Nd Lf (some (.slice (some ⟨0, 0, none⟩) n (unk + 3 + 2))) Lf)) (some (.string s)) (Nd Lf none (Nd Lf (some (.slice none 0 0)) Lf)))
def frQN (s : SB) (i n b : Nat) : T Value := (Nd (Nd (Nd (Nd Lf (some (.int .i64 i)) Lf) none Lf) none (Nd Lf (some (.slice (some ⟨0, 0, none⟩) n (unk + 3 + 2))) Lf)) (some (.string s)) (Nd Lf none (Nd Lf (some (.slice (some ⟨1, 0, none⟩) b unk)) Lf)))
def hQE (els : List Value) : AH := ⟨Nd Lf (some (.gro els [] 255)) Lf, 1⟩
def hQN (els bs : List Value) : AH := ⟨Nd (Nd Lf (some (.cells bs 5)) Lf) (some (.gro els [] 255)) Lf, 2⟩
def ntQ : Nat := Func.ntmps f124
def bdQ : Code := ae f124
def wR (K : KV) : KX := finK XQ.E (f124.results).toList K
def jQc (K : KV) (s : SB) : Prop := ay XQ 4 f124 [.string s] ⟨.leaf, 0⟩ K
def jQcE (K : KV) (again : KF) (s : SB) (i n : Nat) (els : List Value) : Prop := ax XQ 4 ntQ ⟨.leaf, 0⟩ bdQ [1, 1, 1, 1, 0, 1, 0] (wR K) [(.slot 5, 255, 2)] [] [5] [0, 5, 6, 7] again (frQE s i n) (hQE els)
def jQcN (K : KV) (again : KF) (s : SB) (i n : Nat) (els bs : List Value) : Prop := ax XQ 4 ntQ ⟨.leaf, 0⟩ bdQ [1, 1, 1, 1, 0, 1, 0] (wR K) [(.slot 5, 255, 2)] [] [5] [0, 5, 6, 7] again (frQN s i n bs.length) (hQN els bs)
theorem jQc_nf (K : KV) (s : SB) : jQc K s = (Sp (decide (1000000 < (s.size : Int))) (K (Vt [Value.slice none 0 0, Vi 0, Vi 3]) (AH.mk Lf 0)) (HF (Va []) ∧ LAtZ XQ 4 f124.ntmps (AH.mk Lf 0) (ae f124) [1, 1, 1, 1, 0, 1, 0] (finK (SX.E XQ) f124.results.toList K) (Ns (No (No (Sg (Vi 0)) Lf) (Sg (Value.slice (some ⟨0, 0, none⟩) 0 18446744073709551621))) (Vs s) (No Lf (Sg (Value.slice none 0 0)))) (AH.mk (Sg (AObj.gro [] [] 255)) 1))) := by kernel_rfl
theorem xN (K : KV) (again : KF) (s : SB) (i n : Nat) (els : List Value) : jQcE K again s i n els = (Sp (decide ((i : Int) < (s.size : Int))) ((0 ≤ (i : Int) ∧ (i : Int) ≤ (s.size : Int)) ∧ Sp (decide (2 ≤ (↑(ByteArray.size (subB s i s.size)) : Int))) (((0 : Int) ≤ (2 : Int) ∧ 2 ≤ (↑(ByteArray.size (subB s i s.size)) : Int)) ∧ Sp (eqL ((subB (subB s i s.size) 0 (↑(ByteArray.size (ByteArray.mk #[(36 : UInt8), (36 : UInt8)])) : Int)).data.toList) (ByteArray.mk #[(36 : UInt8), (36 : UInt8)]).data.toList) (HF (Va els) ∧ HF (Va [Value.int .u8 36]) ∧ again (Ns (No (No (Sg (Vi (Wi ((i : Int) + 2)))) Lf) (Sg (Value.slice (some ⟨0, 0, none⟩) n 18446744073709551621))) (Vs s) (No Lf (Sg (Value.slice (some ⟨1, 0, none⟩) 1 18446744073709551616)))) (AH.mk (Ns (Sg (AObj.cells [Value.int .u8 36] 5)) (AObj.gro els [] 255) Lf) 2)) ((0 ≤ (i : Int) ∧ (i : Int) ≤ (s.size : Int)) ∧ Sp (decide (2 ≤ (↑(ByteArray.size (subB s i s.size)) : Int))) (((0 : Int) ≤ (2 : Int) ∧ 2 ≤ (↑(ByteArray.size (subB s i s.size)) : Int)) ∧ Sp (eqL ((subB (subB s i s.size) 0 (↑(ByteArray.size (ByteArray.mk #[(36 : UInt8), (123 : UInt8)])) : Int)).data.toList) (ByteArray.mk #[(36 : UInt8), (123 : UInt8)]).data.toList) ((0 ≤ (i : Int) ∧ (i : Int) ≤ (s.size : Int)) ∧ Sp (decide (ixB (subB s i s.size) (125 : Int) < (0 : Int))) (K (Vt [Value.slice none 0 0, Vi i, Vi 6]) (AH.mk (Sg (AObj.gro els [] 255)) 1)) ((0 ≤ Wi ((i : Int) + 2) ∧ Wi ((i : Int) + 2) ≤ Wi ((i : Int) + ixB (subB s i s.size) 125) ∧ Wi ((i : Int) + ixB (subB s i s.size) 125) ≤ (s.size : Int)) ∧ ByteArray.size (subB s (Wi ((i : Int) + 2)) (Wi ((i : Int) + ixB (subB s i s.size) 125))) < 9223372036854775808 ∧ Sp (!aJ (subB s (Wi ((i : Int) + 2)) (Wi ((i : Int) + ixB (subB s i s.size) 125)))) (K (Vt [Value.slice none 0 0, Vi i, Vi 6]) (AH.mk (Sg (AObj.gro els [] 255)) 1)) ((0 ≤ Wi ((i : Int) + 2) ∧ Wi ((i : Int) + 2) ≤ Wi ((i : Int) + ixB (subB s i s.size) 125) ∧ Wi ((i : Int) + ixB (subB s i s.size) 125) ≤ (s.size : Int)) ∧ (List.all [Vs (ByteArray.mk ⟨[]⟩), Vs (ByteArray.mk ⟨[]⟩), Vs (ByteArray.mk ⟨[]⟩), Vs (subB s (Wi ((i : Int) + 2)) (Wi ((i : Int) + ixB (subB s i s.size) 125)))] cellv = true ∧ n + 0 = List.length els ∧ n + (2 : Nat) ≤ (70368744177664 : Nat) ∧ (n + 2) * (32 : Nat) ≤ (140737488355328 : Nat)) ∧ HF (Va (els ++ [Va [Vs (ByteArray.mk ⟨[]⟩), Vs (ByteArray.mk ⟨[]⟩)], Va [Vs (ByteArray.mk ⟨[]⟩), Vs (subB s (Wi ((i : Int) + 2)) (Wi ((i : Int) + ixB (subB s i s.size) 125)))]])) ∧ again (Ns (No (No (Sg (Vi (Wi ((i : Int) + Wi (ixB (subB s i s.size) 125 + 1))))) Lf) (Sg (Value.slice (some ⟨0, 0, none⟩) (n + 2) 18446744073709551621))) (Vs s) (No Lf (Sg (Value.slice none 0 0)))) (AH.mk (Sg (AObj.gro (els ++ [Va [Vs (ByteArray.mk ⟨[]⟩), Vs (ByteArray.mk ⟨[]⟩)], Va [Vs (ByteArray.mk ⟨[]⟩), Vs (subB s (Wi ((i : Int) + 2)) (Wi ((i : Int) + ixB (subB s i s.size) 125)))]]) [] 255)) 1)))) ((0 ≤ (i : Int) ∧ (i : Int) < (s.size : Int)) ∧ HF (Va els) ∧ HF (Va [Value.int .u8 (ac s i)]) ∧ again (Ns (No (No (Sg (Vi (Wi ((i : Int) + 1)))) Lf) (Sg (Value.slice (some ⟨0, 0, none⟩) n 18446744073709551621))) (Vs s) (No Lf (Sg (Value.slice (some ⟨1, 0, none⟩) 1 18446744073709551616)))) (AH.mk (Ns (Sg (AObj.cells [Value.int .u8 (ac s i)] 5)) (AObj.gro els [] 255) Lf) 2))) ((0 ≤ (i : Int) ∧ (i : Int) < (s.size : Int)) ∧ HF (Va els) ∧ HF (Va [Value.int .u8 (ac s i)]) ∧ again (Ns (No (No (Sg (Vi (Wi ((i : Int) + 1)))) Lf) (Sg (Value.slice (some ⟨0, 0, none⟩) n 18446744073709551621))) (Vs s) (No Lf (Sg (Value.slice (some ⟨1, 0, none⟩) 1 18446744073709551616)))) (AH.mk (Ns (Sg (AObj.cells [Value.int .u8 (ac s i)] 5)) (AObj.gro els [] 255) Lf) 2)))) ((0 ≤ (i : Int) ∧ (i : Int) ≤ (s.size : Int)) ∧ Sp (decide (2 ≤ (↑(ByteArray.size (subB s i s.size)) : Int))) (((0 : Int) ≤ (2 : Int) ∧ 2 ≤ (↑(ByteArray.size (subB s i s.size)) : Int)) ∧ Sp (eqL ((subB (subB s i s.size) 0 (↑(ByteArray.size (ByteArray.mk #[(36 : UInt8), (123 : UInt8)])) : Int)).data.toList) (ByteArray.mk #[(36 : UInt8), (123 : UInt8)]).data.toList) ((0 ≤ (i : Int) ∧ (i : Int) ≤ (s.size : Int)) ∧ Sp (decide (ixB (subB s i s.size) (125 : Int) < (0 : Int))) (K (Vt [Value.slice none 0 0, Vi i, Vi 6]) (AH.mk (Sg (AObj.gro els [] 255)) 1)) ((0 ≤ Wi ((i : Int) + 2) ∧ Wi ((i : Int) + 2) ≤ Wi ((i : Int) + ixB (subB s i s.size) 125) ∧ Wi ((i : Int) + ixB (subB s i s.size) 125) ≤ (s.size : Int)) ∧ ByteArray.size (subB s (Wi ((i : Int) + 2)) (Wi ((i : Int) + ixB (subB s i s.size) 125))) < 9223372036854775808 ∧ Sp (!aJ (subB s (Wi ((i : Int) + 2)) (Wi ((i : Int) + ixB (subB s i s.size) 125)))) (K (Vt [Value.slice none 0 0, Vi i, Vi 6]) (AH.mk (Sg (AObj.gro els [] 255)) 1)) ((0 ≤ Wi ((i : Int) + 2) ∧ Wi ((i : Int) + 2) ≤ Wi ((i : Int) + ixB (subB s i s.size) 125) ∧ Wi ((i : Int) + ixB (subB s i s.size) 125) ≤ (s.size : Int)) ∧ (List.all [Vs (ByteArray.mk ⟨[]⟩), Vs (ByteArray.mk ⟨[]⟩), Vs (ByteArray.mk ⟨[]⟩), Vs (subB s (Wi ((i : Int) + 2)) (Wi ((i : Int) + ixB (subB s i s.size) 125)))] cellv = true ∧ n + 0 = List.length els ∧ n + (2 : Nat) ≤ (70368744177664 : Nat) ∧ (n + 2) * (32 : Nat) ≤ (140737488355328 : Nat)) ∧ HF (Va (els ++ [Va [Vs (ByteArray.mk ⟨[]⟩), Vs (ByteArray.mk ⟨[]⟩)], Va [Vs (ByteArray.mk ⟨[]⟩), Vs (subB s (Wi ((i : Int) + 2)) (Wi ((i : Int) + ixB (subB s i s.size) 125)))]])) ∧ again (Ns (No (No (Sg (Vi (Wi ((i : Int) + Wi (ixB (subB s i s.size) 125 + 1))))) Lf) (Sg (Value.slice (some ⟨0, 0, none⟩) (n + 2) 18446744073709551621))) (Vs s) (No Lf (Sg (Value.slice none 0 0)))) (AH.mk (Sg (AObj.gro (els ++ [Va [Vs (ByteArray.mk ⟨[]⟩), Vs (ByteArray.mk ⟨[]⟩)], Va [Vs (ByteArray.mk ⟨[]⟩), Vs (subB s (Wi ((i : Int) + 2)) (Wi ((i : Int) + ixB (subB s i s.size) 125)))]]) [] 255)) 1)))) ((0 ≤ (i : Int) ∧ (i : Int) < (s.size : Int)) ∧ HF (Va els) ∧ HF (Va [Value.int .u8 (ac s i)]) ∧ again (Ns (No (No (Sg (Vi (Wi ((i : Int) + 1)))) Lf) (Sg (Value.slice (some ⟨0, 0, none⟩) n 18446744073709551621))) (Vs s) (No Lf (Sg (Value.slice (some ⟨1, 0, none⟩) 1 18446744073709551616)))) (AH.mk (Ns (Sg (AObj.cells [Value.int .u8 (ac s i)] 5)) (AObj.gro els [] 255) Lf) 2))) ((0 ≤ (i : Int) ∧ (i : Int) < (s.size : Int)) ∧ HF (Va els) ∧ HF (Va [Value.int .u8 (ac s i)]) ∧ again (Ns (No (No (Sg (Vi (Wi ((i : Int) + 1)))) Lf) (Sg (Value.slice (some ⟨0, 0, none⟩) n 18446744073709551621))) (Vs s) (No Lf (Sg (Value.slice (some ⟨1, 0, none⟩) 1 18446744073709551616)))) (AH.mk (Ns (Sg (AObj.cells [Value.int .u8 (ac s i)] 5)) (AObj.gro els [] 255) Lf) 2)))) ((List.all [Vs (ByteArray.mk ⟨[]⟩), Vs (ByteArray.mk ⟨[]⟩)] cellv = true ∧ n + 0 = List.length els ∧ n + (1 : Nat) ≤ (70368744177664 : Nat) ∧ (n + 1) * (32 : Nat) ≤ (140737488355328 : Nat)) ∧ K (Vt [Value.slice (some ⟨2, 0, none⟩) (n + 1) 18446744073709551621, Vi 0, Vi 0]) (AH.mk (Ns (Sg (AObj.cells [Vs (ByteArray.mk ⟨[]⟩), Vs (ByteArray.mk ⟨[]⟩)] 255)) AObj.dead (Sg (AObj.gro els [Va [Vs (ByteArray.mk ⟨[]⟩), Vs (ByteArray.mk ⟨[]⟩)]] 255))) 3))) := by kernel_rfl
theorem xM (K : KV) (again : KF) (s : SB) (i n : Nat) (els bs : List Value) : jQcN K again s i n els bs = (Sp (decide ((i : Int) < (s.size : Int))) ((0 ≤ (i : Int) ∧ (i : Int) ≤ (s.size : Int)) ∧ Sp (decide (2 ≤ (↑(ByteArray.size (subB s i s.size)) : Int))) (((0 : Int) ≤ (2 : Int) ∧ 2 ≤ (↑(ByteArray.size (subB s i s.size)) : Int)) ∧ Sp (eqL ((subB (subB s i s.size) 0 (↑(ByteArray.size (ByteArray.mk #[(36 : UInt8), (36 : UInt8)])) : Int)).data.toList) (ByteArray.mk #[(36 : UInt8), (36 : UInt8)]).data.toList) ((List.length bs + (1 : Nat) ≤ (70368744177664 : Nat) ∧ (List.length bs + 1) * (1 : Nat) ≤ (140737488355328 : Nat) ∧ List.length bs * 1 ≤ List.length bs) ∧ HF (Va els) ∧ HF (Va (List.take (List.length bs * 1) bs ++ [Value.int .u8 36])) ∧ again (Ns (No (No (Sg (Vi (Wi ((i : Int) + 2)))) Lf) (Sg (Value.slice (some ⟨0, 0, none⟩) n 18446744073709551621))) (Vs s) (No Lf (Sg (Value.slice (some ⟨1, 0, none⟩) (List.length bs + 1) 18446744073709551616)))) (AH.mk (Ns (Sg (AObj.cells (List.take (List.length bs * 1) bs ++ [Value.int .u8 36]) 5)) (AObj.gro els [] 255) Lf) 2)) ((0 ≤ (i : Int) ∧ (i : Int) ≤ (s.size : Int)) ∧ Sp (decide (2 ≤ (↑(ByteArray.size (subB s i s.size)) : Int))) (((0 : Int) ≤ (2 : Int) ∧ 2 ≤ (↑(ByteArray.size (subB s i s.size)) : Int)) ∧ Sp (eqL ((subB (subB s i s.size) 0 (↑(ByteArray.size (ByteArray.mk #[(36 : UInt8), (123 : UInt8)])) : Int)).data.toList) (ByteArray.mk #[(36 : UInt8), (123 : UInt8)]).data.toList) ((0 ≤ (i : Int) ∧ (i : Int) ≤ (s.size : Int)) ∧ Sp (decide (ixB (subB s i s.size) (125 : Int) < (0 : Int))) (K (Vt [Value.slice none 0 0, Vi i, Vi 6]) (AH.mk (Ns (Sg (AObj.cells bs 5)) (AObj.gro els [] 255) Lf) 2)) ((0 ≤ Wi ((i : Int) + 2) ∧ Wi ((i : Int) + 2) ≤ Wi ((i : Int) + ixB (subB s i s.size) 125) ∧ Wi ((i : Int) + ixB (subB s i s.size) 125) ≤ (s.size : Int)) ∧ ByteArray.size (subB s (Wi ((i : Int) + 2)) (Wi ((i : Int) + ixB (subB s i s.size) 125))) < 9223372036854775808 ∧ Sp (!aJ (subB s (Wi ((i : Int) + 2)) (Wi ((i : Int) + ixB (subB s i s.size) 125)))) (K (Vt [Value.slice none 0 0, Vi i, Vi 6]) (AH.mk (Ns (Sg (AObj.cells bs 5)) (AObj.gro els [] 255) Lf) 2)) (IsB bs 0 bs.length ∧ (0 ≤ Wi ((i : Int) + 2) ∧ Wi ((i : Int) + 2) ≤ Wi ((i : Int) + ixB (subB s i s.size) 125) ∧ Wi ((i : Int) + ixB (subB s i s.size) 125) ≤ (s.size : Int)) ∧ (List.all [Vs (aa (u8L bs 0 bs.length)), Vs (ByteArray.mk ⟨[]⟩), Vs (ByteArray.mk ⟨[]⟩), Vs (subB s (Wi ((i : Int) + 2)) (Wi ((i : Int) + ixB (subB s i s.size) 125)))] cellv = true ∧ n + 0 = List.length els ∧ n + (2 : Nat) ≤ (70368744177664 : Nat) ∧ (n + 2) * (32 : Nat) ≤ (140737488355328 : Nat)) ∧ HF (Va (els ++ [Va [Vs (aa (u8L bs 0 bs.length)), Vs (ByteArray.mk ⟨[]⟩)], Va [Vs (ByteArray.mk ⟨[]⟩), Vs (subB s (Wi ((i : Int) + 2)) (Wi ((i : Int) + ixB (subB s i s.size) 125)))]])) ∧ again (Ns (No (No (Sg (Vi (Wi ((i : Int) + Wi (ixB (subB s i s.size) 125 + 1))))) Lf) (Sg (Value.slice (some ⟨0, 0, none⟩) (n + 2) 18446744073709551621))) (Vs s) (No Lf (Sg (Value.slice none 0 0)))) (AH.mk (Sg (AObj.gro (els ++ [Va [Vs (aa (u8L bs 0 bs.length)), Vs (ByteArray.mk ⟨[]⟩)], Va [Vs (ByteArray.mk ⟨[]⟩), Vs (subB s (Wi ((i : Int) + 2)) (Wi ((i : Int) + ixB (subB s i s.size) 125)))]]) [] 255)) 1)))) ((0 ≤ (i : Int) ∧ (i : Int) < (s.size : Int)) ∧ (List.length bs + (1 : Nat) ≤ (70368744177664 : Nat) ∧ (List.length bs + 1) * (1 : Nat) ≤ (140737488355328 : Nat) ∧ List.length bs * 1 ≤ List.length bs) ∧ HF (Va els) ∧ HF (Va (List.take (List.length bs * 1) bs ++ [Value.int .u8 (ac s i)])) ∧ again (Ns (No (No (Sg (Vi (Wi ((i : Int) + 1)))) Lf) (Sg (Value.slice (some ⟨0, 0, none⟩) n 18446744073709551621))) (Vs s) (No Lf (Sg (Value.slice (some ⟨1, 0, none⟩) (List.length bs + 1) 18446744073709551616)))) (AH.mk (Ns (Sg (AObj.cells (List.take (List.length bs * 1) bs ++ [Value.int .u8 (ac s i)]) 5)) (AObj.gro els [] 255) Lf) 2))) ((0 ≤ (i : Int) ∧ (i : Int) < (s.size : Int)) ∧ (List.length bs + (1 : Nat) ≤ (70368744177664 : Nat) ∧ (List.length bs + 1) * (1 : Nat) ≤ (140737488355328 : Nat) ∧ List.length bs * 1 ≤ List.length bs) ∧ HF (Va els) ∧ HF (Va (List.take (List.length bs * 1) bs ++ [Value.int .u8 (ac s i)])) ∧ again (Ns (No (No (Sg (Vi (Wi ((i : Int) + 1)))) Lf) (Sg (Value.slice (some ⟨0, 0, none⟩) n 18446744073709551621))) (Vs s) (No Lf (Sg (Value.slice (some ⟨1, 0, none⟩) (List.length bs + 1) 18446744073709551616)))) (AH.mk (Ns (Sg (AObj.cells (List.take (List.length bs * 1) bs ++ [Value.int .u8 (ac s i)]) 5)) (AObj.gro els [] 255) Lf) 2)))) ((0 ≤ (i : Int) ∧ (i : Int) ≤ (s.size : Int)) ∧ Sp (decide (2 ≤ (↑(ByteArray.size (subB s i s.size)) : Int))) (((0 : Int) ≤ (2 : Int) ∧ 2 ≤ (↑(ByteArray.size (subB s i s.size)) : Int)) ∧ Sp (eqL ((subB (subB s i s.size) 0 (↑(ByteArray.size (ByteArray.mk #[(36 : UInt8), (123 : UInt8)])) : Int)).data.toList) (ByteArray.mk #[(36 : UInt8), (123 : UInt8)]).data.toList) ((0 ≤ (i : Int) ∧ (i : Int) ≤ (s.size : Int)) ∧ Sp (decide (ixB (subB s i s.size) (125 : Int) < (0 : Int))) (K (Vt [Value.slice none 0 0, Vi i, Vi 6]) (AH.mk (Ns (Sg (AObj.cells bs 5)) (AObj.gro els [] 255) Lf) 2)) ((0 ≤ Wi ((i : Int) + 2) ∧ Wi ((i : Int) + 2) ≤ Wi ((i : Int) + ixB (subB s i s.size) 125) ∧ Wi ((i : Int) + ixB (subB s i s.size) 125) ≤ (s.size : Int)) ∧ ByteArray.size (subB s (Wi ((i : Int) + 2)) (Wi ((i : Int) + ixB (subB s i s.size) 125))) < 9223372036854775808 ∧ Sp (!aJ (subB s (Wi ((i : Int) + 2)) (Wi ((i : Int) + ixB (subB s i s.size) 125)))) (K (Vt [Value.slice none 0 0, Vi i, Vi 6]) (AH.mk (Ns (Sg (AObj.cells bs 5)) (AObj.gro els [] 255) Lf) 2)) (IsB bs 0 bs.length ∧ (0 ≤ Wi ((i : Int) + 2) ∧ Wi ((i : Int) + 2) ≤ Wi ((i : Int) + ixB (subB s i s.size) 125) ∧ Wi ((i : Int) + ixB (subB s i s.size) 125) ≤ (s.size : Int)) ∧ (List.all [Vs (aa (u8L bs 0 bs.length)), Vs (ByteArray.mk ⟨[]⟩), Vs (ByteArray.mk ⟨[]⟩), Vs (subB s (Wi ((i : Int) + 2)) (Wi ((i : Int) + ixB (subB s i s.size) 125)))] cellv = true ∧ n + 0 = List.length els ∧ n + (2 : Nat) ≤ (70368744177664 : Nat) ∧ (n + 2) * (32 : Nat) ≤ (140737488355328 : Nat)) ∧ HF (Va (els ++ [Va [Vs (aa (u8L bs 0 bs.length)), Vs (ByteArray.mk ⟨[]⟩)], Va [Vs (ByteArray.mk ⟨[]⟩), Vs (subB s (Wi ((i : Int) + 2)) (Wi ((i : Int) + ixB (subB s i s.size) 125)))]])) ∧ again (Ns (No (No (Sg (Vi (Wi ((i : Int) + Wi (ixB (subB s i s.size) 125 + 1))))) Lf) (Sg (Value.slice (some ⟨0, 0, none⟩) (n + 2) 18446744073709551621))) (Vs s) (No Lf (Sg (Value.slice none 0 0)))) (AH.mk (Sg (AObj.gro (els ++ [Va [Vs (aa (u8L bs 0 bs.length)), Vs (ByteArray.mk ⟨[]⟩)], Va [Vs (ByteArray.mk ⟨[]⟩), Vs (subB s (Wi ((i : Int) + 2)) (Wi ((i : Int) + ixB (subB s i s.size) 125)))]]) [] 255)) 1)))) ((0 ≤ (i : Int) ∧ (i : Int) < (s.size : Int)) ∧ (List.length bs + (1 : Nat) ≤ (70368744177664 : Nat) ∧ (List.length bs + 1) * (1 : Nat) ≤ (140737488355328 : Nat) ∧ List.length bs * 1 ≤ List.length bs) ∧ HF (Va els) ∧ HF (Va (List.take (List.length bs * 1) bs ++ [Value.int .u8 (ac s i)])) ∧ again (Ns (No (No (Sg (Vi (Wi ((i : Int) + 1)))) Lf) (Sg (Value.slice (some ⟨0, 0, none⟩) n 18446744073709551621))) (Vs s) (No Lf (Sg (Value.slice (some ⟨1, 0, none⟩) (List.length bs + 1) 18446744073709551616)))) (AH.mk (Ns (Sg (AObj.cells (List.take (List.length bs * 1) bs ++ [Value.int .u8 (ac s i)]) 5)) (AObj.gro els [] 255) Lf) 2))) ((0 ≤ (i : Int) ∧ (i : Int) < (s.size : Int)) ∧ (List.length bs + (1 : Nat) ≤ (70368744177664 : Nat) ∧ (List.length bs + 1) * (1 : Nat) ≤ (140737488355328 : Nat) ∧ List.length bs * 1 ≤ List.length bs) ∧ HF (Va els) ∧ HF (Va (List.take (List.length bs * 1) bs ++ [Value.int .u8 (ac s i)])) ∧ again (Ns (No (No (Sg (Vi (Wi ((i : Int) + 1)))) Lf) (Sg (Value.slice (some ⟨0, 0, none⟩) n 18446744073709551621))) (Vs s) (No Lf (Sg (Value.slice (some ⟨1, 0, none⟩) (List.length bs + 1) 18446744073709551616)))) (AH.mk (Ns (Sg (AObj.cells (List.take (List.length bs * 1) bs ++ [Value.int .u8 (ac s i)]) 5)) (AObj.gro els [] 255) Lf) 2)))) (IsB bs 0 bs.length ∧ (List.all [Vs (aa (u8L bs 0 bs.length)), Vs (ByteArray.mk ⟨[]⟩)] cellv = true ∧ n + 0 = List.length els ∧ n + (1 : Nat) ≤ (70368744177664 : Nat) ∧ (n + 1) * (32 : Nat) ≤ (140737488355328 : Nat)) ∧ K (Vt [Value.slice (some ⟨3, 0, none⟩) (n + 1) 18446744073709551621, Vi 0, Vi 0]) (AH.mk (Ns (Ns (Sg (AObj.gro els [Va [Vs (aa (u8L bs 0 bs.length)), Vs (ByteArray.mk ⟨[]⟩)]] 255)) (AObj.cells bs 5) Lf) AObj.dead (Sg (AObj.cells [Vs (aa (u8L bs 0 bs.length)), Vs (ByteArray.mk ⟨[]⟩)] 255))) 4))) := by kernel_rfl
theorem subsub (s : SB) {i : Nat} (h : i + 1 < s.size) : (subB (subB s (i : Int) (s.size : Int)) 0 ((2 : Nat) : Int)).data.toList = [bAt s i, bAt s (i + 1)] := by
 have hl : s.data.toList.length = s.size := by simp
 have e0 : ((0 : Int)) = ((0 : Nat) : Int) := rfl
 rw [e0, dO, dO]
 have h1 : i < s.data.toList.length := by omega
 have h2 : i + 1 < s.data.toList.length := by omega
 rw [List.drop_zero, List.take_take, show min (2 - 0) (s.size - i) = 2 by omega, List.drop_eq_getElem_cons h1, List.drop_eq_getElem_cons h2]
 simp [bAt, List.getD_eq_getElem?_getD, List.getElem?_eq_getElem h1, List.getElem?_eq_getElem h2, -List.getElem_toArray]
theorem pre2 {s : SB} {i : Nat} (h : i + 1 < s.size) (c : UInt8) : eqL (subB (subB s (i : Int) (s.size : Int)) 0 ((ByteArray.size (ByteArray.mk #[(36 : UInt8), c]) : Nat) : Int)).data.toList (ByteArray.mk #[(36 : UInt8), c]).data.toList = (decide (ac s (i : Int) = 36) && decide (ac s ((i + 1 : Nat) : Int) = (c.toNat : Int))) := by
 have e : (ByteArray.size (ByteArray.mk #[(36 : UInt8), c]) : Nat) = 2 := rfl
 rw [e, subsub s h, bk (show i < s.size by omega), bk h]
 have e2 : (ByteArray.mk #[(36 : UInt8), c]).data.toList = [36, c] := rfl
 rw [e2]
 cases hb : eqL [bAt s i, bAt s (i + 1)] [36, c] with
 | true =>
   have := (cz _ _).1 hb
   simp only [List.cons.injEq, and_true] at this
   rw [this.1, this.2]; simp
 | false =>
   have hne : ¬ [bAt s i, bAt s (i + 1)] = [36, c] := fun q => by rw [(cz _ _).2 q] at hb; cases hb
   simp only [List.cons.injEq, and_true] at hne
   cases h1 : decide (((bAt s i).toNat : Int) = 36) <;> cases h2 : decide (((bAt s (i + 1)).toNat : Int) = (c.toNat : Int)) <;> try rfl
   exfalso
   refine hne ⟨?_, ?_⟩
   · have := odt h1; exact UInt8.toNat_inj.1 (by show (bAt s i).toNat = 36; omega)
   · have := odt h2; exact UInt8.toNat_inj.1 (by omega)
theorem sL {s : SB} {i : Nat} (h : i < s.size) : decide ((2 : Int) ≤ ((subB s (i : Int) (s.size : Int)).size : Int)) = decide (i + 1 < s.size) := by
 rw [bD (Nat.le_of_lt h) (Nat.le_refl _)]
 cases hb : decide (i + 1 < s.size) with
 | true => have := odt hb; simp; omega
 | false => have := odf hb; simp; omega
def qE (s : SB) : Int := bif decide (1000000 < (s.size : Int)) then 3 else bif decide ((pcs s 0 [] []).2 < 0) then 0 else 6
def qA (s : SB) : Int := bif decide (1000000 < (s.size : Int)) then 0 else bif decide ((pcs s 0 [] []).2 < 0) then 0 else (pcs s 0 [] []).2
def qL (s : SB) : List (SB × SB) := bif decide (1000000 < (s.size : Int)) then [] else (pcs s 0 [] []).1
def qR (s : SB) : Value := .tuple ⟨[dat 2 (pv (qL s)), .int .i64 (qA s), .int .i64 (qE s)]⟩
theorem k6 {s : SB} {i : Nat} (hs : s.size ≤ 1000000) (e : pcs s 0 [] [] = ([], (i : Int))) : qR s = .tuple ⟨[dat 2 [], .int .i64 i, .int .i64 6]⟩ := by
 unfold qR qL qA qE
 rw [e, show decide (1000000 < (s.size : Int)) = false by simp; omega, show decide (((i : Int)) < 0) = false by simp]; rfl
theorem qR_ok {s : SB} {l : List (SB × SB)} (hs : s.size ≤ 1000000) (e : pcs s 0 [] [] = (l, -1)) : qR s = .tuple ⟨[dat 2 (pv l), .int .i64 0, .int .i64 0]⟩ := by
 unfold qR qL qA qE
 rw [e, show decide (1000000 < (s.size : Int)) = false by simp; omega]; first | done | rfl
def QI (s : SB) (k : Nat) (F : T Value) (A : AH) : Prop := ∃ (i : Nat) (out : List (SB × SB)), i + k = s.size ∧ out.length ≤ 2 * i ∧
 ((F = frQE s i out.length ∧ A = hQE (pv out) ∧ pcs s 0 [] [] = pcs s i [] out) ∨ ∃ txt, txt ≠ [] ∧ txt.length ≤ i ∧ F = frQN s i out.length (u8v txt).length ∧ A = hQN (pv out) (u8v txt) ∧ pcs s 0 [] [] = pcs s i txt out)
theorem Ax (s : SB) (hs : s.size ≤ 1000000) (i k : Nat) (out : List (SB × SB)) (hk : i + k = s.size) (hn : out.length ≤ 2 * i) (hx : pcs s 0 [] [] = pcs s i [] out) :
 jQcE (fun v A => Frz A v (qR s)) (fun F' A' => ∃ m', m' < k ∧ QI s m' F' A') s i out.length (pv out) := by
 refine (xN _ _ s i _ _).mpr ?_
 refine Sp.intro (fun c => ?_) (fun c => ?_)
 · have hlt : i < s.size := by simpa using c
   have hw := i64s i (by omega)
   have hw2 : IntKind.i64.wrap ((i : Int) + 2) = ((i + 2 : Nat) : Int) := by rw [aB (by omega) (by omega)]; rfl
   have HP : HF (.agg ⟨pv out⟩) := .agg (eK out)
   have hpl : plB s i = true → ∃ m', m' < k ∧ QI s m' (frQN s (i + 1) out.length 1) (hQN (pv out) [Value.int .u8 (ac s i)]) := fun h => by
    rw [bk hlt]
    exact ⟨k - 1, by omega, i + 1, out, by omega, by omega, .inr ⟨[bAt s i], by simp, by simp, rfl, rfl, by rw [hx, la hlt h]; rfl⟩⟩
   have hdd : plB s i = false → ac s ((i + 1 : Nat) : Int) = 36 → ∃ m', m' < k ∧ QI s m' (frQN s (i + 2) out.length 1) (hQN (pv out) [Value.int .u8 36]) := fun h h2 => by
    have hb := (cM hlt h).2.1
    exact ⟨k - 2, by omega, i + 2, out, by omega, by omega, .inr ⟨[36], by simp, by simp, rfl, rfl, by rw [hx, lc hlt h h2]; rfl⟩⟩
   have HB : HF (.agg ⟨[Value.int .u8 (ac s i)]⟩) := .agg (HF.cons (.scal rfl) HF.nil)
   have HD : HF (.agg ⟨[Value.int .u8 36]⟩) := .agg (HF.cons (.scal rfl) HF.nil)
   simp only [hw, hw2, sL hlt]
   have hA : (0 : Int) ≤ i ∧ (i : Int) ≤ s.size := ⟨by omega, by omega⟩
   have hA2 : (0 : Int) ≤ i ∧ (i : Int) < s.size := ⟨by omega, by omega⟩
   refine ⟨hA, Sp.intro (fun c1 => ?_) (fun c1 => ⟨hA, Sp.intro (fun c2 => ?_) (fun c2 => ⟨hA2, HP, HB, hpl ?_⟩)⟩)⟩
   rotate_left
   · rw [c1] at c2; cases c2
   · have h1 : ¬ i + 1 < s.size := odf c1
     have : decide (i + 1 = s.size) = true := by simp; omega
     unfold plB; rw [this]; simp
   have hi1 : i + 1 < s.size := odt c1
   have hne : decide (i + 1 = s.size) = false := by simp; omega
   have hsz2 : ((subB s (i : Int) (s.size : Int)).size : Int) = ((s.size - i : Nat) : Int) := by rw [bD (Nat.le_of_lt hlt) (Nat.le_refl _)]
   have hB2 : (0 : Int) ≤ 2 ∧ (2 : Int) ≤ ((subB s (i : Int) (s.size : Int)).size : Int) := ⟨by decide, by omega⟩
   refine ⟨hB2, Sp.intro (fun c3 => ?_) (fun c3 => ⟨hA, Sp.intro (fun _ => ⟨hB2, Sp.intro (fun c4 => ?_) (fun c4 => ⟨hA2, HP, HB, hpl ?_⟩)⟩) (fun c2 => by rw [c1] at c2; cases c2)⟩)⟩
   · rw [pre2 hi1 36] at c3
     simp only [Bool.and_eq_true, decide_eq_true_eq] at c3
     have h36 : ac s ((i + 1 : Nat) : Int) = 36 := c3.2
     have hP : plB s i = false := by unfold plB; rw [hne, decide_eq_true c3.1, decide_eq_true h36]; rfl
     exact ⟨HP, HD, hdd hP h36⟩
   rotate_left
   · rw [pre2 hi1 36] at c3
     rw [pre2 hi1 123] at c4
     have e36 : (((36 : UInt8).toNat : Nat) : Int) = 36 := rfl
     have e123 : (((123 : UInt8).toNat : Nat) : Int) = 123 := rfl
     rw [e36] at c3
     rw [e123] at c4
     unfold plB; rw [hne]
     cases h1 : decide (ac s (i : Int) = 36) <;> cases h2 : decide (ac s ((i + 1 : Nat) : Int) = 36) <;> cases h3 : decide (ac s ((i + 1 : Nat) : Int) = 123) <;> rw [h1] at c3 c4 <;> rw [h2] at c3 <;> rw [h3] at c4 <;> simp at c3 c4 ⊢
   · rw [pre2 hi1 123] at c4
     simp only [Bool.and_eq_true, decide_eq_true_eq] at c4
     have h123 : ac s ((i + 1 : Nat) : Int) = 123 := c4.2
     have h36 : ¬ ac s ((i + 1 : Nat) : Int) = 36 := by rw [h123]; decide
     have hP : plB s i = false := by unfold plB; rw [hne, decide_eq_true c4.1, decide_eq_true h123]; simp
     refine ⟨hA, Sp.intro (fun c5 => ?_) (fun c5 => ?_)⟩
     · have hb : badN s i = true := by unfold badN lenN; rw [c5]; rfl
       have e := hx.trans (cO hlt hP h36 hb _ _)
       rw [k6 hs e]
       exact .tuple (.cons (.nils 2) (.cons (.same (HFi _ _)) (.cons (.same (HFi _ _)) .nil)))
     · have h5 : ¬ lenN s i < 0 := odf c5
       obtain ⟨hl1, hl2⟩ := iC hlt hP h36 h5
       have hwL : IntKind.i64.wrap ((i : Int) + ixB (subB s (i : Int) (s.size : Int)) 125) = ((i + (lenN s i).toNat : Nat) : Int) := by
        show IntKind.i64.wrap ((i : Int) + lenN s i) = _
        rw [aB (by omega) (by omega)]; omega
       have hwM : IntKind.i64.wrap ((i : Int) + IntKind.i64.wrap (ixB (subB s (i : Int) (s.size : Int)) 125 + 1)) = ((i + (lenN s i).toNat + 1 : Nat) : Int) := by
        show IntKind.i64.wrap ((i : Int) + IntKind.i64.wrap (lenN s i + 1)) = _
        rw [aB (x := lenN s i + 1) (by omega) (by omega), aB (by omega) (by omega)]; omega
       simp only [hwL, hwM]
       have hsz : (subB s ((i + 2 : Nat) : Int) ((i + (lenN s i).toNat : Nat) : Int)).size < 9223372036854775808 := by
        rw [bD (by omega) (by omega)]; omega
       refine ⟨⟨by omega, by omega, by omega⟩, hsz, Sp.intro (fun c6 => ?_) (fun c6 => ?_)⟩
       · have hb : badN s i = true := by unfold badN namN; rw [c6]; simp
         have e := hx.trans (cO hlt hP h36 hb _ _)
         rw [k6 hs e]
         exact .tuple (.cons (.nils 2) (.cons (.same (HFi _ _)) (.cons (.same (HFi _ _)) .nil)))
       · have hb : badN s i = false := by
          unfold badN namN; rw [c6, decide_eq_false h5]; rfl
         have e := hx.trans (lb hlt hP h36 hb _ _)
         have epv : pv out ++ [Value.agg ⟨[Value.string ⟨⟨[]⟩⟩, Value.string ⟨⟨[]⟩⟩]⟩, Value.agg ⟨[Value.string ⟨⟨[]⟩⟩, Value.string (subB s ((i + 2 : Nat) : Int) ((i + (lenN s i).toNat : Nat) : Int))]⟩] = pv (out ++ [(aa [], aa []), (aa [], namN s i)]) := eO out [(aa [], aa []), (aa [], namN s i)]
         rw [epv]
         exact ⟨⟨by omega, by omega, by omega⟩, ⟨by rfl, by rw [bE]; rfl, by omega, by omega⟩, .agg (eK _), k - ((lenN s i).toNat + 1), by omega, i + (lenN s i).toNat + 1, out ++ [(aa [], aa []), (aa [], namN s i)], by omega, by simp; omega, .inl ⟨by rw [List.length_append]; rfl, rfl, e⟩⟩
 · have hge : ¬ i < s.size := by simp at c; omega
   have e := hx.trans (iq hge _ _)
   refine ⟨⟨by rfl, by rw [bE]; rfl, by omega, by omega⟩, ?_⟩
   rw [qR_ok hs e]
   exact .tuple (.cons (lA rfl (eO out [(aa [], aa [])]) (by simp)) (.cons (.same (HFi _ _)) (.cons (.same (HFi _ _)) .nil)))
theorem Aw (s : SB) (hs : s.size ≤ 1000000) (i k : Nat) (out : List (SB × SB)) (txt : List UInt8) (ht0 : txt ≠ []) (ht : txt.length ≤ i) (hk : i + k = s.size) (hn : out.length ≤ 2 * i) (hx : pcs s 0 [] [] = pcs s i txt out) :
 jQcN (fun v A => Frz A v (qR s)) (fun F' A' => ∃ m', m' < k ∧ QI s m' F' A') s i out.length (pv out) (u8v txt) := by
 have htl : 0 < txt.length := by rcases txt with _ | ⟨x, l⟩; exact absurd rfl ht0; simp
 have hul : (u8v txt).length = txt.length := aY txt
 refine (xM _ _ s i _ _ _).mpr ?_
 refine Sp.intro (fun c => ?_) (fun c => ?_)
 · have hlt : i < s.size := by simpa using c
   have hw := i64s i (by omega)
   have hw2 : IntKind.i64.wrap ((i : Int) + 2) = ((i + 2 : Nat) : Int) := by rw [aB (by omega) (by omega)]; rfl
   have HP : HF (.agg ⟨pv out⟩) := .agg (eK out)
   have hpl : plB s i = true → ∃ m', m' < k ∧ QI s m' (frQN s (i + 1) out.length ((u8v txt).length + 1)) (hQN (pv out) ((u8v txt).take ((u8v txt).length * 1) ++ [Value.int .u8 (ac s i)])) := fun h => by
    rw [bk hlt, eN, fC txt (bAt s i)]
    exact ⟨k - 1, by omega, i + 1, out, by omega, by omega, .inr ⟨txt ++ [bAt s i], by simp, by simp; omega, rfl, rfl, by rw [hx, la hlt h]⟩⟩
   have hdd : plB s i = false → ac s ((i + 1 : Nat) : Int) = 36 → ∃ m', m' < k ∧ QI s m' (frQN s (i + 2) out.length ((u8v txt).length + 1)) (hQN (pv out) ((u8v txt).take ((u8v txt).length * 1) ++ [Value.int .u8 36])) := fun h h2 => by
    have hb := (cM hlt h).2.1
    rw [ff, fC txt 36]
    exact ⟨k - 2, by omega, i + 2, out, by omega, by omega, .inr ⟨txt ++ [36], by simp, by simp; omega, rfl, rfl, by rw [hx, lc hlt h h2]⟩⟩
   have HB : HF (.agg ⟨(u8v txt).take ((u8v txt).length * 1) ++ [Value.int .u8 (ac s i)]⟩) := by rw [bk hlt, eN]; exact .agg (aV _)
   have HD : HF (.agg ⟨(u8v txt).take ((u8v txt).length * 1) ++ [Value.int .u8 36]⟩) := by rw [ff]; exact .agg (aV _)
   have HC : (u8v txt).length + 1 ≤ 70368744177664 ∧ ((u8v txt).length + 1) * 1 ≤ 140737488355328 ∧ (u8v txt).length * 1 ≤ (u8v txt).length := ⟨by omega, by omega, by omega⟩
   simp only [hw, hw2, sL hlt]
   have hA : (0 : Int) ≤ i ∧ (i : Int) ≤ s.size := ⟨by omega, by omega⟩
   have hA2 : (0 : Int) ≤ i ∧ (i : Int) < s.size := ⟨by omega, by omega⟩
   refine ⟨hA, Sp.intro (fun c1 => ?_) (fun c1 => ⟨hA, Sp.intro (fun c2 => ?_) (fun c2 => ⟨hA2, HC, HP, HB, hpl ?_⟩)⟩)⟩
   rotate_left
   · rw [c1] at c2; cases c2
   · have h1 : ¬ i + 1 < s.size := odf c1
     have : decide (i + 1 = s.size) = true := by simp; omega
     unfold plB; rw [this]; simp
   have hi1 : i + 1 < s.size := odt c1
   have hne : decide (i + 1 = s.size) = false := by simp; omega
   have hsz2 : ((subB s (i : Int) (s.size : Int)).size : Int) = ((s.size - i : Nat) : Int) := by rw [bD (Nat.le_of_lt hlt) (Nat.le_refl _)]
   have hB2 : (0 : Int) ≤ 2 ∧ (2 : Int) ≤ ((subB s (i : Int) (s.size : Int)).size : Int) := ⟨by decide, by omega⟩
   refine ⟨hB2, Sp.intro (fun c3 => ?_) (fun c3 => ⟨hA, Sp.intro (fun _ => ⟨hB2, Sp.intro (fun c4 => ?_) (fun c4 => ⟨hA2, HC, HP, HB, hpl ?_⟩)⟩) (fun c2 => by rw [c1] at c2; cases c2)⟩)⟩
   · rw [pre2 hi1 36] at c3
     simp only [Bool.and_eq_true, decide_eq_true_eq] at c3
     have h36 : ac s ((i + 1 : Nat) : Int) = 36 := c3.2
     have hP : plB s i = false := by unfold plB; rw [hne, decide_eq_true c3.1, decide_eq_true h36]; rfl
     exact ⟨HC, HP, HD, hdd hP h36⟩
   rotate_left
   · rw [pre2 hi1 36] at c3
     rw [pre2 hi1 123] at c4
     have e36 : (((36 : UInt8).toNat : Nat) : Int) = 36 := rfl
     have e123 : (((123 : UInt8).toNat : Nat) : Int) = 123 := rfl
     rw [e36] at c3
     rw [e123] at c4
     unfold plB; rw [hne]
     cases h1 : decide (ac s (i : Int) = 36) <;> cases h2 : decide (ac s ((i + 1 : Nat) : Int) = 36) <;> cases h3 : decide (ac s ((i + 1 : Nat) : Int) = 123) <;> rw [h1] at c3 c4 <;> rw [h2] at c3 <;> rw [h3] at c4 <;> simp at c3 c4 ⊢
   · rw [pre2 hi1 123] at c4
     simp only [Bool.and_eq_true, decide_eq_true_eq] at c4
     have h123 : ac s ((i + 1 : Nat) : Int) = 123 := c4.2
     have h36 : ¬ ac s ((i + 1 : Nat) : Int) = 36 := by rw [h123]; decide
     have hP : plB s i = false := by unfold plB; rw [hne, decide_eq_true c4.1, decide_eq_true h123]; simp
     refine ⟨hA, Sp.intro (fun c5 => ?_) (fun c5 => ?_)⟩
     · have hb : badN s i = true := by unfold badN lenN; rw [c5]; rfl
       have e := hx.trans (cO hlt hP h36 hb _ _)
       rw [k6 hs e]
       exact .tuple (.cons (.nils 2) (.cons (.same (HFi _ _)) (.cons (.same (HFi _ _)) .nil)))
     · have h5 : ¬ lenN s i < 0 := odf c5
       obtain ⟨hl1, hl2⟩ := iC hlt hP h36 h5
       have hwL : IntKind.i64.wrap ((i : Int) + ixB (subB s (i : Int) (s.size : Int)) 125) = ((i + (lenN s i).toNat : Nat) : Int) := by
        show IntKind.i64.wrap ((i : Int) + lenN s i) = _
        rw [aB (by omega) (by omega)]; omega
       have hwM : IntKind.i64.wrap ((i : Int) + IntKind.i64.wrap (ixB (subB s (i : Int) (s.size : Int)) 125 + 1)) = ((i + (lenN s i).toNat + 1 : Nat) : Int) := by
        show IntKind.i64.wrap ((i : Int) + IntKind.i64.wrap (lenN s i + 1)) = _
        rw [aB (x := lenN s i + 1) (by omega) (by omega), aB (by omega) (by omega)]; omega
       simp only [hwL, hwM]
       have hsz : (subB s ((i + 2 : Nat) : Int) ((i + (lenN s i).toNat : Nat) : Int)).size < 9223372036854775808 := by
        rw [bD (by omega) (by omega)]; omega
       refine ⟨⟨by omega, by omega, by omega⟩, hsz, Sp.intro (fun c6 => ?_) (fun c6 => ?_)⟩
       · have hb : badN s i = true := by unfold badN namN; rw [c6]; simp
         have e := hx.trans (cO hlt hP h36 hb _ _)
         rw [k6 hs e]
         exact .tuple (.cons (.nils 2) (.cons (.same (HFi _ _)) (.cons (.same (HFi _ _)) .nil)))
       · have hb : badN s i = false := by
          unfold badN namN; rw [c6, decide_eq_false h5]; rfl
         have e := hx.trans (lb hlt hP h36 hb _ _)
         have epv : pv out ++ [Value.agg ⟨[Value.string (aa txt), Value.string ⟨⟨[]⟩⟩]⟩, Value.agg ⟨[Value.string ⟨⟨[]⟩⟩, Value.string (subB s ((i + 2 : Nat) : Int) ((i + (lenN s i).toNat : Nat) : Int))]⟩] = pv (out ++ [(aa txt, aa []), (aa [], namN s i)]) := eO out [(aa txt, aa []), (aa [], namN s i)]
         rw [u8_L, epv]
         exact ⟨dL txt, ⟨by omega, by omega, by omega⟩, ⟨by rfl, by rw [bE]; rfl, by omega, by omega⟩, .agg (eK _), k - ((lenN s i).toNat + 1), by omega, i + (lenN s i).toNat + 1, out ++ [(aa txt, aa []), (aa [], namN s i)], by omega, by simp; omega, .inl ⟨by rw [List.length_append]; rfl, rfl, e⟩⟩
 · have hge : ¬ i < s.size := by simp at c; omega
   have e := hx.trans (iq hge _ _)
   refine ⟨dL txt, ⟨by rfl, by rw [bE]; rfl, by omega, by omega⟩, ?_⟩
   rw [qR_ok hs e, u8_L]
   exact .tuple (.cons (lA rfl (eO out [(aa txt, aa [])]) (by simp)) (.cons (.same (HFi _ _)) (.cons (.same (HFi _ _)) .nil)))
theorem Q_loop (s : SB) (hs : s.size ≤ 1000000) : LAtZ XQ 4 ntQ ⟨.leaf, 0⟩ bdQ [1, 1, 1, 1, 0, 1, 0] (wR (fun v A => Frz A v (qR s))) (frQE s 0 0) (hQE []) := by
 refine LAtZ.step XQ_ok rfl [(.slot 5, 255, 2)] [] [5] [0, 5, 6, 7] (by kernel_rfl) (QI s) ?_ (k := s.size) ⟨0, [], by simp, by simp, .inl ⟨rfl, rfl, rfl⟩⟩
 rintro k F A ⟨i, out, hk, hn, h | ⟨txt, h0, h1, h⟩⟩
 · obtain ⟨rfl, rfl, hx⟩ := h
   exact Ax s hs i k out hk hn hx
 · obtain ⟨rfl, rfl, hx⟩ := h
   exact Aw s hs i k out txt h0 h1 hk hn hx
theorem vX (s : SB) : bt envX f124 [.string s] ⟨.leaf, 0⟩ (qR s) := by
 refine al XQ_ok (d := 4) ((jQc_nf _ s).mpr ?_)
 refine Sp.intro (fun c => ?_) (fun c => ⟨.agg HF.nil, ?_⟩)
 · have e : qR s = .tuple ⟨[dat 2 [], .int .i64 0, .int .i64 3]⟩ := by unfold qR qL qA qE; rw [c]; rfl
   rw [e]
   exact .tuple (.cons (.nils 2) (.cons (.same (HFi _ _)) (.cons (.same (HFi _ _)) .nil)))
 · exact Q_loop s (by have := odf c; omega)
def qcX : List Value → Option Value
 | [.string s] => some (.tuple ⟨[.func (.yield 2) ⟨pv (qL s)⟩ ⟨[]⟩, .int .i64 (qA s), .int .i64 (qE s)]⟩)
 | _ => none
theorem qc_tab : ∀ args A p v A', aj (fun _ => none) qcX args A = some (p, v, A') → PH p → an envX 124 args A v A' := ai ag ah (fn := f124) rfl fun args v h hp => by
 unfold qcX at h
 split at h
 · simp only [osI] at h
   subst h
   exact ⟨HF.cons (.scal rfl) HF.nil, vX _⟩
 · cases h
end
end Go.T9

/- A part of the proof. -/
import Derived.Test.YtgbjgffiejlooaaGreatDoorX3
import Derived.KernelRfl
set_option linter.unusedVariables false
set_option linter.unusedSimpArgs false
set_option maxRecDepth 1000000
set_option maxHeartbeats 4000000
namespace Go.T9
open Go Go.AM Go.MK Go.Proofs.Tryz
noncomputable section
def XU : SX := ⟨envX, [], noEl, fun _ => .unroll 0⟩
theorem zX : XU.Ok := ⟨ag, aw, ah, .nil⟩
def jTk (K : KV) (c : Int) : Prop := sxFn XU 5 f267 [.int .u8 c] K
def XMf : SX := ⟨envX, [], noEl, fun _ => .auto [] [0, 5, 6]⟩
theorem uo : XMf.Ok := ⟨ag, aw, ah, .nil⟩
def frMf (s : SB) (i : Nat) : T Value := (Nd (Nd Lf none (Nd Lf (some (.int .i64 s.size)) Lf)) (some (.string s)) (Nd Lf none (Nd Lf (some (.int .i64 i)) Lf)))
def jMf (Q : Value → Prop) (QA : KV) (s : SB) : Prop := sxFn XMf 1 f115 [.string s] (au Q QA)
def jMf1 (Q : Value → Prop) (QA : KV) (again : KF) (s : SB) (i : Nat) : Prop := bJ XMf 1 f115 [1, 0, 1, 0] (au Q QA) [] [0, 5, 6] again (frMf s i) ⟨.leaf, 0⟩
def XMr : SX := ⟨envX, [], noEl, fun _ => .auto [] [0, 3]⟩
theorem un : XMr.Ok := ⟨ag, aw, ah, .nil⟩
def frMr (s : SB) (i : Nat) : T Value := (Nd (Nd (Nd Lf (some (.int .i64 i)) Lf) none Lf) (some (.string s)) Lf)
def jMr (Q : Value → Prop) (QA : KV) (s : SB) : Prop := sxFn XMr 1 f120 [.string s] (au Q QA)
def jMr1 (Q : Value → Prop) (QA : KV) (again : KF) (s : SB) (i : Nat) : Prop := bJ XMr 1 f120 [1, 0, 1, 0] (au Q QA) [] [0, 3] again (frMr s i) ⟨.leaf, 0⟩
def XOn : SX := ⟨envX, [], noEl, fun _ => .auto [] [0, 1, 5]⟩
theorem um : XOn.Ok := ⟨ag, aw, ah, .nil⟩
def frOn (s : SB) (c : Int) (i : Nat) : T Value := (Nd (Nd Lf (some (.int .u8 c)) (Nd Lf (some (.int .i64 i)) Lf)) (some (.string s)) Lf)
def jOn (Q : Value → Prop) (QA : KV) (s : SB) (c : Int) : Prop := sxFn XOn 1 f273 [.string s, .int .u8 c] (au Q QA)
def jOn1 (Q : Value → Prop) (QA : KV) (again : KF) (s : SB) (c : Int) (i : Nat) : Prop := bJ XOn 1 f273 [1, 0, 1, 0] (au Q QA) [] [0, 1, 5] again (frOn s c i) ⟨.leaf, 0⟩
def elU : El := { El.of (fun sz t els i => some (.int .u8 (aS els i))) with app := true, gm := fun _ => true }
def hU (els : List Value) : AH := ⟨Nd Lf (some (.gro els [] 5)) Lf, 1⟩
def rowU (n : Nat) : Value := .slice (some ⟨0, 0, none⟩) n (unk + 3 + 1)
def XSm : SX := ⟨envX, [], elU, fun _ => .autoN [] [] [] [3, 8, 9, 10]⟩
theorem lT : XSm.Ok := ⟨ag, aw, ah, .nil⟩
def frSm (n i : Nat) : T Value := (Nd (Nd (Nd Lf (some (rowU n)) Lf) none (Nd (Nd Lf (some (.int .i64 n)) Lf) none Lf)) none (Nd (Nd (Nd Lf (some (rowU n)) Lf) none Lf) none (Nd (Nd Lf (some (.int .i64 i)) Lf) none Lf)))
def jSw (K : KV) (s : SB) : Prop := ay XSm 3 f201 [.string s] ⟨.leaf, 0⟩ K
def jSw1 (K : KV) (again : KF) (n i : Nat) (els : List Value) : Prop := ax XSm 3 (Func.ntmps f201) ⟨.leaf, 0⟩ (ae f201) [1, 1, 0, 1, 0] (finK XSm.E (f201.results).toList K) [] [] [] [3, 8, 9, 10] again (frSm n i) (hU els)
def jSt (K : KV) (s : SB) : Prop := ay XSm 3 f174 [.string s] ⟨.leaf, 0⟩ K
def jSt1 (K : KV) (again : KF) (n i : Nat) (els : List Value) : Prop := ax XSm 3 (Func.ntmps f174) ⟨.leaf, 0⟩ (ae f174) [1, 1, 0, 1, 0] (finK XSm.E (f174.results).toList K) [] [] [] [3, 8, 9, 10] again (frSm n i) (hU els)
def XSr : SX := ⟨envX, [], elU, fun _ => .autoN [] [] [] [3, 4]⟩
theorem ug : XSr.Ok := ⟨ag, aw, ah, .nil⟩
def frSr (n i : Nat) : T Value := (Nd (Nd (Nd Lf (some (rowU n)) Lf) none Lf) none (Nd (Nd Lf (some (.int .i64 i)) Lf) none Lf))
def jSr (K : KV) (s : SB) : Prop := ay XSr 3 f210 [.string s] ⟨.leaf, 0⟩ K
def jSr1 (K : KV) (again : KF) (n i : Nat) (els : List Value) : Prop := ax XSr 3 (Func.ntmps f210) ⟨.leaf, 0⟩ (ae f210) [1, 1, 0, 1, 0] (finK XSr.E (f210.results).toList K) [] [] [] [3, 4] again (frSr n i) (hU els)
theorem jTk_nf (K : KV) (c : Int) : jTk K c = (Sp (decide (97 ≤ c)) (Sp (decide (c ≤ 122)) (K (Vb true) (AH.mk Lf 0)) (Sp (decide (65 ≤ c)) (Sp (decide (c ≤ 90)) (K (Vb true) (AH.mk Lf 0)) (Sp (decide (48 ≤ c)) (Sp (decide (c ≤ 57)) (K (Vb true) (AH.mk Lf 0)) (K (Vb (decide (0 ≤ ixB (ByteArray.mk (Array.mk [(45 : UInt8), (95 : UInt8), (46 : UInt8), (33 : UInt8), (35 : UInt8), (36 : UInt8), (37 : UInt8), (38 : UInt8), (39 : UInt8), (42 : UInt8), (43 : UInt8), (94 : UInt8), (124 : UInt8), (126 : UInt8)])) c))) (AH.mk Lf 0))) (K (Vb (decide (0 ≤ ixB (ByteArray.mk (Array.mk [(45 : UInt8), (95 : UInt8), (46 : UInt8), (33 : UInt8), (35 : UInt8), (36 : UInt8), (37 : UInt8), (38 : UInt8), (39 : UInt8), (42 : UInt8), (43 : UInt8), (94 : UInt8), (124 : UInt8), (126 : UInt8)])) c))) (AH.mk Lf 0)))) (Sp (decide (48 ≤ c)) (Sp (decide (c ≤ 57)) (K (Vb true) (AH.mk Lf 0)) (K (Vb (decide (0 ≤ ixB (ByteArray.mk (Array.mk [(45 : UInt8), (95 : UInt8), (46 : UInt8), (33 : UInt8), (35 : UInt8), (36 : UInt8), (37 : UInt8), (38 : UInt8), (39 : UInt8), (42 : UInt8), (43 : UInt8), (94 : UInt8), (124 : UInt8), (126 : UInt8)])) c))) (AH.mk Lf 0))) (K (Vb (decide (0 ≤ ixB (ByteArray.mk (Array.mk [(45 : UInt8), (95 : UInt8), (46 : UInt8), (33 : UInt8), (35 : UInt8), (36 : UInt8), (37 : UInt8), (38 : UInt8), (39 : UInt8), (42 : UInt8), (43 : UInt8), (94 : UInt8), (124 : UInt8), (126 : UInt8)])) c))) (AH.mk Lf 0))))) (Sp (decide (65 ≤ c)) (Sp (decide (c ≤ 90)) (K (Vb true) (AH.mk Lf 0)) (Sp (decide (48 ≤ c)) (Sp (decide (c ≤ 57)) (K (Vb true) (AH.mk Lf 0)) (K (Vb (decide (0 ≤ ixB (ByteArray.mk (Array.mk [(45 : UInt8), (95 : UInt8), (46 : UInt8), (33 : UInt8), (35 : UInt8), (36 : UInt8), (37 : UInt8), (38 : UInt8), (39 : UInt8), (42 : UInt8), (43 : UInt8), (94 : UInt8), (124 : UInt8), (126 : UInt8)])) c))) (AH.mk Lf 0))) (K (Vb (decide (0 ≤ ixB (ByteArray.mk (Array.mk [(45 : UInt8), (95 : UInt8), (46 : UInt8), (33 : UInt8), (35 : UInt8), (36 : UInt8), (37 : UInt8), (38 : UInt8), (39 : UInt8), (42 : UInt8), (43 : UInt8), (94 : UInt8), (124 : UInt8), (126 : UInt8)])) c))) (AH.mk Lf 0)))) (Sp (decide (48 ≤ c)) (Sp (decide (c ≤ 57)) (K (Vb true) (AH.mk Lf 0)) (K (Vb (decide (0 ≤ ixB (ByteArray.mk (Array.mk [(45 : UInt8), (95 : UInt8), (46 : UInt8), (33 : UInt8), (35 : UInt8), (36 : UInt8), (37 : UInt8), (38 : UInt8), (39 : UInt8), (42 : UInt8), (43 : UInt8), (94 : UInt8), (124 : UInt8), (126 : UInt8)])) c))) (AH.mk Lf 0))) (K (Vb (decide (0 ≤ ixB (ByteArray.mk (Array.mk [(45 : UInt8), (95 : UInt8), (46 : UInt8), (33 : UInt8), (35 : UInt8), (36 : UInt8), (37 : UInt8), (38 : UInt8), (39 : UInt8), (42 : UInt8), (43 : UInt8), (94 : UInt8), (124 : UInt8), (126 : UInt8)])) c))) (AH.mk Lf 0))))) := by kernel_rfl
theorem jMf_nf (Q : Value → Prop) (QA : KV) (s : SB) : jMf Q QA s = (LAt XMf 1 f115.ntmps (ae f115) [1, 0, 1, 0] (finK (SX.E XMf) f115.results.toList (au Q QA)) (Ns (No Lf (Sg (Vi s.size))) (Vs s) (No Lf (Sg (Vi 0)))) (AH.mk Lf 0)) := by kernel_rfl
theorem x5 (Q : Value → Prop) (QA : KV) (again : KF) (s : SB) (i : Nat) : jMf1 Q QA again s i = (Sp (decide ((i : Int) < (s.size : Int))) ((0 ≤ (i : Int) ∧ (i : Int) < (s.size : Int)) ∧ Sp (decide (ac s (i : Int) < 65)) (Q (Vb false)) ((0 ≤ (i : Int) ∧ (i : Int) < (s.size : Int)) ∧ Sp (decide (90 < ac s i)) (Q (Vb false)) (again (Ns (No Lf (Sg (Vi s.size))) (Vs s) (No Lf (Sg (Vi (Wi ((i : Int) + 1)))))) (AH.mk Lf 0)))) (Sp (!eqL s.data.toList (ByteArray.mk #[]).data.toList) (Q (Vb (decide ((s.size : Int) ≤ 20)))) (Q (Vb false)))) := by kernel_rfl
theorem jMr_nf (Q : Value → Prop) (QA : KV) (s : SB) : jMr Q QA s = (LAt XMr 1 f120.ntmps (ae f120) [1, 0, 1, 0] (finK (SX.E XMr) f120.results.toList (au Q QA)) (Ns (No (Sg (Vi 0)) Lf) (Vs s) Lf) (AH.mk Lf 0)) := by kernel_rfl
theorem x4 (Q : Value → Prop) (QA : KV) (again : KF) (s : SB) (i : Nat) : jMr1 Q QA again s i = (Sp (decide ((i : Int) < (s.size : Int))) ((0 ≤ (i : Int) ∧ (i : Int) < (s.size : Int)) ∧ Sp (decide (ac s (i : Int) < 65)) (Q (Vb false)) ((0 ≤ (i : Int) ∧ (i : Int) < (s.size : Int)) ∧ Sp (decide (90 < ac s i)) (Q (Vb false)) (again (Ns (No (Sg (Vi (Wi ((i : Int) + 1)))) Lf) (Vs s) Lf) (AH.mk Lf 0)))) (Sp (decide (1 ≤ (s.size : Int))) (Q (Vb (decide ((s.size : Int) ≤ 20)))) (Q (Vb false)))) := by kernel_rfl
theorem jOn_nf (Q : Value → Prop) (QA : KV) (s : SB) (c : Int) : jOn Q QA s c = (LAt XOn 1 f273.ntmps (ae f273) [1, 0, 1, 0] (finK (SX.E XOn) f273.results.toList (au Q QA)) (Ns (Ns Lf (Value.int .u8 c) (Sg (Vi 0))) (Vs s) Lf) (AH.mk Lf 0)) := by kernel_rfl
theorem xW (Q : Value → Prop) (QA : KV) (again : KF) (s : SB) (c : Int) (i : Nat) : jOn1 Q QA again s c i = (Sp (decide ((i : Int) < (s.size : Int))) ((0 ≤ (i : Int) ∧ (i : Int) < (s.size : Int)) ∧ Sp (decide (ac s (i : Int) = c)) (Q (Vb true)) (again (Ns (Ns Lf (Value.int .u8 c) (Sg (Vi (Wi ((i : Int) + 1))))) (Vs s) Lf) (AH.mk Lf 0))) (Q (Vb false))) := by kernel_rfl
theorem jSw_nf (K : KV) (s : SB) : jSw K s = (HF (Va (List.map (fun (b : UInt8) => Value.int .u8 (↑(UInt8.toNat b) : Int)) s.data.toList)) ∧ LAtZ XSm 3 f201.ntmps (AH.mk Lf 0) (ae f201) [1, 1, 0, 1, 0] (finK (SX.E XSm) f201.results.toList K) (No (No (Sg (Value.slice (some ⟨0, 0, none⟩) (s.size) 18446744073709551620)) (No (Sg (Vi s.size)) Lf)) (No (No (Sg (Value.slice (some ⟨0, 0, none⟩) (s.size) 18446744073709551620)) Lf) (No (Sg (Vi 0)) Lf))) (AH.mk (Sg (AObj.gro (List.map (fun (b : UInt8) => Value.int .u8 (↑(UInt8.toNat b) : Int)) s.data.toList) [] 5)) 1)) := by kernel_rfl
theorem w5 (K : KV) (again : KF) (n i : Nat) (els : List Value) : jSw1 K again n i els = (Sp (decide ((i : Int) < (n : Int))) ((0 ≤ (i : Int) ∧ (i : Int) < (n : Int)) ∧ nth els (Int.toNat (↑(Int.toNat (i : Int) + 0) : Int)) = some (Value.int .u8 (aS els (↑(Int.toNat (i : Int) + 0) : Int))) ∧ Sp (decide (65 ≤ aS els (↑(Int.toNat (i : Int) + 0) : Int))) (Sp (decide (aS els (↑(Int.toNat (i : Int) + 0) : Int) ≤ 90)) ((0 ≤ (i : Int) ∧ (i : Int) < (n : Int)) ∧ Int.toNat (↑(Int.toNat (i : Int) + 0) : Int) < List.length els ∧ HF (Va (List.set els (Int.toNat (↑(Int.toNat (i : Int) + 0) : Int)) (Value.int .u8 (IntKind.wrap .u8 (IntKind.wrap .u8 (aS els (↑(Int.toNat (i : Int) + 0) : Int) + 97) - 65))))) ∧ again (No (No (Sg (Value.slice (some ⟨0, 0, none⟩) n 18446744073709551620)) (No (Sg (Vi n)) Lf)) (No (No (Sg (Value.slice (some ⟨0, 0, none⟩) n 18446744073709551620)) Lf) (No (Sg (Vi (Wi ((i : Int) + 1)))) Lf))) (AH.mk (Sg (AObj.gro (List.set els (Int.toNat (↑(Int.toNat (i : Int) + 0) : Int)) (Value.int .u8 (IntKind.wrap .u8 (IntKind.wrap .u8 (aS els (↑(Int.toNat (i : Int) + 0) : Int) + 97) - 65)))) [] 5)) 1)) (HF (Va els) ∧ again (No (No (Sg (Value.slice (some ⟨0, 0, none⟩) n 18446744073709551620)) (No (Sg (Vi n)) Lf)) (No (No (Sg (Value.slice (some ⟨0, 0, none⟩) n 18446744073709551620)) Lf) (No (Sg (Vi (Wi ((i : Int) + 1)))) Lf))) (AH.mk (Sg (AObj.gro els [] 5)) 1))) (HF (Va els) ∧ again (No (No (Sg (Value.slice (some ⟨0, 0, none⟩) n 18446744073709551620)) (No (Sg (Vi n)) Lf)) (No (No (Sg (Value.slice (some ⟨0, 0, none⟩) n 18446744073709551620)) Lf) (No (Sg (Vi (Wi ((i : Int) + 1)))) Lf))) (AH.mk (Sg (AObj.gro els [] 5)) 1))) (IsB els 0 n ∧ K (Vs (aa (u8L els 0 n))) (AH.mk (Sg (AObj.gro els [] 5)) 1))) := by kernel_rfl
theorem jSt_nf (K : KV) (s : SB) : jSt K s = (HF (Va (List.map (fun (b : UInt8) => Value.int .u8 (↑(UInt8.toNat b) : Int)) s.data.toList)) ∧ LAtZ XSm 3 f174.ntmps (AH.mk Lf 0) (ae f174) [1, 1, 0, 1, 0] (finK (SX.E XSm) f174.results.toList K) (No (No (Sg (Value.slice (some ⟨0, 0, none⟩) (s.size) 18446744073709551620)) (No (Sg (Vi s.size)) Lf)) (No (No (Sg (Value.slice (some ⟨0, 0, none⟩) (s.size) 18446744073709551620)) Lf) (No (Sg (Vi 0)) Lf))) (AH.mk (Sg (AObj.gro (List.map (fun (b : UInt8) => Value.int .u8 (↑(UInt8.toNat b) : Int)) s.data.toList) [] 5)) 1)) := by kernel_rfl
theorem xd (K : KV) (again : KF) (n i : Nat) (els : List Value) : jSt1 K again n i els = (Sp (decide ((i : Int) < (n : Int))) ((0 ≤ (i : Int) ∧ (i : Int) < (n : Int)) ∧ nth els (Int.toNat (↑(Int.toNat (i : Int) + 0) : Int)) = some (Value.int .u8 (aS els (↑(Int.toNat (i : Int) + 0) : Int))) ∧ Sp (decide (65 ≤ aS els (↑(Int.toNat (i : Int) + 0) : Int))) (Sp (decide (aS els (↑(Int.toNat (i : Int) + 0) : Int) ≤ 90)) ((0 ≤ (i : Int) ∧ (i : Int) < (n : Int)) ∧ Int.toNat (↑(Int.toNat (i : Int) + 0) : Int) < List.length els ∧ HF (Va (List.set els (Int.toNat (↑(Int.toNat (i : Int) + 0) : Int)) (Value.int .u8 (IntKind.wrap .u8 (aS els (↑(Int.toNat (i : Int) + 0) : Int) + 32))))) ∧ again (No (No (Sg (Value.slice (some ⟨0, 0, none⟩) n 18446744073709551620)) (No (Sg (Vi n)) Lf)) (No (No (Sg (Value.slice (some ⟨0, 0, none⟩) n 18446744073709551620)) Lf) (No (Sg (Vi (Wi ((i : Int) + 1)))) Lf))) (AH.mk (Sg (AObj.gro (List.set els (Int.toNat (↑(Int.toNat (i : Int) + 0) : Int)) (Value.int .u8 (IntKind.wrap .u8 (aS els (↑(Int.toNat (i : Int) + 0) : Int) + 32)))) [] 5)) 1)) (HF (Va els) ∧ again (No (No (Sg (Value.slice (some ⟨0, 0, none⟩) n 18446744073709551620)) (No (Sg (Vi n)) Lf)) (No (No (Sg (Value.slice (some ⟨0, 0, none⟩) n 18446744073709551620)) Lf) (No (Sg (Vi (Wi ((i : Int) + 1)))) Lf))) (AH.mk (Sg (AObj.gro els [] 5)) 1))) (HF (Va els) ∧ again (No (No (Sg (Value.slice (some ⟨0, 0, none⟩) n 18446744073709551620)) (No (Sg (Vi n)) Lf)) (No (No (Sg (Value.slice (some ⟨0, 0, none⟩) n 18446744073709551620)) Lf) (No (Sg (Vi (Wi ((i : Int) + 1)))) Lf))) (AH.mk (Sg (AObj.gro els [] 5)) 1))) (IsB els 0 n ∧ K (Vs (aa (u8L els 0 n))) (AH.mk (Sg (AObj.gro els [] 5)) 1))) := by kernel_rfl
theorem jSr_nf (K : KV) (s : SB) : jSr K s = (HF (Va (List.map (fun (b : UInt8) => Value.int .u8 (↑(UInt8.toNat b) : Int)) s.data.toList)) ∧ LAtZ XSr 3 f210.ntmps (AH.mk Lf 0) (ae f210) [1, 1, 0, 1, 0] (finK (SX.E XSr) f210.results.toList K) (No (No (Sg (Value.slice (some ⟨0, 0, none⟩) (s.size) 18446744073709551620)) Lf) (No (Sg (Vi 0)) Lf)) (AH.mk (Sg (AObj.gro (List.map (fun (b : UInt8) => Value.int .u8 (↑(UInt8.toNat b) : Int)) s.data.toList) [] 5)) 1)) := by kernel_rfl
theorem xe (K : KV) (again : KF) (n i : Nat) (els : List Value) : jSr1 K again n i els = (Sp (decide ((i : Int) < (n : Int))) ((0 ≤ (i : Int) ∧ (i : Int) < (n : Int)) ∧ nth els (Int.toNat (↑(Int.toNat (i : Int) + 0) : Int)) = some (Value.int .u8 (aS els (↑(Int.toNat (i : Int) + 0) : Int))) ∧ Sp (decide (65 ≤ aS els (↑(Int.toNat (i : Int) + 0) : Int))) (Sp (decide (aS els (↑(Int.toNat (i : Int) + 0) : Int) ≤ 90)) ((0 ≤ (i : Int) ∧ (i : Int) < (n : Int)) ∧ nth els (Int.toNat (↑(Int.toNat (i : Int) + 0) : Int)) = some (Value.int .u8 (aS els (↑(Int.toNat (i : Int) + 0) : Int))) ∧ (0 ≤ (i : Int) ∧ (i : Int) < (n : Int)) ∧ Int.toNat (↑(Int.toNat (i : Int) + 0) : Int) < List.length els ∧ HF (Va (List.set els (Int.toNat (↑(Int.toNat (i : Int) + 0) : Int)) (Value.int .u8 (IntKind.wrap .u8 (aS els (↑(Int.toNat (i : Int) + 0) : Int) + 32))))) ∧ again (No (No (Sg (Value.slice (some ⟨0, 0, none⟩) n 18446744073709551620)) Lf) (No (Sg (Vi (Wi ((i : Int) + 1)))) Lf)) (AH.mk (Sg (AObj.gro (List.set els (Int.toNat (↑(Int.toNat (i : Int) + 0) : Int)) (Value.int .u8 (IntKind.wrap .u8 (aS els (↑(Int.toNat (i : Int) + 0) : Int) + 32)))) [] 5)) 1)) (HF (Va els) ∧ again (No (No (Sg (Value.slice (some ⟨0, 0, none⟩) n 18446744073709551620)) Lf) (No (Sg (Vi (Wi ((i : Int) + 1)))) Lf)) (AH.mk (Sg (AObj.gro els [] 5)) 1))) (HF (Va els) ∧ again (No (No (Sg (Value.slice (some ⟨0, 0, none⟩) n 18446744073709551620)) Lf) (No (Sg (Vi (Wi ((i : Int) + 1)))) Lf)) (AH.mk (Sg (AObj.gro els [] 5)) 1))) (IsB els 0 n ∧ K (Vs (aa (u8L els 0 n))) (AH.mk (Sg (AObj.gro els [] 5)) 1))) := by kernel_rfl
theorem jG {x : Int} (h0 : 0 ≤ x) (h1 : x < 256) : IntKind.u8.wrap x = x := by
 have e1 : (2 : Int) ^ IntKind.u8.bits = 256 := by decide
 have e3 : IntKind.u8.signed = false := rfl
 unfold IntKind.wrap
 rw [e1, e3]
 simp only [Bool.false_and, Bool.false_eq_true, if_false]
 exact Int.emod_eq_of_lt h0 h1
theorem kE {l : List UInt8} {i : Nat} (h : i < l.length) : nth (u8v l) i = some (.int .u8 (l[i].toNat : Int)) := by
 rw [aI]; simp [u8v, List.getElem?_eq_getElem h]
theorem uL {l : List UInt8} {i : Nat} (h : i < l.length) : aS (u8v l) (i : Int) = (l[i].toNat : Int) := by
 simp only [aS, Int.toNat_natCast, kE h]
theorem iR (l : List UInt8) (i : Nat) (b : UInt8) : (u8v l).set i (.int .u8 (b.toNat : Int)) = u8v (l.set i b) := by
 unfold u8v; rw [List.map_set]
theorem cZ {n : Nat} (h : n < 256) : ((UInt8.ofNat n).toNat : Int) = (n : Int) := by
 have : (UInt8.ofNat n).toNat = n := by simp [UInt8.ofNat, UInt8.toNat]; omega
 omega
def lowB (b : UInt8) : UInt8 := if 65 ≤ b.toNat ∧ b.toNat ≤ 90 then UInt8.ofNat (b.toNat + 32) else b
def smS (s : SB) : SB := aa (s.data.toList.map lowB)
def smU (l : List UInt8) (i : Nat) : List UInt8 := (l.take i).map lowB ++ l.drop i
theorem cv (l : List UInt8) (i : Nat) : (smU l i).length = l.length := by unfold smU; rw [List.length_append, List.length_map, ← List.length_append, List.take_append_drop]
theorem kU {l : List UInt8} {i : Nat} (h : i < l.length) : (smU l i)[i]'(by rw [cv]; exact h) = l[i] := by
 have h1 : ((l.take i).map lowB).length = i := by rw [List.length_map, List.length_take]; omega
 have : (smU l i)[i]? = l[i]? := by
  unfold smU
  rw [List.getElem?_append_right (by omega), h1, Nat.sub_self, List.getElem?_drop, Nat.add_zero]
 rw [List.getElem?_eq_getElem (by rw [cv]; exact h), List.getElem?_eq_getElem h] at this
 exact Option.some.inj this
theorem ic {l : List UInt8} {i : Nat} (h : i < l.length) : (smU l i).set i (lowB l[i]) = smU l (i + 1) := by
 have h1 : ((l.take i).map lowB).length = i := by rw [List.length_map, List.length_take]; omega
 unfold smU
 rw [List.set_append, if_neg (by omega), h1, Nat.sub_self, List.drop_eq_getElem_cons h, List.set_cons_zero, List.take_succ_eq_append_getElem h, List.map_append, List.append_assoc]
 rfl
theorem c9 {l : List UInt8} {i : Nat} (h : i < l.length) (e : lowB l[i] = l[i]) : smU l i = smU l (i + 1) := by
 rw [← ic h, e]
 have := kU h
 have h2 := @List.set_getElem_self _ (smU l i) i (by rw [cv]; exact h)
 rw [this] at h2
 exact h2.symm
theorem jN (l : List UInt8) : smU l l.length = l.map lowB := by unfold smU; rw [List.take_length, List.drop_length, List.append_nil]
theorem j0 {b : UInt8} (h1 : (65 : Int) ≤ b.toNat) (h2 : (b.toNat : Int) ≤ 90) : ((lowB b).toNat : Int) = b.toNat + 32 := by
 unfold lowB; rw [if_pos ⟨by omega, by omega⟩, cZ (by omega)]; omega
theorem gL {b : UInt8} (h : ¬ ((65 : Int) ≤ b.toNat ∧ (b.toNat : Int) ≤ 90)) : lowB b = b := by
 unfold lowB; rw [if_neg (by omega)]
theorem iS (b : UInt8) : b.toNat < 256 := b.toNat_lt
theorem Am (s : SB) (hs : s.size < 9223372036854775808) : LAtZ XSm 3 (Func.ntmps f201) ⟨.leaf, 0⟩ (ae f201) [1, 1, 0, 1, 0] (finK XSm.E (f201.results).toList (fun v A => Frz A v (.string (smS s)))) (frSm s.size 0) (hU (u8v s.data.toList)) := by
 have hl := aR s
 refine LAtZ.step lT rfl [] [] [] [3, 8, 9, 10] (by kernel_rfl) (fun k F A => ∃ i : Nat, F = frSm s.size i ∧ A = hU (u8v (smU s.data.toList i)) ∧ i + k = s.size) ?_ (k := s.size) ⟨0, rfl, rfl, by omega⟩
 rintro k F A ⟨i, rfl, rfl, hk⟩
 refine (w5 _ _ s.size i _).mpr ?_
 refine Sp.intro (fun c => ?_) (fun c => ?_)
 · have hlt : i < s.data.toList.length := by have := odt c; omega
   have hw := i64s i (by omega)
   have hlt2 : i < (smU s.data.toList i).length := by rw [cv]; exact hlt
   have hb := iS s.data.toList[i]
   have hat := kU hlt
   simp only [Int.toNat_natCast, Nat.add_zero, uL hlt2, kE hlt2, hat, hw, aY]
   refine ⟨by omega, trivial, Sp.intro (fun c1 => Sp.intro (fun c2 => ⟨by omega, hlt2, ?_⟩) (fun c2 => ⟨.agg (aV _), ?_⟩)) (fun c1 => ⟨.agg (aV _), ?_⟩)⟩
   · have c1 := odt c1
     have c2 := odt c2
     have e : IntKind.u8.wrap (IntKind.u8.wrap ((s.data.toList[i].toNat : Int) + 97) - 65) = ((lowB s.data.toList[i]).toNat : Int) := by
      rw [jG (x := (s.data.toList[i].toNat : Int) + 97) (by omega) (by omega), jG (by omega) (by omega), j0 c1 c2]; omega
     rw [e, iR, ic hlt]
     exact ⟨.agg (aV _), k - 1, by omega, i + 1, rfl, rfl, by omega⟩
   · have c2 := odf c2
     rw [c9 hlt (gL (by omega))]
     exact ⟨k - 1, by omega, i + 1, rfl, rfl, by omega⟩
   · have c1 := odf c1
     rw [c9 hlt (gL (by omega))]
     exact ⟨k - 1, by omega, i + 1, rfl, rfl, by omega⟩
 · have hge : i = s.data.toList.length := by have := odf c; omega
   have h1 := dL (smU s.data.toList i)
   have h2 := u8_L (smU s.data.toList i)
   rw [aY, cv, hl] at h1 h2
   refine ⟨h1, ?_⟩
   rw [h2, hge, jN]
   exact .same (.scal rfl)
theorem vl (s : SB) (hs : s.size < 9223372036854775808) : bt envX f201 [.string s] ⟨.leaf, 0⟩ (.string (smS s)) := by
 refine al lT (d := 3) ((jSw_nf _ s).mpr ⟨.agg (aV _), ?_⟩)
 exact Am s hs
def smX : List Value → Option Value
 | [.string s] => some (.string (smS s))
 | _ => none
theorem sw_tab : ∀ args A p v A', aj bg smX args A = some (p, v, A') → PH p → an envX 201 args A v A' := ai ag ah (fn := f201) rfl fun args v h hp => by
 unfold smX at h
 split at h
 · simp only [osI] at h
   subst h
   exact ⟨HF.cons (.scal rfl) HF.nil, vl _ hp⟩
 · cases h
theorem Ao (s : SB) (hs : s.size < 9223372036854775808) : LAtZ XSm 3 (Func.ntmps f174) ⟨.leaf, 0⟩ (ae f174) [1, 1, 0, 1, 0] (finK XSm.E (f174.results).toList (fun v A => Frz A v (.string (smS s)))) (frSm s.size 0) (hU (u8v s.data.toList)) := by
 have hl := aR s
 refine LAtZ.step lT rfl [] [] [] [3, 8, 9, 10] (by kernel_rfl) (fun k F A => ∃ i : Nat, F = frSm s.size i ∧ A = hU (u8v (smU s.data.toList i)) ∧ i + k = s.size) ?_ (k := s.size) ⟨0, rfl, rfl, by omega⟩
 rintro k F A ⟨i, rfl, rfl, hk⟩
 refine (xd _ _ s.size i _).mpr ?_
 refine Sp.intro (fun c => ?_) (fun c => ?_)
 · have hlt : i < s.data.toList.length := by have := odt c; omega
   have hw := i64s i (by omega)
   have hlt2 : i < (smU s.data.toList i).length := by rw [cv]; exact hlt
   have hb := iS s.data.toList[i]
   have hat := kU hlt
   simp only [Int.toNat_natCast, Nat.add_zero, uL hlt2, kE hlt2, hat, hw, aY]
   refine ⟨by omega, trivial, Sp.intro (fun c1 => Sp.intro (fun c2 => ⟨by omega, hlt2, ?_⟩) (fun c2 => ⟨.agg (aV _), ?_⟩)) (fun c1 => ⟨.agg (aV _), ?_⟩)⟩
   · have c1 := odt c1
     have c2 := odt c2
     have e : IntKind.u8.wrap ((s.data.toList[i].toNat : Int) + 32) = ((lowB s.data.toList[i]).toNat : Int) := by
      rw [jG (by omega) (by omega), j0 c1 c2]
     rw [e, iR, ic hlt]
     exact ⟨.agg (aV _), k - 1, by omega, i + 1, rfl, rfl, by omega⟩
   · have c2 := odf c2
     rw [c9 hlt (gL (by omega))]
     exact ⟨k - 1, by omega, i + 1, rfl, rfl, by omega⟩
   · have c1 := odf c1
     rw [c9 hlt (gL (by omega))]
     exact ⟨k - 1, by omega, i + 1, rfl, rfl, by omega⟩
 · have hge : i = s.data.toList.length := by have := odf c; omega
   have h1 := dL (smU s.data.toList i)
   have h2 := u8_L (smU s.data.toList i)
   rw [aY, cv, hl] at h1 h2
   refine ⟨h1, ?_⟩
   rw [h2, hge, jN]
   exact .same (.scal rfl)
theorem vy (s : SB) (hs : s.size < 9223372036854775808) : bt envX f174 [.string s] ⟨.leaf, 0⟩ (.string (smS s)) := by
 refine al lT (d := 3) ((jSt_nf _ s).mpr ⟨.agg (aV _), ?_⟩)
 exact Ao s hs
theorem st_tab : ∀ args A p v A', aj bg smX args A = some (p, v, A') → PH p → an envX 174 args A v A' := ai ag ah (fn := f174) rfl fun args v h hp => by
 unfold smX at h
 split at h
 · simp only [osI] at h
   subst h
   exact ⟨HF.cons (.scal rfl) HF.nil, vy _ hp⟩
 · cases h
theorem Ap (s : SB) (hs : s.size < 9223372036854775808) : LAtZ XSr 3 (Func.ntmps f210) ⟨.leaf, 0⟩ (ae f210) [1, 1, 0, 1, 0] (finK XSr.E (f210.results).toList (fun v A => Frz A v (.string (smS s)))) (frSr s.size 0) (hU (u8v s.data.toList)) := by
 have hl := aR s
 refine LAtZ.step ug rfl [] [] [] [3, 4] (by kernel_rfl) (fun k F A => ∃ i : Nat, F = frSr s.size i ∧ A = hU (u8v (smU s.data.toList i)) ∧ i + k = s.size) ?_ (k := s.size) ⟨0, rfl, rfl, by omega⟩
 rintro k F A ⟨i, rfl, rfl, hk⟩
 refine (xe _ _ s.size i _).mpr ?_
 refine Sp.intro (fun c => ?_) (fun c => ?_)
 · have hlt : i < s.data.toList.length := by have := odt c; omega
   have hw := i64s i (by omega)
   have hlt2 : i < (smU s.data.toList i).length := by rw [cv]; exact hlt
   have hb := iS s.data.toList[i]
   have hat := kU hlt
   simp only [Int.toNat_natCast, Nat.add_zero, uL hlt2, kE hlt2, hat, hw, aY]
   refine ⟨by omega, trivial, Sp.intro (fun c1 => Sp.intro (fun c2 => ⟨by omega, trivial, by omega, hlt2, ?_⟩) (fun c2 => ⟨.agg (aV _), ?_⟩)) (fun c1 => ⟨.agg (aV _), ?_⟩)⟩
   · have c1 := odt c1
     have c2 := odt c2
     have e : IntKind.u8.wrap ((s.data.toList[i].toNat : Int) + 32) = ((lowB s.data.toList[i]).toNat : Int) := by
      rw [jG (by omega) (by omega), j0 c1 c2]
     rw [e, iR, ic hlt]
     exact ⟨.agg (aV _), k - 1, by omega, i + 1, rfl, rfl, by omega⟩
   · have c2 := odf c2
     rw [c9 hlt (gL (by omega))]
     exact ⟨k - 1, by omega, i + 1, rfl, rfl, by omega⟩
   · have c1 := odf c1
     rw [c9 hlt (gL (by omega))]
     exact ⟨k - 1, by omega, i + 1, rfl, rfl, by omega⟩
 · have hge : i = s.data.toList.length := by have := odf c; omega
   have h1 := dL (smU s.data.toList i)
   have h2 := u8_L (smU s.data.toList i)
   rw [aY, cv, hl] at h1 h2
   refine ⟨h1, ?_⟩
   rw [h2, hge, jN]
   exact .same (.scal rfl)
theorem vD (s : SB) (hs : s.size < 9223372036854775808) : bt envX f210 [.string s] ⟨.leaf, 0⟩ (.string (smS s)) := by
 refine al ug (d := 3) ((jSr_nf _ s).mpr ⟨.agg (aV _), ?_⟩)
 exact Ap s hs
theorem sr_tab : ∀ args A p v A', aj bg smX args A = some (p, v, A') → PH p → an envX 210 args A v A' := ai ag ah (fn := f210) rfl fun args v h hp => by
 unfold smX at h
 split at h
 · simp only [osI] at h
   subst h
   exact ⟨HF.cons (.scal rfl) HF.nil, vD _ hp⟩
 · cases h
def capB (b : UInt8) : Bool := decide (65 ≤ (b.toNat : Int)) && decide ((b.toNat : Int) ≤ 90)
def cG (s : SB) : Bool := s.data.toList.all capB && (decide (1 ≤ s.size) && decide (s.size ≤ 20))
theorem lk {s : SB} (h : s.data.toList.all capB = true) (h1 : ¬ s.size = 0) : cG s = decide ((s.size : Int) ≤ 20) := by
 unfold cG; rw [h, decide_eq_true (by omega : 1 ≤ s.size)]
 simp only [Bool.true_and]
 exact decide_eq_decide.2 (by omega)
theorem lj {s : SB} (h1 : s.size = 0) : cG s = false := by
 unfold cG; rw [decide_eq_false (by omega : ¬ 1 ≤ s.size)]; simp
theorem lp {s : SB} (h : s.data.toList.all capB = false) : cG s = false := by unfold cG; rw [h]; rfl
theorem gj (l : List UInt8) : eqL l [] = decide (l.length = 0) := by cases l <;> simp [eqL]
theorem AG (Q : Value → Prop) (QA : KV) (s : SB) (hs : s.size < 9223372036854775808) (hQ : Q (.bool (cG s))) :
 LAt XMf 1 (Func.ntmps f115) (ae f115) [1, 0, 1, 0] (finK XMf.E (f115.results).toList (au Q QA)) (frMf s 0) ⟨.leaf, 0⟩ := by
 have hsz := aR s
 refine LAt.stepA uo [] [0, 5, 6] (by kernel_rfl) (fun k F A => ∃ i : Nat, F = frMf s i ∧ A = ⟨.leaf, 0⟩ ∧ i + k = s.size ∧ s.data.toList.all capB = (s.data.toList.drop i).all capB) ?_ (k := s.size) ⟨0, rfl, rfl, by omega, by rw [List.drop_zero]⟩
 rintro k F A ⟨i, rfl, rfl, hk, hall⟩
 refine (x5 _ _ _ s i).mpr ?_
 refine Sp.intro (fun c => ?_) (fun c => ?_)
 · have hl : i < s.data.toList.length := by have := odt c; omega
   have hw := i64s i (by omega)
   rw [List.drop_eq_getElem_cons hl, List.all_cons] at hall
   simp only [aK hl, hw]
   have hbad : capB s.data.toList[i] = false → Q (.bool false) := fun h => by
    rw [h] at hall
    rw [lp hall] at hQ; exact hQ
   refine ⟨by omega, Sp.intro (fun h => hbad ?_) (fun h => ⟨by omega, Sp.intro (fun h2 => hbad ?_) (fun h2 => ⟨k - 1, by omega, i + 1, rfl, by first | trivial | rfl, by omega, ?_⟩)⟩)⟩
   · have := odt h; unfold capB; rw [decide_eq_false (by omega)]; rfl
   · have := odt h2; unfold capB; rw [decide_eq_false (by omega : ¬ ((s.data.toList[i].toNat : Int) ≤ 90))]; simp
   · have h := odf h
     have h2 := odf h2
     have : capB s.data.toList[i] = true := by unfold capB; rw [decide_eq_true (by omega), decide_eq_true (by omega)]; rfl
     rw [this] at hall; exact hall
 · have hn : s.data.toList.drop i = [] := List.drop_eq_nil_of_le (by have := odf c; omega)
   rw [hn] at hall
   have hall : s.data.toList.all capB = true := hall
   have e0 : (ByteArray.mk #[]).data.toList = [] := rfl
   rw [e0, gj]
   refine Sp.intro (fun h => ?_) (fun h => ?_)
   · have h0 : ¬ s.size = 0 := by simp only [Bool.not_eq_true', decide_eq_false_iff_not] at h; omega
     rw [lk hall h0] at hQ; exact hQ
   · have h0 : s.size = 0 := by simp only [Bool.not_eq_false', decide_eq_true_eq] at h; omega
     rw [lj h0] at hQ; exact hQ
theorem wF (s : SB) (hs : s.size < 9223372036854775808) : Walk envX f115 [.string s] (.bool (cG s)) := by
 refine av uo (d := 1) (HFb _) ((jMf_nf _ _ s).mpr ?_)
 exact AG _ _ s hs rfl
def mfX : List Value → Option Value
 | [.string s] => some (.bool (cG s))
 | _ => none
theorem mf_tab : ∀ args A p v A', aj bg mfX args A = some (p, v, A') → PH p → an envX 115 args A v A' := ai ag ah (fn := f115) rfl fun args v h hp => by
 unfold mfX at h
 split at h
 · simp only [osI] at h
   subst h
   exact ⟨HF.cons (.scal rfl) HF.nil, wF _ hp⟩
 · cases h
theorem AF (Q : Value → Prop) (QA : KV) (s : SB) (hs : s.size < 9223372036854775808) (hQ : Q (.bool (cG s))) :
 LAt XMr 1 (Func.ntmps f120) (ae f120) [1, 0, 1, 0] (finK XMr.E (f120.results).toList (au Q QA)) (frMr s 0) ⟨.leaf, 0⟩ := by
 have hsz := aR s
 refine LAt.stepA un [] [0, 3] (by kernel_rfl) (fun k F A => ∃ i : Nat, F = frMr s i ∧ A = ⟨.leaf, 0⟩ ∧ i + k = s.size ∧ s.data.toList.all capB = (s.data.toList.drop i).all capB) ?_ (k := s.size) ⟨0, rfl, rfl, by omega, by rw [List.drop_zero]⟩
 rintro k F A ⟨i, rfl, rfl, hk, hall⟩
 refine (x4 _ _ _ s i).mpr ?_
 refine Sp.intro (fun c => ?_) (fun c => ?_)
 · have hl : i < s.data.toList.length := by have := odt c; omega
   have hw := i64s i (by omega)
   rw [List.drop_eq_getElem_cons hl, List.all_cons] at hall
   simp only [aK hl, hw]
   have hbad : capB s.data.toList[i] = false → Q (.bool false) := fun h => by
    rw [h] at hall
    rw [lp hall] at hQ; exact hQ
   refine ⟨by omega, Sp.intro (fun h => hbad ?_) (fun h => ⟨by omega, Sp.intro (fun h2 => hbad ?_) (fun h2 => ⟨k - 1, by omega, i + 1, rfl, by first | trivial | rfl, by omega, ?_⟩)⟩)⟩
   · have := odt h; unfold capB; rw [decide_eq_false (by omega)]; rfl
   · have := odt h2; unfold capB; rw [decide_eq_false (by omega : ¬ ((s.data.toList[i].toNat : Int) ≤ 90))]; simp
   · have h := odf h
     have h2 := odf h2
     have : capB s.data.toList[i] = true := by unfold capB; rw [decide_eq_true (by omega), decide_eq_true (by omega)]; rfl
     rw [this] at hall; exact hall
 · have hn : s.data.toList.drop i = [] := List.drop_eq_nil_of_le (by have := odf c; omega)
   rw [hn] at hall
   have hall : s.data.toList.all capB = true := hall
   refine Sp.intro (fun h => ?_) (fun h => ?_)
   · have h0 : ¬ s.size = 0 := by have := odt h; omega
     rw [lk hall h0] at hQ; exact hQ
   · have h0 : s.size = 0 := by have := odf h; omega
     rw [lj h0] at hQ; exact hQ
theorem wz (s : SB) (hs : s.size < 9223372036854775808) : Walk envX f120 [.string s] (.bool (cG s)) := by
 refine av un (d := 1) (HFb _) ((jMr_nf _ _ s).mpr ?_)
 exact AF _ _ s hs rfl
theorem mr_tab : ∀ args A p v A', aj bg mfX args A = some (p, v, A') → PH p → an envX 120 args A v A' := ai ag ah (fn := f120) rfl fun args v h hp => by
 unfold mfX at h
 split at h
 · simp only [osI] at h
   subst h
   exact ⟨HF.cons (.scal rfl) HF.nil, wz _ hp⟩
 · cases h
def anyB (s : SB) (c : Int) : Bool := s.data.toList.any fun b => decide ((b.toNat : Int) = c)
theorem AD (Q : Value → Prop) (QA : KV) (s : SB) (c0 : Int) (hs : s.size < 9223372036854775808) (hQ : Q (.bool (anyB s c0))) :
 LAt XOn 1 (Func.ntmps f273) (ae f273) [1, 0, 1, 0] (finK XOn.E (f273.results).toList (au Q QA)) (frOn s c0 0) ⟨.leaf, 0⟩ := by
 have hsz := aR s
 refine LAt.stepA um [] [0, 1, 5] (by kernel_rfl) (fun k F A => ∃ i : Nat, F = frOn s c0 i ∧ A = ⟨.leaf, 0⟩ ∧ i + k = s.size ∧ anyB s c0 = (s.data.toList.drop i).any fun b => decide ((b.toNat : Int) = c0)) ?_ (k := s.size) ⟨0, rfl, rfl, by omega, by rw [List.drop_zero]; rfl⟩
 rintro k F A ⟨i, rfl, rfl, hk, hall⟩
 refine (xW _ _ _ s c0 i).mpr ?_
 refine Sp.intro (fun c => ?_) (fun c => ?_)
 · have hl : i < s.data.toList.length := by have := odt c; omega
   have hw := i64s i (by omega)
   rw [List.drop_eq_getElem_cons hl, List.any_cons] at hall
   simp only [aK hl, hw]
   refine ⟨by omega, Sp.intro (fun h => ?_) (fun h => ⟨k - 1, by omega, i + 1, rfl, by first | trivial | rfl, by omega, ?_⟩)⟩
   · rw [h] at hall; rw [hall] at hQ; exact hQ
   · rw [h] at hall; exact hall
 · have hn : s.data.toList.drop i = [] := List.drop_eq_nil_of_le (by have := odf c; omega)
   rw [hn] at hall
   rw [hall] at hQ; exact hQ
theorem wm (s : SB) (c : Int) (hs : s.size < 9223372036854775808) : Walk envX f273 [.string s, .int .u8 c] (.bool (anyB s c)) := by
 refine av um (d := 1) (HFb _) ((jOn_nf _ _ s c).mpr ?_)
 exact AD _ _ s c hs rfl
def onX : List Value → Option Value
 | [.string s, .int .u8 c] => some (.bool (anyB s c))
 | _ => none
def onPre : List Value → Option Prop
 | [.string s, .int .u8 c] => some (s.size < 9223372036854775808)
 | _ => none
theorem on_tab : ∀ args A p v A', aj onPre onX args A = some (p, v, A') → PH p → an envX 273 args A v A' := ai ag ah (fn := f273) rfl fun args v h hp => by
 unfold onX at h
 split at h
 · simp only [osI] at h
   subst h
   exact ⟨HF.cons (.scal rfl) (HF.cons (.scal rfl) HF.nil), wm _ _ hp⟩
 · cases h
def setB : SB := ⟨⟨[45, 95, 46, 33, 35, 36, 37, 38, 39, 42, 43, 94, 124, 126]⟩⟩
def tkB (c : Int) : Bool := (lB c || dB c) || anyB setB c
theorem eW (c : UInt8) : ∀ (l : List UInt8) (k : Nat), (dG c l k).isSome = l.any fun b => decide ((b.toNat : Int) = (c.toNat : Int))
 | [], k => rfl
 | x :: l, k => by
   unfold dG
   rw [List.any_cons]
   cases h : Nat.beq x.toNat c.toNat with
   | true => rw [Nat.beq_eq] at h; rw [h, decide_eq_true rfl]; rfl
   | false =>
     have h' : ¬ x.toNat = c.toNat := fun q => by rw [← Nat.beq_eq, h] at q; cases q
     rw [decide_eq_false (by omega)]
     exact eW c l (k + 1)
theorem yN (s : SB) (b : UInt8) : decide (0 ≤ ixB s (b.toNat : Int)) = anyB s (b.toNat : Int) := by
 unfold ixB anyB
 have hb : ((b.toNat : Int).toNat.toUInt8) = b := by rw [Int.toNat_natCast]; exact UInt8.ofNat_toNat
 rw [hb, ← eW b s.data.toList 0]
 cases dG b s.data.toList 0 with
 | none => rfl
 | some i => exact decide_eq_true (by show (0 : Int) ≤ (i : Int); omega)
theorem uU (b : UInt8) : Walk envX f267 [.int .u8 (b.toNat : Int)] (.bool (tkB b.toNat)) := by
 refine be zX (d := 5) ((jTk_nf _ _).mpr ?_)
 have e : decide (0 ≤ ixB (ByteArray.mk (Array.mk [45, 95, 46, 33, 35, 36, 37, 38, 39, 42, 43, 94, 124, 126])) (b.toNat : Int)) = anyB setB b.toNat := yN setB b
 rw [e]
 unfold tkB lB dB
 cases decide (97 ≤ (b.toNat : Int)) <;> cases decide ((b.toNat : Int) ≤ 122) <;> cases decide (65 ≤ (b.toNat : Int)) <;> cases decide ((b.toNat : Int) ≤ 90) <;> cases decide (48 ≤ (b.toNat : Int)) <;> cases decide ((b.toNat : Int) ≤ 57) <;> exact Frz.same (HFb _)
def tkX : List Value → Option Value
 | [.int .u8 c] => some (.bool (tkB c))
 | _ => none
def p7 : List Value → Option Prop
 | [.int .u8 c] => some (∃ b : UInt8, c = b.toNat)
 | _ => none
theorem tk_tab : ∀ args A p v A', aj p7 tkX args A = some (p, v, A') → PH p → an envX 267 args A v A' := ai ag ah (fn := f267) rfl fun args v h hp => by
 unfold tkX at h
 split at h
 · simp only [osI] at h
   subst h
   obtain ⟨b, rfl⟩ := hp
   exact ⟨HF.cons (.scal rfl) HF.nil, uU b⟩
 · cases h
def tabTb : Tab := [(273, aj onPre onX)]
theorem qf : TabOk envX tabTb := .cons on_tab .nil
def XTb : SX := ⟨envX, tabTb, noEl, fun _ => .unroll 0⟩
theorem XTb_ok : XTb.Ok := ⟨ag, aw, ah, qf⟩
def jTb (K : KV) (c : Int) : Prop := sxFn XTb 5 f238 [.int .u8 c] K
def tabTo : Tab := [(267, aj p7 tkX)]
theorem qb : TabOk envX tabTo := .cons tk_tab .nil
def XTo : SX := ⟨envX, tabTo, noEl, fun _ => .auto [] [0, 5, 6]⟩
theorem ub : XTo.Ok := ⟨ag, aw, ah, qb⟩
def jTo (Q : Value → Prop) (QA : KV) (s : SB) : Prop := sxFn XTo 1 f231 [.string s] (au Q QA)
def jTo1 (Q : Value → Prop) (QA : KV) (again : KF) (s : SB) (i : Nat) : Prop := bJ XTo 1 f231 [1, 0, 1, 0] (au Q QA) [] [0, 5, 6] again (frMf s i) ⟨.leaf, 0⟩
theorem jTb_nf (K : KV) (c : Int) : jTb K c = (Sp (decide (65 ≤ c)) (Sp (decide (c ≤ 90)) (K (Vb true) (AH.mk Lf 0)) (Sp (decide (97 ≤ c)) (Sp (decide (c ≤ 122)) (K (Vb true) (AH.mk Lf 0)) (Sp (decide (48 ≤ c)) (Sp (decide (c ≤ 57)) (K (Vb true) (AH.mk Lf 0)) ((14 : Nat) < (9223372036854775808 : Nat) ∧ K (Vb (anyB (ByteArray.mk (Array.mk [(45 : UInt8), (95 : UInt8), (46 : UInt8), (33 : UInt8), (35 : UInt8), (36 : UInt8), (37 : UInt8), (38 : UInt8), (39 : UInt8), (42 : UInt8), (43 : UInt8), (94 : UInt8), (124 : UInt8), (126 : UInt8)])) c)) (AH.mk Lf 0))) ((14 : Nat) < (9223372036854775808 : Nat) ∧ K (Vb (anyB (ByteArray.mk (Array.mk [(45 : UInt8), (95 : UInt8), (46 : UInt8), (33 : UInt8), (35 : UInt8), (36 : UInt8), (37 : UInt8), (38 : UInt8), (39 : UInt8), (42 : UInt8), (43 : UInt8), (94 : UInt8), (124 : UInt8), (126 : UInt8)])) c)) (AH.mk Lf 0)))) (Sp (decide (48 ≤ c)) (Sp (decide (c ≤ 57)) (K (Vb true) (AH.mk Lf 0)) ((14 : Nat) < (9223372036854775808 : Nat) ∧ K (Vb (anyB (ByteArray.mk (Array.mk [(45 : UInt8), (95 : UInt8), (46 : UInt8), (33 : UInt8), (35 : UInt8), (36 : UInt8), (37 : UInt8), (38 : UInt8), (39 : UInt8), (42 : UInt8), (43 : UInt8), (94 : UInt8), (124 : UInt8), (126 : UInt8)])) c)) (AH.mk Lf 0))) ((14 : Nat) < (9223372036854775808 : Nat) ∧ K (Vb (anyB (ByteArray.mk (Array.mk [(45 : UInt8), (95 : UInt8), (46 : UInt8), (33 : UInt8), (35 : UInt8), (36 : UInt8), (37 : UInt8), (38 : UInt8), (39 : UInt8), (42 : UInt8), (43 : UInt8), (94 : UInt8), (124 : UInt8), (126 : UInt8)])) c)) (AH.mk Lf 0))))) (Sp (decide (97 ≤ c)) (Sp (decide (c ≤ 122)) (K (Vb true) (AH.mk Lf 0)) (Sp (decide (48 ≤ c)) (Sp (decide (c ≤ 57)) (K (Vb true) (AH.mk Lf 0)) ((14 : Nat) < (9223372036854775808 : Nat) ∧ K (Vb (anyB (ByteArray.mk (Array.mk [(45 : UInt8), (95 : UInt8), (46 : UInt8), (33 : UInt8), (35 : UInt8), (36 : UInt8), (37 : UInt8), (38 : UInt8), (39 : UInt8), (42 : UInt8), (43 : UInt8), (94 : UInt8), (124 : UInt8), (126 : UInt8)])) c)) (AH.mk Lf 0))) ((14 : Nat) < (9223372036854775808 : Nat) ∧ K (Vb (anyB (ByteArray.mk (Array.mk [(45 : UInt8), (95 : UInt8), (46 : UInt8), (33 : UInt8), (35 : UInt8), (36 : UInt8), (37 : UInt8), (38 : UInt8), (39 : UInt8), (42 : UInt8), (43 : UInt8), (94 : UInt8), (124 : UInt8), (126 : UInt8)])) c)) (AH.mk Lf 0)))) (Sp (decide (48 ≤ c)) (Sp (decide (c ≤ 57)) (K (Vb true) (AH.mk Lf 0)) ((14 : Nat) < (9223372036854775808 : Nat) ∧ K (Vb (anyB (ByteArray.mk (Array.mk [(45 : UInt8), (95 : UInt8), (46 : UInt8), (33 : UInt8), (35 : UInt8), (36 : UInt8), (37 : UInt8), (38 : UInt8), (39 : UInt8), (42 : UInt8), (43 : UInt8), (94 : UInt8), (124 : UInt8), (126 : UInt8)])) c)) (AH.mk Lf 0))) ((14 : Nat) < (9223372036854775808 : Nat) ∧ K (Vb (anyB (ByteArray.mk (Array.mk [(45 : UInt8), (95 : UInt8), (46 : UInt8), (33 : UInt8), (35 : UInt8), (36 : UInt8), (37 : UInt8), (38 : UInt8), (39 : UInt8), (42 : UInt8), (43 : UInt8), (94 : UInt8), (124 : UInt8), (126 : UInt8)])) c)) (AH.mk Lf 0))))) := by kernel_rfl
theorem jTo_nf (Q : Value → Prop) (QA : KV) (s : SB) : jTo Q QA s = (LAt XTo 1 f231.ntmps (ae f231) [1, 0, 1, 0] (finK (SX.E XTo) f231.results.toList (au Q QA)) (Ns (No Lf (Sg (Vi s.size))) (Vs s) (No Lf (Sg (Vi 0)))) (AH.mk Lf 0)) := by kernel_rfl
theorem wZ (Q : Value → Prop) (QA : KV) (again : KF) (s : SB) (i : Nat) : jTo1 Q QA again s i = (Sp (decide ((i : Int) < (s.size : Int))) ((0 ≤ (i : Int) ∧ (i : Int) < (s.size : Int)) ∧ (∃ (b : UInt8), ac s (i : Int) = (↑(UInt8.toNat b) : Int)) ∧ Sp (!tkB (ac s i)) (Q (Vb false)) (again (Ns (No Lf (Sg (Vi s.size))) (Vs s) (No Lf (Sg (Vi (Wi ((i : Int) + 1)))))) (AH.mk Lf 0))) (Q (Vb !eqL s.data.toList (ByteArray.mk #[]).data.toList))) := by kernel_rfl
theorem u6 (c : Int) : Walk envX f238 [.int .u8 c] (.bool (tkB c)) := by
 refine be XTb_ok (d := 5) ((jTb_nf _ _).mpr ?_)
 have e : anyB (ByteArray.mk (Array.mk [45, 95, 46, 33, 35, 36, 37, 38, 39, 42, 43, 94, 124, 126])) c = anyB setB c := rfl
 rw [e]
 have h14 : (14 : Int) < 9223372036854775808 := by decide
 unfold tkB lB dB
 cases decide (97 ≤ c) <;> cases decide (c ≤ 122) <;> cases decide (65 ≤ c) <;> cases decide (c ≤ 90) <;> cases decide (48 ≤ c) <;> cases decide (c ≤ 57) <;> first | exact Frz.same (HFb _) | exact ⟨by decide, Frz.same (HFb _)⟩
theorem tb_tab : ∀ args A p v A', aj p7 tkX args A = some (p, v, A') → PH p → an envX 238 args A v A' := ai ag ah (fn := f238) rfl fun args v h hp => by
 unfold tkX at h
 split at h
 · simp only [osI] at h
   subst h
   exact ⟨HF.cons (.scal rfl) HF.nil, u6 _⟩
 · cases h
def tkL (s : SB) : Bool := s.data.toList.all fun b => tkB b.toNat
def tokA (s : SB) : Bool := tkL s && !eqL s.data.toList []
def tokS (s : SB) : Bool := decide (s.size ≤ 100) && tokA s
theorem Aj (Q : Value → Prop) (QA : KV) (s : SB) (hs : s.size < 9223372036854775808) (hQ : Q (.bool (tokA s))) :
 LAt XTo 1 (Func.ntmps f231) (ae f231) [1, 0, 1, 0] (finK XTo.E (f231.results).toList (au Q QA)) (frMf s 0) ⟨.leaf, 0⟩ := by
 have hsz := aR s
 refine LAt.stepA ub [] [0, 5, 6] (by kernel_rfl) (fun k F A => ∃ i : Nat, F = frMf s i ∧ A = ⟨.leaf, 0⟩ ∧ i + k = s.size ∧ tkL s = (s.data.toList.drop i).all fun b => tkB b.toNat) ?_ (k := s.size) ⟨0, rfl, rfl, by omega, by rw [List.drop_zero]; rfl⟩
 rintro k F A ⟨i, rfl, rfl, hk, hall⟩
 refine (wZ _ _ _ s i).mpr ?_
 refine Sp.intro (fun c => ?_) (fun c => ?_)
 · have hl : i < s.data.toList.length := by have := odt c; omega
   have hw := i64s i (by omega)
   rw [List.drop_eq_getElem_cons hl, List.all_cons] at hall
   simp only [aK hl, hw]
   refine ⟨by omega, ⟨s.data.toList[i], rfl⟩, Sp.intro (fun h => ?_) (fun h => ⟨k - 1, by omega, i + 1, rfl, by first | trivial | rfl, by omega, ?_⟩)⟩
   · have h : tkB (s.data.toList[i].toNat : Int) = false := by simpa using h
     rw [h] at hall
     have : tokA s = false := by unfold tokA; rw [hall]; rfl
     rw [this] at hQ; exact hQ
   · have h : tkB (s.data.toList[i].toNat : Int) = true := by simpa using h
     rw [h] at hall; exact hall
 · have hn : s.data.toList.drop i = [] := List.drop_eq_nil_of_le (by have := odf c; omega)
   rw [hn] at hall
   have : tokA s = !eqL s.data.toList [] := by unfold tokA; rw [hall]; rfl
   rw [this] at hQ; exact hQ
theorem uR (s : SB) (hs : s.size < 9223372036854775808) : Walk envX f231 [.string s] (.bool (tokA s)) := by
 refine av ub (d := 1) (HFb _) ((jTo_nf _ _ s).mpr ?_)
 exact Aj _ _ s hs rfl
def toA : List Value → Option Value
 | [.string s] => some (.bool (tokA s))
 | _ => none
theorem to_tab : ∀ args A p v A', aj bg toA args A = some (p, v, A') → PH p → an envX 231 args A v A' := ai ag ah (fn := f231) rfl fun args v h hp => by
 unfold toA at h
 split at h
 · simp only [osI] at h
   subst h
   exact ⟨HF.cons (.scal rfl) HF.nil, uR _ hp⟩
 · cases h
def tabTr : Tab := [(238, aj p7 tkX)]
theorem qa : TabOk envX tabTr := .cons tb_tab .nil
def XTr : SX := ⟨envX, tabTr, noEl, fun _ => .auto [] [0, 3]⟩
theorem ua : XTr.Ok := ⟨ag, aw, ah, qa⟩
def jTr (Q : Value → Prop) (QA : KV) (s : SB) : Prop := sxFn XTr 1 f209 [.string s] (au Q QA)
def jTr1 (Q : Value → Prop) (QA : KV) (again : KF) (s : SB) (i : Nat) : Prop := bJ XTr 1 f209 [1, 0, 1, 0] (au Q QA) [] [0, 3] again (frMr s i) ⟨.leaf, 0⟩
def tabPw : Tab := [(231, aj bg toA), (201, aj bg smX)]
theorem qj : TabOk envX tabPw := .cons to_tab (.cons sw_tab .nil)
def XPw : SX := ⟨envX, tabPw, elU, fun _ => .autoN [] [] [] [4, 13, 14, 15]⟩
theorem ui : XPw.Ok := ⟨ag, aw, ah, qj⟩
def frPw (n i : Nat) : T Value := (Nd (Nd (Nd (Nd (Nd Lf (some (.int .i64 i)) Lf) none Lf) none Lf) none (Nd Lf none (Nd Lf (some (rowU n)) Lf))) none (Nd (Nd Lf (some (rowU n)) Lf) none (Nd Lf none (Nd Lf (some (.int .i64 n)) Lf))))
def jPw (K : KV) (s : SB) : Prop := ay XPw 4 f169 [.string s] ⟨.leaf, 0⟩ K
def jPw1 (K : KV) (again : KF) (n i : Nat) (els : List Value) : Prop := ax XPw 4 (Func.ntmps f169) ⟨.leaf, 0⟩ (ae f169) [1, 1, 1, 0, 1, 0] (finK XPw.E (f169.results).toList K) [] [] [] [4, 13, 14, 15] again (frPw n i) (hU els)
theorem jTr_nf (Q : Value → Prop) (QA : KV) (s : SB) : jTr Q QA s = (LAt XTr 1 f209.ntmps (ae f209) [1, 0, 1, 0] (finK (SX.E XTr) f209.results.toList (au Q QA)) (Ns (No (Sg (Vi 0)) Lf) (Vs s) Lf) (AH.mk Lf 0)) := by kernel_rfl
theorem wX (Q : Value → Prop) (QA : KV) (again : KF) (s : SB) (i : Nat) : jTr1 Q QA again s i = (Sp (decide ((i : Int) < (s.size : Int))) ((0 ≤ (i : Int) ∧ (i : Int) < (s.size : Int)) ∧ (∃ (b : UInt8), ac s (i : Int) = (↑(UInt8.toNat b) : Int)) ∧ Sp (!tkB (ac s i)) (Q (Vb false)) (again (Ns (No (Sg (Vi (Wi ((i : Int) + 1)))) Lf) (Vs s) Lf) (AH.mk Lf 0))) (Sp (!eqL s.data.toList (ByteArray.mk #[]).data.toList) (Q (Vb (decide ((s.size : Int) ≤ 100)))) (Q (Vb false)))) := by kernel_rfl
theorem jPw_nf (K : KV) (s : SB) : jPw K s = (Sp (decide ((s.size : Int) ≤ 100)) (s.size < 9223372036854775808 ∧ Sp (!tokA s) (K (Vt [Vs (ByteArray.mk ⟨[]⟩), Vi 8]) (AH.mk Lf 0)) (s.size < 9223372036854775808 ∧ HF (Va (List.map (fun (b : UInt8) => Value.int .u8 (↑(UInt8.toNat b) : Int)) (smS s).data.toList)) ∧ LAtZ XPw 4 f169.ntmps (AH.mk Lf 0) (ae f169) [1, 1, 1, 0, 1, 0] (finK (SX.E XPw) f169.results.toList K) (No (No (No (No (Sg (Vi 0)) Lf) Lf) (No Lf (Sg (Value.slice (some ⟨0, 0, none⟩) (ByteArray.size (ByteArray.mk (Array.mk (List.map lowB s.data.toList)))) 18446744073709551620)))) (No (Sg (Value.slice (some ⟨0, 0, none⟩) (ByteArray.size (ByteArray.mk (Array.mk (List.map lowB s.data.toList)))) 18446744073709551620)) (No Lf (Sg (Vi (↑(ByteArray.size (ByteArray.mk (Array.mk (List.map lowB s.data.toList)))) : Int)))))) (AH.mk (Sg (AObj.gro (List.map (fun (b : UInt8) => Value.int .u8 (↑(UInt8.toNat b) : Int)) (smS s).data.toList) [] 5)) 1))) (K (Vt [Vs (ByteArray.mk ⟨[]⟩), Vi 8]) (AH.mk Lf 0))) := by kernel_rfl
theorem xO (K : KV) (again : KF) (n i : Nat) (els : List Value) : jPw1 K again n i els = (Sp (decide ((i : Int) < (n : Int))) ((0 ≤ (i : Int) ∧ (i : Int) < (n : Int)) ∧ nth els (Int.toNat (↑(Int.toNat (i : Int) + 0) : Int)) = some (Value.int .u8 (aS els (↑(Int.toNat (i : Int) + 0) : Int))) ∧ Sp (decide (97 ≤ aS els (↑(Int.toNat (i : Int) + 0) : Int))) (Sp (decide (aS els (↑(Int.toNat (i : Int) + 0) : Int) ≤ 122)) (Sp (decide ((i : Int) = 0)) ((0 ≤ (i : Int) ∧ (i : Int) < (n : Int)) ∧ Int.toNat (↑(Int.toNat (i : Int) + 0) : Int) < List.length els ∧ HF (Va (List.set els (Int.toNat (↑(Int.toNat (i : Int) + 0) : Int)) (Value.int .u8 (IntKind.wrap .u8 (IntKind.wrap .u8 (aS els (↑(Int.toNat (i : Int) + 0) : Int) - 97) + 65))))) ∧ again (No (No (No (No (Sg (Vi (Wi ((i : Int) + 1)))) Lf) Lf) (No Lf (Sg (Value.slice (some ⟨0, 0, none⟩) n 18446744073709551620)))) (No (Sg (Value.slice (some ⟨0, 0, none⟩) n 18446744073709551620)) (No Lf (Sg (Vi n))))) (AH.mk (Sg (AObj.gro (List.set els (Int.toNat (↑(Int.toNat (i : Int) + 0) : Int)) (Value.int .u8 (IntKind.wrap .u8 (IntKind.wrap .u8 (aS els (↑(Int.toNat (i : Int) + 0) : Int) - 97) + 65)))) [] 5)) 1)) ((0 ≤ Wi ((i : Int) - 1) ∧ Wi ((i : Int) - 1) < (n : Int)) ∧ nth els (Int.toNat (↑(Int.toNat (Wi ((i : Int) - 1)) + 0) : Int)) = some (Value.int .u8 (aS els (↑(Int.toNat (Wi ((i : Int) - 1)) + 0) : Int))) ∧ Sp (decide (aS els (↑(Int.toNat (Wi ((i : Int) - 1)) + 0) : Int) = 45)) ((0 ≤ (i : Int) ∧ (i : Int) < (n : Int)) ∧ Int.toNat (↑(Int.toNat (i : Int) + 0) : Int) < List.length els ∧ HF (Va (List.set els (Int.toNat (↑(Int.toNat (i : Int) + 0) : Int)) (Value.int .u8 (IntKind.wrap .u8 (IntKind.wrap .u8 (aS els (↑(Int.toNat (i : Int) + 0) : Int) - 97) + 65))))) ∧ again (No (No (No (No (Sg (Vi (Wi ((i : Int) + 1)))) Lf) Lf) (No Lf (Sg (Value.slice (some ⟨0, 0, none⟩) n 18446744073709551620)))) (No (Sg (Value.slice (some ⟨0, 0, none⟩) n 18446744073709551620)) (No Lf (Sg (Vi n))))) (AH.mk (Sg (AObj.gro (List.set els (Int.toNat (↑(Int.toNat (i : Int) + 0) : Int)) (Value.int .u8 (IntKind.wrap .u8 (IntKind.wrap .u8 (aS els (↑(Int.toNat (i : Int) + 0) : Int) - 97) + 65)))) [] 5)) 1)) (HF (Va els) ∧ again (No (No (No (No (Sg (Vi (Wi ((i : Int) + 1)))) Lf) Lf) (No Lf (Sg (Value.slice (some ⟨0, 0, none⟩) n 18446744073709551620)))) (No (Sg (Value.slice (some ⟨0, 0, none⟩) n 18446744073709551620)) (No Lf (Sg (Vi n))))) (AH.mk (Sg (AObj.gro els [] 5)) 1)))) (HF (Va els) ∧ again (No (No (No (No (Sg (Vi (Wi ((i : Int) + 1)))) Lf) Lf) (No Lf (Sg (Value.slice (some ⟨0, 0, none⟩) n 18446744073709551620)))) (No (Sg (Value.slice (some ⟨0, 0, none⟩) n 18446744073709551620)) (No Lf (Sg (Vi n))))) (AH.mk (Sg (AObj.gro els [] 5)) 1))) (HF (Va els) ∧ again (No (No (No (No (Sg (Vi (Wi ((i : Int) + 1)))) Lf) Lf) (No Lf (Sg (Value.slice (some ⟨0, 0, none⟩) n 18446744073709551620)))) (No (Sg (Value.slice (some ⟨0, 0, none⟩) n 18446744073709551620)) (No Lf (Sg (Vi n))))) (AH.mk (Sg (AObj.gro els [] 5)) 1))) (IsB els 0 n ∧ K (Vt [Vs (aa (u8L els 0 n)), Vi 0]) (AH.mk (Sg (AObj.gro els [] 5)) 1))) := by kernel_rfl
theorem kH {s : SB} (h : tkL s = false) : tokS s = false := by unfold tokS tokA; rw [h]; simp
theorem p5 {s : SB} (h : tkL s = true) : tokS s = (decide (s.size ≤ 100) && !eqL s.data.toList []) := by unfold tokS tokA; rw [h]; rfl
theorem lO (n : Nat) : decide ((n : Int) ≤ 100) = decide (n ≤ 100) := decide_eq_decide.2 (by omega)
theorem Ai (Q : Value → Prop) (QA : KV) (s : SB) (hs : s.size < 9223372036854775808) (hQ : Q (.bool (tokS s))) :
 LAt XTr 1 (Func.ntmps f209) (ae f209) [1, 0, 1, 0] (finK XTr.E (f209.results).toList (au Q QA)) (frMr s 0) ⟨.leaf, 0⟩ := by
 have hsz := aR s
 refine LAt.stepA ua [] [0, 3] (by kernel_rfl) (fun k F A => ∃ i : Nat, F = frMr s i ∧ A = ⟨.leaf, 0⟩ ∧ i + k = s.size ∧ tkL s = (s.data.toList.drop i).all fun b => tkB b.toNat) ?_ (k := s.size) ⟨0, rfl, rfl, by omega, by rw [List.drop_zero]; rfl⟩
 rintro k F A ⟨i, rfl, rfl, hk, hall⟩
 refine (wX _ _ _ s i).mpr ?_
 refine Sp.intro (fun c => ?_) (fun c => ?_)
 · have hl : i < s.data.toList.length := by have := odt c; omega
   have hw := i64s i (by omega)
   rw [List.drop_eq_getElem_cons hl, List.all_cons] at hall
   simp only [aK hl, hw]
   refine ⟨by omega, ⟨s.data.toList[i], rfl⟩, Sp.intro (fun h => ?_) (fun h => ⟨k - 1, by omega, i + 1, rfl, by first | trivial | rfl, by omega, ?_⟩)⟩
   · have h : tkB (s.data.toList[i].toNat : Int) = false := by simpa using h
     rw [h] at hall
     rw [kH hall] at hQ; exact hQ
   · have h : tkB (s.data.toList[i].toNat : Int) = true := by simpa using h
     rw [h] at hall; exact hall
 · have hn : s.data.toList.drop i = [] := List.drop_eq_nil_of_le (by have := odf c; omega)
   rw [hn] at hall
   rw [p5 hall] at hQ
   have e0 : (ByteArray.mk #[]).data.toList = [] := rfl
   rw [e0, lO]
   refine Sp.intro (fun h => ?_) (fun h => ?_)
   · rw [h, Bool.and_true] at hQ; exact hQ
   · rw [h, Bool.and_false] at hQ; exact hQ
theorem uN (s : SB) (hs : s.size < 9223372036854775808) : Walk envX f209 [.string s] (.bool (tokS s)) := by
 refine av ua (d := 1) (HFb _) ((jTr_nf _ _ s).mpr ?_)
 exact Ai _ _ s hs rfl
def trX : List Value → Option Value
 | [.string s] => some (.bool (tokS s))
 | _ => none
theorem tr_tab : ∀ args A p v A', aj bg trX args A = some (p, v, A') → PH p → an envX 209 args A v A' := ai ag ah (fn := f209) rfl fun args v h hp => by
 unfold trX at h
 split at h
 · simp only [osI] at h
   subst h
   exact ⟨HF.cons (.scal rfl) HF.nil, uN _ hp⟩
 · cases h
def cpAt (l : List UInt8) (i : Nat) : UInt8 := if 97 ≤ (l.getD i 0).toNat ∧ (l.getD i 0).toNat ≤ 122 ∧ (i = 0 ∨ (l.getD (i - 1) 0).toNat = 45) then UInt8.ofNat ((l.getD i 0).toNat - 32) else l.getD i 0
def cpU (l : List UInt8) (i : Nat) : List UInt8 := (List.range i).map (cpAt l) ++ l.drop i
theorem go {l : List UInt8} {i : Nat} (h : i ≤ l.length) : (cpU l i).length = l.length := by unfold cpU; rw [List.length_append, List.length_map, List.length_range, List.length_drop]; omega
theorem kj {l : List UInt8} {i : Nat} (h : i < l.length) : (cpU l i)[i]? = some (l.getD i 0) := by
 unfold cpU
 rw [List.getElem?_append_right (by simp), List.length_map, List.length_range, Nat.sub_self, List.getElem?_drop, Nat.add_zero, List.getD_eq_getElem?_getD, List.getElem?_eq_getElem h]; rfl
theorem lQ {l : List UInt8} {i : Nat} (h : 0 < i) (h2 : i ≤ l.length) : (cpU l i)[i - 1]? = some (cpAt l (i - 1)) := by
 unfold cpU
 rw [List.getElem?_append_left (by simp; omega), List.getElem?_map, List.getElem?_range (by omega)]; rfl
theorem ki {l : List UInt8} {i : Nat} (h : i < l.length) : (cpU l i).set i (cpAt l i) = cpU l (i + 1) := by
 unfold cpU
 rw [List.set_append, if_neg (by simp), List.length_map, List.length_range, Nat.sub_self, List.drop_eq_getElem_cons h, List.set_cons_zero, List.range_succ, List.map_append, List.append_assoc]
 rfl
theorem lP {l : List UInt8} {i : Nat} (h : i < l.length) (e : cpAt l i = l.getD i 0) : cpU l i = cpU l (i + 1) := by
 rw [← ki h, e]
 have h1 := kj h
 have hl : i < (cpU l i).length := by rw [go (Nat.le_of_lt h)]; exact h
 rw [List.getElem?_eq_getElem hl] at h1
 have h2 := @List.set_getElem_self _ (cpU l i) i hl
 rw [Option.some.inj h1] at h2
 exact h2.symm
theorem sa (l : List UInt8) (i : Nat) : (cpAt l i).toNat = 45 ↔ (l.getD i 0).toNat = 45 := by
 unfold cpAt
 split
 · rename_i h
   have : (UInt8.ofNat ((l.getD i 0).toNat - 32)).toNat = (l.getD i 0).toNat - 32 := by
    have := cZ (n := (l.getD i 0).toNat - 32) (by have := iS (l.getD i 0); omega); omega
   omega
 · exact Iff.rfl
theorem iT {l : List UInt8} {i : Nat} {b : UInt8} (h : l[i]? = some b) : nth (u8v l) i = some (.int .u8 (b.toNat : Int)) := by
 rw [aI]; simp [u8v, h]
theorem kG {l : List UInt8} {i : Nat} {b : UInt8} (h : l[i]? = some b) : aS (u8v l) (i : Int) = (b.toNat : Int) := by
 simp only [aS, Int.toNat_natCast, iT h]
def prT (s : SB) : SB := aa (cpU (smS s).data.toList (smS s).data.toList.length)
theorem ig (s : SB) : (smS s).data.toList.length = s.size := by
 have : (smS s).data.toList = s.data.toList.map lowB := iz _
 rw [this, List.length_map]; exact aR s
def prV (s : SB) : Value := .tuple ⟨[.string (bif tokS s then prT s else aa []), .int .i64 (bif tokS s then 0 else 8)]⟩
theorem Ay (s : SB) (hs : s.size < 9223372036854775808) (ht : tokS s = true) : LAtZ XPw 4 (Func.ntmps f169) ⟨.leaf, 0⟩ (ae f169) [1, 1, 1, 0, 1, 0] (finK XPw.E (f169.results).toList (fun v A => Frz A v (prV s))) (frPw s.size 0) (hU (u8v (smS s).data.toList)) := by
 have hl := ig s
 generalize hL : (smS s).data.toList = l at *
 refine LAtZ.step ui rfl [] [] [] [4, 13, 14, 15] (by kernel_rfl) (fun k F A => ∃ i : Nat, F = frPw s.size i ∧ A = hU (u8v (cpU l i)) ∧ i + k = s.size) ?_ (k := s.size) ⟨0, rfl, rfl, by omega⟩
 rintro k F A ⟨i, rfl, rfl, hk⟩
 refine (xO _ _ s.size i _).mpr ?_
 refine Sp.intro (fun c => ?_) (fun c => ?_)
 · have hlt : i < l.length := by have := odt c; omega
   have hw := i64s i (by omega)
   have hget := kj hlt
   have hcl := go (Nat.le_of_lt hlt)
   have hb := iS (l.getD i 0)
   simp only [Int.toNat_natCast, Nat.add_zero, kG hget, iT hget, hw, aY]
   have hset : (97 : Int) ≤ (l.getD i 0).toNat → ((l.getD i 0).toNat : Int) ≤ 122 → (i = 0 ∨ (l.getD (i - 1) 0).toNat = 45) → (0 ≤ (i : Int) ∧ (i : Int) < (s.size : Int)) ∧ i < (cpU l i).length ∧ HF (.agg ⟨(u8v (cpU l i)).set i (.int .u8 (IntKind.u8.wrap (IntKind.u8.wrap (((l.getD i 0).toNat : Int) - 97) + 65)))⟩) ∧ ∃ k', k' < k ∧ ∃ i2 : Nat, frPw s.size (i + 1) = frPw s.size i2 ∧ hU ((u8v (cpU l i)).set i (.int .u8 (IntKind.u8.wrap (IntKind.u8.wrap (((l.getD i 0).toNat : Int) - 97) + 65)))) = hU (u8v (cpU l i2)) ∧ i2 + k' = s.size := fun h1 h2 h3 => by
    have e : IntKind.u8.wrap (IntKind.u8.wrap (((l.getD i 0).toNat : Int) - 97) + 65) = ((cpAt l i).toNat : Int) := by
     rw [jG (x := ((l.getD i 0).toNat : Int) - 97) (by omega) (by omega), jG (by omega) (by omega)]
     unfold cpAt
     rw [if_pos ⟨by omega, by omega, h3⟩, cZ (by omega)]; omega
    rw [e, iR, ki hlt]
    exact ⟨by omega, by omega, .agg (aV _), k - 1, by omega, i + 1, rfl, rfl, by omega⟩
   have hsame : ¬ ((97 : Int) ≤ (l.getD i 0).toNat ∧ ((l.getD i 0).toNat : Int) ≤ 122 ∧ (i = 0 ∨ (l.getD (i - 1) 0).toNat = 45)) → HF (.agg ⟨u8v (cpU l i)⟩) ∧ ∃ k', k' < k ∧ ∃ i2 : Nat, frPw s.size (i + 1) = frPw s.size i2 ∧ hU (u8v (cpU l i)) = hU (u8v (cpU l i2)) ∧ i2 + k' = s.size := fun h => by
    have e : cpAt l i = l.getD i 0 := by unfold cpAt; rw [if_neg (fun q => h ⟨by omega, by omega, q.2.2⟩)]
    rw [lP hlt e]
    exact ⟨.agg (aV _), k - 1, by omega, i + 1, rfl, rfl, by omega⟩
   refine ⟨by omega, trivial, Sp.intro (fun c1 => Sp.intro (fun c2 => Sp.intro (fun c3 => ?_) (fun c3 => ?_)) (fun c2 => ?_)) (fun c1 => ?_)⟩
   · exact hset (odt c1) (odt c2) (.inl (by have := odt c3; omega))
   · have h0 : 0 < i := by have := odf c3; omega
     have hw2 : IntKind.i64.wrap ((i : Int) - 1) = ((i - 1 : Nat) : Int) := by rw [aB (by omega) (by omega)]; omega
     have hp := lQ h0 (Nat.le_of_lt hlt)
     simp only [hw2, Int.toNat_natCast, Nat.add_zero, kG hp, iT hp]
     refine ⟨by omega, trivial, Sp.intro (fun c4 => ?_) (fun c4 => ?_)⟩
     · exact hset (odt c1) (odt c2) (.inr ((sa l (i - 1)).1 (by have := odt c4; omega)))
     · refine hsame fun q => ?_
       have h4 := odf c4
       rcases q.2.2 with q | q
       · omega
       · exact h4 (by have := (sa l (i - 1)).2 q; omega)
   · exact hsame fun q => odf c2 q.2.1
   · exact hsame fun q => odf c1 q.1
 · have hge : i = l.length := by have := odf c; omega
   have h1 := dL (cpU l i)
   have h2 := u8_L (cpU l i)
   rw [aY, go (by omega), hl] at h1 h2
   refine ⟨h1, ?_⟩
   rw [h2, hge]
   unfold prV prT
   rw [ht, hL]
   exact .same (.tuple (HF.cons (.scal rfl) (HF.cons (.scal rfl) HF.nil)))
theorem vY (s : SB) (hs : s.size < 9223372036854775808) : bt envX f169 [.string s] ⟨.leaf, 0⟩ (prV s) := by
 refine al ui (d := 4) ((jPw_nf _ s).mpr ?_)
 have hbad : tokS s = false → ∀ A, Frz A (.tuple ⟨[.string (aa []), .int .i64 8]⟩) (prV s) := fun h A => by
  unfold prV; rw [h]
  exact .same (.tuple (HF.cons (.scal rfl) (HF.cons (.scal rfl) HF.nil)))
 rw [lO]
 refine Sp.intro (fun c => ⟨hs, Sp.intro (fun c1 => hbad ?_ _) (fun c1 => ⟨hs, .agg (aV _), ?_⟩)⟩) (fun c => hbad ?_ _)
 · have c1 : tokA s = false := by simpa using c1
   unfold tokS; rw [c, c1]; rfl
 · have c1 : tokA s = true := by simpa using c1
   have ht : tokS s = true := by unfold tokS; rw [c, c1]; rfl
   have e : (ByteArray.mk (Array.mk (List.map lowB s.data.toList))).size = s.size := by
    have := ig s
    rw [aR] at this
    exact this
   rw [e]
   exact Ay s hs ht
 · unfold tokS; rw [c]; rfl
def prX : List Value → Option Value
 | [.string s] => some (.tuple ⟨[.string (bif tokS s then prT s else aa []), .int .i64 (bif tokS s then 0 else 8)]⟩)
 | _ => none
theorem pw_tab : ∀ args A p v A', aj bg prX args A = some (p, v, A') → PH p → an envX 169 args A v A' := ai ag ah (fn := f169) rfl fun args v h hp => by
 unfold prX at h
 split at h
 · simp only [osI] at h
   subst h
   exact ⟨HF.cons (.scal rfl) HF.nil, vY _ hp⟩
 · cases h
def tabPq : Tab := [(209, aj bg trX), (210, aj bg smX)]
theorem ql : TabOk envX tabPq := .cons tr_tab (.cons sr_tab .nil)
def XPr : SX := ⟨envX, tabPq, elU, fun _ => .autoN [] [] [] [4, 5]⟩
theorem uk : XPr.Ok := ⟨ag, aw, ah, ql⟩
def frPr (n i : Nat) : T Value := (Nd (Nd Lf none (Nd Lf (some (.int .i64 i)) Lf)) none (Nd (Nd Lf (some (rowU n)) Lf) none Lf))
def jPr (K : KV) (s : SB) : Prop := ay XPr 4 f173 [.string s] ⟨.leaf, 0⟩ K
def jPr1 (K : KV) (again : KF) (n i : Nat) (els : List Value) : Prop := ax XPr 4 (Func.ntmps f173) ⟨.leaf, 0⟩ (ae f173) [1, 1, 1, 0, 1, 0] (finK XPr.E (f173.results).toList K) [] [] [] [4, 5] again (frPr n i) (hU els)
theorem jPr_nf (K : KV) (s : SB) : jPr K s = (s.size < 9223372036854775808 ∧ Sp (!tokS s) (K (Vt [Vs (ByteArray.mk ⟨[]⟩), Vi 8]) (AH.mk Lf 0)) (s.size < 9223372036854775808 ∧ HF (Va (List.map (fun (b : UInt8) => Value.int .u8 (↑(UInt8.toNat b) : Int)) (smS s).data.toList)) ∧ LAtZ XPr 4 f173.ntmps (AH.mk Lf 0) (ae f173) [1, 1, 1, 0, 1, 0] (finK (SX.E XPr) f173.results.toList K) (No (No Lf (Sg (Vi 0))) (No (Sg (Value.slice (some ⟨0, 0, none⟩) (ByteArray.size (ByteArray.mk (Array.mk (List.map lowB s.data.toList)))) 18446744073709551620)) Lf)) (AH.mk (Sg (AObj.gro (List.map (fun (b : UInt8) => Value.int .u8 (↑(UInt8.toNat b) : Int)) (smS s).data.toList) [] 5)) 1))) := by kernel_rfl
theorem xR (K : KV) (again : KF) (n i : Nat) (els : List Value) : jPr1 K again n i els = (Sp (decide ((i : Int) < (n : Int))) ((0 ≤ (i : Int) ∧ (i : Int) < (n : Int)) ∧ nth els (Int.toNat (↑(Int.toNat (i : Int) + 0) : Int)) = some (Value.int .u8 (aS els (↑(Int.toNat (i : Int) + 0) : Int))) ∧ Sp (decide (97 ≤ aS els (↑(Int.toNat (i : Int) + 0) : Int))) (Sp (decide (aS els (↑(Int.toNat (i : Int) + 0) : Int) ≤ 122)) (Sp (decide ((i : Int) = 0)) ((0 ≤ (i : Int) ∧ (i : Int) < (n : Int)) ∧ nth els (Int.toNat (↑(Int.toNat (i : Int) + 0) : Int)) = some (Value.int .u8 (aS els (↑(Int.toNat (i : Int) + 0) : Int))) ∧ (0 ≤ (i : Int) ∧ (i : Int) < (n : Int)) ∧ Int.toNat (↑(Int.toNat (i : Int) + 0) : Int) < List.length els ∧ HF (Va (List.set els (Int.toNat (↑(Int.toNat (i : Int) + 0) : Int)) (Value.int .u8 (IntKind.wrap .u8 (aS els (↑(Int.toNat (i : Int) + 0) : Int) - 32))))) ∧ again (No (No Lf (Sg (Vi (Wi ((i : Int) + 1))))) (No (Sg (Value.slice (some ⟨0, 0, none⟩) n 18446744073709551620)) Lf)) (AH.mk (Sg (AObj.gro (List.set els (Int.toNat (↑(Int.toNat (i : Int) + 0) : Int)) (Value.int .u8 (IntKind.wrap .u8 (aS els (↑(Int.toNat (i : Int) + 0) : Int) - 32)))) [] 5)) 1)) ((0 ≤ Wi ((i : Int) - 1) ∧ Wi ((i : Int) - 1) < (n : Int)) ∧ nth els (Int.toNat (↑(Int.toNat (Wi ((i : Int) - 1)) + 0) : Int)) = some (Value.int .u8 (aS els (↑(Int.toNat (Wi ((i : Int) - 1)) + 0) : Int))) ∧ Sp (decide (aS els (↑(Int.toNat (Wi ((i : Int) - 1)) + 0) : Int) = 45)) ((0 ≤ (i : Int) ∧ (i : Int) < (n : Int)) ∧ nth els (Int.toNat (↑(Int.toNat (i : Int) + 0) : Int)) = some (Value.int .u8 (aS els (↑(Int.toNat (i : Int) + 0) : Int))) ∧ (0 ≤ (i : Int) ∧ (i : Int) < (n : Int)) ∧ Int.toNat (↑(Int.toNat (i : Int) + 0) : Int) < List.length els ∧ HF (Va (List.set els (Int.toNat (↑(Int.toNat (i : Int) + 0) : Int)) (Value.int .u8 (IntKind.wrap .u8 (aS els (↑(Int.toNat (i : Int) + 0) : Int) - 32))))) ∧ again (No (No Lf (Sg (Vi (Wi ((i : Int) + 1))))) (No (Sg (Value.slice (some ⟨0, 0, none⟩) n 18446744073709551620)) Lf)) (AH.mk (Sg (AObj.gro (List.set els (Int.toNat (↑(Int.toNat (i : Int) + 0) : Int)) (Value.int .u8 (IntKind.wrap .u8 (aS els (↑(Int.toNat (i : Int) + 0) : Int) - 32)))) [] 5)) 1)) (HF (Va els) ∧ again (No (No Lf (Sg (Vi (Wi ((i : Int) + 1))))) (No (Sg (Value.slice (some ⟨0, 0, none⟩) n 18446744073709551620)) Lf)) (AH.mk (Sg (AObj.gro els [] 5)) 1)))) (HF (Va els) ∧ again (No (No Lf (Sg (Vi (Wi ((i : Int) + 1))))) (No (Sg (Value.slice (some ⟨0, 0, none⟩) n 18446744073709551620)) Lf)) (AH.mk (Sg (AObj.gro els [] 5)) 1))) (HF (Va els) ∧ again (No (No Lf (Sg (Vi (Wi ((i : Int) + 1))))) (No (Sg (Value.slice (some ⟨0, 0, none⟩) n 18446744073709551620)) Lf)) (AH.mk (Sg (AObj.gro els [] 5)) 1))) (IsB els 0 n ∧ K (Vt [Vs (aa (u8L els 0 n)), Vi 0]) (AH.mk (Sg (AObj.gro els [] 5)) 1))) := by kernel_rfl
theorem AA (s : SB) (hs : s.size < 9223372036854775808) (ht : tokS s = true) : LAtZ XPr 4 (Func.ntmps f173) ⟨.leaf, 0⟩ (ae f173) [1, 1, 1, 0, 1, 0] (finK XPr.E (f173.results).toList (fun v A => Frz A v (prV s))) (frPr s.size 0) (hU (u8v (smS s).data.toList)) := by
 have hl := ig s
 generalize hL : (smS s).data.toList = l at *
 refine LAtZ.step uk rfl [] [] [] [4, 5] (by kernel_rfl) (fun k F A => ∃ i : Nat, F = frPr s.size i ∧ A = hU (u8v (cpU l i)) ∧ i + k = s.size) ?_ (k := s.size) ⟨0, rfl, rfl, by omega⟩
 rintro k F A ⟨i, rfl, rfl, hk⟩
 refine (xR _ _ s.size i _).mpr ?_
 refine Sp.intro (fun c => ?_) (fun c => ?_)
 · have hlt : i < l.length := by have := odt c; omega
   have hw := i64s i (by omega)
   have hget := kj hlt
   have hcl := go (Nat.le_of_lt hlt)
   have hb := iS (l.getD i 0)
   simp only [Int.toNat_natCast, Nat.add_zero, kG hget, iT hget, hw, aY]
   have hset : (97 : Int) ≤ (l.getD i 0).toNat → ((l.getD i 0).toNat : Int) ≤ 122 → (i = 0 ∨ (l.getD (i - 1) 0).toNat = 45) → (0 ≤ (i : Int) ∧ (i : Int) < (s.size : Int)) ∧ True ∧ (0 ≤ (i : Int) ∧ (i : Int) < (s.size : Int)) ∧ i < (cpU l i).length ∧ HF (.agg ⟨(u8v (cpU l i)).set i (.int .u8 (IntKind.u8.wrap (((l.getD i 0).toNat : Int) - 32)))⟩) ∧ ∃ k', k' < k ∧ ∃ i2 : Nat, frPr s.size (i + 1) = frPr s.size i2 ∧ hU ((u8v (cpU l i)).set i (.int .u8 (IntKind.u8.wrap (((l.getD i 0).toNat : Int) - 32)))) = hU (u8v (cpU l i2)) ∧ i2 + k' = s.size := fun h1 h2 h3 => by
    have e : IntKind.u8.wrap (((l.getD i 0).toNat : Int) - 32) = ((cpAt l i).toNat : Int) := by
     rw [jG (by omega) (by omega)]
     unfold cpAt
     rw [if_pos ⟨by omega, by omega, h3⟩, cZ (by omega)]; omega
    rw [e, iR, ki hlt]
    exact ⟨by omega, trivial, by omega, by omega, .agg (aV _), k - 1, by omega, i + 1, rfl, rfl, by omega⟩
   have hsame : ¬ ((97 : Int) ≤ (l.getD i 0).toNat ∧ ((l.getD i 0).toNat : Int) ≤ 122 ∧ (i = 0 ∨ (l.getD (i - 1) 0).toNat = 45)) → HF (.agg ⟨u8v (cpU l i)⟩) ∧ ∃ k', k' < k ∧ ∃ i2 : Nat, frPr s.size (i + 1) = frPr s.size i2 ∧ hU (u8v (cpU l i)) = hU (u8v (cpU l i2)) ∧ i2 + k' = s.size := fun h => by
    have e : cpAt l i = l.getD i 0 := by unfold cpAt; rw [if_neg (fun q => h ⟨by omega, by omega, q.2.2⟩)]
    rw [lP hlt e]
    exact ⟨.agg (aV _), k - 1, by omega, i + 1, rfl, rfl, by omega⟩
   refine ⟨by omega, trivial, Sp.intro (fun c1 => Sp.intro (fun c2 => Sp.intro (fun c3 => ?_) (fun c3 => ?_)) (fun c2 => ?_)) (fun c1 => ?_)⟩
   · exact hset (odt c1) (odt c2) (.inl (by have := odt c3; omega))
   · have h0 : 0 < i := by have := odf c3; omega
     have hw2 : IntKind.i64.wrap ((i : Int) - 1) = ((i - 1 : Nat) : Int) := by rw [aB (by omega) (by omega)]; omega
     have hp := lQ h0 (Nat.le_of_lt hlt)
     simp only [hw2, Int.toNat_natCast, Nat.add_zero, kG hp, iT hp]
     refine ⟨by omega, trivial, Sp.intro (fun c4 => ?_) (fun c4 => ?_)⟩
     · exact hset (odt c1) (odt c2) (.inr ((sa l (i - 1)).1 (by have := odt c4; omega)))
     · refine hsame fun q => ?_
       have h4 := odf c4
       rcases q.2.2 with q | q
       · omega
       · exact h4 (by have := (sa l (i - 1)).2 q; omega)
   · exact hsame fun q => odf c2 q.2.1
   · exact hsame fun q => odf c1 q.1
 · have hge : i = l.length := by have := odf c; omega
   have h1 := dL (cpU l i)
   have h2 := u8_L (cpU l i)
   rw [aY, go (by omega), hl] at h1 h2
   refine ⟨h1, ?_⟩
   rw [h2, hge]
   unfold prV prT
   rw [ht, hL]
   exact .same (.tuple (HF.cons (.scal rfl) (HF.cons (.scal rfl) HF.nil)))
theorem v6 (s : SB) (hs : s.size < 9223372036854775808) : bt envX f173 [.string s] ⟨.leaf, 0⟩ (prV s) := by
 refine al uk (d := 4) ((jPr_nf _ s).mpr ?_)
 refine ⟨hs, Sp.intro (fun c1 => ?_) (fun c1 => ⟨hs, .agg (aV _), ?_⟩)⟩
 · have ht : tokS s = false := by simpa using c1
   unfold prV; rw [ht]
   exact .same (.tuple (HF.cons (.scal rfl) (HF.cons (.scal rfl) HF.nil)))
 · have ht : tokS s = true := by simpa using c1
   have e : (ByteArray.mk (Array.mk (List.map lowB s.data.toList))).size = s.size := by
    have := ig s
    rw [aR] at this
    exact this
   rw [e]
   exact AA s hs ht
theorem pr_tab : ∀ args A p v A', aj bg prX args A = some (p, v, A') → PH p → an envX 173 args A v A' := ai ag ah (fn := f173) rfl fun args v h hp => by
 unfold prX at h
 split at h
 · simp only [osI] at h
   subst h
   exact ⟨HF.cons (.scal rfl) HF.nil, v6 _ hp⟩
 · cases h
def tabHn : Tab := [(169, aj bg prX), (173, aj bg prX)]
theorem qr : TabOk envX tabHn := .cons pw_tab (.cons pr_tab .nil)
def XHn : SX := ⟨envX, tabHn, noEl, fun _ => .unroll 0⟩
theorem ur : XHn.Ok := ⟨ag, aw, ah, qr⟩
def jHn (K : KV) (s : SB) : Prop := sxFn XHn 2 f116 [.string s] K
def jIt (K : KV) (s : SB) : Prop := sxFn XHn 2 f121 [.string s] K
end
end Go.T9

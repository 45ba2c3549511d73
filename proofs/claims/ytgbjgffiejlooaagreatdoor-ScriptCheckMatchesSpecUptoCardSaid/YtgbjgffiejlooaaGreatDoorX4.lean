/- A part of the proof. -/
import Derived.Test.YtgbjgffiejlooaaGreatDoorX3
import Derived.KernelRfl
set_option linter.unusedVariables false
set_option linter.unusedSimpArgs false
set_option maxRecDepth 1000000
set_option maxHeartbeats 4000000
namespace Go.T9
open Go Go.AM Go.MK Go.Proofs.Tryz
noncomputable section
def XU : SX := ⟨envX, [], noEl, fun _ => .unroll 0⟩
theorem zn : XU.Ok := ⟨al, ax, am, .nil⟩
def jTk (K : KV) (c : Int) : Prop := sxFn XU 5 f267 [.int .u8 c] K
def XMf : SX := ⟨envX, [], noEl, fun _ => .auto [] [0, 5, 6]⟩
theorem uv : XMf.Ok := ⟨al, ax, am, .nil⟩
def frMf (s : SB) (i : Nat) : T Value := (Nd (Nd Lf none (Nd Lf (some (.int .i64 s.size)) Lf)) (some (.string s)) (Nd Lf none (Nd Lf (some (.int .i64 i)) Lf)))
def jMf (Q : Value → Prop) (QA : KV) (s : SB) : Prop := sxFn XMf 1 f115 [.string s] (ar Q QA)
def jMf1 (Q : Value → Prop) (QA : KV) (again : KF) (s : SB) (i : Nat) : Prop := bO XMf 1 f115 [1, 0, 1, 0] (ar Q QA) [] [0, 5, 6] again (frMf s i) ⟨.leaf, 0⟩
def XMr : SX := ⟨envX, [], noEl, fun _ => .auto [] [0, 3]⟩
theorem uu : XMr.Ok := ⟨al, ax, am, .nil⟩
def frMr (s : SB) (i : Nat) : T Value := (Nd (Nd (Nd Lf (some (.int .i64 i)) Lf) none Lf) (some (.string s)) Lf)
def jMr (Q : Value → Prop) (QA : KV) (s : SB) : Prop := sxFn XMr 1 f120 [.string s] (ar Q QA)
def jMr1 (Q : Value → Prop) (QA : KV) (again : KF) (s : SB) (i : Nat) : Prop := bO XMr 1 f120 [1, 0, 1, 0] (ar Q QA) [] [0, 3] again (frMr s i) ⟨.leaf, 0⟩
def XOn : SX := ⟨envX, [], noEl, fun _ => .auto [] [0, 1, 5]⟩
theorem ut : XOn.Ok := ⟨al, ax, am, .nil⟩
def frOn (s : SB) (c : Int) (i : Nat) : T Value := (Nd (Nd Lf (some (.int .u8 c)) (Nd Lf (some (.int .i64 i)) Lf)) (some (.string s)) Lf)
def jOn (Q : Value → Prop) (QA : KV) (s : SB) (c : Int) : Prop := sxFn XOn 1 f273 [.string s, .int .u8 c] (ar Q QA)
def jOn1 (Q : Value → Prop) (QA : KV) (again : KF) (s : SB) (c : Int) (i : Nat) : Prop := bO XOn 1 f273 [1, 0, 1, 0] (ar Q QA) [] [0, 1, 5] again (frOn s c i) ⟨.leaf, 0⟩
def elU : El := { El.of (fun sz t els i => some (.int .u8 (aV els i))) with app := true, gm := fun _ => true }
def hU (els : List Value) : AH := ⟨Nd Lf (some (.gro els [] 5)) Lf, 1⟩
def rowU (n : Nat) : Value := .slice (some ⟨0, 0, none⟩) n (unk + 3 + 1)
def XSm : SX := ⟨envX, [], elU, fun _ => .autoN [] [] [] [3, 8, 9, 10]⟩
theorem mo : XSm.Ok := ⟨al, ax, am, .nil⟩
def frSm (n i : Nat) : T Value := (Nd (Nd (Nd Lf (some (rowU n)) Lf) none (Nd (Nd Lf (some (.int .i64 n)) Lf) none Lf)) none (Nd (Nd (Nd Lf (some (rowU n)) Lf) none Lf) none (Nd (Nd Lf (some (.int .i64 i)) Lf) none Lf)))
def jSw (K : KV) (s : SB) : Prop := aG XSm 3 f201 [.string s] ⟨.leaf, 0⟩ K
def jSw1 (K : KV) (again : KF) (n i : Nat) (els : List Value) : Prop := au XSm 3 (Func.ntmps f201) ⟨.leaf, 0⟩ (ac f201) [1, 1, 0, 1, 0] (finK XSm.E (f201.results).toList K) [] [] [] [3, 8, 9, 10] again (frSm n i) (hU els)
def jSt (K : KV) (s : SB) : Prop := aG XSm 3 f174 [.string s] ⟨.leaf, 0⟩ K
def jSt1 (K : KV) (again : KF) (n i : Nat) (els : List Value) : Prop := au XSm 3 (Func.ntmps f174) ⟨.leaf, 0⟩ (ac f174) [1, 1, 0, 1, 0] (finK XSm.E (f174.results).toList K) [] [] [] [3, 8, 9, 10] again (frSm n i) (hU els)
def XSr : SX := ⟨envX, [], elU, fun _ => .autoN [] [] [] [3, 4]⟩
theorem un : XSr.Ok := ⟨al, ax, am, .nil⟩
def frSr (n i : Nat) : T Value := (Nd (Nd (Nd Lf (some (rowU n)) Lf) none Lf) none (Nd (Nd Lf (some (.int .i64 i)) Lf) none Lf))
def jSr (K : KV) (s : SB) : Prop := aG XSr 3 f210 [.string s] ⟨.leaf, 0⟩ K
def jSr1 (K : KV) (again : KF) (n i : Nat) (els : List Value) : Prop := au XSr 3 (Func.ntmps f210) ⟨.leaf, 0⟩ (ac f210) [1, 1, 0, 1, 0] (finK XSr.E (f210.results).toList K) [] [] [] [3, 4] again (frSr n i) (hU els)
theorem jTk_nf (K : KV) (c : Int) : jTk K c = (Sp (decide (97 ≤ c)) (Sp (decide (c ≤ 122)) (K (Vb true) (AH.mk Lf 0)) (Sp (decide (65 ≤ c)) (Sp (decide (c ≤ 90)) (K (Vb true) (AH.mk Lf 0)) (Sp (decide (48 ≤ c)) (Sp (decide (c ≤ 57)) (K (Vb true) (AH.mk Lf 0)) (K (Vb (decide (0 ≤ ixB (ByteArray.mk (Array.mk [(45 : UInt8), (95 : UInt8), (46 : UInt8), (33 : UInt8), (35 : UInt8), (36 : UInt8), (37 : UInt8), (38 : UInt8), (39 : UInt8), (42 : UInt8), (43 : UInt8), (94 : UInt8), (124 : UInt8), (126 : UInt8)])) c))) (AH.mk Lf 0))) (K (Vb (decide (0 ≤ ixB (ByteArray.mk (Array.mk [(45 : UInt8), (95 : UInt8), (46 : UInt8), (33 : UInt8), (35 : UInt8), (36 : UInt8), (37 : UInt8), (38 : UInt8), (39 : UInt8), (42 : UInt8), (43 : UInt8), (94 : UInt8), (124 : UInt8), (126 : UInt8)])) c))) (AH.mk Lf 0)))) (Sp (decide (48 ≤ c)) (Sp (decide (c ≤ 57)) (K (Vb true) (AH.mk Lf 0)) (K (Vb (decide (0 ≤ ixB (ByteArray.mk (Array.mk [(45 : UInt8), (95 : UInt8), (46 : UInt8), (33 : UInt8), (35 : UInt8), (36 : UInt8), (37 : UInt8), (38 : UInt8), (39 : UInt8), (42 : UInt8), (43 : UInt8), (94 : UInt8), (124 : UInt8), (126 : UInt8)])) c))) (AH.mk Lf 0))) (K (Vb (decide (0 ≤ ixB (ByteArray.mk (Array.mk [(45 : UInt8), (95 : UInt8), (46 : UInt8), (33 : UInt8), (35 : UInt8), (36 : UInt8), (37 : UInt8), (38 : UInt8), (39 : UInt8), (42 : UInt8), (43 : UInt8), (94 : UInt8), (124 : UInt8), (126 : UInt8)])) c))) (AH.mk Lf 0))))) (Sp (decide (65 ≤ c)) (Sp (decide (c ≤ 90)) (K (Vb true) (AH.mk Lf 0)) (Sp (decide (48 ≤ c)) (Sp (decide (c ≤ 57)) (K (Vb true) (AH.mk Lf 0)) (K (Vb (decide (0 ≤ ixB (ByteArray.mk (Array.mk [(45 : UInt8), (95 : UInt8), (46 : UInt8), (33 : UInt8), (35 : UInt8), (36 : UInt8), (37 : UInt8), (38 : UInt8), (39 : UInt8), (42 : UInt8), (43 : UInt8), (94 : UInt8), (124 : UInt8), (126 : UInt8)])) c))) (AH.mk Lf 0))) (K (Vb (decide (0 ≤ ixB (ByteArray.mk (Array.mk [(45 : UInt8), (95 : UInt8), (46 : UInt8), (33 : UInt8), (35 : UInt8), (36 : UInt8), (37 : UInt8), (38 : UInt8), (39 : UInt8), (42 : UInt8), (43 : UInt8), (94 : UInt8), (124 : UInt8), (126 : UInt8)])) c))) (AH.mk Lf 0)))) (Sp (decide (48 ≤ c)) (Sp (decide (c ≤ 57)) (K (Vb true) (AH.mk Lf 0)) (K (Vb (decide (0 ≤ ixB (ByteArray.mk (Array.mk [(45 : UInt8), (95 : UInt8), (46 : UInt8), (33 : UInt8), (35 : UInt8), (36 : UInt8), (37 : UInt8), (38 : UInt8), (39 : UInt8), (42 : UInt8), (43 : UInt8), (94 : UInt8), (124 : UInt8), (126 : UInt8)])) c))) (AH.mk Lf 0))) (K (Vb (decide (0 ≤ ixB (ByteArray.mk (Array.mk [(45 : UInt8), (95 : UInt8), (46 : UInt8), (33 : UInt8), (35 : UInt8), (36 : UInt8), (37 : UInt8), (38 : UInt8), (39 : UInt8), (42 : UInt8), (43 : UInt8), (94 : UInt8), (124 : UInt8), (126 : UInt8)])) c))) (AH.mk Lf 0))))) := by kernel_rfl
theorem jMf_nf (Q : Value → Prop) (QA : KV) (s : SB) : jMf Q QA s = (LAt XMf 1 f115.ntmps (ac f115) [1, 0, 1, 0] (finK (SX.E XMf) f115.results.toList (ar Q QA)) (Ns (No Lf (Sg (Vi s.size))) (Vs s) (No Lf (Sg (Vi 0)))) (AH.mk Lf 0)) := by kernel_rfl
theorem xo (Q : Value → Prop) (QA : KV) (again : KF) (s : SB) (i : Nat) : jMf1 Q QA again s i = (Sp (decide ((i : Int) < (s.size : Int))) ((0 ≤ (i : Int) ∧ (i : Int) < (s.size : Int)) ∧ Sp (decide (ae s (i : Int) < 65)) (Q (Vb false)) ((0 ≤ (i : Int) ∧ (i : Int) < (s.size : Int)) ∧ Sp (decide (90 < ae s i)) (Q (Vb false)) (again (Ns (No Lf (Sg (Vi s.size))) (Vs s) (No Lf (Sg (Vi (Wi ((i : Int) + 1)))))) (AH.mk Lf 0)))) (Sp (!eqL s.data.toList (ByteArray.mk #[]).data.toList) (Q (Vb (decide ((s.size : Int) ≤ 20)))) (Q (Vb false)))) := by kernel_rfl
theorem jMr_nf (Q : Value → Prop) (QA : KV) (s : SB) : jMr Q QA s = (LAt XMr 1 f120.ntmps (ac f120) [1, 0, 1, 0] (finK (SX.E XMr) f120.results.toList (ar Q QA)) (Ns (No (Sg (Vi 0)) Lf) (Vs s) Lf) (AH.mk Lf 0)) := by kernel_rfl
theorem xn (Q : Value → Prop) (QA : KV) (again : KF) (s : SB) (i : Nat) : jMr1 Q QA again s i = (Sp (decide ((i : Int) < (s.size : Int))) ((0 ≤ (i : Int) ∧ (i : Int) < (s.size : Int)) ∧ Sp (decide (ae s (i : Int) < 65)) (Q (Vb false)) ((0 ≤ (i : Int) ∧ (i : Int) < (s.size : Int)) ∧ Sp (decide (90 < ae s i)) (Q (Vb false)) (again (Ns (No (Sg (Vi (Wi ((i : Int) + 1)))) Lf) (Vs s) Lf) (AH.mk Lf 0)))) (Sp (decide (1 ≤ (s.size : Int))) (Q (Vb (decide ((s.size : Int) ≤ 20)))) (Q (Vb false)))) := by kernel_rfl
theorem jOn_nf (Q : Value → Prop) (QA : KV) (s : SB) (c : Int) : jOn Q QA s c = (LAt XOn 1 f273.ntmps (ac f273) [1, 0, 1, 0] (finK (SX.E XOn) f273.results.toList (ar Q QA)) (Ns (Ns Lf (Value.int .u8 c) (Sg (Vi 0))) (Vs s) Lf) (AH.mk Lf 0)) := by kernel_rfl
theorem xi (Q : Value → Prop) (QA : KV) (again : KF) (s : SB) (c : Int) (i : Nat) : jOn1 Q QA again s c i = (Sp (decide ((i : Int) < (s.size : Int))) ((0 ≤ (i : Int) ∧ (i : Int) < (s.size : Int)) ∧ Sp (decide (ae s (i : Int) = c)) (Q (Vb true)) (again (Ns (Ns Lf (Value.int .u8 c) (Sg (Vi (Wi ((i : Int) + 1))))) (Vs s) Lf) (AH.mk Lf 0))) (Q (Vb false))) := by kernel_rfl
theorem jSw_nf (K : KV) (s : SB) : jSw K s = (HF (Va (List.map (fun (b : UInt8) => Value.int .u8 (↑(UInt8.toNat b) : Int)) s.data.toList)) ∧ LAtZ XSm 3 f201.ntmps (AH.mk Lf 0) (ac f201) [1, 1, 0, 1, 0] (finK (SX.E XSm) f201.results.toList K) (No (No (Sg (Value.slice (some ⟨0, 0, none⟩) (s.size) 18446744073709551620)) (No (Sg (Vi s.size)) Lf)) (No (No (Sg (Value.slice (some ⟨0, 0, none⟩) (s.size) 18446744073709551620)) Lf) (No (Sg (Vi 0)) Lf))) (AH.mk (Sg (AObj.gro (List.map (fun (b : UInt8) => Value.int .u8 (↑(UInt8.toNat b) : Int)) s.data.toList) [] 5)) 1)) := by kernel_rfl
theorem wN (K : KV) (again : KF) (n i : Nat) (els : List Value) : jSw1 K again n i els = (Sp (decide ((i : Int) < (n : Int))) ((0 ≤ (i : Int) ∧ (i : Int) < (n : Int)) ∧ nth els (Int.toNat (↑(Int.toNat (i : Int) + 0) : Int)) = some (Value.int .u8 (aV els (↑(Int.toNat (i : Int) + 0) : Int))) ∧ Sp (decide (65 ≤ aV els (↑(Int.toNat (i : Int) + 0) : Int))) (Sp (decide (aV els (↑(Int.toNat (i : Int) + 0) : Int) ≤ 90)) ((0 ≤ (i : Int) ∧ (i : Int) < (n : Int)) ∧ Int.toNat (↑(Int.toNat (i : Int) + 0) : Int) < List.length els ∧ HF (Va (List.set els (Int.toNat (↑(Int.toNat (i : Int) + 0) : Int)) (Value.int .u8 (IntKind.wrap .u8 (IntKind.wrap .u8 (aV els (↑(Int.toNat (i : Int) + 0) : Int) + 97) - 65))))) ∧ again (No (No (Sg (Value.slice (some ⟨0, 0, none⟩) n 18446744073709551620)) (No (Sg (Vi n)) Lf)) (No (No (Sg (Value.slice (some ⟨0, 0, none⟩) n 18446744073709551620)) Lf) (No (Sg (Vi (Wi ((i : Int) + 1)))) Lf))) (AH.mk (Sg (AObj.gro (List.set els (Int.toNat (↑(Int.toNat (i : Int) + 0) : Int)) (Value.int .u8 (IntKind.wrap .u8 (IntKind.wrap .u8 (aV els (↑(Int.toNat (i : Int) + 0) : Int) + 97) - 65)))) [] 5)) 1)) (HF (Va els) ∧ again (No (No (Sg (Value.slice (some ⟨0, 0, none⟩) n 18446744073709551620)) (No (Sg (Vi n)) Lf)) (No (No (Sg (Value.slice (some ⟨0, 0, none⟩) n 18446744073709551620)) Lf) (No (Sg (Vi (Wi ((i : Int) + 1)))) Lf))) (AH.mk (Sg (AObj.gro els [] 5)) 1))) (HF (Va els) ∧ again (No (No (Sg (Value.slice (some ⟨0, 0, none⟩) n 18446744073709551620)) (No (Sg (Vi n)) Lf)) (No (No (Sg (Value.slice (some ⟨0, 0, none⟩) n 18446744073709551620)) Lf) (No (Sg (Vi (Wi ((i : Int) + 1)))) Lf))) (AH.mk (Sg (AObj.gro els [] 5)) 1))) (IsB els 0 n ∧ K (Vs (aa (u8L els 0 n))) (AH.mk (Sg (AObj.gro els [] 5)) 1))) := by kernel_rfl
theorem jSt_nf (K : KV) (s : SB) : jSt K s = (HF (Va (List.map (fun (b : UInt8) => Value.int .u8 (↑(UInt8.toNat b) : Int)) s.data.toList)) ∧ LAtZ XSm 3 f174.ntmps (AH.mk Lf 0) (ac f174) [1, 1, 0, 1, 0] (finK (SX.E XSm) f174.results.toList K) (No (No (Sg (Value.slice (some ⟨0, 0, none⟩) (s.size) 18446744073709551620)) (No (Sg (Vi s.size)) Lf)) (No (No (Sg (Value.slice (some ⟨0, 0, none⟩) (s.size) 18446744073709551620)) Lf) (No (Sg (Vi 0)) Lf))) (AH.mk (Sg (AObj.gro (List.map (fun (b : UInt8) => Value.int .u8 (↑(UInt8.toNat b) : Int)) s.data.toList) [] 5)) 1)) := by kernel_rfl
theorem wR (K : KV) (again : KF) (n i : Nat) (els : List Value) : jSt1 K again n i els = (Sp (decide ((i : Int) < (n : Int))) ((0 ≤ (i : Int) ∧ (i : Int) < (n : Int)) ∧ nth els (Int.toNat (↑(Int.toNat (i : Int) + 0) : Int)) = some (Value.int .u8 (aV els (↑(Int.toNat (i : Int) + 0) : Int))) ∧ Sp (decide (65 ≤ aV els (↑(Int.toNat (i : Int) + 0) : Int))) (Sp (decide (aV els (↑(Int.toNat (i : Int) + 0) : Int) ≤ 90)) ((0 ≤ (i : Int) ∧ (i : Int) < (n : Int)) ∧ Int.toNat (↑(Int.toNat (i : Int) + 0) : Int) < List.length els ∧ HF (Va (List.set els (Int.toNat (↑(Int.toNat (i : Int) + 0) : Int)) (Value.int .u8 (IntKind.wrap .u8 (aV els (↑(Int.toNat (i : Int) + 0) : Int) + 32))))) ∧ again (No (No (Sg (Value.slice (some ⟨0, 0, none⟩) n 18446744073709551620)) (No (Sg (Vi n)) Lf)) (No (No (Sg (Value.slice (some ⟨0, 0, none⟩) n 18446744073709551620)) Lf) (No (Sg (Vi (Wi ((i : Int) + 1)))) Lf))) (AH.mk (Sg (AObj.gro (List.set els (Int.toNat (↑(Int.toNat (i : Int) + 0) : Int)) (Value.int .u8 (IntKind.wrap .u8 (aV els (↑(Int.toNat (i : Int) + 0) : Int) + 32)))) [] 5)) 1)) (HF (Va els) ∧ again (No (No (Sg (Value.slice (some ⟨0, 0, none⟩) n 18446744073709551620)) (No (Sg (Vi n)) Lf)) (No (No (Sg (Value.slice (some ⟨0, 0, none⟩) n 18446744073709551620)) Lf) (No (Sg (Vi (Wi ((i : Int) + 1)))) Lf))) (AH.mk (Sg (AObj.gro els [] 5)) 1))) (HF (Va els) ∧ again (No (No (Sg (Value.slice (some ⟨0, 0, none⟩) n 18446744073709551620)) (No (Sg (Vi n)) Lf)) (No (No (Sg (Value.slice (some ⟨0, 0, none⟩) n 18446744073709551620)) Lf) (No (Sg (Vi (Wi ((i : Int) + 1)))) Lf))) (AH.mk (Sg (AObj.gro els [] 5)) 1))) (IsB els 0 n ∧ K (Vs (aa (u8L els 0 n))) (AH.mk (Sg (AObj.gro els [] 5)) 1))) := by kernel_rfl
theorem jSr_nf (K : KV) (s : SB) : jSr K s = (HF (Va (List.map (fun (b : UInt8) => Value.int .u8 (↑(UInt8.toNat b) : Int)) s.data.toList)) ∧ LAtZ XSr 3 f210.ntmps (AH.mk Lf 0) (ac f210) [1, 1, 0, 1, 0] (finK (SX.E XSr) f210.results.toList K) (No (No (Sg (Value.slice (some ⟨0, 0, none⟩) (s.size) 18446744073709551620)) Lf) (No (Sg (Vi 0)) Lf)) (AH.mk (Sg (AObj.gro (List.map (fun (b : UInt8) => Value.int .u8 (↑(UInt8.toNat b) : Int)) s.data.toList) [] 5)) 1)) := by kernel_rfl
theorem wS (K : KV) (again : KF) (n i : Nat) (els : List Value) : jSr1 K again n i els = (Sp (decide ((i : Int) < (n : Int))) ((0 ≤ (i : Int) ∧ (i : Int) < (n : Int)) ∧ nth els (Int.toNat (↑(Int.toNat (i : Int) + 0) : Int)) = some (Value.int .u8 (aV els (↑(Int.toNat (i : Int) + 0) : Int))) ∧ Sp (decide (65 ≤ aV els (↑(Int.toNat (i : Int) + 0) : Int))) (Sp (decide (aV els (↑(Int.toNat (i : Int) + 0) : Int) ≤ 90)) ((0 ≤ (i : Int) ∧ (i : Int) < (n : Int)) ∧ nth els (Int.toNat (↑(Int.toNat (i : Int) + 0) : Int)) = some (Value.int .u8 (aV els (↑(Int.toNat (i : Int) + 0) : Int))) ∧ (0 ≤ (i : Int) ∧ (i : Int) < (n : Int)) ∧ Int.toNat (↑(Int.toNat (i : Int) + 0) : Int) < List.length els ∧ HF (Va (List.set els (Int.toNat (↑(Int.toNat (i : Int) + 0) : Int)) (Value.int .u8 (IntKind.wrap .u8 (aV els (↑(Int.toNat (i : Int) + 0) : Int) + 32))))) ∧ again (No (No (Sg (Value.slice (some ⟨0, 0, none⟩) n 18446744073709551620)) Lf) (No (Sg (Vi (Wi ((i : Int) + 1)))) Lf)) (AH.mk (Sg (AObj.gro (List.set els (Int.toNat (↑(Int.toNat (i : Int) + 0) : Int)) (Value.int .u8 (IntKind.wrap .u8 (aV els (↑(Int.toNat (i : Int) + 0) : Int) + 32)))) [] 5)) 1)) (HF (Va els) ∧ again (No (No (Sg (Value.slice (some ⟨0, 0, none⟩) n 18446744073709551620)) Lf) (No (Sg (Vi (Wi ((i : Int) + 1)))) Lf)) (AH.mk (Sg (AObj.gro els [] 5)) 1))) (HF (Va els) ∧ again (No (No (Sg (Value.slice (some ⟨0, 0, none⟩) n 18446744073709551620)) Lf) (No (Sg (Vi (Wi ((i : Int) + 1)))) Lf)) (AH.mk (Sg (AObj.gro els [] 5)) 1))) (IsB els 0 n ∧ K (Vs (aa (u8L els 0 n))) (AH.mk (Sg (AObj.gro els [] 5)) 1))) := by kernel_rfl
theorem j0 {x : Int} (h0 : 0 ≤ x) (h1 : x < 256) : IntKind.u8.wrap x = x := by
 have e1 : (2 : Int) ^ IntKind.u8.bits = 256 := by decide
 have e3 : IntKind.u8.signed = false := rfl
 unfold IntKind.wrap
 rw [e1, e3]
 simp only [Bool.false_and, Bool.false_eq_true, if_false]
 exact Int.emod_eq_of_lt h0 h1
theorem kX {l : List UInt8} {i : Nat} (h : i < l.length) : nth (u8v l) i = some (.int .u8 (l[i].toNat : Int)) := by
 rw [aD]; simp [u8v, List.getElem?_eq_getElem h]
theorem uR {l : List UInt8} {i : Nat} (h : i < l.length) : aV (u8v l) (i : Int) = (l[i].toNat : Int) := by
 simp only [aV, Int.toNat_natCast, kX h]
theorem i7 (l : List UInt8) (i : Nat) (b : UInt8) : (u8v l).set i (.int .u8 (b.toNat : Int)) = u8v (l.set i b) := by
 unfold u8v; rw [List.map_set]
theorem db {n : Nat} (h : n < 256) : ((UInt8.ofNat n).toNat : Int) = (n : Int) := by
 have : (UInt8.ofNat n).toNat = n := by simp [UInt8.ofNat, UInt8.toNat]; omega
 omega
def lowB (b : UInt8) : UInt8 := if 65 ≤ b.toNat ∧ b.toNat ≤ 90 then UInt8.ofNat (b.toNat + 32) else b
def smS (s : SB) : SB := aa (s.data.toList.map lowB)
def smU (l : List UInt8) (i : Nat) : List UInt8 := (l.take i).map lowB ++ l.drop i
theorem cw (l : List UInt8) (i : Nat) : (smU l i).length = l.length := by unfold smU; rw [List.length_append, List.length_map, ← List.length_append, List.take_append_drop]
theorem lg {l : List UInt8} {i : Nat} (h : i < l.length) : (smU l i)[i]'(by rw [cw]; exact h) = l[i] := by
 have h1 : ((l.take i).map lowB).length = i := by rw [List.length_map, List.length_take]; omega
 have : (smU l i)[i]? = l[i]? := by
  unfold smU
  rw [List.getElem?_append_right (by omega), h1, Nat.sub_self, List.getElem?_drop, Nat.add_zero]
 rw [List.getElem?_eq_getElem (by rw [cw]; exact h), List.getElem?_eq_getElem h] at this
 exact Option.some.inj this
theorem iv {l : List UInt8} {i : Nat} (h : i < l.length) : (smU l i).set i (lowB l[i]) = smU l (i + 1) := by
 have h1 : ((l.take i).map lowB).length = i := by rw [List.length_map, List.length_take]; omega
 unfold smU
 rw [List.set_append, if_neg (by omega), h1, Nat.sub_self, List.drop_eq_getElem_cons h, List.set_cons_zero, List.take_succ_eq_append_getElem h, List.map_append, List.append_assoc]
 rfl
theorem dg {l : List UInt8} {i : Nat} (h : i < l.length) (e : lowB l[i] = l[i]) : smU l i = smU l (i + 1) := by
 rw [← iv h, e]
 have := lg h
 have h2 := @List.set_getElem_self _ (smU l i) i (by rw [cw]; exact h)
 rw [this] at h2
 exact h2.symm
theorem j7 (l : List UInt8) : smU l l.length = l.map lowB := by unfold smU; rw [List.take_length, List.drop_length, List.append_nil]
theorem km {b : UInt8} (h1 : (65 : Int) ≤ b.toNat) (h2 : (b.toNat : Int) ≤ 90) : ((lowB b).toNat : Int) = b.toNat + 32 := by
 unfold lowB; rw [if_pos ⟨by omega, by omega⟩, db (by omega)]; omega
theorem gY {b : UInt8} (h : ¬ ((65 : Int) ≤ b.toNat ∧ (b.toNat : Int) ≤ 90)) : lowB b = b := by
 unfold lowB; rw [if_neg (by omega)]
theorem i8 (b : UInt8) : b.toNat < 256 := b.toNat_lt
theorem zC (s : SB) (hs : s.size < 9223372036854775808) : LAtZ XSm 3 (Func.ntmps f201) ⟨.leaf, 0⟩ (ac f201) [1, 1, 0, 1, 0] (finK XSm.E (f201.results).toList (fun v A => Frz A v (.string (smS s)))) (frSm s.size 0) (hU (u8v s.data.toList)) := by
 have hl := aU s
 refine LAtZ.step mo rfl [] [] [] [3, 8, 9, 10] (by kernel_rfl) (fun k F A => ∃ i : Nat, F = frSm s.size i ∧ A = hU (u8v (smU s.data.toList i)) ∧ i + k = s.size) ?_ (k := s.size) ⟨0, rfl, rfl, by omega⟩
 rintro k F A ⟨i, rfl, rfl, hk⟩
 refine (wN _ _ s.size i _).mpr ?_
 refine Sp.intro (fun c => ?_) (fun c => ?_)
 · have hlt : i < s.data.toList.length := by have := odt c; omega
   have hw := i64s i (by omega)
   have hlt2 : i < (smU s.data.toList i).length := by rw [cw]; exact hlt
   have hb := i8 s.data.toList[i]
   have hat := lg hlt
   simp only [Int.toNat_natCast, Nat.add_zero, uR hlt2, kX hlt2, hat, hw, bf]
   refine ⟨by omega, trivial, Sp.intro (fun c1 => Sp.intro (fun c2 => ⟨by omega, hlt2, ?_⟩) (fun c2 => ⟨.agg (aY _), ?_⟩)) (fun c1 => ⟨.agg (aY _), ?_⟩)⟩
   · have c1 := odt c1
     have c2 := odt c2
     have e : IntKind.u8.wrap (IntKind.u8.wrap ((s.data.toList[i].toNat : Int) + 97) - 65) = ((lowB s.data.toList[i]).toNat : Int) := by
      rw [j0 (x := (s.data.toList[i].toNat : Int) + 97) (by omega) (by omega), j0 (by omega) (by omega), km c1 c2]; omega
     rw [e, i7, iv hlt]
     exact ⟨.agg (aY _), k - 1, by omega, i + 1, rfl, rfl, by omega⟩
   · have c2 := odf c2
     rw [dg hlt (gY (by omega))]
     exact ⟨k - 1, by omega, i + 1, rfl, rfl, by omega⟩
   · have c1 := odf c1
     rw [dg hlt (gY (by omega))]
     exact ⟨k - 1, by omega, i + 1, rfl, rfl, by omega⟩
 · have hge : i = s.data.toList.length := by have := odf c; omega
   have h1 := dN (smU s.data.toList i)
   have h2 := u8_L (smU s.data.toList i)
   rw [bf, cw, hl] at h1 h2
   refine ⟨h1, ?_⟩
   rw [h2, hge, j7]
   exact .same (.scal rfl)
theorem vk (s : SB) (hs : s.size < 9223372036854775808) : bx envX f201 [.string s] ⟨.leaf, 0⟩ (.string (smS s)) := by
 refine av mo (d := 3) ((jSw_nf _ s).mpr ⟨.agg (aY _), ?_⟩)
 exact zC s hs
def smX : List Value → Option Value
 | [.string s] => some (.string (smS s))
 | _ => none
theorem sw_tab : ∀ args A p v A', ai aW smX args A = some (p, v, A') → PH p → ap envX 201 args A v A' := aj al am (fn := f201) rfl fun args v h hp => by
 unfold smX at h
 split at h
 · simp only [osI] at h
   subst h
   exact ⟨HF.cons (.scal rfl) HF.nil, vk _ hp⟩
 · cases h
theorem zE (s : SB) (hs : s.size < 9223372036854775808) : LAtZ XSm 3 (Func.ntmps f174) ⟨.leaf, 0⟩ (ac f174) [1, 1, 0, 1, 0] (finK XSm.E (f174.results).toList (fun v A => Frz A v (.string (smS s)))) (frSm s.size 0) (hU (u8v s.data.toList)) := by
 have hl := aU s
 refine LAtZ.step mo rfl [] [] [] [3, 8, 9, 10] (by kernel_rfl) (fun k F A => ∃ i : Nat, F = frSm s.size i ∧ A = hU (u8v (smU s.data.toList i)) ∧ i + k = s.size) ?_ (k := s.size) ⟨0, rfl, rfl, by omega⟩
 rintro k F A ⟨i, rfl, rfl, hk⟩
 refine (wR _ _ s.size i _).mpr ?_
 refine Sp.intro (fun c => ?_) (fun c => ?_)
 · have hlt : i < s.data.toList.length := by have := odt c; omega
   have hw := i64s i (by omega)
   have hlt2 : i < (smU s.data.toList i).length := by rw [cw]; exact hlt
   have hb := i8 s.data.toList[i]
   have hat := lg hlt
   simp only [Int.toNat_natCast, Nat.add_zero, uR hlt2, kX hlt2, hat, hw, bf]
   refine ⟨by omega, trivial, Sp.intro (fun c1 => Sp.intro (fun c2 => ⟨by omega, hlt2, ?_⟩) (fun c2 => ⟨.agg (aY _), ?_⟩)) (fun c1 => ⟨.agg (aY _), ?_⟩)⟩
   · have c1 := odt c1
     have c2 := odt c2
     have e : IntKind.u8.wrap ((s.data.toList[i].toNat : Int) + 32) = ((lowB s.data.toList[i]).toNat : Int) := by
      rw [j0 (by omega) (by omega), km c1 c2]
     rw [e, i7, iv hlt]
     exact ⟨.agg (aY _), k - 1, by omega, i + 1, rfl, rfl, by omega⟩
   · have c2 := odf c2
     rw [dg hlt (gY (by omega))]
     exact ⟨k - 1, by omega, i + 1, rfl, rfl, by omega⟩
   · have c1 := odf c1
     rw [dg hlt (gY (by omega))]
     exact ⟨k - 1, by omega, i + 1, rfl, rfl, by omega⟩
 · have hge : i = s.data.toList.length := by have := odf c; omega
   have h1 := dN (smU s.data.toList i)
   have h2 := u8_L (smU s.data.toList i)
   rw [bf, cw, hl] at h1 h2
   refine ⟨h1, ?_⟩
   rw [h2, hge, j7]
   exact .same (.scal rfl)
theorem vu (s : SB) (hs : s.size < 9223372036854775808) : bx envX f174 [.string s] ⟨.leaf, 0⟩ (.string (smS s)) := by
 refine av mo (d := 3) ((jSt_nf _ s).mpr ⟨.agg (aY _), ?_⟩)
 exact zE s hs
theorem st_tab : ∀ args A p v A', ai aW smX args A = some (p, v, A') → PH p → ap envX 174 args A v A' := aj al am (fn := f174) rfl fun args v h hp => by
 unfold smX at h
 split at h
 · simp only [osI] at h
   subst h
   exact ⟨HF.cons (.scal rfl) HF.nil, vu _ hp⟩
 · cases h
theorem zF (s : SB) (hs : s.size < 9223372036854775808) : LAtZ XSr 3 (Func.ntmps f210) ⟨.leaf, 0⟩ (ac f210) [1, 1, 0, 1, 0] (finK XSr.E (f210.results).toList (fun v A => Frz A v (.string (smS s)))) (frSr s.size 0) (hU (u8v s.data.toList)) := by
 have hl := aU s
 refine LAtZ.step un rfl [] [] [] [3, 4] (by kernel_rfl) (fun k F A => ∃ i : Nat, F = frSr s.size i ∧ A = hU (u8v (smU s.data.toList i)) ∧ i + k = s.size) ?_ (k := s.size) ⟨0, rfl, rfl, by omega⟩
 rintro k F A ⟨i, rfl, rfl, hk⟩
 refine (wS _ _ s.size i _).mpr ?_
 refine Sp.intro (fun c => ?_) (fun c => ?_)
 · have hlt : i < s.data.toList.length := by have := odt c; omega
   have hw := i64s i (by omega)
   have hlt2 : i < (smU s.data.toList i).length := by rw [cw]; exact hlt
   have hb := i8 s.data.toList[i]
   have hat := lg hlt
   simp only [Int.toNat_natCast, Nat.add_zero, uR hlt2, kX hlt2, hat, hw, bf]
   refine ⟨by omega, trivial, Sp.intro (fun c1 => Sp.intro (fun c2 => ⟨by omega, trivial, by omega, hlt2, ?_⟩) (fun c2 => ⟨.agg (aY _), ?_⟩)) (fun c1 => ⟨.agg (aY _), ?_⟩)⟩
   · have c1 := odt c1
     have c2 := odt c2
     have e : IntKind.u8.wrap ((s.data.toList[i].toNat : Int) + 32) = ((lowB s.data.toList[i]).toNat : Int) := by
      rw [j0 (by omega) (by omega), km c1 c2]
     rw [e, i7, iv hlt]
     exact ⟨.agg (aY _), k - 1, by omega, i + 1, rfl, rfl, by omega⟩
   · have c2 := odf c2
     rw [dg hlt (gY (by omega))]
     exact ⟨k - 1, by omega, i + 1, rfl, rfl, by omega⟩
   · have c1 := odf c1
     rw [dg hlt (gY (by omega))]
     exact ⟨k - 1, by omega, i + 1, rfl, rfl, by omega⟩
 · have hge : i = s.data.toList.length := by have := odf c; omega
   have h1 := dN (smU s.data.toList i)
   have h2 := u8_L (smU s.data.toList i)
   rw [bf, cw, hl] at h1 h2
   refine ⟨h1, ?_⟩
   rw [h2, hge, j7]
   exact .same (.scal rfl)
theorem vy (s : SB) (hs : s.size < 9223372036854775808) : bx envX f210 [.string s] ⟨.leaf, 0⟩ (.string (smS s)) := by
 refine av un (d := 3) ((jSr_nf _ s).mpr ⟨.agg (aY _), ?_⟩)
 exact zF s hs
theorem sr_tab : ∀ args A p v A', ai aW smX args A = some (p, v, A') → PH p → ap envX 210 args A v A' := aj al am (fn := f210) rfl fun args v h hp => by
 unfold smX at h
 split at h
 · simp only [osI] at h
   subst h
   exact ⟨HF.cons (.scal rfl) HF.nil, vy _ hp⟩
 · cases h
def capB (b : UInt8) : Bool := decide (65 ≤ (b.toNat : Int)) && decide ((b.toNat : Int) ≤ 90)
def cL (s : SB) : Bool := s.data.toList.all capB && (decide (1 ≤ s.size) && decide (s.size ≤ 20))
theorem lG {s : SB} (h : s.data.toList.all capB = true) (h1 : ¬ s.size = 0) : cL s = decide ((s.size : Int) ≤ 20) := by
 unfold cL; rw [h, decide_eq_true (by omega : 1 ≤ s.size)]
 simp only [Bool.true_and]
 exact decide_eq_decide.2 (by omega)
theorem lF {s : SB} (h1 : s.size = 0) : cL s = false := by
 unfold cL; rw [decide_eq_false (by omega : ¬ 1 ≤ s.size)]; simp
theorem lH {s : SB} (h : s.data.toList.all capB = false) : cL s = false := by unfold cL; rw [h]; rfl
theorem gx (l : List UInt8) : eqL l [] = decide (l.length = 0) := by cases l <;> simp [eqL]
theorem zQ (Q : Value → Prop) (QA : KV) (s : SB) (hs : s.size < 9223372036854775808) (hQ : Q (.bool (cL s))) :
 LAt XMf 1 (Func.ntmps f115) (ac f115) [1, 0, 1, 0] (finK XMf.E (f115.results).toList (ar Q QA)) (frMf s 0) ⟨.leaf, 0⟩ := by
 have hsz := aU s
 refine LAt.stepA uv [] [0, 5, 6] (by kernel_rfl) (fun k F A => ∃ i : Nat, F = frMf s i ∧ A = ⟨.leaf, 0⟩ ∧ i + k = s.size ∧ s.data.toList.all capB = (s.data.toList.drop i).all capB) ?_ (k := s.size) ⟨0, rfl, rfl, by omega, by rw [List.drop_zero]⟩
 rintro k F A ⟨i, rfl, rfl, hk, hall⟩
 refine (xo _ _ _ s i).mpr ?_
 refine Sp.intro (fun c => ?_) (fun c => ?_)
 · have hl : i < s.data.toList.length := by have := odt c; omega
   have hw := i64s i (by omega)
   rw [List.drop_eq_getElem_cons hl, List.all_cons] at hall
   simp only [aL hl, hw]
   have hbad : capB s.data.toList[i] = false → Q (.bool false) := fun h => by
    rw [h] at hall
    rw [lH hall] at hQ; exact hQ
   refine ⟨by omega, Sp.intro (fun h => hbad ?_) (fun h => ⟨by omega, Sp.intro (fun h2 => hbad ?_) (fun h2 => ⟨k - 1, by omega, i + 1, rfl, by first | trivial | rfl, by omega, ?_⟩)⟩)⟩
   · have := odt h; unfold capB; rw [decide_eq_false (by omega)]; rfl
   · have := odt h2; unfold capB; rw [decide_eq_false (by omega : ¬ ((s.data.toList[i].toNat : Int) ≤ 90))]; simp
   · have h := odf h
     have h2 := odf h2
     have : capB s.data.toList[i] = true := by unfold capB; rw [decide_eq_true (by omega), decide_eq_true (by omega)]; rfl
     rw [this] at hall; exact hall
 · have hn : s.data.toList.drop i = [] := List.drop_eq_nil_of_le (by have := odf c; omega)
   rw [hn] at hall
   have hall : s.data.toList.all capB = true := hall
   have e0 : (ByteArray.mk #[]).data.toList = [] := rfl
   rw [e0, gx]
   refine Sp.intro (fun h => ?_) (fun h => ?_)
   · have h0 : ¬ s.size = 0 := by simp only [Bool.not_eq_true', decide_eq_false_iff_not] at h; omega
     rw [lG hall h0] at hQ; exact hQ
   · have h0 : s.size = 0 := by simp only [Bool.not_eq_false', decide_eq_true_eq] at h; omega
     rw [lF h0] at hQ; exact hQ
theorem wr (s : SB) (hs : s.size < 9223372036854775808) : Walk envX f115 [.string s] (.bool (cL s)) := by
 refine aK uv (d := 1) (HFb _) ((jMf_nf _ _ s).mpr ?_)
 exact zQ _ _ s hs rfl
def mfX : List Value → Option Value
 | [.string s] => some (.bool (cL s))
 | _ => none
theorem mf_tab : ∀ args A p v A', ai aW mfX args A = some (p, v, A') → PH p → ap envX 115 args A v A' := aj al am (fn := f115) rfl fun args v h hp => by
 unfold mfX at h
 split at h
 · simp only [osI] at h
   subst h
   exact ⟨HF.cons (.scal rfl) HF.nil, wr _ hp⟩
 · cases h
theorem zP (Q : Value → Prop) (QA : KV) (s : SB) (hs : s.size < 9223372036854775808) (hQ : Q (.bool (cL s))) :
 LAt XMr 1 (Func.ntmps f120) (ac f120) [1, 0, 1, 0] (finK XMr.E (f120.results).toList (ar Q QA)) (frMr s 0) ⟨.leaf, 0⟩ := by
 have hsz := aU s
 refine LAt.stepA uu [] [0, 3] (by kernel_rfl) (fun k F A => ∃ i : Nat, F = frMr s i ∧ A = ⟨.leaf, 0⟩ ∧ i + k = s.size ∧ s.data.toList.all capB = (s.data.toList.drop i).all capB) ?_ (k := s.size) ⟨0, rfl, rfl, by omega, by rw [List.drop_zero]⟩
 rintro k F A ⟨i, rfl, rfl, hk, hall⟩
 refine (xn _ _ _ s i).mpr ?_
 refine Sp.intro (fun c => ?_) (fun c => ?_)
 · have hl : i < s.data.toList.length := by have := odt c; omega
   have hw := i64s i (by omega)
   rw [List.drop_eq_getElem_cons hl, List.all_cons] at hall
   simp only [aL hl, hw]
   have hbad : capB s.data.toList[i] = false → Q (.bool false) := fun h => by
    rw [h] at hall
    rw [lH hall] at hQ; exact hQ
   refine ⟨by omega, Sp.intro (fun h => hbad ?_) (fun h => ⟨by omega, Sp.intro (fun h2 => hbad ?_) (fun h2 => ⟨k - 1, by omega, i + 1, rfl, by first | trivial | rfl, by omega, ?_⟩)⟩)⟩
   · have := odt h; unfold capB; rw [decide_eq_false (by omega)]; rfl
   · have := odt h2; unfold capB; rw [decide_eq_false (by omega : ¬ ((s.data.toList[i].toNat : Int) ≤ 90))]; simp
   · have h := odf h
     have h2 := odf h2
     have : capB s.data.toList[i] = true := by unfold capB; rw [decide_eq_true (by omega), decide_eq_true (by omega)]; rfl
     rw [this] at hall; exact hall
 · have hn : s.data.toList.drop i = [] := List.drop_eq_nil_of_le (by have := odf c; omega)
   rw [hn] at hall
   have hall : s.data.toList.all capB = true := hall
   refine Sp.intro (fun h => ?_) (fun h => ?_)
   · have h0 : ¬ s.size = 0 := by have := odt h; omega
     rw [lG hall h0] at hQ; exact hQ
   · have h0 : s.size = 0 := by have := odf h; omega
     rw [lF h0] at hQ; exact hQ
theorem wk (s : SB) (hs : s.size < 9223372036854775808) : Walk envX f120 [.string s] (.bool (cL s)) := by
 refine aK uu (d := 1) (HFb _) ((jMr_nf _ _ s).mpr ?_)
 exact zP _ _ s hs rfl
theorem mr_tab : ∀ args A p v A', ai aW mfX args A = some (p, v, A') → PH p → ap envX 120 args A v A' := aj al am (fn := f120) rfl fun args v h hp => by
 unfold mfX at h
 split at h
 · simp only [osI] at h
   subst h
   exact ⟨HF.cons (.scal rfl) HF.nil, wk _ hp⟩
 · cases h
def anyB (s : SB) (c : Int) : Bool := s.data.toList.any fun b => decide ((b.toNat : Int) = c)
theorem zN (Q : Value → Prop) (QA : KV) (s : SB) (c0 : Int) (hs : s.size < 9223372036854775808) (hQ : Q (.bool (anyB s c0))) :
 LAt XOn 1 (Func.ntmps f273) (ac f273) [1, 0, 1, 0] (finK XOn.E (f273.results).toList (ar Q QA)) (frOn s c0 0) ⟨.leaf, 0⟩ := by
 have hsz := aU s
 refine LAt.stepA ut [] [0, 1, 5] (by kernel_rfl) (fun k F A => ∃ i : Nat, F = frOn s c0 i ∧ A = ⟨.leaf, 0⟩ ∧ i + k = s.size ∧ anyB s c0 = (s.data.toList.drop i).any fun b => decide ((b.toNat : Int) = c0)) ?_ (k := s.size) ⟨0, rfl, rfl, by omega, by rw [List.drop_zero]; rfl⟩
 rintro k F A ⟨i, rfl, rfl, hk, hall⟩
 refine (xi _ _ _ s c0 i).mpr ?_
 refine Sp.intro (fun c => ?_) (fun c => ?_)
 · have hl : i < s.data.toList.length := by have := odt c; omega
   have hw := i64s i (by omega)
   rw [List.drop_eq_getElem_cons hl, List.any_cons] at hall
   simp only [aL hl, hw]
   refine ⟨by omega, Sp.intro (fun h => ?_) (fun h => ⟨k - 1, by omega, i + 1, rfl, by first | trivial | rfl, by omega, ?_⟩)⟩
   · rw [h] at hall; rw [hall] at hQ; exact hQ
   · rw [h] at hall; exact hall
 · have hn : s.data.toList.drop i = [] := List.drop_eq_nil_of_le (by have := odf c; omega)
   rw [hn] at hall
   rw [hall] at hQ; exact hQ
theorem v6 (s : SB) (c : Int) (hs : s.size < 9223372036854775808) : Walk envX f273 [.string s, .int .u8 c] (.bool (anyB s c)) := by
 refine aK ut (d := 1) (HFb _) ((jOn_nf _ _ s c).mpr ?_)
 exact zN _ _ s c hs rfl
def onX : List Value → Option Value
 | [.string s, .int .u8 c] => some (.bool (anyB s c))
 | _ => none
def onPre : List Value → Option Prop
 | [.string s, .int .u8 c] => some (s.size < 9223372036854775808)
 | _ => none
theorem on_tab : ∀ args A p v A', ai onPre onX args A = some (p, v, A') → PH p → ap envX 273 args A v A' := aj al am (fn := f273) rfl fun args v h hp => by
 unfold onX at h
 split at h
 · simp only [osI] at h
   subst h
   exact ⟨HF.cons (.scal rfl) (HF.cons (.scal rfl) HF.nil), v6 _ _ hp⟩
 · cases h
def setB : SB := ⟨⟨[45, 95, 46, 33, 35, 36, 37, 38, 39, 42, 43, 94, 124, 126]⟩⟩
def tkB (c : Int) : Bool := (lB c || dB c) || anyB setB c
theorem fe (c : UInt8) : ∀ (l : List UInt8) (k : Nat), (dI c l k).isSome = l.any fun b => decide ((b.toNat : Int) = (c.toNat : Int))
 | [], k => rfl
 | x :: l, k => by
   unfold dI
   rw [List.any_cons]
   cases h : Nat.beq x.toNat c.toNat with
   | true => rw [Nat.beq_eq] at h; rw [h, decide_eq_true rfl]; rfl
   | false =>
     have h' : ¬ x.toNat = c.toNat := fun q => by rw [← Nat.beq_eq, h] at q; cases q
     rw [decide_eq_false (by omega)]
     exact fe c l (k + 1)
theorem yi (s : SB) (b : UInt8) : decide (0 ≤ ixB s (b.toNat : Int)) = anyB s (b.toNat : Int) := by
 unfold ixB anyB
 have hb : ((b.toNat : Int).toNat.toUInt8) = b := by rw [Int.toNat_natCast]; exact UInt8.ofNat_toNat
 rw [hb, ← fe b s.data.toList 0]
 cases dI b s.data.toList 0 with
 | none => rfl
 | some i => exact decide_eq_true (by show (0 : Int) ≤ (i : Int); omega)
theorem uY (b : UInt8) : Walk envX f267 [.int .u8 (b.toNat : Int)] (.bool (tkB b.toNat)) := by
 refine bi zn (d := 5) ((jTk_nf _ _).mpr ?_)
 have e : decide (0 ≤ ixB (ByteArray.mk (Array.mk [45, 95, 46, 33, 35, 36, 37, 38, 39, 42, 43, 94, 124, 126])) (b.toNat : Int)) = anyB setB b.toNat := yi setB b
 rw [e]
 unfold tkB lB dB
 cases decide (97 ≤ (b.toNat : Int)) <;> cases decide ((b.toNat : Int) ≤ 122) <;> cases decide (65 ≤ (b.toNat : Int)) <;> cases decide ((b.toNat : Int) ≤ 90) <;> cases decide (48 ≤ (b.toNat : Int)) <;> cases decide ((b.toNat : Int) ≤ 57) <;> exact Frz.same (HFb _)
def tkX : List Value → Option Value
 | [.int .u8 c] => some (.bool (tkB c))
 | _ => none
def qo : List Value → Option Prop
 | [.int .u8 c] => some (∃ b : UInt8, c = b.toNat)
 | _ => none
theorem tk_tab : ∀ args A p v A', ai qo tkX args A = some (p, v, A') → PH p → ap envX 267 args A v A' := aj al am (fn := f267) rfl fun args v h hp => by
 unfold tkX at h
 split at h
 · simp only [osI] at h
   subst h
   obtain ⟨b, rfl⟩ := hp
   exact ⟨HF.cons (.scal rfl) HF.nil, uY b⟩
 · cases h
def tabTb : Tab := [(273, ai onPre onX)]
theorem qw : TabOk envX tabTb := .cons on_tab .nil
def XTb : SX := ⟨envX, tabTb, noEl, fun _ => .unroll 0⟩
theorem XTb_ok : XTb.Ok := ⟨al, ax, am, qw⟩
def jTb (K : KV) (c : Int) : Prop := sxFn XTb 5 f238 [.int .u8 c] K
def tabTo : Tab := [(267, ai qo tkX)]
theorem qt : TabOk envX tabTo := .cons tk_tab .nil
def XTo : SX := ⟨envX, tabTo, noEl, fun _ => .auto [] [0, 5, 6]⟩
theorem ui : XTo.Ok := ⟨al, ax, am, qt⟩
def jTo (Q : Value → Prop) (QA : KV) (s : SB) : Prop := sxFn XTo 1 f231 [.string s] (ar Q QA)
def jTo1 (Q : Value → Prop) (QA : KV) (again : KF) (s : SB) (i : Nat) : Prop := bO XTo 1 f231 [1, 0, 1, 0] (ar Q QA) [] [0, 5, 6] again (frMf s i) ⟨.leaf, 0⟩
theorem jTb_nf (K : KV) (c : Int) : jTb K c = (Sp (decide (65 ≤ c)) (Sp (decide (c ≤ 90)) (K (Vb true) (AH.mk Lf 0)) (Sp (decide (97 ≤ c)) (Sp (decide (c ≤ 122)) (K (Vb true) (AH.mk Lf 0)) (Sp (decide (48 ≤ c)) (Sp (decide (c ≤ 57)) (K (Vb true) (AH.mk Lf 0)) ((14 : Nat) < (9223372036854775808 : Nat) ∧ K (Vb (anyB (ByteArray.mk (Array.mk [(45 : UInt8), (95 : UInt8), (46 : UInt8), (33 : UInt8), (35 : UInt8), (36 : UInt8), (37 : UInt8), (38 : UInt8), (39 : UInt8), (42 : UInt8), (43 : UInt8), (94 : UInt8), (124 : UInt8), (126 : UInt8)])) c)) (AH.mk Lf 0))) ((14 : Nat) < (9223372036854775808 : Nat) ∧ K (Vb (anyB (ByteArray.mk (Array.mk [(45 : UInt8), (95 : UInt8), (46 : UInt8), (33 : UInt8), (35 : UInt8), (36 : UInt8), (37 : UInt8), (38 : UInt8), (39 : UInt8), (42 : UInt8), (43 : UInt8), (94 : UInt8), (124 : UInt8), (126 : UInt8)])) c)) (AH.mk Lf 0)))) (Sp (decide (48 ≤ c)) (Sp (decide (c ≤ 57)) (K (Vb true) (AH.mk Lf 0)) ((14 : Nat) < (9223372036854775808 : Nat) ∧ K (Vb (anyB (ByteArray.mk (Array.mk [(45 : UInt8), (95 : UInt8), (46 : UInt8), (33 : UInt8), (35 : UInt8), (36 : UInt8), (37 : UInt8), (38 : UInt8), (39 : UInt8), (42 : UInt8), (43 : UInt8), (94 : UInt8), (124 : UInt8), (126 : UInt8)])) c)) (AH.mk Lf 0))) ((14 : Nat) < (9223372036854775808 : Nat) ∧ K (Vb (anyB (ByteArray.mk (Array.mk [(45 : UInt8), (95 : UInt8), (46 : UInt8), (33 : UInt8), (35 : UInt8), (36 : UInt8), (37 : UInt8), (38 : UInt8), (39 : UInt8), (42 : UInt8), (43 : UInt8), (94 : UInt8), (124 : UInt8), (126 : UInt8)])) c)) (AH.mk Lf 0))))) (Sp (decide (97 ≤ c)) (Sp (decide (c ≤ 122)) (K (Vb true) (AH.mk Lf 0)) (Sp (decide (48 ≤ c)) (Sp (decide (c ≤ 57)) (K (Vb true) (AH.mk Lf 0)) ((14 : Nat) < (9223372036854775808 : Nat) ∧ K (Vb (anyB (ByteArray.mk (Array.mk [(45 : UInt8), (95 : UInt8), (46 : UInt8), (33 : UInt8), (35 : UInt8), (36 : UInt8), (37 : UInt8), (38 : UInt8), (39 : UInt8), (42 : UInt8), (43 : UInt8), (94 : UInt8), (124 : UInt8), (126 : UInt8)])) c)) (AH.mk Lf 0))) ((14 : Nat) < (9223372036854775808 : Nat) ∧ K (Vb (anyB (ByteArray.mk (Array.mk [(45 : UInt8), (95 : UInt8), (46 : UInt8), (33 : UInt8), (35 : UInt8), (36 : UInt8), (37 : UInt8), (38 : UInt8), (39 : UInt8), (42 : UInt8), (43 : UInt8), (94 : UInt8), (124 : UInt8), (126 : UInt8)])) c)) (AH.mk Lf 0)))) (Sp (decide (48 ≤ c)) (Sp (decide (c ≤ 57)) (K (Vb true) (AH.mk Lf 0)) ((14 : Nat) < (9223372036854775808 : Nat) ∧ K (Vb (anyB (ByteArray.mk (Array.mk [(45 : UInt8), (95 : UInt8), (46 : UInt8), (33 : UInt8), (35 : UInt8), (36 : UInt8), (37 : UInt8), (38 : UInt8), (39 : UInt8), (42 : UInt8), (43 : UInt8), (94 : UInt8), (124 : UInt8), (126 : UInt8)])) c)) (AH.mk Lf 0))) ((14 : Nat) < (9223372036854775808 : Nat) ∧ K (Vb (anyB (ByteArray.mk (Array.mk [(45 : UInt8), (95 : UInt8), (46 : UInt8), (33 : UInt8), (35 : UInt8), (36 : UInt8), (37 : UInt8), (38 : UInt8), (39 : UInt8), (42 : UInt8), (43 : UInt8), (94 : UInt8), (124 : UInt8), (126 : UInt8)])) c)) (AH.mk Lf 0))))) := by kernel_rfl
theorem jTo_nf (Q : Value → Prop) (QA : KV) (s : SB) : jTo Q QA s = (LAt XTo 1 f231.ntmps (ac f231) [1, 0, 1, 0] (finK (SX.E XTo) f231.results.toList (ar Q QA)) (Ns (No Lf (Sg (Vi s.size))) (Vs s) (No Lf (Sg (Vi 0)))) (AH.mk Lf 0)) := by kernel_rfl
theorem wL (Q : Value → Prop) (QA : KV) (again : KF) (s : SB) (i : Nat) : jTo1 Q QA again s i = (Sp (decide ((i : Int) < (s.size : Int))) ((0 ≤ (i : Int) ∧ (i : Int) < (s.size : Int)) ∧ (∃ (b : UInt8), ae s (i : Int) = (↑(UInt8.toNat b) : Int)) ∧ Sp (!tkB (ae s i)) (Q (Vb false)) (again (Ns (No Lf (Sg (Vi s.size))) (Vs s) (No Lf (Sg (Vi (Wi ((i : Int) + 1)))))) (AH.mk Lf 0))) (Q (Vb !eqL s.data.toList (ByteArray.mk #[]).data.toList))) := by kernel_rfl
theorem u5 (c : Int) : Walk envX f238 [.int .u8 c] (.bool (tkB c)) := by
 refine bi XTb_ok (d := 5) ((jTb_nf _ _).mpr ?_)
 have e : anyB (ByteArray.mk (Array.mk [45, 95, 46, 33, 35, 36, 37, 38, 39, 42, 43, 94, 124, 126])) c = anyB setB c := rfl
 rw [e]
 have h14 : (14 : Int) < 9223372036854775808 := by decide
 unfold tkB lB dB
 cases decide (97 ≤ c) <;> cases decide (c ≤ 122) <;> cases decide (65 ≤ c) <;> cases decide (c ≤ 90) <;> cases decide (48 ≤ c) <;> cases decide (c ≤ 57) <;> first | exact Frz.same (HFb _) | exact ⟨by decide, Frz.same (HFb _)⟩
theorem tb_tab : ∀ args A p v A', ai qo tkX args A = some (p, v, A') → PH p → ap envX 238 args A v A' := aj al am (fn := f238) rfl fun args v h hp => by
 unfold tkX at h
 split at h
 · simp only [osI] at h
   subst h
   exact ⟨HF.cons (.scal rfl) HF.nil, u5 _⟩
 · cases h
def tkL (s : SB) : Bool := s.data.toList.all fun b => tkB b.toNat
def tokA (s : SB) : Bool := tkL s && !eqL s.data.toList []
def tokS (s : SB) : Bool := decide (s.size ≤ 100) && tokA s
theorem zA (Q : Value → Prop) (QA : KV) (s : SB) (hs : s.size < 9223372036854775808) (hQ : Q (.bool (tokA s))) :
 LAt XTo 1 (Func.ntmps f231) (ac f231) [1, 0, 1, 0] (finK XTo.E (f231.results).toList (ar Q QA)) (frMf s 0) ⟨.leaf, 0⟩ := by
 have hsz := aU s
 refine LAt.stepA ui [] [0, 5, 6] (by kernel_rfl) (fun k F A => ∃ i : Nat, F = frMf s i ∧ A = ⟨.leaf, 0⟩ ∧ i + k = s.size ∧ tkL s = (s.data.toList.drop i).all fun b => tkB b.toNat) ?_ (k := s.size) ⟨0, rfl, rfl, by omega, by rw [List.drop_zero]; rfl⟩
 rintro k F A ⟨i, rfl, rfl, hk, hall⟩
 refine (wL _ _ _ s i).mpr ?_
 refine Sp.intro (fun c => ?_) (fun c => ?_)
 · have hl : i < s.data.toList.length := by have := odt c; omega
   have hw := i64s i (by omega)
   rw [List.drop_eq_getElem_cons hl, List.all_cons] at hall
   simp only [aL hl, hw]
   refine ⟨by omega, ⟨s.data.toList[i], rfl⟩, Sp.intro (fun h => ?_) (fun h => ⟨k - 1, by omega, i + 1, rfl, by first | trivial | rfl, by omega, ?_⟩)⟩
   · have h : tkB (s.data.toList[i].toNat : Int) = false := by simpa using h
     rw [h] at hall
     have : tokA s = false := by unfold tokA; rw [hall]; rfl
     rw [this] at hQ; exact hQ
   · have h : tkB (s.data.toList[i].toNat : Int) = true := by simpa using h
     rw [h] at hall; exact hall
 · have hn : s.data.toList.drop i = [] := List.drop_eq_nil_of_le (by have := odf c; omega)
   rw [hn] at hall
   have : tokA s = !eqL s.data.toList [] := by unfold tokA; rw [hall]; rfl
   rw [this] at hQ; exact hQ
theorem uW (s : SB) (hs : s.size < 9223372036854775808) : Walk envX f231 [.string s] (.bool (tokA s)) := by
 refine aK ui (d := 1) (HFb _) ((jTo_nf _ _ s).mpr ?_)
 exact zA _ _ s hs rfl
def toA : List Value → Option Value
 | [.string s] => some (.bool (tokA s))
 | _ => none
theorem to_tab : ∀ args A p v A', ai aW toA args A = some (p, v, A') → PH p → ap envX 231 args A v A' := aj al am (fn := f231) rfl fun args v h hp => by
 unfold toA at h
 split at h
 · simp only [osI] at h
   subst h
   exact ⟨HF.cons (.scal rfl) HF.nil, uW _ hp⟩
 · cases h
def tabTr : Tab := [(238, ai qo tkX)]
theorem qr : TabOk envX tabTr := .cons tb_tab .nil
def XTr : SX := ⟨envX, tabTr, noEl, fun _ => .auto [] [0, 3]⟩
theorem uh : XTr.Ok := ⟨al, ax, am, qr⟩
def jTr (Q : Value → Prop) (QA : KV) (s : SB) : Prop := sxFn XTr 1 f209 [.string s] (ar Q QA)
def jTr1 (Q : Value → Prop) (QA : KV) (again : KF) (s : SB) (i : Nat) : Prop := bO XTr 1 f209 [1, 0, 1, 0] (ar Q QA) [] [0, 3] again (frMr s i) ⟨.leaf, 0⟩
def tabPw : Tab := [(231, ai aW toA), (201, ai aW smX)]
theorem qB : TabOk envX tabPw := .cons to_tab (.cons sw_tab .nil)
def XPw : SX := ⟨envX, tabPw, elU, fun _ => .autoN [] [] [] [4, 13, 14, 15]⟩
theorem up : XPw.Ok := ⟨al, ax, am, qB⟩
def frPw (n i : Nat) : T Value := (Nd (Nd (Nd (Nd (Nd Lf (some (.int .i64 i)) Lf) none Lf) none Lf) none (Nd Lf none (Nd Lf (some (rowU n)) Lf))) none (Nd (Nd Lf (some (rowU n)) Lf) none (Nd Lf none (Nd Lf (some (.int .i64 n)) Lf))))
def jPw (K : KV) (s : SB) : Prop := aG XPw 4 f169 [.string s] ⟨.leaf, 0⟩ K
def jPw1 (K : KV) (again : KF) (n i : Nat) (els : List Value) : Prop := au XPw 4 (Func.ntmps f169) ⟨.leaf, 0⟩ (ac f169) [1, 1, 1, 0, 1, 0] (finK XPw.E (f169.results).toList K) [] [] [] [4, 13, 14, 15] again (frPw n i) (hU els)
theorem jTr_nf (Q : Value → Prop) (QA : KV) (s : SB) : jTr Q QA s = (LAt XTr 1 f209.ntmps (ac f209) [1, 0, 1, 0] (finK (SX.E XTr) f209.results.toList (ar Q QA)) (Ns (No (Sg (Vi 0)) Lf) (Vs s) Lf) (AH.mk Lf 0)) := by kernel_rfl
theorem wJ (Q : Value → Prop) (QA : KV) (again : KF) (s : SB) (i : Nat) : jTr1 Q QA again s i = (Sp (decide ((i : Int) < (s.size : Int))) ((0 ≤ (i : Int) ∧ (i : Int) < (s.size : Int)) ∧ (∃ (b : UInt8), ae s (i : Int) = (↑(UInt8.toNat b) : Int)) ∧ Sp (!tkB (ae s i)) (Q (Vb false)) (again (Ns (No (Sg (Vi (Wi ((i : Int) + 1)))) Lf) (Vs s) Lf) (AH.mk Lf 0))) (Sp (!eqL s.data.toList (ByteArray.mk #[]).data.toList) (Q (Vb (decide ((s.size : Int) ≤ 100)))) (Q (Vb false)))) := by kernel_rfl
theorem jPw_nf (K : KV) (s : SB) : jPw K s = (Sp (decide ((s.size : Int) ≤ 100)) (s.size < 9223372036854775808 ∧ Sp (!tokA s) (K (Vt [Vs (ByteArray.mk ⟨[]⟩), Vi 8]) (AH.mk Lf 0)) (s.size < 9223372036854775808 ∧ HF (Va (List.map (fun (b : UInt8) => Value.int .u8 (↑(UInt8.toNat b) : Int)) (smS s).data.toList)) ∧ LAtZ XPw 4 f169.ntmps (AH.mk Lf 0) (ac f169) [1, 1, 1, 0, 1, 0] (finK (SX.E XPw) f169.results.toList K) (No (No (No (No (Sg (Vi 0)) Lf) Lf) (No Lf (Sg (Value.slice (some ⟨0, 0, none⟩) (ByteArray.size (ByteArray.mk (Array.mk (List.map lowB s.data.toList)))) 18446744073709551620)))) (No (Sg (Value.slice (some ⟨0, 0, none⟩) (ByteArray.size (ByteArray.mk (Array.mk (List.map lowB s.data.toList)))) 18446744073709551620)) (No Lf (Sg (Vi (↑(ByteArray.size (ByteArray.mk (Array.mk (List.map lowB s.data.toList)))) : Int)))))) (AH.mk (Sg (AObj.gro (List.map (fun (b : UInt8) => Value.int .u8 (↑(UInt8.toNat b) : Int)) (smS s).data.toList) [] 5)) 1))) (K (Vt [Vs (ByteArray.mk ⟨[]⟩), Vi 8]) (AH.mk Lf 0))) := by kernel_rfl
theorem w9 (K : KV) (again : KF) (n i : Nat) (els : List Value) : jPw1 K again n i els = (Sp (decide ((i : Int) < (n : Int))) ((0 ≤ (i : Int) ∧ (i : Int) < (n : Int)) ∧ nth els (Int.toNat (↑(Int.toNat (i : Int) + 0) : Int)) = some (Value.int .u8 (aV els (↑(Int.toNat (i : Int) + 0) : Int))) ∧ Sp (decide (97 ≤ aV els (↑(Int.toNat (i : Int) + 0) : Int))) (Sp (decide (aV els (↑(Int.toNat (i : Int) + 0) : Int) ≤ 122)) (Sp (decide ((i : Int) = 0)) ((0 ≤ (i : Int) ∧ (i : Int) < (n : Int)) ∧ Int.toNat (↑(Int.toNat (i : Int) + 0) : Int) < List.length els ∧ HF (Va (List.set els (Int.toNat (↑(Int.toNat (i : Int) + 0) : Int)) (Value.int .u8 (IntKind.wrap .u8 (IntKind.wrap .u8 (aV els (↑(Int.toNat (i : Int) + 0) : Int) - 97) + 65))))) ∧ again (No (No (No (No (Sg (Vi (Wi ((i : Int) + 1)))) Lf) Lf) (No Lf (Sg (Value.slice (some ⟨0, 0, none⟩) n 18446744073709551620)))) (No (Sg (Value.slice (some ⟨0, 0, none⟩) n 18446744073709551620)) (No Lf (Sg (Vi n))))) (AH.mk (Sg (AObj.gro (List.set els (Int.toNat (↑(Int.toNat (i : Int) + 0) : Int)) (Value.int .u8 (IntKind.wrap .u8 (IntKind.wrap .u8 (aV els (↑(Int.toNat (i : Int) + 0) : Int) - 97) + 65)))) [] 5)) 1)) ((0 ≤ Wi ((i : Int) - 1) ∧ Wi ((i : Int) - 1) < (n : Int)) ∧ nth els (Int.toNat (↑(Int.toNat (Wi ((i : Int) - 1)) + 0) : Int)) = some (Value.int .u8 (aV els (↑(Int.toNat (Wi ((i : Int) - 1)) + 0) : Int))) ∧ Sp (decide (aV els (↑(Int.toNat (Wi ((i : Int) - 1)) + 0) : Int) = 45)) ((0 ≤ (i : Int) ∧ (i : Int) < (n : Int)) ∧ Int.toNat (↑(Int.toNat (i : Int) + 0) : Int) < List.length els ∧ HF (Va (List.set els (Int.toNat (↑(Int.toNat (i : Int) + 0) : Int)) (Value.int .u8 (IntKind.wrap .u8 (IntKind.wrap .u8 (aV els (↑(Int.toNat (i : Int) + 0) : Int) - 97) + 65))))) ∧ again (No (No (No (No (Sg (Vi (Wi ((i : Int) + 1)))) Lf) Lf) (No Lf (Sg (Value.slice (some ⟨0, 0, none⟩) n 18446744073709551620)))) (No (Sg (Value.slice (some ⟨0, 0, none⟩) n 18446744073709551620)) (No Lf (Sg (Vi n))))) (AH.mk (Sg (AObj.gro (List.set els (Int.toNat (↑(Int.toNat (i : Int) + 0) : Int)) (Value.int .u8 (IntKind.wrap .u8 (IntKind.wrap .u8 (aV els (↑(Int.toNat (i : Int) + 0) : Int) - 97) + 65)))) [] 5)) 1)) (HF (Va els) ∧ again (No (No (No (No (Sg (Vi (Wi ((i : Int) + 1)))) Lf) Lf) (No Lf (Sg (Value.slice (some ⟨0, 0, none⟩) n 18446744073709551620)))) (No (Sg (Value.slice (some ⟨0, 0, none⟩) n 18446744073709551620)) (No Lf (Sg (Vi n))))) (AH.mk (Sg (AObj.gro els [] 5)) 1)))) (HF (Va els) ∧ again (No (No (No (No (Sg (Vi (Wi ((i : Int) + 1)))) Lf) Lf) (No Lf (Sg (Value.slice (some ⟨0, 0, none⟩) n 18446744073709551620)))) (No (Sg (Value.slice (some ⟨0, 0, none⟩) n 18446744073709551620)) (No Lf (Sg (Vi n))))) (AH.mk (Sg (AObj.gro els [] 5)) 1))) (HF (Va els) ∧ again (No (No (No (No (Sg (Vi (Wi ((i : Int) + 1)))) Lf) Lf) (No Lf (Sg (Value.slice (some ⟨0, 0, none⟩) n 18446744073709551620)))) (No (Sg (Value.slice (some ⟨0, 0, none⟩) n 18446744073709551620)) (No Lf (Sg (Vi n))))) (AH.mk (Sg (AObj.gro els [] 5)) 1))) (IsB els 0 n ∧ K (Vt [Vs (aa (u8L els 0 n)), Vi 0]) (AH.mk (Sg (AObj.gro els [] 5)) 1))) := by kernel_rfl
theorem kZ {s : SB} (h : tkL s = false) : tokS s = false := by unfold tokS tokA; rw [h]; simp
theorem qn {s : SB} (h : tkL s = true) : tokS s = (decide (s.size ≤ 100) && !eqL s.data.toList []) := by unfold tokS tokA; rw [h]; rfl
theorem me (n : Nat) : decide ((n : Int) ≤ 100) = decide (n ≤ 100) := decide_eq_decide.2 (by omega)
theorem zy (Q : Value → Prop) (QA : KV) (s : SB) (hs : s.size < 9223372036854775808) (hQ : Q (.bool (tokS s))) :
 LAt XTr 1 (Func.ntmps f209) (ac f209) [1, 0, 1, 0] (finK XTr.E (f209.results).toList (ar Q QA)) (frMr s 0) ⟨.leaf, 0⟩ := by
 have hsz := aU s
 refine LAt.stepA uh [] [0, 3] (by kernel_rfl) (fun k F A => ∃ i : Nat, F = frMr s i ∧ A = ⟨.leaf, 0⟩ ∧ i + k = s.size ∧ tkL s = (s.data.toList.drop i).all fun b => tkB b.toNat) ?_ (k := s.size) ⟨0, rfl, rfl, by omega, by rw [List.drop_zero]; rfl⟩
 rintro k F A ⟨i, rfl, rfl, hk, hall⟩
 refine (wJ _ _ _ s i).mpr ?_
 refine Sp.intro (fun c => ?_) (fun c => ?_)
 · have hl : i < s.data.toList.length := by have := odt c; omega
   have hw := i64s i (by omega)
   rw [List.drop_eq_getElem_cons hl, List.all_cons] at hall
   simp only [aL hl, hw]
   refine ⟨by omega, ⟨s.data.toList[i], rfl⟩, Sp.intro (fun h => ?_) (fun h => ⟨k - 1, by omega, i + 1, rfl, by first | trivial | rfl, by omega, ?_⟩)⟩
   · have h : tkB (s.data.toList[i].toNat : Int) = false := by simpa using h
     rw [h] at hall
     rw [kZ hall] at hQ; exact hQ
   · have h : tkB (s.data.toList[i].toNat : Int) = true := by simpa using h
     rw [h] at hall; exact hall
 · have hn : s.data.toList.drop i = [] := List.drop_eq_nil_of_le (by have := odf c; omega)
   rw [hn] at hall
   rw [qn hall] at hQ
   have e0 : (ByteArray.mk #[]).data.toList = [] := rfl
   rw [e0, me]
   refine Sp.intro (fun h => ?_) (fun h => ?_)
   · rw [h, Bool.and_true] at hQ; exact hQ
   · rw [h, Bool.and_false] at hQ; exact hQ
theorem uT (s : SB) (hs : s.size < 9223372036854775808) : Walk envX f209 [.string s] (.bool (tokS s)) := by
 refine aK uh (d := 1) (HFb _) ((jTr_nf _ _ s).mpr ?_)
 exact zy _ _ s hs rfl
def trX : List Value → Option Value
 | [.string s] => some (.bool (tokS s))
 | _ => none
theorem tr_tab : ∀ args A p v A', ai aW trX args A = some (p, v, A') → PH p → ap envX 209 args A v A' := aj al am (fn := f209) rfl fun args v h hp => by
 unfold trX at h
 split at h
 · simp only [osI] at h
   subst h
   exact ⟨HF.cons (.scal rfl) HF.nil, uT _ hp⟩
 · cases h
def cpAt (l : List UInt8) (i : Nat) : UInt8 := if 97 ≤ (l.getD i 0).toNat ∧ (l.getD i 0).toNat ≤ 122 ∧ (i = 0 ∨ (l.getD (i - 1) 0).toNat = 45) then UInt8.ofNat ((l.getD i 0).toNat - 32) else l.getD i 0
def cpU (l : List UInt8) (i : Nat) : List UInt8 := (List.range i).map (cpAt l) ++ l.drop i
theorem gy {l : List UInt8} {i : Nat} (h : i ≤ l.length) : (cpU l i).length = l.length := by unfold cpU; rw [List.length_append, List.length_map, List.length_range, List.length_drop]; omega
theorem kH {l : List UInt8} {i : Nat} (h : i < l.length) : (cpU l i)[i]? = some (l.getD i 0) := by
 unfold cpU
 rw [List.getElem?_append_right (by simp), List.length_map, List.length_range, Nat.sub_self, List.getElem?_drop, Nat.add_zero, List.getD_eq_getElem?_getD, List.getElem?_eq_getElem h]; rfl
theorem mg {l : List UInt8} {i : Nat} (h : 0 < i) (h2 : i ≤ l.length) : (cpU l i)[i - 1]? = some (cpAt l (i - 1)) := by
 unfold cpU
 rw [List.getElem?_append_left (by simp; omega), List.getElem?_map, List.getElem?_range (by omega)]; rfl
theorem kG {l : List UInt8} {i : Nat} (h : i < l.length) : (cpU l i).set i (cpAt l i) = cpU l (i + 1) := by
 unfold cpU
 rw [List.set_append, if_neg (by simp), List.length_map, List.length_range, Nat.sub_self, List.drop_eq_getElem_cons h, List.set_cons_zero, List.range_succ, List.map_append, List.append_assoc]
 rfl
theorem mf {l : List UInt8} {i : Nat} (h : i < l.length) (e : cpAt l i = l.getD i 0) : cpU l i = cpU l (i + 1) := by
 rw [← kG h, e]
 have h1 := kH h
 have hl : i < (cpU l i).length := by rw [gy (Nat.le_of_lt h)]; exact h
 rw [List.getElem?_eq_getElem hl] at h1
 have h2 := @List.set_getElem_self _ (cpU l i) i hl
 rw [Option.some.inj h1] at h2
 exact h2.symm
theorem su (l : List UInt8) (i : Nat) : (cpAt l i).toNat = 45 ↔ (l.getD i 0).toNat = 45 := by
 unfold cpAt
 split
 · rename_i h
   have : (UInt8.ofNat ((l.getD i 0).toNat - 32)).toNat = (l.getD i 0).toNat - 32 := by
    have := db (n := (l.getD i 0).toNat - 32) (by have := i8 (l.getD i 0); omega); omega
   omega
 · exact Iff.rfl
theorem i9 {l : List UInt8} {i : Nat} {b : UInt8} (h : l[i]? = some b) : nth (u8v l) i = some (.int .u8 (b.toNat : Int)) := by
 rw [aD]; simp [u8v, h]
theorem kY {l : List UInt8} {i : Nat} {b : UInt8} (h : l[i]? = some b) : aV (u8v l) (i : Int) = (b.toNat : Int) := by
 simp only [aV, Int.toNat_natCast, i9 h]
def prT (s : SB) : SB := aa (cpU (smS s).data.toList (smS s).data.toList.length)
theorem iw (s : SB) : (smS s).data.toList.length = s.size := by
 have : (smS s).data.toList = s.data.toList.map lowB := iL _
 rw [this, List.length_map]; exact aU s
def prV (s : SB) : Value := .tuple ⟨[.string (bif tokS s then prT s else aa []), .int .i64 (bif tokS s then 0 else 8)]⟩
theorem zI (s : SB) (hs : s.size < 9223372036854775808) (ht : tokS s = true) : LAtZ XPw 4 (Func.ntmps f169) ⟨.leaf, 0⟩ (ac f169) [1, 1, 1, 0, 1, 0] (finK XPw.E (f169.results).toList (fun v A => Frz A v (prV s))) (frPw s.size 0) (hU (u8v (smS s).data.toList)) := by
 have hl := iw s
 generalize hL : (smS s).data.toList = l at *
 refine LAtZ.step up rfl [] [] [] [4, 13, 14, 15] (by kernel_rfl) (fun k F A => ∃ i : Nat, F = frPw s.size i ∧ A = hU (u8v (cpU l i)) ∧ i + k = s.size) ?_ (k := s.size) ⟨0, rfl, rfl, by omega⟩
 rintro k F A ⟨i, rfl, rfl, hk⟩
 refine (w9 _ _ s.size i _).mpr ?_
 refine Sp.intro (fun c => ?_) (fun c => ?_)
 · have hlt : i < l.length := by have := odt c; omega
   have hw := i64s i (by omega)
   have hget := kH hlt
   have hcl := gy (Nat.le_of_lt hlt)
   have hb := i8 (l.getD i 0)
   simp only [Int.toNat_natCast, Nat.add_zero, kY hget, i9 hget, hw, bf]
   have hset : (97 : Int) ≤ (l.getD i 0).toNat → ((l.getD i 0).toNat : Int) ≤ 122 → (i = 0 ∨ (l.getD (i - 1) 0).toNat = 45) → (0 ≤ (i : Int) ∧ (i : Int) < (s.size : Int)) ∧ i < (cpU l i).length ∧ HF (.agg ⟨(u8v (cpU l i)).set i (.int .u8 (IntKind.u8.wrap (IntKind.u8.wrap (((l.getD i 0).toNat : Int) - 97) + 65)))⟩) ∧ ∃ k', k' < k ∧ ∃ i2 : Nat, frPw s.size (i + 1) = frPw s.size i2 ∧ hU ((u8v (cpU l i)).set i (.int .u8 (IntKind.u8.wrap (IntKind.u8.wrap (((l.getD i 0).toNat : Int) - 97) + 65)))) = hU (u8v (cpU l i2)) ∧ i2 + k' = s.size := fun h1 h2 h3 => by
    have e : IntKind.u8.wrap (IntKind.u8.wrap (((l.getD i 0).toNat : Int) - 97) + 65) = ((cpAt l i).toNat : Int) := by
     rw [j0 (x := ((l.getD i 0).toNat : Int) - 97) (by omega) (by omega), j0 (by omega) (by omega)]
     unfold cpAt
     rw [if_pos ⟨by omega, by omega, h3⟩, db (by omega)]; omega
    rw [e, i7, kG hlt]
    exact ⟨by omega, by omega, .agg (aY _), k - 1, by omega, i + 1, rfl, rfl, by omega⟩
   have hsame : ¬ ((97 : Int) ≤ (l.getD i 0).toNat ∧ ((l.getD i 0).toNat : Int) ≤ 122 ∧ (i = 0 ∨ (l.getD (i - 1) 0).toNat = 45)) → HF (.agg ⟨u8v (cpU l i)⟩) ∧ ∃ k', k' < k ∧ ∃ i2 : Nat, frPw s.size (i + 1) = frPw s.size i2 ∧ hU (u8v (cpU l i)) = hU (u8v (cpU l i2)) ∧ i2 + k' = s.size := fun h => by
    have e : cpAt l i = l.getD i 0 := by unfold cpAt; rw [if_neg (fun q => h ⟨by omega, by omega, q.2.2⟩)]
    rw [mf hlt e]
    exact ⟨.agg (aY _), k - 1, by omega, i + 1, rfl, rfl, by omega⟩
   refine ⟨by omega, trivial, Sp.intro (fun c1 => Sp.intro (fun c2 => Sp.intro (fun c3 => ?_) (fun c3 => ?_)) (fun c2 => ?_)) (fun c1 => ?_)⟩
   · exact hset (odt c1) (odt c2) (.inl (by have := odt c3; omega))
   · have h0 : 0 < i := by have := odf c3; omega
     have hw2 : IntKind.i64.wrap ((i : Int) - 1) = ((i - 1 : Nat) : Int) := by rw [aM (by omega) (by omega)]; omega
     have hp := mg h0 (Nat.le_of_lt hlt)
     simp only [hw2, Int.toNat_natCast, Nat.add_zero, kY hp, i9 hp]
     refine ⟨by omega, trivial, Sp.intro (fun c4 => ?_) (fun c4 => ?_)⟩
     · exact hset (odt c1) (odt c2) (.inr ((su l (i - 1)).1 (by have := odt c4; omega)))
     · refine hsame fun q => ?_
       have h4 := odf c4
       rcases q.2.2 with q | q
       · omega
       · exact h4 (by have := (su l (i - 1)).2 q; omega)
   · exact hsame fun q => odf c2 q.2.1
   · exact hsame fun q => odf c1 q.1
 · have hge : i = l.length := by have := odf c; omega
   have h1 := dN (cpU l i)
   have h2 := u8_L (cpU l i)
   rw [bf, gy (by omega), hl] at h1 h2
   refine ⟨h1, ?_⟩
   rw [h2, hge]
   unfold prV prT
   rw [ht, hL]
   exact .same (.tuple (HF.cons (.scal rfl) (HF.cons (.scal rfl) HF.nil)))
theorem vP (s : SB) (hs : s.size < 9223372036854775808) : bx envX f169 [.string s] ⟨.leaf, 0⟩ (prV s) := by
 refine av up (d := 4) ((jPw_nf _ s).mpr ?_)
 have hbad : tokS s = false → ∀ A, Frz A (.tuple ⟨[.string (aa []), .int .i64 8]⟩) (prV s) := fun h A => by
  unfold prV; rw [h]
  exact .same (.tuple (HF.cons (.scal rfl) (HF.cons (.scal rfl) HF.nil)))
 rw [me]
 refine Sp.intro (fun c => ⟨hs, Sp.intro (fun c1 => hbad ?_ _) (fun c1 => ⟨hs, .agg (aY _), ?_⟩)⟩) (fun c => hbad ?_ _)
 · have c1 : tokA s = false := by simpa using c1
   unfold tokS; rw [c, c1]; rfl
 · have c1 : tokA s = true := by simpa using c1
   have ht : tokS s = true := by unfold tokS; rw [c, c1]; rfl
   have e : (ByteArray.mk (Array.mk (List.map lowB s.data.toList))).size = s.size := by
    have := iw s
    rw [aU] at this
    exact this
   rw [e]
   exact zI s hs ht
 · unfold tokS; rw [c]; rfl
def prX : List Value → Option Value
 | [.string s] => some (.tuple ⟨[.string (bif tokS s then prT s else aa []), .int .i64 (bif tokS s then 0 else 8)]⟩)
 | _ => none
theorem pw_tab : ∀ args A p v A', ai aW prX args A = some (p, v, A') → PH p → ap envX 169 args A v A' := aj al am (fn := f169) rfl fun args v h hp => by
 unfold prX at h
 split at h
 · simp only [osI] at h
   subst h
   exact ⟨HF.cons (.scal rfl) HF.nil, vP _ hp⟩
 · cases h
def tabPq : Tab := [(209, ai aW trX), (210, ai aW smX)]
theorem qD : TabOk envX tabPq := .cons tr_tab (.cons sr_tab .nil)
def XPr : SX := ⟨envX, tabPq, elU, fun _ => .autoN [] [] [] [4, 5]⟩
theorem ur : XPr.Ok := ⟨al, ax, am, qD⟩
def frPr (n i : Nat) : T Value := (Nd (Nd Lf none (Nd Lf (some (.int .i64 i)) Lf)) none (Nd (Nd Lf (some (rowU n)) Lf) none Lf))
def jPr (K : KV) (s : SB) : Prop := aG XPr 4 f173 [.string s] ⟨.leaf, 0⟩ K
def jPr1 (K : KV) (again : KF) (n i : Nat) (els : List Value) : Prop := au XPr 4 (Func.ntmps f173) ⟨.leaf, 0⟩ (ac f173) [1, 1, 1, 0, 1, 0] (finK XPr.E (f173.results).toList K) [] [] [] [4, 5] again (frPr n i) (hU els)
theorem jPr_nf (K : KV) (s : SB) : jPr K s = (s.size < 9223372036854775808 ∧ Sp (!tokS s) (K (Vt [Vs (ByteArray.mk ⟨[]⟩), Vi 8]) (AH.mk Lf 0)) (s.size < 9223372036854775808 ∧ HF (Va (List.map (fun (b : UInt8) => Value.int .u8 (↑(UInt8.toNat b) : Int)) (smS s).data.toList)) ∧ LAtZ XPr 4 f173.ntmps (AH.mk Lf 0) (ac f173) [1, 1, 1, 0, 1, 0] (finK (SX.E XPr) f173.results.toList K) (No (No Lf (Sg (Vi 0))) (No (Sg (Value.slice (some ⟨0, 0, none⟩) (ByteArray.size (ByteArray.mk (Array.mk (List.map lowB s.data.toList)))) 18446744073709551620)) Lf)) (AH.mk (Sg (AObj.gro (List.map (fun (b : UInt8) => Value.int .u8 (↑(UInt8.toNat b) : Int)) (smS s).data.toList) [] 5)) 1))) := by kernel_rfl
theorem xd (K : KV) (again : KF) (n i : Nat) (els : List Value) : jPr1 K again n i els = (Sp (decide ((i : Int) < (n : Int))) ((0 ≤ (i : Int) ∧ (i : Int) < (n : Int)) ∧ nth els (Int.toNat (↑(Int.toNat (i : Int) + 0) : Int)) = some (Value.int .u8 (aV els (↑(Int.toNat (i : Int) + 0) : Int))) ∧ Sp (decide (97 ≤ aV els (↑(Int.toNat (i : Int) + 0) : Int))) (Sp (decide (aV els (↑(Int.toNat (i : Int) + 0) : Int) ≤ 122)) (Sp (decide ((i : Int) = 0)) ((0 ≤ (i : Int) ∧ (i : Int) < (n : Int)) ∧ nth els (Int.toNat (↑(Int.toNat (i : Int) + 0) : Int)) = some (Value.int .u8 (aV els (↑(Int.toNat (i : Int) + 0) : Int))) ∧ (0 ≤ (i : Int) ∧ (i : Int) < (n : Int)) ∧ Int.toNat (↑(Int.toNat (i : Int) + 0) : Int) < List.length els ∧ HF (Va (List.set els (Int.toNat (↑(Int.toNat (i : Int) + 0) : Int)) (Value.int .u8 (IntKind.wrap .u8 (aV els (↑(Int.toNat (i : Int) + 0) : Int) - 32))))) ∧ again (No (No Lf (Sg (Vi (Wi ((i : Int) + 1))))) (No (Sg (Value.slice (some ⟨0, 0, none⟩) n 18446744073709551620)) Lf)) (AH.mk (Sg (AObj.gro (List.set els (Int.toNat (↑(Int.toNat (i : Int) + 0) : Int)) (Value.int .u8 (IntKind.wrap .u8 (aV els (↑(Int.toNat (i : Int) + 0) : Int) - 32)))) [] 5)) 1)) ((0 ≤ Wi ((i : Int) - 1) ∧ Wi ((i : Int) - 1) < (n : Int)) ∧ nth els (Int.toNat (↑(Int.toNat (Wi ((i : Int) - 1)) + 0) : Int)) = some (Value.int .u8 (aV els (↑(Int.toNat (Wi ((i : Int) - 1)) + 0) : Int))) ∧ Sp (decide (aV els (↑(Int.toNat (Wi ((i : Int) - 1)) + 0) : Int) = 45)) ((0 ≤ (i : Int) ∧ (i : Int) < (n : Int)) ∧ nth els (Int.toNat (↑(Int.toNat (i : Int) + 0) : Int)) = some (Value.int .u8 (aV els (↑(Int.toNat (i : Int) + 0) : Int))) ∧ (0 ≤ (i : Int) ∧ (i : Int) < (n : Int)) ∧ Int.toNat (↑(Int.toNat (i : Int) + 0) : Int) < List.length els ∧ HF (Va (List.set els (Int.toNat (↑(Int.toNat (i : Int) + 0) : Int)) (Value.int .u8 (IntKind.wrap .u8 (aV els (↑(Int.toNat (i : Int) + 0) : Int) - 32))))) ∧ again (No (No Lf (Sg (Vi (Wi ((i : Int) + 1))))) (No (Sg (Value.slice (some ⟨0, 0, none⟩) n 18446744073709551620)) Lf)) (AH.mk (Sg (AObj.gro (List.set els (Int.toNat (↑(Int.toNat (i : Int) + 0) : Int)) (Value.int .u8 (IntKind.wrap .u8 (aV els (↑(Int.toNat (i : Int) + 0) : Int) - 32)))) [] 5)) 1)) (HF (Va els) ∧ again (No (No Lf (Sg (Vi (Wi ((i : Int) + 1))))) (No (Sg (Value.slice (some ⟨0, 0, none⟩) n 18446744073709551620)) Lf)) (AH.mk (Sg (AObj.gro els [] 5)) 1)))) (HF (Va els) ∧ again (No (No Lf (Sg (Vi (Wi ((i : Int) + 1))))) (No (Sg (Value.slice (some ⟨0, 0, none⟩) n 18446744073709551620)) Lf)) (AH.mk (Sg (AObj.gro els [] 5)) 1))) (HF (Va els) ∧ again (No (No Lf (Sg (Vi (Wi ((i : Int) + 1))))) (No (Sg (Value.slice (some ⟨0, 0, none⟩) n 18446744073709551620)) Lf)) (AH.mk (Sg (AObj.gro els [] 5)) 1))) (IsB els 0 n ∧ K (Vt [Vs (aa (u8L els 0 n)), Vi 0]) (AH.mk (Sg (AObj.gro els [] 5)) 1))) := by kernel_rfl
theorem zK (s : SB) (hs : s.size < 9223372036854775808) (ht : tokS s = true) : LAtZ XPr 4 (Func.ntmps f173) ⟨.leaf, 0⟩ (ac f173) [1, 1, 1, 0, 1, 0] (finK XPr.E (f173.results).toList (fun v A => Frz A v (prV s))) (frPr s.size 0) (hU (u8v (smS s).data.toList)) := by
 have hl := iw s
 generalize hL : (smS s).data.toList = l at *
 refine LAtZ.step ur rfl [] [] [] [4, 5] (by kernel_rfl) (fun k F A => ∃ i : Nat, F = frPr s.size i ∧ A = hU (u8v (cpU l i)) ∧ i + k = s.size) ?_ (k := s.size) ⟨0, rfl, rfl, by omega⟩
 rintro k F A ⟨i, rfl, rfl, hk⟩
 refine (xd _ _ s.size i _).mpr ?_
 refine Sp.intro (fun c => ?_) (fun c => ?_)
 · have hlt : i < l.length := by have := odt c; omega
   have hw := i64s i (by omega)
   have hget := kH hlt
   have hcl := gy (Nat.le_of_lt hlt)
   have hb := i8 (l.getD i 0)
   simp only [Int.toNat_natCast, Nat.add_zero, kY hget, i9 hget, hw, bf]
   have hset : (97 : Int) ≤ (l.getD i 0).toNat → ((l.getD i 0).toNat : Int) ≤ 122 → (i = 0 ∨ (l.getD (i - 1) 0).toNat = 45) → (0 ≤ (i : Int) ∧ (i : Int) < (s.size : Int)) ∧ True ∧ (0 ≤ (i : Int) ∧ (i : Int) < (s.size : Int)) ∧ i < (cpU l i).length ∧ HF (.agg ⟨(u8v (cpU l i)).set i (.int .u8 (IntKind.u8.wrap (((l.getD i 0).toNat : Int) - 32)))⟩) ∧ ∃ k', k' < k ∧ ∃ i2 : Nat, frPr s.size (i + 1) = frPr s.size i2 ∧ hU ((u8v (cpU l i)).set i (.int .u8 (IntKind.u8.wrap (((l.getD i 0).toNat : Int) - 32)))) = hU (u8v (cpU l i2)) ∧ i2 + k' = s.size := fun h1 h2 h3 => by
    have e : IntKind.u8.wrap (((l.getD i 0).toNat : Int) - 32) = ((cpAt l i).toNat : Int) := by
     rw [j0 (by omega) (by omega)]
     unfold cpAt
     rw [if_pos ⟨by omega, by omega, h3⟩, db (by omega)]; omega
    rw [e, i7, kG hlt]
    exact ⟨by omega, trivial, by omega, by omega, .agg (aY _), k - 1, by omega, i + 1, rfl, rfl, by omega⟩
   have hsame : ¬ ((97 : Int) ≤ (l.getD i 0).toNat ∧ ((l.getD i 0).toNat : Int) ≤ 122 ∧ (i = 0 ∨ (l.getD (i - 1) 0).toNat = 45)) → HF (.agg ⟨u8v (cpU l i)⟩) ∧ ∃ k', k' < k ∧ ∃ i2 : Nat, frPr s.size (i + 1) = frPr s.size i2 ∧ hU (u8v (cpU l i)) = hU (u8v (cpU l i2)) ∧ i2 + k' = s.size := fun h => by
    have e : cpAt l i = l.getD i 0 := by unfold cpAt; rw [if_neg (fun q => h ⟨by omega, by omega, q.2.2⟩)]
    rw [mf hlt e]
    exact ⟨.agg (aY _), k - 1, by omega, i + 1, rfl, rfl, by omega⟩
   refine ⟨by omega, trivial, Sp.intro (fun c1 => Sp.intro (fun c2 => Sp.intro (fun c3 => ?_) (fun c3 => ?_)) (fun c2 => ?_)) (fun c1 => ?_)⟩
   · exact hset (odt c1) (odt c2) (.inl (by have := odt c3; omega))
   · have h0 : 0 < i := by have := odf c3; omega
     have hw2 : IntKind.i64.wrap ((i : Int) - 1) = ((i - 1 : Nat) : Int) := by rw [aM (by omega) (by omega)]; omega
     have hp := mg h0 (Nat.le_of_lt hlt)
     simp only [hw2, Int.toNat_natCast, Nat.add_zero, kY hp, i9 hp]
     refine ⟨by omega, trivial, Sp.intro (fun c4 => ?_) (fun c4 => ?_)⟩
     · exact hset (odt c1) (odt c2) (.inr ((su l (i - 1)).1 (by have := odt c4; omega)))
     · refine hsame fun q => ?_
       have h4 := odf c4
       rcases q.2.2 with q | q
       · omega
       · exact h4 (by have := (su l (i - 1)).2 q; omega)
   · exact hsame fun q => odf c2 q.2.1
   · exact hsame fun q => odf c1 q.1
 · have hge : i = l.length := by have := odf c; omega
   have h1 := dN (cpU l i)
   have h2 := u8_L (cpU l i)
   rw [bf, gy (by omega), hl] at h1 h2
   refine ⟨h1, ?_⟩
   rw [h2, hge]
   unfold prV prT
   rw [ht, hL]
   exact .same (.tuple (HF.cons (.scal rfl) (HF.cons (.scal rfl) HF.nil)))
theorem vR (s : SB) (hs : s.size < 9223372036854775808) : bx envX f173 [.string s] ⟨.leaf, 0⟩ (prV s) := by
 refine av ur (d := 4) ((jPr_nf _ s).mpr ?_)
 refine ⟨hs, Sp.intro (fun c1 => ?_) (fun c1 => ⟨hs, .agg (aY _), ?_⟩)⟩
 · have ht : tokS s = false := by simpa using c1
   unfold prV; rw [ht]
   exact .same (.tuple (HF.cons (.scal rfl) (HF.cons (.scal rfl) HF.nil)))
 · have ht : tokS s = true := by simpa using c1
   have e : (ByteArray.mk (Array.mk (List.map lowB s.data.toList))).size = s.size := by
    have := iw s
    rw [aU] at this
    exact this
   rw [e]
   exact zK s hs ht
theorem pr_tab : ∀ args A p v A', ai aW prX args A = some (p, v, A') → PH p → ap envX 173 args A v A' := aj al am (fn := f173) rfl fun args v h hp => by
 unfold prX at h
 split at h
 · simp only [osI] at h
   subst h
   exact ⟨HF.cons (.scal rfl) HF.nil, vR _ hp⟩
 · cases h
def tabHn : Tab := [(169, ai aW prX), (173, ai aW prX)]
theorem qO : TabOk envX tabHn := .cons pw_tab (.cons pr_tab .nil)
def XHn : SX := ⟨envX, tabHn, noEl, fun _ => .unroll 0⟩
theorem uy : XHn.Ok := ⟨al, ax, am, qO⟩
def jHn (K : KV) (s : SB) : Prop := sxFn XHn 2 f116 [.string s] K
def jIt (K : KV) (s : SB) : Prop := sxFn XHn 2 f121 [.string s] K
end
end Go.T9

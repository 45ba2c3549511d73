/- A part of the proof. -/
import Derived.Test.YtgbjgffiejlooaaGreatDoorY1
import Derived.KernelRfl
set_option linter.unusedVariables false
set_option linter.unusedSimpArgs false
set_option maxRecDepth 1000000
set_option maxHeartbeats 1000000
namespace Go.T9
open Go Go.AM Go.MK Go.Proofs.Tryz
noncomputable section
def sr0 : SR := ⟨0, ByteArray.empty, ByteArray.empty, ByteArray.empty, [], ByteArray.empty, ByteArray.empty, 0, 0, [], [], 0, ByteArray.empty, ByteArray.empty, 0, 0, [], [], []⟩
def srD (v : Value) : SR := match srA v with | some r => r | none => sr0
def ksR (r : SR) : List (List Value) := kdL r.thn r.els (unW r.ways)
def ksV (v : Value) : List (List Value) := ksR (srD v)
def StN : Nat → Value → Prop
 | 0, _ => False
 | n + 1, v => ∃ r, v = stpV r ∧ WfS r ∧ ∀ k ∈ ksR r, ∀ x ∈ k, StN n x
def mT : Nat → List Value → Nat
 | 0, _ => 0
 | n + 1, l => (l.map fun v => 1 + ((ksV v).map (mT n)).sum).sum
def kT (n : Nat) (ks : List (List Value)) : Nat := (ks.map (mT n)).sum
def kdM (f : List Value → Int) : List (List Value) → Int
 | [] => 0
 | k :: ks => max (f k + 1) (kdM f ks)
def mD : Nat → List Value → Int
 | 0, _ => 0
 | n + 1, l => l.foldr (fun v d => max (max 1 (kdM (mD n) (ksV v))) d) 0
def kdE (f : List Value → Int) : List (List Value) → Int
 | [] => 0
 | k :: ks => bif !decide (f k = 0) then f k else kdE f ks
def cE : Nat → List Value → Int
 | 0, _ => 0
 | n + 1, l => l.foldr (fun v e => bif !decide (stE (srD v) = 0) then stE (srD v) else bif !decide (kdE (cE n) (ksV v) = 0) then kdE (cE n) (ksV v) else e) 0
theorem fX (n : Nat) (v : Value) (l : List Value) : mT (n + 1) (v :: l) = 1 + kT n (ksV v) + mT (n + 1) l := by simp only [mT, kT, List.map_cons, List.sum_cons]
theorem jZ (n : Nat) (v : Value) (l : List Value) : mD (n + 1) (v :: l) = max (max 1 (kdM (mD n) (ksV v))) (mD (n + 1) l) := rfl
theorem ky (n : Nat) (v : Value) (l : List Value) : cE (n + 1) (v :: l) = bif !decide (stE (srD v) = 0) then stE (srD v) else bif !decide (kdE (cE n) (ksV v) = 0) then kdE (cE n) (ksV v) else cE (n + 1) l := rfl
theorem gb (n : Nat) (k : List Value) (ks : List (List Value)) : kT n (k :: ks) = mT n k + kT n ks := by simp only [kT, List.map_cons, List.sum_cons]
theorem ot (n : Nat) : mT (n + 1) [] = 0 := rfl
theorem ou (n : Nat) : mD (n + 1) [] = 0 := rfl
def lsP : Nat → List Value → Prop
 | 0, _ => False
 | n + 1, l => (∀ v ∈ l, StN n v) ∧ mT (n + 1) l ≤ 1048576
def srAt (els : List Value) (i : Int) : SR := match nth els i.toNat with | some v => srD v | none => sr0
theorem bW {n : Nat} {v : Value} (h : StN n v) : v = stpV (srD v) ∧ WfS (srD v) ∧ ∃ m, n = m + 1 ∧ ∀ k ∈ ksV v, ∀ x ∈ k, StN m x := by
 cases n with
 | zero => exact h.elim
 | succ m =>
   obtain ⟨r, rfl, hw, hk⟩ := h
   exact ⟨rfl, hw, m, rfl, hk⟩
theorem cQ {l : List Value} {i : Nat} (h : i < l.length) : nth l i = some l[i] := by rw [aI, List.getElem?_eq_getElem h]
theorem du {l : List Value} {i : Nat} (h : i < l.length) : srAt l (i : Int) = srD l[i] := by simp only [srAt, Int.toNat_natCast, cQ h]
theorem eF {l : List (List Value)} {i : Nat} (h : i < l.length) : nth (dts l) i = some (dat 19 l[i]) := by
 rw [aI]; simp [dts, List.getElem?_eq_getElem h]
theorem fO {l : List (List Value)} {i : Nat} (h : i < l.length) : bY (dts l) (i : Int) = l[i] := by
 simp only [bY, Int.toNat_natCast, eF h]; rfl
def elSt : El := El.of fun sz t els i => bif Nat.beq sz 1 then some (dat 19 (bY els i)) else some (stpV (srAt els i))
def bj (P : List Value → Prop) : List Value → Option Prop
 | [.func (.yield 19) ⟨l⟩ ⟨[]⟩] => some (P l)
 | _ => none
def bn (f : List Value → Value) : List Value → Option Value
 | [.func (.yield 19) ⟨l⟩ ⟨[]⟩] => some (f l)
 | _ => none
def cntF (f : List Value → Nat) : Nat → List (List Value) → Nat
 | a, [] => a
 | a, k :: ks => bif decide (1000 < a) then a else cntF f (a + f k) ks
def cN : Nat → List Value → Nat
 | 0, _ => 0
 | n + 1, l => cntF (cN n) l.length (l.flatMap ksV)
def vMs (n : Nat) : List Value → Option Value := bn (fun l => .tuple ⟨[.int .i64 (mT n l), .int .i64 (mD n l)]⟩)
def tabMs (n : Nat) : Tab := [(16, aj (bj (lsP n)) (vMs n)), (38, aj ci kdX)]
def XMs (n : Nat) : SX := ⟨envX, tabMs n, elSt, fun k => bif Nat.beq k 2 then .autoN [] [] [] [2, 3, 10, 11, 12] else .autoN [] [] [] [2, 3, 10, 11, 12, 21, 22, 23]⟩
theorem z8 (n : Nat) (h : TabOk envX (tabMs n)) : (XMs n).Ok := ⟨ag, aw, ah, h⟩
def rL (l : List Value) (i : Nat) (a2 : Int) (a3 : Int) : T Value := (Nd (Nd (Nd Lf (some (.int .i64 a3)) (Nd Lf (some (.int .i64 l.length)) Lf)) none Lf) none (Nd (Nd Lf none (Nd Lf (some (.int .i64 i)) Lf)) (some (.int .i64 a2)) (Nd (Nd Lf (some (dat 19 l)) Lf) none Lf)))
def ze (l : List Value) (i : Nat) (k : List Value) (j : Nat) (a2 : Int) (a3 : Int) : T Value := (Nd (Nd (Nd (Nd Lf none (Nd Lf (some (.int .i64 j)) Lf)) (some (.int .i64 a3)) (Nd Lf (some (.int .i64 l.length)) Lf)) none (Nd Lf none (Nd (Nd Lf (some (dat 1 k)) Lf) none Lf))) none (Nd (Nd Lf none (Nd Lf (some (.int .i64 i)) Lf)) (some (.int .i64 a2)) (Nd (Nd Lf (some (dat 19 l)) Lf) none (Nd (Nd Lf (some (.int .i64 k.length)) Lf) none Lf))))
def lv (n : Nat) (K : KV) : KX := finK (XMs n).E (f16.results).toList K
def cIMs : Code := aT (subC [1, 0, 1, 0] (ae f16))
def kIMs (n : Nat) (K : KV) (again : KF) : KX := fK (XMs n) 1 (Func.ntmps f16) ⟨.leaf, 0⟩ (ae f16) [1, 0, 1, 0] (lv n K) [] [] [] [2, 3, 10, 11, 12] again
def jMs (n : Nat) (K : KV) (l : List Value) : Prop := ay (XMs n) 1 f16 [dat 19 l] ⟨.leaf, 0⟩ K
def jMs1 (n : Nat) (K : KV) (again : KF) (l : List Value) (i : Nat) (a2 : Int) (a3 : Int) : Prop := ax (XMs n) 1 (Func.ntmps f16) ⟨.leaf, 0⟩ (ae f16) [1, 0, 1, 0] (lv n K) [] [] [] [2, 3, 10, 11, 12] again (rL l i a2 a3) ⟨.leaf, 0⟩
def jMs2 (n : Nat) (K : KV) (again0 again : KF) (l : List Value) (i : Nat) (k : List Value) (j : Nat) (a2 : Int) (a3 : Int) : Prop := ax (XMs n) 1 (Func.ntmps f16) ⟨.leaf, 0⟩ cIMs [1, 1, 0, 0, 1, 1, 1, 1, 0] (kIMs n K again0) [] [] [] [2, 3, 10, 11, 12, 21, 22, 23] again (ze l i k j a2 a3) ⟨.leaf, 0⟩
def vCn (n : Nat) : List Value → Option Value := bn (fun l => .int .i64 (cN n l))
def tabCn (n : Nat) : Tab := [(18, aj (bj (lsP n)) (vCn n)), (40, aj ci kdX)]
def XCn (n : Nat) : SX := ⟨envX, tabCn n, elSt, fun k => bif Nat.beq k 3 then .autoN [] [] [] [3, 10, 11, 12] else .autoN [] [] [] [3, 10, 11, 12, 17, 18, 19]⟩
theorem Ab (n : Nat) (h : TabOk envX (tabCn n)) : (XCn n).Ok := ⟨ag, aw, ah, h⟩
def rO (l : List Value) (i : Nat) (a3 : Int) : T Value := (Nd (Nd (Nd Lf (some (.int .i64 a3)) (Nd Lf (some (.int .i64 l.length)) Lf)) none Lf) none (Nd (Nd Lf none (Nd Lf (some (.int .i64 i)) Lf)) none (Nd (Nd Lf (some (dat 19 l)) Lf) none Lf)))
def zg (l : List Value) (i : Nat) (k : List Value) (j : Nat) (a3 : Int) : T Value := (Nd (Nd (Nd Lf (some (.int .i64 a3)) (Nd (Nd Lf (some (.int .i64 j)) Lf) (some (.int .i64 l.length)) Lf)) none (Nd (Nd (Nd Lf (some (dat 1 k)) Lf) none Lf) none Lf)) none (Nd (Nd Lf none (Nd Lf (some (.int .i64 i)) Lf)) none (Nd (Nd (Nd Lf (some (.int .i64 k.length)) Lf) (some (dat 19 l)) Lf) none Lf)))
def lx (n : Nat) (K : KV) : KX := finK (XCn n).E (f18.results).toList K
def cICn : Code := aT (subC [1, 1, 0, 1, 0] (ae f18))
def kICn (n : Nat) (K : KV) (again : KF) : KX := fK (XCn n) 1 (Func.ntmps f18) ⟨.leaf, 0⟩ (ae f18) [1, 1, 0, 1, 0] (lx n K) [] [] [] [3, 10, 11, 12] again
def jCn (n : Nat) (K : KV) (l : List Value) : Prop := ay (XCn n) 1 f18 [dat 19 l] ⟨.leaf, 0⟩ K
def jCn1 (n : Nat) (K : KV) (again : KF) (l : List Value) (i : Nat) (a3 : Int) : Prop := ax (XCn n) 1 (Func.ntmps f18) ⟨.leaf, 0⟩ (ae f18) [1, 1, 0, 1, 0] (lx n K) [] [] [] [3, 10, 11, 12] again (rO l i a3) ⟨.leaf, 0⟩
def jCn2 (n : Nat) (K : KV) (again0 again : KF) (l : List Value) (i : Nat) (k : List Value) (j : Nat) (a3 : Int) : Prop := ax (XCn n) 1 (Func.ntmps f18) ⟨.leaf, 0⟩ cICn [1, 1, 0, 0, 1, 1, 0] (kICn n K again0) [] [] [] [3, 10, 11, 12, 17, 18, 19] again (zg l i k j a3) ⟨.leaf, 0⟩
def vLv (n : Nat) : List Value → Option Value := bn (fun l => .int .i64 (mD n l))
def tabLv (n : Nat) : Tab := [(19, aj (bj (lsP n)) (vLv n)), (40, aj ci kdX)]
def XLv (n : Nat) : SX := ⟨envX, tabLv n, elSt, fun k => bif Nat.beq k 3 then .autoN [] [] [] [3, 9, 10, 11] else .autoN [] [] [] [3, 6, 9, 10, 11, 16, 17, 18]⟩
theorem Aa (n : Nat) (h : TabOk envX (tabLv n)) : (XLv n).Ok := ⟨ag, aw, ah, h⟩
def rM (l : List Value) (i : Nat) (a3 : Int) : T Value := (Nd (Nd (Nd Lf (some (.int .i64 a3)) (Nd Lf (some (.int .i64 i)) Lf)) none (Nd (Nd Lf (some (dat 19 l)) Lf) none Lf)) none (Nd Lf none (Nd (Nd Lf (some (.int .i64 l.length)) Lf) none Lf)))
def zf (l : List Value) (i : Nat) (k : List Value) (j : Nat) (a3 : Int) (a6 : Int) : T Value := (Nd (Nd (Nd Lf (some (.int .i64 a3)) (Nd Lf (some (.int .i64 i)) Lf)) none (Nd (Nd (Nd Lf (some (.int .i64 k.length)) Lf) (some (dat 19 l)) Lf) none Lf)) none (Nd (Nd (Nd (Nd Lf (some (dat 1 k)) Lf) none Lf) none Lf) none (Nd (Nd (Nd Lf (some (.int .i64 j)) Lf) (some (.int .i64 l.length)) Lf) (some (.int .i64 a6)) Lf)))
def lw (n : Nat) (K : KV) : KX := finK (XLv n).E (f19.results).toList K
def cILv : Code := aT (subC [1, 1, 0, 1, 0] (ae f19))
def kILv (n : Nat) (K : KV) (again : KF) : KX := fK (XLv n) 1 (Func.ntmps f19) ⟨.leaf, 0⟩ (ae f19) [1, 1, 0, 1, 0] (lw n K) [] [] [] [3, 9, 10, 11] again
def jLv (n : Nat) (K : KV) (l : List Value) : Prop := ay (XLv n) 1 f19 [dat 19 l] ⟨.leaf, 0⟩ K
def jLv1 (n : Nat) (K : KV) (again : KF) (l : List Value) (i : Nat) (a3 : Int) : Prop := ax (XLv n) 1 (Func.ntmps f19) ⟨.leaf, 0⟩ (ae f19) [1, 1, 0, 1, 0] (lw n K) [] [] [] [3, 9, 10, 11] again (rM l i a3) ⟨.leaf, 0⟩
def jLv2 (n : Nat) (K : KV) (again0 again : KF) (l : List Value) (i : Nat) (k : List Value) (j : Nat) (a3 : Int) (a6 : Int) : Prop := ax (XLv n) 1 (Func.ntmps f19) ⟨.leaf, 0⟩ cILv [1, 1, 0, 0, 1, 1, 0, 1, 0] (kILv n K again0) [] [] [] [3, 6, 9, 10, 11, 16, 17, 18] again (zf l i k j a3 a6) ⟨.leaf, 0⟩
def vCe (n : Nat) : List Value → Option Value := bn (fun l => .int .i64 (cE n l))
def tabCe (n : Nat) : Tab := [(17, aj (bj (lsP n)) (vCe n)), (38, aj ci kdX), (39, aj ci stX)]
def XCe (m : Int) (n : Nat) : SX := ⟨(envM m), tabCe n, elSt, fun k => bif Nat.beq k 2 then .autoN [] [] [] [9, 10, 11] else .autoN [] [] [] [9, 10, 11, 21, 22, 23]⟩
theorem Ad (m : Int) (n : Nat) (h : TabOk (envM m) (tabCe n)) : (XCe m n).Ok := ⟨aE m, rfl, aF m, h⟩
def rP (l : List Value) (i : Nat) : T Value := (Nd (Nd (Nd Lf none (Nd Lf (some (.int .i64 i)) Lf)) none (Nd (Nd Lf (some (dat 19 l)) Lf) none Lf)) none (Nd Lf none (Nd (Nd Lf (some (.int .i64 l.length)) Lf) none Lf)))
def zh (l : List Value) (i : Nat) (k : List Value) (j : Nat) : T Value := (Nd (Nd (Nd (Nd Lf none (Nd Lf (some (.int .i64 j)) Lf)) none (Nd Lf (some (.int .i64 i)) Lf)) none (Nd (Nd Lf (some (dat 19 l)) Lf) none (Nd (Nd Lf (some (dat 1 k)) Lf) none Lf))) none (Nd Lf none (Nd (Nd Lf (some (.int .i64 l.length)) Lf) none (Nd (Nd Lf (some (.int .i64 k.length)) Lf) none Lf))))
def ly (m : Int) (n : Nat) (K : KV) : KX := finK (XCe m n).E (f17.results).toList K
def cICe : Code := aT (subC [1, 0, 1, 0] (ae f17))
def kICe (m : Int) (n : Nat) (K : KV) (again : KF) : KX := fK (XCe m n) 1 (Func.ntmps f17) ⟨.leaf, 0⟩ (ae f17) [1, 0, 1, 0] (ly m n K) [] [] [] [9, 10, 11] again
def jCe (m : Int) (n : Nat) (K : KV) (l : List Value) : Prop := ay (XCe m n) 1 f17 [dat 19 l] ⟨.leaf, 0⟩ K
def jCe1 (m : Int) (n : Nat) (K : KV) (again : KF) (l : List Value) (i : Nat) : Prop := ax (XCe m n) 1 (Func.ntmps f17) ⟨.leaf, 0⟩ (ae f17) [1, 0, 1, 0] (ly m n K) [] [] [] [9, 10, 11] again (rP l i) ⟨.leaf, 0⟩
def jCe2 (m : Int) (n : Nat) (K : KV) (again0 again : KF) (l : List Value) (i : Nat) (k : List Value) (j : Nat) : Prop := ax (XCe m n) 1 (Func.ntmps f17) ⟨.leaf, 0⟩ cICe [1, 1, 0, 0, 1, 1, 1, 0] (kICe m n K again0) [] [] [] [9, 10, 11, 21, 22, 23] again (zh l i k j) ⟨.leaf, 0⟩
def vSv (n : Nat) : List Value → Option Value := bn (fun l => .int .i64 (cE n l))
def tabSv (n : Nat) : Tab := [(20, aj (bj (lsP n)) (vSv n)), (40, aj ci kdX), (41, aj ci stX)]
def XSv (m : Int) (n : Nat) : SX := ⟨(envM m), tabSv n, elSt, fun k => bif Nat.beq k 2 then .autoN [] [] [] [9, 10, 11] else .autoN [] [] [] [9, 10, 11, 21, 22, 23]⟩
theorem zY (m : Int) (n : Nat) (h : TabOk (envM m) (tabSv n)) : (XSv m n).Ok := ⟨aE m, rfl, aF m, h⟩
def rK (l : List Value) (i : Nat) : T Value := (Nd (Nd (Nd Lf none (Nd Lf (some (.int .i64 i)) Lf)) none (Nd (Nd Lf (some (dat 19 l)) Lf) none Lf)) none (Nd Lf none (Nd (Nd Lf (some (.int .i64 l.length)) Lf) none Lf)))
def zb (l : List Value) (i : Nat) (k : List Value) (j : Nat) : T Value := (Nd (Nd (Nd (Nd Lf none (Nd Lf (some (.int .i64 j)) Lf)) none (Nd Lf (some (.int .i64 i)) Lf)) none (Nd (Nd Lf (some (dat 19 l)) Lf) none (Nd (Nd Lf (some (dat 1 k)) Lf) none Lf))) none (Nd Lf none (Nd (Nd Lf (some (.int .i64 l.length)) Lf) none (Nd (Nd Lf (some (.int .i64 k.length)) Lf) none Lf))))
def lu (m : Int) (n : Nat) (K : KV) : KX := finK (XSv m n).E (f20.results).toList K
def cISv : Code := aT (subC [1, 0, 1, 0] (ae f20))
def kISv (m : Int) (n : Nat) (K : KV) (again : KF) : KX := fK (XSv m n) 1 (Func.ntmps f20) ⟨.leaf, 0⟩ (ae f20) [1, 0, 1, 0] (lu m n K) [] [] [] [9, 10, 11] again
def jSv (m : Int) (n : Nat) (K : KV) (l : List Value) : Prop := ay (XSv m n) 1 f20 [dat 19 l] ⟨.leaf, 0⟩ K
def jSv1 (m : Int) (n : Nat) (K : KV) (again : KF) (l : List Value) (i : Nat) : Prop := ax (XSv m n) 1 (Func.ntmps f20) ⟨.leaf, 0⟩ (ae f20) [1, 0, 1, 0] (lu m n K) [] [] [] [9, 10, 11] again (rK l i) ⟨.leaf, 0⟩
def jSv2 (m : Int) (n : Nat) (K : KV) (again0 again : KF) (l : List Value) (i : Nat) (k : List Value) (j : Nat) : Prop := ax (XSv m n) 1 (Func.ntmps f20) ⟨.leaf, 0⟩ cISv [1, 1, 0, 0, 1, 1, 1, 0] (kISv m n K again0) [] [] [] [9, 10, 11, 21, 22, 23] again (zb l i k j) ⟨.leaf, 0⟩
theorem jMs_nf (n : Nat) (K : KV) (l : List Value) : jMs n K l = (HF (Vd 19 l) ∧ LAtZ (XMs n) 1 f16.ntmps (AH.mk Lf 0) (ae f16) [1, 0, 1, 0] (finK (SX.E (XMs n)) f16.results.toList K) (No (No (Ns Lf (Vi 0) (Sg (Vi l.length))) Lf) (Ns (No Lf (Sg (Vi 0))) (Vi 0) (No (Sg (Vd 19 l)) Lf))) (AH.mk Lf 0)) := by kernel_rfl
theorem xZ (n : Nat) (K : KV) (again : KF) (l : List Value) (i : Nat) (a2 a3 : Int) : jMs1 n K again l i a2 a3 = (Sp (decide ((i : Int) < (l.length : Int))) ((0 ≤ (i : Int) ∧ (i : Int) < (l.length : Int)) ∧ nth l (i) = some (stpV (srAt l i)) ∧ WfS (srAt l i) ∧ HF (Vd 19 l) ∧ HF (Vd 1 (kdV (srAt l i))) ∧ LAtZ (XMs n) 1 f16.ntmps (AH.mk Lf 0) (aT (subC [1, 0, 1, 0] (ae f16))) [1, 1, 0, 0, 1, 1, 1, 1, 0] (fK (XMs n) 1 f16.ntmps (AH.mk Lf 0) (ae f16) [1, 0, 1, 0] (lv n K) [] [] [] [2, 3, 10, 11, 12] again) (No (No (Ns (No Lf (Sg (Vi 0))) (Vi (Max.max a3 1)) (Sg (Vi l.length))) (No Lf (No (Sg (Vd 1 (kdV (srAt l i)))) Lf))) (Ns (No Lf (Sg (Vi i))) (Vi (Wi (a2 + 1))) (No (Sg (Vd 19 l)) (No (Sg (Vi (↑(List.length (kdV (srAt l i))) : Int))) Lf)))) (AH.mk Lf 0)) (K (Vt [Vi a2, Vi a3]) (AH.mk Lf 0))) := by kernel_rfl
theorem xY (n : Nat) (K : KV) (again0 : KF) (again : KF) (l : List Value) (i : Nat) (k : List Value) (j : Nat) (a2 a3 : Int) : jMs2 n K again0 again l i k j a2 a3 = (Sp (decide ((j : Int) < (k.length : Int))) ((0 ≤ (j : Int) ∧ (j : Int) < (k.length : Int)) ∧ nth k (j) = some (Vd 19 (bY k j)) ∧ lsP n (bY k j) ∧ HF (Vd 19 l) ∧ HF (Vd 1 k) ∧ again (No (No (Ns (No Lf (Sg (Vi (Wi ((j : Int) + 1))))) (Vi (Max.max a3 (Wi (mD n (bY k j) + 1)))) (Sg (Vi l.length))) (No Lf (No (Sg (Vd 1 k)) Lf))) (Ns (No Lf (Sg (Vi i))) (Vi (Wi (a2 + (↑(mT n (bY k j)) : Int)))) (No (Sg (Vd 19 l)) (No (Sg (Vi k.length)) Lf)))) (AH.mk Lf 0)) (HF (Vd 19 l) ∧ again0 (No (No (Ns Lf (Vi a3) (Sg (Vi l.length))) Lf) (Ns (No Lf (Sg (Vi (Wi ((i : Int) + 1))))) (Vi a2) (No (Sg (Vd 19 l)) Lf))) (AH.mk Lf 0))) := by kernel_rfl
theorem jCn_nf (n : Nat) (K : KV) (l : List Value) : jCn n K l = (HF (Vd 19 l) ∧ LAtZ (XCn n) 1 f18.ntmps (AH.mk Lf 0) (ae f18) [1, 1, 0, 1, 0] (finK (SX.E (XCn n)) f18.results.toList K) (No (No (Ns Lf (Vi l.length) (Sg (Vi l.length))) Lf) (No (No Lf (Sg (Vi 0))) (No (Sg (Vd 19 l)) Lf))) (AH.mk Lf 0)) := by kernel_rfl
theorem yu (n : Nat) (K : KV) (again : KF) (l : List Value) (i : Nat) (a3 : Int) : jCn1 n K again l i a3 = (Sp (decide ((i : Int) < (l.length : Int))) ((0 ≤ (i : Int) ∧ (i : Int) < (l.length : Int)) ∧ nth l (i) = some (stpV (srAt l i)) ∧ WfS (srAt l i) ∧ HF (Vd 19 l) ∧ HF (Vd 1 (kdV (srAt l i))) ∧ LAtZ (XCn n) 1 f18.ntmps (AH.mk Lf 0) (aT (subC [1, 1, 0, 1, 0] (ae f18))) [1, 1, 0, 0, 1, 1, 0] (fK (XCn n) 1 f18.ntmps (AH.mk Lf 0) (ae f18) [1, 1, 0, 1, 0] (lx n K) [] [] [] [3, 10, 11, 12] again) (No (No (Ns Lf (Vi a3) (Ns (Sg (Vi 0)) (Vi l.length) Lf)) (No (No (Sg (Vd 1 (kdV (srAt l i)))) Lf) Lf)) (No (No Lf (Sg (Vi i))) (No (Ns (Sg (Vi (↑(List.length (kdV (srAt l i))) : Int))) (Vd 19 l) Lf) Lf))) (AH.mk Lf 0)) (K (Vi a3) (AH.mk Lf 0))) := by kernel_rfl
theorem yr (n : Nat) (K : KV) (again0 : KF) (again : KF) (l : List Value) (i : Nat) (k : List Value) (j : Nat) (a3 : Int) : jCn2 n K again0 again l i k j a3 = (Sp (decide ((j : Int) < (k.length : Int))) ((0 ≤ (j : Int) ∧ (j : Int) < (k.length : Int)) ∧ nth k (j) = some (Vd 19 (bY k j)) ∧ Sp (decide (1000 < a3)) (K (Vi a3) (AH.mk Lf 0)) (lsP n (bY k j) ∧ HF (Vd 19 l) ∧ HF (Vd 1 k) ∧ again (No (No (Ns Lf (Vi (Wi (a3 + (↑(cN n (bY k j)) : Int)))) (Ns (Sg (Vi (Wi ((j : Int) + 1)))) (Vi l.length) Lf)) (No (No (Sg (Vd 1 k)) Lf) Lf)) (No (No Lf (Sg (Vi i))) (No (Ns (Sg (Vi k.length)) (Vd 19 l) Lf) Lf))) (AH.mk Lf 0))) (HF (Vd 19 l) ∧ again0 (No (No (Ns Lf (Vi a3) (Sg (Vi l.length))) Lf) (No (No Lf (Sg (Vi (Wi ((i : Int) + 1))))) (No (Sg (Vd 19 l)) Lf))) (AH.mk Lf 0))) := by kernel_rfl
theorem jLv_nf (n : Nat) (K : KV) (l : List Value) : jLv n K l = (HF (Vd 19 l) ∧ LAtZ (XLv n) 1 f19.ntmps (AH.mk Lf 0) (ae f19) [1, 1, 0, 1, 0] (finK (SX.E (XLv n)) f19.results.toList K) (No (No (Ns Lf (Vi 0) (Sg (Vi 0))) (No (Sg (Vd 19 l)) Lf)) (No Lf (No (Sg (Vi l.length)) Lf))) (AH.mk Lf 0)) := by kernel_rfl
theorem x7 (n : Nat) (K : KV) (again : KF) (l : List Value) (i : Nat) (a3 : Int) : jLv1 n K again l i a3 = (Sp (decide ((i : Int) < (l.length : Int))) ((0 ≤ (i : Int) ∧ (i : Int) < (l.length : Int)) ∧ nth l (i) = some (stpV (srAt l i)) ∧ WfS (srAt l i) ∧ HF (Vd 19 l) ∧ HF (Vd 1 (kdV (srAt l i))) ∧ LAtZ (XLv n) 1 f19.ntmps (AH.mk Lf 0) (aT (subC [1, 1, 0, 1, 0] (ae f19))) [1, 1, 0, 0, 1, 1, 0, 1, 0] (fK (XLv n) 1 f19.ntmps (AH.mk Lf 0) (ae f19) [1, 1, 0, 1, 0] (lw n K) [] [] [] [3, 9, 10, 11] again) (No (No (Ns Lf (Vi a3) (Sg (Vi i))) (No (Ns (Sg (Vi (↑(List.length (kdV (srAt l i))) : Int))) (Vd 19 l) Lf) Lf)) (No (No (No (Sg (Vd 1 (kdV (srAt l i)))) Lf) Lf) (Ns (Ns (Sg (Vi 0)) (Vi l.length) Lf) (Vi 0) Lf))) (AH.mk Lf 0)) (K (Vi a3) (AH.mk Lf 0))) := by kernel_rfl
theorem x6 (n : Nat) (K : KV) (again0 : KF) (again : KF) (l : List Value) (i : Nat) (k : List Value) (j : Nat) (a3 a6 : Int) : jLv2 n K again0 again l i k j a3 a6 = (Sp (decide ((j : Int) < (k.length : Int))) ((0 ≤ (j : Int) ∧ (j : Int) < (k.length : Int)) ∧ nth k (j) = some (Vd 19 (bY k j)) ∧ lsP n (bY k j) ∧ HF (Vd 19 l) ∧ HF (Vd 1 k) ∧ again (No (No (Ns Lf (Vi a3) (Sg (Vi i))) (No (Ns (Sg (Vi k.length)) (Vd 19 l) Lf) Lf)) (No (No (No (Sg (Vd 1 k)) Lf) Lf) (Ns (Ns (Sg (Vi (Wi ((j : Int) + 1)))) (Vi l.length) Lf) (Vi (Max.max a6 (mD n (bY k j)))) Lf))) (AH.mk Lf 0)) (HF (Vd 19 l) ∧ again0 (No (No (Ns Lf (Vi (Max.max a3 (Wi (a6 + 1)))) (Sg (Vi (Wi ((i : Int) + 1))))) (No (Sg (Vd 19 l)) Lf)) (No Lf (No (Sg (Vi l.length)) Lf))) (AH.mk Lf 0))) := by kernel_rfl
theorem jCe_nf (m : Int) (n : Nat) (K : KV) (l : List Value) : jCe m n K l = (HF (Vd 19 l) ∧ LAtZ (XCe m n) 1 f17.ntmps (AH.mk Lf 0) (ae f17) [1, 0, 1, 0] (finK (SX.E (XCe m n)) f17.results.toList K) (No (No (No Lf (Sg (Vi 0))) (No (Sg (Vd 19 l)) Lf)) (No Lf (No (Sg (Vi l.length)) Lf))) (AH.mk Lf 0)) := by kernel_rfl
theorem yF (m : Int) (n : Nat) (K : KV) (again : KF) (l : List Value) (i : Nat) : jCe1 m n K again l i = (Sp (decide ((i : Int) < (l.length : Int))) ((0 ≤ (i : Int) ∧ (i : Int) < (l.length : Int)) ∧ nth l (i) = some (stpV (srAt l i)) ∧ WfS (srAt l i) ∧ Sp (!decide (stE (srAt l i) = 0)) (K (Vi (stE (srAt l i))) (AH.mk (Sg (AObj.cells (stcL (srAt l i)) 88)) 1)) (WfS (srAt l i) ∧ HF (Vd 19 l) ∧ HF (Vd 1 (kdV (srAt l i))) ∧ LAtZ (XCe m n) 1 f17.ntmps (AH.mk Lf 0) (aT (subC [1, 0, 1, 0] (ae f17))) [1, 1, 0, 0, 1, 1, 1, 0] (fK (XCe m n) 1 f17.ntmps (AH.mk Lf 0) (ae f17) [1, 0, 1, 0] (ly m n K) [] [] [] [9, 10, 11] again) (No (No (No (No Lf (Sg (Vi 0))) (Sg (Vi i))) (No (Sg (Vd 19 l)) (No (Sg (Vd 1 (kdV (srAt l i)))) Lf))) (No Lf (No (Sg (Vi l.length)) (No (Sg (Vi (↑(List.length (kdV (srAt l i))) : Int))) Lf)))) (AH.mk Lf 0))) (K (Vi 0) (AH.mk Lf 0))) := by kernel_rfl
theorem yE (m : Int) (n : Nat) (K : KV) (again0 : KF) (again : KF) (l : List Value) (i : Nat) (k : List Value) (j : Nat) : jCe2 m n K again0 again l i k j = (Sp (decide ((j : Int) < (k.length : Int))) ((0 ≤ (j : Int) ∧ (j : Int) < (k.length : Int)) ∧ nth k (j) = some (Vd 19 (bY k j)) ∧ lsP n (bY k j) ∧ Sp (!decide (cE n (bY k j) = 0)) (K (Vi (cE n (bY k j))) (AH.mk Lf 0)) (HF (Vd 19 l) ∧ HF (Vd 1 k) ∧ again (No (No (No (No Lf (Sg (Vi (Wi ((j : Int) + 1))))) (Sg (Vi i))) (No (Sg (Vd 19 l)) (No (Sg (Vd 1 k)) Lf))) (No Lf (No (Sg (Vi l.length)) (No (Sg (Vi k.length)) Lf)))) (AH.mk Lf 0))) (HF (Vd 19 l) ∧ again0 (No (No (No Lf (Sg (Vi (Wi ((i : Int) + 1))))) (No (Sg (Vd 19 l)) Lf)) (No Lf (No (Sg (Vi l.length)) Lf))) (AH.mk Lf 0))) := by kernel_rfl
theorem jSv_nf (m : Int) (n : Nat) (K : KV) (l : List Value) : jSv m n K l = (HF (Vd 19 l) ∧ LAtZ (XSv m n) 1 f20.ntmps (AH.mk Lf 0) (ae f20) [1, 0, 1, 0] (finK (SX.E (XSv m n)) f20.results.toList K) (No (No (No Lf (Sg (Vi 0))) (No (Sg (Vd 19 l)) Lf)) (No Lf (No (Sg (Vi l.length)) Lf))) (AH.mk Lf 0)) := by kernel_rfl
theorem xb (m : Int) (n : Nat) (K : KV) (again : KF) (l : List Value) (i : Nat) : jSv1 m n K again l i = (Sp (decide ((i : Int) < (l.length : Int))) ((0 ≤ (i : Int) ∧ (i : Int) < (l.length : Int)) ∧ nth l (i) = some (stpV (srAt l i)) ∧ WfS (srAt l i) ∧ Sp (!decide (stE (srAt l i) = 0)) (K (Vi (stE (srAt l i))) (AH.mk (Sg (AObj.cells (stcL (srAt l i)) 88)) 1)) (WfS (srAt l i) ∧ HF (Vd 19 l) ∧ HF (Vd 1 (kdV (srAt l i))) ∧ LAtZ (XSv m n) 1 f20.ntmps (AH.mk Lf 0) (aT (subC [1, 0, 1, 0] (ae f20))) [1, 1, 0, 0, 1, 1, 1, 0] (fK (XSv m n) 1 f20.ntmps (AH.mk Lf 0) (ae f20) [1, 0, 1, 0] (lu m n K) [] [] [] [9, 10, 11] again) (No (No (No (No Lf (Sg (Vi 0))) (Sg (Vi i))) (No (Sg (Vd 19 l)) (No (Sg (Vd 1 (kdV (srAt l i)))) Lf))) (No Lf (No (Sg (Vi l.length)) (No (Sg (Vi (↑(List.length (kdV (srAt l i))) : Int))) Lf)))) (AH.mk Lf 0))) (K (Vi 0) (AH.mk Lf 0))) := by kernel_rfl
theorem w9 (m : Int) (n : Nat) (K : KV) (again0 : KF) (again : KF) (l : List Value) (i : Nat) (k : List Value) (j : Nat) : jSv2 m n K again0 again l i k j = (Sp (decide ((j : Int) < (k.length : Int))) ((0 ≤ (j : Int) ∧ (j : Int) < (k.length : Int)) ∧ nth k (j) = some (Vd 19 (bY k j)) ∧ lsP n (bY k j) ∧ Sp (!decide (cE n (bY k j) = 0)) (K (Vi (cE n (bY k j))) (AH.mk Lf 0)) (HF (Vd 19 l) ∧ HF (Vd 1 k) ∧ again (No (No (No (No Lf (Sg (Vi (Wi ((j : Int) + 1))))) (Sg (Vi i))) (No (Sg (Vd 19 l)) (No (Sg (Vd 1 k)) Lf))) (No Lf (No (Sg (Vi l.length)) (No (Sg (Vi k.length)) Lf)))) (AH.mk Lf 0))) (HF (Vd 19 l) ∧ again0 (No (No (No Lf (Sg (Vi (Wi ((i : Int) + 1))))) (No (Sg (Vd 19 l)) Lf)) (No Lf (No (Sg (Vi l.length)) Lf))) (AH.mk Lf 0))) := by kernel_rfl
theorem tE {n : Nat} {k : List Value} : ∀ {ks : List (List Value)}, k ∈ ks → mT n k ≤ kT n ks
 | [], h => by cases h
 | x :: ks, h => by
   rw [gb]
   rcases List.mem_cons.1 h with rfl | h
   · omega
   · have := tE (n := n) h; omega
theorem tw {n : Nat} {v : Value} : ∀ {l : List Value}, v ∈ l → 1 + kT n (ksV v) ≤ mT (n + 1) l
 | [], h => by cases h
 | x :: l, h => by
   rw [fX]
   rcases List.mem_cons.1 h with rfl | h
   · omega
   · have := tw (n := n) h; omega
theorem eU (n : Nat) : ∀ l : List Value, l.length ≤ mT (n + 1) l
 | [] => by simp
 | x :: l => by have := eU n l; rw [fX, List.length_cons]; omega
theorem ow : ∀ (n : Nat) (l : List Value), 0 ≤ mD n l ∧ mD n l ≤ mT n l
 | 0, l => by simp [mD, mT]
 | n + 1, l => by
   have hk : ∀ ks, 0 ≤ kdM (mD n) ks ∧ kdM (mD n) ks ≤ kT n ks + 1 := by
    intro ks
    induction ks with
    | nil => simp [kdM, kT]
    | cons k ks ih =>
      have := ow n k
      rw [gb, kdM]; omega
   induction l with
   | nil => rw [ou, ot]; simp
   | cons v l ih =>
     have := hk (ksV v)
     rw [jZ, fX]; omega
theorem dD {n : Nat} {l : List Value} {v : Value} {k : List Value} (h : lsP (n + 1) l) (hv : v ∈ l) (hk : k ∈ ksV v) : lsP n k ∧ mT n k ≤ 1048576 := by
 obtain ⟨h1, h2⟩ := h
 obtain ⟨_, _, m, rfl, h3⟩ := bW (h1 v hv)
 have h4 := tw (n := m + 1) hv
 have h5 := tE (n := m + 1) hk
 exact ⟨⟨h3 k hk, by omega⟩, by omega⟩
theorem ji {r : SR} (h : WfS r) : DtP (ksR r) ∧ (ksR r).length ≤ 1048578 := by
 obtain ⟨⟨ps, ts, cs, ws, h1, h2, h3, h4, h5, h6, h7, h8, h9⟩, hf⟩ := h
 obtain ⟨_, hd⟩ := oJ hf h4
 unfold ksR
 rw [h4, dj]
 exact ⟨hd, by simp [kdL]; omega⟩
theorem cd {n : Nat} {l : List Value} (h : lsP (n + 1) l) : HF (dat 19 l) := .dat fun x hx => by
 obtain ⟨h1, h2, _⟩ := bW (h.1 x hx)
 rw [h1]; exact h2.2
theorem ss {n : Nat} (hX : (XMs n).Ok) {K : KV} {again0 : KF} (l : List Value) (hl : HF (dat 19 l)) (i : Nat) (hi : i ≤ 1048576) (ks : List (List Value)) (hks : ∀ k ∈ ks, lsP n k) (hd : DtP ks) (hkl : ks.length ≤ 1048578) (a2 a3 : Int) (h2 : 0 ≤ a2) (h3 : 0 ≤ a3) (hb : a2 + kT n ks ≤ 2000000)
 (h : again0 (rL l (i + 1) (a2 + kT n ks) (max a3 (kdM (mD n) ks))) ⟨.leaf, 0⟩) :
 LAtZ (XMs n) 1 (Func.ntmps f16) ⟨.leaf, 0⟩ cIMs [1, 1, 0, 0, 1, 1, 1, 1, 0] (kIMs n K again0) (ze l i (dts ks) 0 a2 a3) ⟨.leaf, 0⟩ := by
 have hlen := cV ks
 refine LAtZ.step hX rfl [] [] [] [2, 3, 10, 11, 12, 21, 22, 23] (by kernel_rfl) (fun k F A => ∃ (j : Nat) (b2 b3 : Int), F = ze l i (dts ks) j b2 b3 ∧ A = ⟨.leaf, 0⟩ ∧ j + k = ks.length ∧ 0 ≤ b2 ∧ 0 ≤ b3 ∧ b2 + kT n (ks.drop j) = a2 + kT n ks ∧ max b3 (kdM (mD n) (ks.drop j)) = max a3 (kdM (mD n) ks)) ?_ (k := ks.length) ⟨0, a2, a3, rfl, rfl, by omega, h2, h3, rfl, rfl⟩
 rintro k F A ⟨j, b2, b3, rfl, rfl, hk, g2, g3, e2, e3⟩
 refine (xY n K again0 _ l i _ j b2 b3).mpr ?_
 rw [hlen]
 refine Sp.intro (fun c => ?_) (fun c => ?_)
 · have hj : j < ks.length := by have := odt c; omega
   have hw := i64s j (by omega)
   rw [List.drop_eq_getElem_cons hj] at e2 e3
   rw [gb] at e2
   rw [kdM] at e3
   have hm := ow n ks[j]
   have w2 : IntKind.i64.wrap (b2 + (mT n ks[j] : Int)) = b2 + (mT n ks[j] : Int) := aB (by omega) (by omega)
   have w3 : IntKind.i64.wrap (mD n ks[j] + 1) = mD n ks[j] + 1 := aB (by omega) (by omega)
   simp only [Int.toNat_natCast, fO hj, eF hj, hw, w2, w3]
   refine ⟨by omega, by first | trivial | rfl, hks _ (List.getElem_mem hj), hl, .dat hd, k - 1, by omega, j + 1, b2 + (mT n ks[j] : Int), max b3 (mD n ks[j] + 1), by rw [← hlen]; rfl, by first | trivial | rfl, by omega, by omega, by omega, by omega, by omega⟩
 · have hn : ks.drop j = [] := List.drop_eq_nil_of_le (by have := odf c; omega)
   have hw := i64s i (by omega)
   rw [hn] at e2 e3
   have q2 : a2 + kT n ks = b2 := by rw [← e2]; simp [kT]
   have q3 : max a3 (kdM (mD n) ks) = b3 := by rw [← e3, kdM]; omega
   rw [q2, q3] at h
   simp only [hw]
   exact ⟨hl, h⟩
theorem AE {n : Nat} (hX : (XMs n).Ok) (l : List Value) (hP : lsP (n + 1) l) : LAtZ (XMs n) 1 (Func.ntmps f16) ⟨.leaf, 0⟩ (ae f16) [1, 0, 1, 0] (lv n (fun v A => Frz A v (.tuple ⟨[.int .i64 (mT (n + 1) l), .int .i64 (mD (n + 1) l)]⟩))) (rL l 0 0 0) ⟨.leaf, 0⟩ := by
 have hll := eU n l
 have hl := cd hP
 have hb := hP.2
 refine LAtZ.step hX rfl [] [] [] [2, 3, 10, 11, 12] (by kernel_rfl) (fun k F A => ∃ (i : Nat) (a2 a3 : Int), F = rL l i a2 a3 ∧ A = ⟨.leaf, 0⟩ ∧ i + k = l.length ∧ 0 ≤ a2 ∧ 0 ≤ a3 ∧ a2 + mT (n + 1) (l.drop i) = mT (n + 1) l ∧ max a3 (mD (n + 1) (l.drop i)) = mD (n + 1) l) ?_ (k := l.length) ⟨0, 0, 0, rfl, rfl, by omega, by omega, by omega, by simp, by have := ow (n + 1) l; rw [List.drop_zero]; omega⟩
 rintro k F A ⟨i, a2, a3, rfl, rfl, hk, g2, g3, e2, e3⟩
 refine (xZ n _ _ l i a2 a3).mpr ?_
 refine Sp.intro (fun c => ?_) (fun c => ?_)
 · have hi : i < l.length := by have := odt c; omega
   rw [List.drop_eq_getElem_cons hi] at e2 e3
   rw [fX] at e2
   rw [jZ] at e3
   obtain ⟨hv, hw, m, hm, hk2⟩ := bW (hP.1 _ (List.getElem_mem hi))
   obtain ⟨hd, hkl⟩ := ji hw
   have w2 : IntKind.i64.wrap (a2 + 1) = a2 + 1 := aB (by omega) (by omega)
   have hkv : kdV (srD l[i]) = dts (ksV l[i]) := ga _
   simp only [Int.toNat_natCast, du hi, w2, hkv]
   refine ⟨by omega, (cQ hi).trans (congrArg some hv), hw, hl, .dat hd, ?_⟩
   refine ss hX l hl i (by omega) (ksV l[i]) (fun k hk => (dD hP (List.getElem_mem hi) hk).1) hd hkl (a2 + 1) (max a3 1) (by omega) (by omega) (by omega) ⟨k - 1, by omega, i + 1, _, _, rfl, rfl, by omega, by omega, by omega, by omega, by omega⟩
 · have hn : l.drop i = [] := List.drop_eq_nil_of_le (by have := odf c; omega)
   rw [hn, ot] at e2
   rw [hn, ou] at e3
   have q2 : ((mT (n + 1) l : Nat) : Int) = a2 := by omega
   have q3 : mD (n + 1) l = a3 := by omega
   rw [q2, q3]
   exact .same (.tuple (HF.cons (HFi _ _) (HF.cons (HFi _ _) HF.nil)))
theorem pw {f g : List Value → Nat} (h : ∀ k, f k ≤ g k) : ∀ (ks : List (List Value)) (a : Nat), cntF f a ks ≤ a + (ks.map g).sum
 | [], a => by simp [cntF]
 | k :: ks, a => by
   have := pw h ks (a + f k)
   have := h k
   rw [cntF, List.map_cons, List.sum_cons]
   cases decide (1000 < a)
   · simp only [cond_false]; omega
   · simp only [cond_true]; omega
theorem iB (n : Nat) : ∀ l : List Value, mT (n + 1) l = l.length + ((l.flatMap ksV).map (mT n)).sum
 | [] => by simp [ot]
 | v :: l => by
   rw [fX, iB n l, List.flatMap_cons, List.map_append, List.sum_append, List.length_cons, kT]; omega
theorem zI : ∀ (n : Nat) (l : List Value), cN n l ≤ mT n l
 | 0, l => by simp [cN, mT]
 | n + 1, l => by rw [iB]; exact pw (zI n) _ _
theorem pu {f g : List Value → Nat} (h : ∀ k, f k = g k ∨ 1000 < f k) : ∀ (ks : List (List Value)) (a : Nat), cntF f a ks = a + (ks.map g).sum ∨ 1000 < cntF f a ks
 | [], a => by simp [cntF]
 | k :: ks, a => by
   rw [cntF, List.map_cons, List.sum_cons]
   cases hc : decide (1000 < a) with
   | true => right; simpa using hc
   | false =>
     simp only [cond_false]
     have mono : ∀ (ks : List (List Value)) (a : Nat), a ≤ cntF f a ks := by
      intro ks
      induction ks with
      | nil => intro a; simp [cntF]
      | cons k ks ih =>
        intro a
        have := ih (a + f k)
        rw [cntF]
        cases decide (1000 < a) with
        | true => simp
        | false => simp only [cond_false]; omega
     have := mono ks (a + f k)
     rcases pu h ks (a + f k) with q | q
     · rcases h k with q2 | q2
       · left; omega
       · right; omega
     · right; exact q
theorem cN_or : ∀ (n : Nat) (l : List Value), cN n l = mT n l ∨ 1000 < cN n l
 | 0, l => by simp [cN, mT]
 | n + 1, l => by rw [iB]; exact pu (cN_or n) _ _
theorem kx (n : Nat) (l : List Value) : decide ((1000 : Int) < (cN n l : Int)) = decide ((1000 : Int) < (mT n l : Int)) := by
 have h1 := zI n l
 rcases cN_or n l with h | h
 · rw [h]
 · rw [decide_eq_true (by omega), decide_eq_true (by omega)]
def sT (n : Nat) (ks : List (List Value)) : Nat := (ks.map (mT n)).sum
theorem vK (n : Nat) (k : List Value) (ks : List (List Value)) : sT n (k :: ks) = mT n k + sT n ks := by simp [sT]
theorem sv {n : Nat} (hX : (XCn n).Ok) {K : KV} {again0 : KF} (l : List Value) (hl : HF (dat 19 l)) (i : Nat) (hi : i ≤ 1048576) (ks rest : List (List Value)) (hks : ∀ k ∈ ks, lsP n k) (hd : DtP ks) (hkl : ks.length ≤ 1048578) (a3 : Nat) (hb : a3 + sT n (ks ++ rest) ≤ 2000000) (R : Nat) (hR : cntF (cN n) a3 (ks ++ rest) = R)
 (hK : ∀ A, K (.int .i64 R) A) (h : ∀ b3 : Nat, b3 + sT n rest ≤ 2000000 → cntF (cN n) b3 rest = R → again0 (rO l (i + 1) b3) ⟨.leaf, 0⟩) :
 LAtZ (XCn n) 1 (Func.ntmps f18) ⟨.leaf, 0⟩ cICn [1, 1, 0, 0, 1, 1, 0] (kICn n K again0) (zg l i (dts ks) 0 a3) ⟨.leaf, 0⟩ := by
 have hlen := cV ks
 refine LAtZ.step hX rfl [] [] [] [3, 10, 11, 12, 17, 18, 19] (by kernel_rfl) (fun k F A => ∃ (j b3 : Nat), F = zg l i (dts ks) j b3 ∧ A = ⟨.leaf, 0⟩ ∧ j + k = ks.length ∧ b3 + sT n (ks.drop j ++ rest) ≤ 2000000 ∧ cntF (cN n) b3 (ks.drop j ++ rest) = R) ?_ (k := ks.length) ⟨0, a3, rfl, rfl, by omega, hb, hR⟩
 rintro k F A ⟨j, b3, rfl, rfl, hk, g3, e3⟩
 refine (yr n K again0 _ l i _ j b3).mpr ?_
 rw [hlen]
 refine Sp.intro (fun c => ?_) (fun c => ?_)
 · have hj : j < ks.length := by have := odt c; omega
   have hw := i64s j (by omega)
   rw [List.drop_eq_getElem_cons hj, List.cons_append] at e3 g3
   rw [vK] at g3
   rw [cntF] at e3
   have hm := zI n ks[j]
   have w3 : IntKind.i64.wrap ((b3 : Int) + (cN n ks[j] : Int)) = ((b3 + cN n ks[j] : Nat) : Int) := by rw [aB (by omega) (by omega)]; omega
   simp only [Int.toNat_natCast, fO hj, eF hj, hw, w3]
   refine ⟨by omega, by first | trivial | rfl, Sp.intro (fun c2 => ?_) (fun c2 => ⟨hks _ (List.getElem_mem hj), hl, .dat hd, k - 1, by omega, j + 1, b3 + cN n ks[j], by rw [← hlen]; rfl, by first | trivial | rfl, by omega, by omega, ?_⟩)⟩
   · have c2 : 1000 < b3 := by have := odt c2; omega
     rw [decide_eq_true c2] at e3
     have e3 : b3 = R := e3
     rw [e3]; exact hK _
   · have c2 : ¬ 1000 < b3 := by have := odf c2; omega
     rw [decide_eq_false c2] at e3
     exact e3
 · have hn : ks.drop j = [] := List.drop_eq_nil_of_le (by have := odf c; omega)
   have hw := i64s i (by omega)
   rw [hn, List.nil_append] at e3 g3
   simp only [hw]
   exact ⟨hl, h b3 g3 e3⟩
theorem AU {n : Nat} (hX : (XCn n).Ok) (l : List Value) (hP : lsP (n + 1) l) : LAtZ (XCn n) 1 (Func.ntmps f18) ⟨.leaf, 0⟩ (ae f18) [1, 1, 0, 1, 0] (lx n (fun v A => Frz A v (.int .i64 (cN (n + 1) l)))) (rO l 0 l.length) ⟨.leaf, 0⟩ := by
 have hll := eU n l
 have hl := cd hP
 have hb := hP.2
 have hf := iB n l
 refine LAtZ.step hX rfl [] [] [] [3, 10, 11, 12] (by kernel_rfl) (fun k F A => ∃ (i a3 : Nat), F = rO l i a3 ∧ A = ⟨.leaf, 0⟩ ∧ i + k = l.length ∧ a3 + sT n ((l.drop i).flatMap ksV) ≤ 2000000 ∧ cntF (cN n) a3 ((l.drop i).flatMap ksV) = cN (n + 1) l) ?_ (k := l.length) ⟨0, l.length, rfl, rfl, by omega, by rw [List.drop_zero]; unfold sT; omega, rfl⟩
 rintro k F A ⟨i, a3, rfl, rfl, hk, g3, e3⟩
 refine (yu n _ _ l i a3).mpr ?_
 refine Sp.intro (fun c => ?_) (fun c => ?_)
 · have hi : i < l.length := by have := odt c; omega
   rw [List.drop_eq_getElem_cons hi, List.flatMap_cons] at e3 g3
   obtain ⟨hv, hw, m, hm, hk2⟩ := bW (hP.1 _ (List.getElem_mem hi))
   obtain ⟨hd, hkl⟩ := ji hw
   have hkv : kdV (srD l[i]) = dts (ksV l[i]) := ga _
   simp only [Int.toNat_natCast, du hi, hkv]
   refine ⟨by omega, (cQ hi).trans (congrArg some hv), hw, hl, .dat hd, ?_⟩
   exact sv hX l hl i (by omega) (ksV l[i]) _ (fun k hk => (dD hP (List.getElem_mem hi) hk).1) hd hkl a3 g3 _ e3 (fun A => .same (HFi _ _)) (fun b3 g4 e4 => ⟨k - 1, by omega, i + 1, b3, rfl, rfl, by omega, g4, e4⟩)
 · have hn : l.drop i = [] := List.drop_eq_nil_of_le (by have := odf c; omega)
   rw [hn] at e3
   have e3 : a3 = cN (n + 1) l := e3
   rw [← e3]
   exact .same (HFi _ _)
def kmx (f : List Value → Int) : List (List Value) → Int
 | [] => 0
 | k :: ks => max (f k) (kmx f ks)
theorem oH {f : List Value → Int} : ∀ ks : List (List Value), max 1 (kdM f ks) = kmx f ks + 1
 | [] => by rw [kmx, kdM]; omega
 | k :: ks => by have := @oH f ks; rw [kdM, kmx]; omega
theorem tB {n : Nat} {B : Int} (hB : 0 ≤ B) : ∀ {ks : List (List Value)}, (∀ k ∈ ks, mD n k ≤ B) → 0 ≤ kmx (mD n) ks ∧ kmx (mD n) ks ≤ B
 | [], _ => by simp [kmx, hB]
 | k :: ks, h => by
   have := tB (n := n) hB (ks := ks) fun x hx => h x (by simp [hx])
   have := h k (by simp)
   rw [kmx]; omega
theorem su {n : Nat} (hX : (XLv n).Ok) {K : KV} {again0 : KF} (l : List Value) (hl : HF (dat 19 l)) (i : Nat) (hi : i ≤ 1048576) (ks : List (List Value)) (hks : ∀ k ∈ ks, lsP n k) (hd : DtP ks) (hkl : ks.length ≤ 1048578) (hB : ∀ k ∈ ks, mD n k ≤ 1048576) (a3 : Int)
 (h : again0 (rM l (i + 1) (max a3 (kmx (mD n) ks + 1))) ⟨.leaf, 0⟩) :
 LAtZ (XLv n) 1 (Func.ntmps f19) ⟨.leaf, 0⟩ cILv [1, 1, 0, 0, 1, 1, 0, 1, 0] (kILv n K again0) (zf l i (dts ks) 0 a3 0) ⟨.leaf, 0⟩ := by
 have hlen := cV ks
 have hmx := tB (n := n) (B := 1048576) (by omega) hB
 refine LAtZ.step hX rfl [] [] [] [3, 6, 9, 10, 11, 16, 17, 18] (by kernel_rfl) (fun k F A => ∃ (j : Nat) (b6 : Int), F = zf l i (dts ks) j a3 b6 ∧ A = ⟨.leaf, 0⟩ ∧ j + k = ks.length ∧ 0 ≤ b6 ∧ max b6 (kmx (mD n) (ks.drop j)) = kmx (mD n) ks) ?_ (k := ks.length) ⟨0, 0, rfl, rfl, by omega, by omega, by rw [List.drop_zero]; omega⟩
 rintro k F A ⟨j, b6, rfl, rfl, hk, g6, e6⟩
 refine (x6 n K again0 _ l i _ j a3 b6).mpr ?_
 rw [hlen]
 refine Sp.intro (fun c => ?_) (fun c => ?_)
 · have hj : j < ks.length := by have := odt c; omega
   have hw := i64s j (by omega)
   rw [List.drop_eq_getElem_cons hj] at e6
   rw [kmx] at e6
   simp only [Int.toNat_natCast, fO hj, eF hj, hw]
   refine ⟨by omega, by first | trivial | rfl, hks _ (List.getElem_mem hj), hl, .dat hd, k - 1, by omega, j + 1, max b6 (mD n ks[j]), by rw [← hlen]; rfl, by first | trivial | rfl, by omega, by omega, by omega⟩
 · have hn : ks.drop j = [] := List.drop_eq_nil_of_le (by have := odf c; omega)
   have hw := i64s i (by omega)
   rw [hn] at e6
   have q6 : kmx (mD n) ks = b6 := by rw [← e6, kmx]; omega
   have w6 : IntKind.i64.wrap (b6 + 1) = b6 + 1 := aB (by omega) (by omega)
   rw [q6] at h
   simp only [hw, w6]
   exact ⟨hl, h⟩
theorem AI {n : Nat} (hX : (XLv n).Ok) (l : List Value) (hP : lsP (n + 1) l) : LAtZ (XLv n) 1 (Func.ntmps f19) ⟨.leaf, 0⟩ (ae f19) [1, 1, 0, 1, 0] (lw n (fun v A => Frz A v (.int .i64 (mD (n + 1) l)))) (rM l 0 0) ⟨.leaf, 0⟩ := by
 have hll := eU n l
 have hl := cd hP
 have hb := hP.2
 refine LAtZ.step hX rfl [] [] [] [3, 9, 10, 11] (by kernel_rfl) (fun k F A => ∃ (i : Nat) (a3 : Int), F = rM l i a3 ∧ A = ⟨.leaf, 0⟩ ∧ i + k = l.length ∧ 0 ≤ a3 ∧ max a3 (mD (n + 1) (l.drop i)) = mD (n + 1) l) ?_ (k := l.length) ⟨0, 0, rfl, rfl, by omega, by omega, by have := ow (n + 1) l; rw [List.drop_zero]; omega⟩
 rintro k F A ⟨i, a3, rfl, rfl, hk, g3, e3⟩
 refine (x7 n _ _ l i a3).mpr ?_
 refine Sp.intro (fun c => ?_) (fun c => ?_)
 · have hi : i < l.length := by have := odt c; omega
   rw [List.drop_eq_getElem_cons hi] at e3
   rw [jZ, oH] at e3
   obtain ⟨hv, hw, m, hm, hk2⟩ := bW (hP.1 _ (List.getElem_mem hi))
   obtain ⟨hd, hkl⟩ := ji hw
   have hkv : kdV (srD l[i]) = dts (ksV l[i]) := ga _
   simp only [Int.toNat_natCast, du hi, hkv]
   refine ⟨by omega, (cQ hi).trans (congrArg some hv), hw, hl, .dat hd, ?_⟩
   exact su hX l hl i (by omega) (ksV l[i]) (fun k hk => (dD hP (List.getElem_mem hi) hk).1) hd hkl (fun k hk => by have := ow n k; have := (dD hP (List.getElem_mem hi) hk).2; omega) a3 ⟨k - 1, by omega, i + 1, _, rfl, rfl, by omega, by omega, by omega⟩
 · have hn : l.drop i = [] := List.drop_eq_nil_of_le (by have := odf c; omega)
   rw [hn, ou] at e3
   have q3 : mD (n + 1) l = a3 := by omega
   rw [q3]
   exact .same (HFi _ _)
theorem sw {m : Int} {n : Nat} (hX : (XCe m n).Ok) {K : KV} {again0 : KF} (l : List Value) (hl : HF (dat 19 l)) (i : Nat) (hi : i ≤ 1048576) (ks : List (List Value)) (hks : ∀ k ∈ ks, lsP n k) (hd : DtP ks) (hkl : ks.length ≤ 1048578)
 (hK : (!decide (kdE (cE n) ks = 0)) = true → ∀ A, K (.int .i64 (kdE (cE n) ks)) A) (h : (!decide (kdE (cE n) ks = 0)) = false → again0 (rP l (i + 1)) ⟨.leaf, 0⟩) :
 LAtZ (XCe m n) 1 (Func.ntmps f17) ⟨.leaf, 0⟩ cICe [1, 1, 0, 0, 1, 1, 1, 0] (kICe m n K again0) (zh l i (dts ks) 0) ⟨.leaf, 0⟩ := by
 have hlen := cV ks
 refine LAtZ.step hX rfl [] [] [] [9, 10, 11, 21, 22, 23] (by kernel_rfl) (fun k F A => ∃ (j : Nat), F = zh l i (dts ks) j ∧ A = ⟨.leaf, 0⟩ ∧ j + k = ks.length ∧ kdE (cE n) (ks.drop j) = kdE (cE n) ks) ?_ (k := ks.length) ⟨0, rfl, rfl, by omega, rfl⟩
 rintro k F A ⟨j, rfl, rfl, hk, e⟩
 refine (yE m n K again0 _ l i _ j).mpr ?_
 rw [hlen]
 refine Sp.intro (fun c => ?_) (fun c => ?_)
 · have hj : j < ks.length := by have := odt c; omega
   have hw := i64s j (by omega)
   rw [List.drop_eq_getElem_cons hj] at e
   rw [kdE] at e
   simp only [Int.toNat_natCast, fO hj, eF hj, hw]
   refine ⟨by omega, by first | trivial | rfl, hks _ (List.getElem_mem hj), Sp.intro (fun c2 => ?_) (fun c2 => ⟨hl, .dat hd, k - 1, by omega, j + 1, by rw [← hlen]; rfl, by first | trivial | rfl, by omega, ?_⟩)⟩
   · rw [c2] at e
     have e : cE n ks[j] = kdE (cE n) ks := e
     rw [e] at c2 ⊢
     exact hK c2 _
   · rw [c2] at e; exact e
 · have hn : ks.drop j = [] := List.drop_eq_nil_of_le (by have := odf c; omega)
   have hw := i64s i (by omega)
   rw [hn] at e
   simp only [hw]
   exact ⟨hl, h (by rw [← e]; rfl)⟩
theorem AV {m : Int} {n : Nat} (hX : (XCe m n).Ok) (l : List Value) (hP : lsP (n + 1) l) : LAtZ (XCe m n) 1 (Func.ntmps f17) ⟨.leaf, 0⟩ (ae f17) [1, 0, 1, 0] (ly m n (fun v A => Frz A v (.int .i64 (cE (n + 1) l)))) (rP l 0) ⟨.leaf, 0⟩ := by
 have hll := eU n l
 have hl := cd hP
 have hb := hP.2
 refine LAtZ.step hX rfl [] [] [] [9, 10, 11] (by kernel_rfl) (fun k F A => ∃ (i : Nat), F = rP l i ∧ A = ⟨.leaf, 0⟩ ∧ i + k = l.length ∧ cE (n + 1) (l.drop i) = cE (n + 1) l) ?_ (k := l.length) ⟨0, rfl, rfl, by omega, rfl⟩
 rintro k F A ⟨i, rfl, rfl, hk, e⟩
 refine (yF m n _ _ l i).mpr ?_
 refine Sp.intro (fun c => ?_) (fun c => ?_)
 · have hi : i < l.length := by have := odt c; omega
   rw [List.drop_eq_getElem_cons hi] at e
   rw [ky] at e
   obtain ⟨hv, hw, m, hm, hk2⟩ := bW (hP.1 _ (List.getElem_mem hi))
   obtain ⟨hd, hkl⟩ := ji hw
   have hkv : kdV (srD l[i]) = dts (ksV l[i]) := ga _
   simp only [Int.toNat_natCast, du hi, hkv]
   refine ⟨by omega, (cQ hi).trans (congrArg some hv), hw, Sp.intro (fun c1 => ?_) (fun c1 => ⟨hw, hl, .dat hd, ?_⟩)⟩
   · rw [c1] at e
     have e : stE (srD l[i]) = cE (n + 1) l := e
     rw [e]; exact .same (HFi _ _)
   rw [c1] at e
   refine sw hX l hl i (by omega) (ksV l[i]) (fun k hk => (dD hP (List.getElem_mem hi) hk).1) hd hkl (fun c2 A => ?_) (fun c2 => ⟨k - 1, by omega, i + 1, rfl, rfl, by omega, ?_⟩)
   · rw [c2] at e
     have e : kdE (cE n) (ksV l[i]) = cE (n + 1) l := e
     rw [e]; exact .same (HFi _ _)
   · rw [c2] at e; exact e
 · have hn : l.drop i = [] := List.drop_eq_nil_of_le (by have := odf c; omega)
   rw [hn] at e
   have e : 0 = cE (n + 1) l := e
   rw [← e]
   exact .same (HFi _ _)
theorem sn {m : Int} {n : Nat} (hX : (XSv m n).Ok) {K : KV} {again0 : KF} (l : List Value) (hl : HF (dat 19 l)) (i : Nat) (hi : i ≤ 1048576) (ks : List (List Value)) (hks : ∀ k ∈ ks, lsP n k) (hd : DtP ks) (hkl : ks.length ≤ 1048578)
 (hK : (!decide (kdE (cE n) ks = 0)) = true → ∀ A, K (.int .i64 (kdE (cE n) ks)) A) (h : (!decide (kdE (cE n) ks = 0)) = false → again0 (rK l (i + 1)) ⟨.leaf, 0⟩) :
 LAtZ (XSv m n) 1 (Func.ntmps f20) ⟨.leaf, 0⟩ cISv [1, 1, 0, 0, 1, 1, 1, 0] (kISv m n K again0) (zb l i (dts ks) 0) ⟨.leaf, 0⟩ := by
 have hlen := cV ks
 refine LAtZ.step hX rfl [] [] [] [9, 10, 11, 21, 22, 23] (by kernel_rfl) (fun k F A => ∃ (j : Nat), F = zb l i (dts ks) j ∧ A = ⟨.leaf, 0⟩ ∧ j + k = ks.length ∧ kdE (cE n) (ks.drop j) = kdE (cE n) ks) ?_ (k := ks.length) ⟨0, rfl, rfl, by omega, rfl⟩
 rintro k F A ⟨j, rfl, rfl, hk, e⟩
 refine (w9 m n K again0 _ l i _ j).mpr ?_
 rw [hlen]
 refine Sp.intro (fun c => ?_) (fun c => ?_)
 · have hj : j < ks.length := by have := odt c; omega
   have hw := i64s j (by omega)
   rw [List.drop_eq_getElem_cons hj] at e
   rw [kdE] at e
   simp only [Int.toNat_natCast, fO hj, eF hj, hw]
   refine ⟨by omega, by first | trivial | rfl, hks _ (List.getElem_mem hj), Sp.intro (fun c2 => ?_) (fun c2 => ⟨hl, .dat hd, k - 1, by omega, j + 1, by rw [← hlen]; rfl, by first | trivial | rfl, by omega, ?_⟩)⟩
   · rw [c2] at e
     have e : cE n ks[j] = kdE (cE n) ks := e
     rw [e] at c2 ⊢
     exact hK c2 _
   · rw [c2] at e; exact e
 · have hn : ks.drop j = [] := List.drop_eq_nil_of_le (by have := odf c; omega)
   have hw := i64s i (by omega)
   rw [hn] at e
   simp only [hw]
   exact ⟨hl, h (by rw [← e]; rfl)⟩
theorem An {m : Int} {n : Nat} (hX : (XSv m n).Ok) (l : List Value) (hP : lsP (n + 1) l) : LAtZ (XSv m n) 1 (Func.ntmps f20) ⟨.leaf, 0⟩ (ae f20) [1, 0, 1, 0] (lu m n (fun v A => Frz A v (.int .i64 (cE (n + 1) l)))) (rK l 0) ⟨.leaf, 0⟩ := by
 have hll := eU n l
 have hl := cd hP
 have hb := hP.2
 refine LAtZ.step hX rfl [] [] [] [9, 10, 11] (by kernel_rfl) (fun k F A => ∃ (i : Nat), F = rK l i ∧ A = ⟨.leaf, 0⟩ ∧ i + k = l.length ∧ cE (n + 1) (l.drop i) = cE (n + 1) l) ?_ (k := l.length) ⟨0, rfl, rfl, by omega, rfl⟩
 rintro k F A ⟨i, rfl, rfl, hk, e⟩
 refine (xb m n _ _ l i).mpr ?_
 refine Sp.intro (fun c => ?_) (fun c => ?_)
 · have hi : i < l.length := by have := odt c; omega
   rw [List.drop_eq_getElem_cons hi] at e
   rw [ky] at e
   obtain ⟨hv, hw, m, hm, hk2⟩ := bW (hP.1 _ (List.getElem_mem hi))
   obtain ⟨hd, hkl⟩ := ji hw
   have hkv : kdV (srD l[i]) = dts (ksV l[i]) := ga _
   simp only [Int.toNat_natCast, du hi, hkv]
   refine ⟨by omega, (cQ hi).trans (congrArg some hv), hw, Sp.intro (fun c1 => ?_) (fun c1 => ⟨hw, hl, .dat hd, ?_⟩)⟩
   · rw [c1] at e
     have e : stE (srD l[i]) = cE (n + 1) l := e
     rw [e]; exact .same (HFi _ _)
   rw [c1] at e
   refine sn hX l hl i (by omega) (ksV l[i]) (fun k hk => (dD hP (List.getElem_mem hi) hk).1) hd hkl (fun c2 A => ?_) (fun c2 => ⟨k - 1, by omega, i + 1, rfl, rfl, by omega, ?_⟩)
   · rw [c2] at e
     have e : kdE (cE n) (ksV l[i]) = cE (n + 1) l := e
     rw [e]; exact .same (HFi _ _)
   · rw [c2] at e; exact e
 · have hn : l.drop i = [] := List.drop_eq_nil_of_le (by have := odf c; omega)
   rw [hn] at e
   have e : 0 = cE (n + 1) l := e
   rw [← e]
   exact .same (HFi _ _)
theorem uy : ∀ n args A p v A', aj (bj (lsP n)) (vMs n) args A = some (p, v, A') → PH p → an envX 16 args A v A'
 | 0 => ai ag ah (fn := f16) rfl fun args v h hp => by
   unfold vMs bn at h
   split at h
   · exact hp.elim
   · cases h
 | n + 1 => ai ag ah (fn := f16) rfl fun args v h hp => by
   have hX : (XMs n).Ok := z8 n (.cons (uy n) (.cons tC .nil))
   unfold vMs bn at h
   split at h
   · rename_i l
     simp only [osI] at h
     subst h
     have hp : lsP (n + 1) l := hp
     exact ⟨HF.cons (cd hp) HF.nil, al hX (d := 1) ((jMs_nf n _ l).mpr ⟨cd hp, AE hX l hp⟩)⟩
   · cases h
theorem uA : ∀ n args A p v A', aj (bj (lsP n)) (vCn n) args A = some (p, v, A') → PH p → an envX 18 args A v A'
 | 0 => ai ag ah (fn := f18) rfl fun args v h hp => by
   unfold vCn bn at h
   split at h
   · exact hp.elim
   · cases h
 | n + 1 => ai ag ah (fn := f18) rfl fun args v h hp => by
   have hX : (XCn n).Ok := Ab n (.cons (uA n) (.cons oQ .nil))
   unfold vCn bn at h
   split at h
   · rename_i l
     simp only [osI] at h
     subst h
     have hp : lsP (n + 1) l := hp
     exact ⟨HF.cons (cd hp) HF.nil, al hX (d := 1) ((jCn_nf n _ l).mpr ⟨cd hp, AU hX l hp⟩)⟩
   · cases h
theorem uz : ∀ n args A p v A', aj (bj (lsP n)) (vLv n) args A = some (p, v, A') → PH p → an envX 19 args A v A'
 | 0 => ai ag ah (fn := f19) rfl fun args v h hp => by
   unfold vLv bn at h
   split at h
   · exact hp.elim
   · cases h
 | n + 1 => ai ag ah (fn := f19) rfl fun args v h hp => by
   have hX : (XLv n).Ok := Aa n (.cons (uz n) (.cons oQ .nil))
   unfold vLv bn at h
   split at h
   · rename_i l
     simp only [osI] at h
     subst h
     have hp : lsP (n + 1) l := hp
     exact ⟨HF.cons (cd hp) HF.nil, al hX (d := 1) ((jLv_nf n _ l).mpr ⟨cd hp, AI hX l hp⟩)⟩
   · cases h
theorem uB (m : Int) : ∀ n args A p v A', aj (bj (lsP n)) (vCe n) args A = some (p, v, A') → PH p → an (envM m) 17 args A v A'
 | 0 => ai (aE m) (aF m) (fn := f17) rfl fun args v h hp => by
   unfold vCe bn at h
   split at h
   · exact hp.elim
   · cases h
 | n + 1 => ai (aE m) (aF m) (fn := f17) rfl fun args v h hp => by
   have hX : (XCe m n).Ok := Ad m n (.cons (uB m n) (.cons (toM tC) (.cons (ck_tab m) .nil)))
   unfold vCe bn at h
   split at h
   · rename_i l
     simp only [osI] at h
     subst h
     have hp : lsP (n + 1) l := hp
     exact ⟨HF.cons (cd hp) HF.nil, al hX (d := 1) ((jCe_nf m n _ l).mpr ⟨cd hp, AV hX l hp⟩)⟩
   · cases h
theorem uw (m : Int) : ∀ n args A p v A', aj (bj (lsP n)) (vSv n) args A = some (p, v, A') → PH p → an (envM m) 20 args A v A'
 | 0 => ai (aE m) (aF m) (fn := f20) rfl fun args v h hp => by
   unfold vSv bn at h
   split at h
   · exact hp.elim
   · cases h
 | n + 1 => ai (aE m) (aF m) (fn := f20) rfl fun args v h hp => by
   have hX : (XSv m n).Ok := zY m n (.cons (uw m n) (.cons (toM oQ) (.cons (sf_tab m) .nil)))
   unfold vSv bn at h
   split at h
   · rename_i l
     simp only [osI] at h
     subst h
     have hp : lsP (n + 1) l := hp
     exact ⟨HF.cons (cd hp) HF.nil, al hX (d := 1) ((jSv_nf m n _ l).mpr ⟨cd hp, An hX l hp⟩)⟩
   · cases h
end
end Go.T9

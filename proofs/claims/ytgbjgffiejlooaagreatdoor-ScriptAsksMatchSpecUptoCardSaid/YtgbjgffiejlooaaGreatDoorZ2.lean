/- A part of the proof. -/
import Derived.Test.YtgbjgffiejlooaaGreatDoorZ1
import Derived.KernelRfl
set_option linter.unusedVariables false
set_option linter.unusedSimpArgs false
set_option maxRecDepth 1000000
set_option maxHeartbeats 1000000
namespace Go.T9
open Go Go.AM Go.MK Go.Proofs.Tryz
noncomputable section
theorem w7 (Q : Value → Prop) (QA : KV) (r : RU) (a b : Int) : jSvU Q QA r a b = ((InE r.1 ∧ (0 ≤ a ∧ a ≤ 4000000000000000) ∧ 0 ≤ b ∧ b ≤ 4000000000000000) ∧ Sp (decide (0 < b)) ((InE r.1 ∧ ((0 : Int) ≤ (0 : Int) ∧ (0 : Int) ≤ (4000000000000000 : Int)) ∧ 0 ≤ IntKind.wrap .i64 (b - 1) ∧ IntKind.wrap .i64 (b - 1) ≤ 4000000000000000) ∧ enV r.2 = enV r.2 ∧ (InE (svE r.1 0 (IntKind.wrap .i64 (b - 1))) ∧ InE r.2) ∧ Q (Va [Vb (svE r.1 a b).1, Vi (svE r.1 a b).2.1, Vi (svE r.1 a b).2.2, Vb (bhE (svE r.1 0 (IntKind.wrap .i64 (b - 1))) r.2).1, Vi (bhE (svE r.1 0 (IntKind.wrap .i64 (b - 1))) r.2).2.1, Vi (bhE (svE r.1 0 (IntKind.wrap .i64 (b - 1))) r.2).2.2])) (Q (Va [Vb (svE r.1 a b).1, Vi (svE r.1 a b).2.1, Vi (svE r.1 a b).2.2, Vb false, Vi 0, Vi 0]))) := by kernel_rfl
theorem vp {r : RU} {a b : Int} (hr : InU r) (ha : 0 ≤ a) (ha2 : a ≤ b) (hb2 : b ≤ 4000000000000000) : Walk envX f90 [ruV r, .int .i64 a, .int .i64 b] (ruV (svU r a b)) := by
 refine av XD3_ok (d := 1) (gx _) ((w7 _ _ r a b).mpr ⟨⟨hr.1, ⟨ha, by omega⟩, by omega, hb2⟩, Sp.intro (fun h => ?_) (fun h => ?_)⟩)
 · have h0 := odt h
   rw [aB (x := b - 1) (by omega) (by omega)]
   refine ⟨⟨hr.1, ⟨by omega, by omega⟩, by omega, by omega⟩, rfl, ⟨vn hr.1 (by omega) (by omega), hr.2⟩, ?_⟩
   unfold svU; rw [h]; rfl
 · unfold svU; rw [h]; rfl
def suX : List Value → Option Value
 | [.agg ⟨[.bool b1, .int .i64 l1, .int .i64 m1, .bool d1, .int .i64 p1, .int .i64 q1]⟩, .int .i64 a, .int .i64 b] => some (ruV (svU ((b1, l1, m1), (d1, p1, q1)) a b))
 | _ => none
def suP : List Value → Option Prop
 | [.agg ⟨[.bool b1, .int .i64 l1, .int .i64 m1, .bool d1, .int .i64 p1, .int .i64 q1]⟩, .int .i64 a, .int .i64 b] => some (InU ((b1, l1, m1), (d1, p1, q1)) ∧ 0 ≤ a ∧ a ≤ b ∧ b ≤ 4000000000000000)
 | _ => none
theorem su_tab : ∀ args A p v A', aj suP suX args A = some (p, v, A') → PH p → an envX 90 args A v A' := ai ag ah (fn := f90) rfl fun args v h hp => by
 unfold suX at h
 split at h
 · simp only [osI] at h
   subst h
   exact ⟨HF.cons (gx ((_, _, _), _, _, _)) (HF.cons (HFi _ _) (HF.cons (HFi _ _) HF.nil)), vp (r := ((_, _, _), _, _, _)) hp.1 hp.2.1 hp.2.2.1 hp.2.2.2⟩
 · cases h
def r0 : RU := ((true, 0, 0), (false, 0, 0))
def rZ : RU := ((false, 0, 0), (false, 0, 0))
def rN : RU := ((false, 0, 0), (true, 0, 0))
def r1 : RU := ((true, 1, 1), (false, 0, 0))
def s0 : SP := (0, 0, false, 0, 0, false)
def sN : SP := (0, 0, true, 0, 0, false)
def rS (f : List Value → RU) (r : SR) : RU := bif decide (r.kind = 1) then r1 else bif decide (r.kind = 9) || decide (r.kind = 10) then rN else bif decide (r.kind = 5) then orU (f r.thn) (f r.els) else bif decide (r.kind = 6) then svU (f r.thn) r.hi r.hi else bif decide (r.kind = 7) then svU (f r.thn) 0 r.hi else bif decide (r.kind = 8) then (unW r.ways).foldl (fun a w => orU a (f w.2)) rZ else r0
def rW : Nat → List Value → RU
 | 0, _ => r0
 | n + 1, l => l.foldl (fun a v => bhU a (rS (rW n) (srD v))) r0
def lsQ (n : Nat) (l : List Value) : Prop := lsP n l ∧ cE n l = 0
def stQ (n : Nat) (r : SR) : Prop := WfS r ∧ stE r = 0 ∧ ∀ k ∈ ksR r, lsQ n k
def ruC (r : RU) : List Value := [.bool r.1.1, .int .i64 r.1.2.1, .int .i64 r.1.2.2, .bool r.2.1, .int .i64 r.2.2.1, .int .i64 r.2.2.2]
def spC (s : SP) : List Value := [.int .i64 s.1, .int .i64 s.2.1, .bool s.2.2.1, .int .i64 s.2.2.2.1, .int .i64 s.2.2.2.2.1, .bool s.2.2.2.2.2]
def rsP (P : SR → Prop) : List Value → Option Prop
 | [v] => (match srA v with | some r => some (P r) | none => none)
 | _ => none
def rsX (f : SR → Value) : List Value → Option Value
 | [v] => (match srA v with | some r => some (f r) | none => none)
 | _ => none
def tabRs (P : List Value → Prop) (f : List Value → RU) : Tab := [(28, aj (bj P) (bn fun l => ruV (f l))), (89, aj (fun _ => none) (u2X orU)), (90, aj suP suX)]
def XRs (P : List Value → Prop) (f : List Value → RU) : SX := ⟨envX, tabRs P f, elWy, fun _ => .autoN [] [] [] [2, 4, 49, 50, 51]⟩
theorem z6 (P : List Value → Prop) (f : List Value → RU) (h : TabOk envX (tabRs P f)) : (XRs P f).Ok := ⟨ag, aw, ah, h⟩
def frRs (l : List Value) (i : Nat) : T Value := (Nd (Nd (Nd Lf none (Nd (Nd Lf none (Nd Lf (some (.int .i64 i)) Lf)) none Lf)) none (Nd (Nd (Nd Lf none (Nd Lf (some (dat 2 l)) Lf)) none Lf) none Lf)) none (Nd (Nd Lf (some (.pointer (some ⟨1, 0, none⟩))) Lf) (some (.pointer (some ⟨0, 0, none⟩))) (Nd (Nd (Nd Lf none (Nd Lf (some (.int .i64 l.length)) Lf)) none Lf) none Lf)))
def hRs (a : RU) : AH := ⟨Nd (Nd Lf (some (.cells (ruC a) 60)) Lf) (some (.cells (ruC rZ) 60)) Lf, 2⟩
def tG (P : List Value → Prop) (f : List Value → RU) (K : KV) : KX := finK (XRs P f).E (f54.results).toList K
def jRs1 (P : List Value → Prop) (f : List Value → RU) (K : KV) (q : SR) : Prop := ay (XRs P f) 1 f54 [stpV (rk 1 q)] ⟨.leaf, 0⟩ K
def jRs2 (P : List Value → Prop) (f : List Value → RU) (K : KV) (q : SR) : Prop := ay (XRs P f) 1 f54 [stpV (rk 2 q)] ⟨.leaf, 0⟩ K
def jRs3 (P : List Value → Prop) (f : List Value → RU) (K : KV) (q : SR) : Prop := ay (XRs P f) 1 f54 [stpV (rk 3 q)] ⟨.leaf, 0⟩ K
def jRs4 (P : List Value → Prop) (f : List Value → RU) (K : KV) (q : SR) : Prop := ay (XRs P f) 1 f54 [stpV (rk 4 q)] ⟨.leaf, 0⟩ K
def jRs5 (P : List Value → Prop) (f : List Value → RU) (K : KV) (q : SR) : Prop := ay (XRs P f) 1 f54 [stpV (rk 5 q)] ⟨.leaf, 0⟩ K
def jRs6 (P : List Value → Prop) (f : List Value → RU) (K : KV) (q : SR) : Prop := ay (XRs P f) 1 f54 [stpV (rk 6 q)] ⟨.leaf, 0⟩ K
def jRs7 (P : List Value → Prop) (f : List Value → RU) (K : KV) (q : SR) : Prop := ay (XRs P f) 1 f54 [stpV (rk 7 q)] ⟨.leaf, 0⟩ K
def jRs8 (P : List Value → Prop) (f : List Value → RU) (K : KV) (q : SR) : Prop := ay (XRs P f) 1 f54 [stpV (rk 8 q)] ⟨.leaf, 0⟩ K
def jRs9 (P : List Value → Prop) (f : List Value → RU) (K : KV) (q : SR) : Prop := ay (XRs P f) 1 f54 [stpV (rk 9 q)] ⟨.leaf, 0⟩ K
def jRs10 (P : List Value → Prop) (f : List Value → RU) (K : KV) (q : SR) : Prop := ay (XRs P f) 1 f54 [stpV (rk 10 q)] ⟨.leaf, 0⟩ K
def jRsL (P : List Value → Prop) (f : List Value → RU) (K : KV) (again : KF) (l : List Value) (i : Nat) (a : RU) : Prop := ax (XRs P f) 1 (Func.ntmps f54) ⟨.leaf, 0⟩ (ae f54) [1, 1, 0, 1, 0, 1, 1, 1, 1, 1, 1, 1, 1, 1, 1, 1, 0, 1, 0, 1, 0] (tG P f K) [] [] [] [2, 4, 49, 50, 51] again (frRs l i) (hRs a)
def tabRa (P : SR → Prop) (f : SR → RU) : Tab := [(54, aj (rsP P) (rsX fun r => ruV (f r))), (53, aj u2P (u2X bhU))]
def XRa (P : SR → Prop) (f : SR → RU) : SX := ⟨envX, tabRa P f, elSt, fun _ => .autoN [] [] [] [2, 3, 8, 9, 10]⟩
theorem z7 (P : SR → Prop) (f : SR → RU) (h : TabOk envX (tabRa P f)) : (XRa P f).Ok := ⟨ag, aw, ah, h⟩
def frRa (l : List Value) (i : Nat) : T Value := (Nd (Nd (Nd Lf (some (.pointer (some ⟨1, 0, none⟩))) Lf) none (Nd (Nd Lf (some (.int .i64 l.length)) Lf) none Lf)) none (Nd (Nd (Nd Lf (some (dat 19 l)) Lf) none Lf) (some (.pointer (some ⟨0, 0, none⟩))) (Nd (Nd Lf (some (.int .i64 i)) Lf) none Lf)))
def hRa (a : RU) : AH := ⟨Nd (Nd Lf (some (.cells (ruC a) 60)) Lf) (some (.cells (ruC rZ) 60)) Lf, 2⟩
def tH (P : SR → Prop) (f : SR → RU) (K : KV) : KX := finK (XRa P f).E (f28.results).toList K
def jRa (P : SR → Prop) (f : SR → RU) (K : KV) (l : List Value) : Prop := ay (XRa P f) 1 f28 [dat 19 l] ⟨.leaf, 0⟩ K
def jRaL (P : SR → Prop) (f : SR → RU) (K : KV) (again : KF) (l : List Value) (i : Nat) (a : RU) : Prop := ax (XRa P f) 1 (Func.ntmps f28) ⟨.leaf, 0⟩ (ae f28) [1, 1, 0, 1, 0] (tH P f K) [] [] [] [2, 3, 8, 9, 10] again (frRa l i) (hRa a)
def tabSa (P : List Value → Prop) (f : List Value → SP) : Tab := [(30, aj (bj P) (bn fun l => spV (f l))), (93, aj (fun _ => none) (s2X eiR)), (94, aj reP reX)]
def XSa (P : List Value → Prop) (f : List Value → SP) : SX := ⟨envX, tabSa P f, elWy, fun _ => .autoN [] [] [] [2, 3, 42, 43, 44]⟩
theorem zZ (P : List Value → Prop) (f : List Value → SP) (h : TabOk envX (tabSa P f)) : (XSa P f).Ok := ⟨ag, aw, ah, h⟩
def frSa (l : List Value) (i : Nat) : T Value := (Nd (Nd (Nd Lf (some (.pointer (some ⟨1, 0, none⟩))) (Nd Lf none (Nd (Nd Lf (some (.int .i64 l.length)) Lf) none Lf))) none Lf) none (Nd (Nd Lf none (Nd Lf none (Nd (Nd Lf (some (.int .i64 i)) Lf) none Lf))) (some (.pointer (some ⟨0, 0, none⟩))) (Nd (Nd Lf none (Nd (Nd Lf (some (dat 2 l)) Lf) none Lf)) none Lf)))
def hSa (a : SP) : AH := ⟨Nd (Nd Lf (some (.cells (spC a) 64)) Lf) (some (.cells (spC s0) 64)) Lf, 2⟩
def tF (P : List Value → Prop) (f : List Value → SP) (K : KV) : KX := finK (XSa P f).E (f56.results).toList K
def jSa1 (P : List Value → Prop) (f : List Value → SP) (K : KV) (q : SR) : Prop := ay (XSa P f) 1 f56 [stpV (rk 1 q)] ⟨.leaf, 0⟩ K
def jSa2 (P : List Value → Prop) (f : List Value → SP) (K : KV) (q : SR) : Prop := ay (XSa P f) 1 f56 [stpV (rk 2 q)] ⟨.leaf, 0⟩ K
def jSa3 (P : List Value → Prop) (f : List Value → SP) (K : KV) (q : SR) : Prop := ay (XSa P f) 1 f56 [stpV (rk 3 q)] ⟨.leaf, 0⟩ K
def jSa4 (P : List Value → Prop) (f : List Value → SP) (K : KV) (q : SR) : Prop := ay (XSa P f) 1 f56 [stpV (rk 4 q)] ⟨.leaf, 0⟩ K
def jSa5 (P : List Value → Prop) (f : List Value → SP) (K : KV) (q : SR) : Prop := ay (XSa P f) 1 f56 [stpV (rk 5 q)] ⟨.leaf, 0⟩ K
def jSa6 (P : List Value → Prop) (f : List Value → SP) (K : KV) (q : SR) : Prop := ay (XSa P f) 1 f56 [stpV (rk 6 q)] ⟨.leaf, 0⟩ K
def jSa7 (P : List Value → Prop) (f : List Value → SP) (K : KV) (q : SR) : Prop := ay (XSa P f) 1 f56 [stpV (rk 7 q)] ⟨.leaf, 0⟩ K
def jSa8 (P : List Value → Prop) (f : List Value → SP) (K : KV) (q : SR) : Prop := ay (XSa P f) 1 f56 [stpV (rk 8 q)] ⟨.leaf, 0⟩ K
def jSa9 (P : List Value → Prop) (f : List Value → SP) (K : KV) (q : SR) : Prop := ay (XSa P f) 1 f56 [stpV (rk 9 q)] ⟨.leaf, 0⟩ K
def jSa10 (P : List Value → Prop) (f : List Value → SP) (K : KV) (q : SR) : Prop := ay (XSa P f) 1 f56 [stpV (rk 10 q)] ⟨.leaf, 0⟩ K
def jSaL (P : List Value → Prop) (f : List Value → SP) (K : KV) (again : KF) (l : List Value) (i : Nat) (a : SP) : Prop := ax (XSa P f) 1 (Func.ntmps f56) ⟨.leaf, 0⟩ (ae f56) [1, 0, 1, 0, 1, 1, 1, 1, 1, 1, 1, 1, 1, 0, 1, 0, 1, 0] (tF P f K) [] [] [] [2, 3, 42, 43, 44] again (frSa l i) (hSa a)
def tabAa (P : SR → Prop) (f : SR → SP) : Tab := [(56, aj (rsP P) (rsX fun r => spV (f r))), (55, aj s2P (s2X thR))]
def XAa (P : SR → Prop) (f : SR → SP) : SX := ⟨envX, tabAa P f, elSt, fun _ => .autoN [] [] [] [2, 3, 7, 8, 9]⟩
theorem Ae (P : SR → Prop) (f : SR → SP) (h : TabOk envX (tabAa P f)) : (XAa P f).Ok := ⟨ag, aw, ah, h⟩
def frAa (l : List Value) (i : Nat) : T Value := (Nd (Nd (Nd (Nd Lf (some (dat 19 l)) Lf) (some (.pointer (some ⟨1, 0, none⟩))) Lf) none (Nd (Nd Lf (some (.int .i64 i)) Lf) none Lf)) none (Nd (Nd (Nd Lf (some (.int .i64 l.length)) Lf) none Lf) (some (.pointer (some ⟨0, 0, none⟩))) Lf))
def hAa (a : SP) : AH := ⟨Nd (Nd Lf (some (.cells (spC a) 64)) Lf) (some (.cells (spC s0) 64)) Lf, 2⟩
def tI (P : SR → Prop) (f : SR → SP) (K : KV) : KX := finK (XAa P f).E (f30.results).toList K
def jAa (P : SR → Prop) (f : SR → SP) (K : KV) (l : List Value) : Prop := ay (XAa P f) 1 f30 [dat 19 l] ⟨.leaf, 0⟩ K
def jAaL (P : SR → Prop) (f : SR → SP) (K : KV) (again : KF) (l : List Value) (i : Nat) (a : SP) : Prop := ax (XAa P f) 1 (Func.ntmps f30) ⟨.leaf, 0⟩ (ae f30) [1, 1, 0, 1, 0] (tI P f K) [] [] [] [2, 3, 7, 8, 9] again (frAa l i) (hAa a)
set_option maxHeartbeats 2000000
theorem xK (P : List Value → Prop) (f : List Value → RU) (K : KV) (q : SR) : jRs1 P f K q = (K (Va [Vb true, Vi 1, Vi 1, Vb false, Vi 0, Vi 0]) (AH.mk (Ns (Sg (AObj.cells [Vb true, Vi 1, Vi 1, Vb false, Vi 0, Vi 0] 60)) (AObj.cells (stcL (rk 1 q)) 88) (Sg (AObj.cells [Vb true, Vi 0, Vi 0] 58))) 3)) := by kernel_rfl
theorem xJ (P : List Value → Prop) (f : List Value → RU) (K : KV) (q : SR) : jRs2 P f K q = (K (Va [Vb true, Vi 0, Vi 0, Vb false, Vi 0, Vi 0]) (AH.mk (Ns (Sg (AObj.cells [Vb true, Vi 0, Vi 0, Vb false, Vi 0, Vi 0] 60)) (AObj.cells (stcL (rk 2 q)) 88) (Sg (AObj.cells [Vb true, Vi 0, Vi 0] 58))) 3)) := by kernel_rfl
theorem xI (P : List Value → Prop) (f : List Value → RU) (K : KV) (q : SR) : jRs3 P f K q = (K (Va [Vb true, Vi 0, Vi 0, Vb false, Vi 0, Vi 0]) (AH.mk (Ns (Sg (AObj.cells [Vb true, Vi 0, Vi 0, Vb false, Vi 0, Vi 0] 60)) (AObj.cells (stcL (rk 3 q)) 88) (Sg (AObj.cells [Vb true, Vi 0, Vi 0] 58))) 3)) := by kernel_rfl
theorem xH (P : List Value → Prop) (f : List Value → RU) (K : KV) (q : SR) : jRs4 P f K q = (K (Va [Vb true, Vi 0, Vi 0, Vb false, Vi 0, Vi 0]) (AH.mk (Ns (Sg (AObj.cells [Vb true, Vi 0, Vi 0, Vb false, Vi 0, Vi 0] 60)) (AObj.cells (stcL (rk 4 q)) 88) (Sg (AObj.cells [Vb true, Vi 0, Vi 0] 58))) 3)) := by kernel_rfl
theorem xG (P : List Value → Prop) (f : List Value → RU) (K : KV) (q : SR) : jRs5 P f K q = (P q.thn ∧ Vd 19 q.els = Vd 19 q.els ∧ P q.els ∧ K (ruV (orU (f q.thn) (f q.els))) (AH.mk (Ns (Sg (AObj.cells (ruC (orU (f q.thn) (f q.els))) 60)) (AObj.cells (stcL (rk 5 q)) 88) (Sg (AObj.cells [Vb true, Vi 0, Vi 0] 58))) 11)) := by kernel_rfl
theorem xF (P : List Value → Prop) (f : List Value → RU) (K : KV) (q : SR) : jRs6 P f K q = (P q.thn ∧ Vi q.hi = Vi q.hi ∧ Vi q.hi = Vi q.hi ∧ (InU (f q.thn) ∧ 0 ≤ q.hi ∧ q.hi ≤ q.hi ∧ q.hi ≤ 4000000000000000) ∧ K (ruV (svU (f q.thn) q.hi q.hi)) (AH.mk (Ns (Sg (AObj.cells (ruC (svU (f q.thn) q.hi q.hi)) 60)) (AObj.cells (stcL (rk 6 q)) 88) (Sg (AObj.cells [Vb true, Vi 0, Vi 0] 58))) 12)) := by kernel_rfl
theorem xE (P : List Value → Prop) (f : List Value → RU) (K : KV) (q : SR) : jRs7 P f K q = (P q.thn ∧ Vi q.hi = Vi q.hi ∧ (InU (f q.thn) ∧ (0 : Int) ≤ (0 : Int) ∧ 0 ≤ q.hi ∧ q.hi ≤ 4000000000000000) ∧ K (ruV (svU (f q.thn) 0 q.hi)) (AH.mk (Ns (Sg (AObj.cells (ruC (svU (f q.thn) 0 q.hi)) 60)) (AObj.cells (stcL (rk 7 q)) 88) (Sg (AObj.cells [Vb true, Vi 0, Vi 0] 58))) 10)) := by kernel_rfl
theorem xD (P : List Value → Prop) (f : List Value → RU) (K : KV) (q : SR) : jRs8 P f K q = (HF (Vd 2 q.ways) ∧ LAtZ (XRs P f) 1 f54.ntmps (AH.mk Lf 0) (ae f54) [1, 1, 0, 1, 0, 1, 1, 1, 1, 1, 1, 1, 1, 1, 1, 1, 0, 1, 0, 1, 0] (finK (SX.E (XRs P f)) f54.results.toList K) (No (No (No Lf (No (No Lf (Sg (Vi 0))) Lf)) (No (No (No Lf (Sg (Vd 2 q.ways))) Lf) Lf)) (Ns (Sg (Value.pointer (some ⟨1, 0, none⟩))) (Value.pointer (some ⟨0, 0, none⟩)) (No (No (No Lf (Sg (Vi q.ways.length))) Lf) Lf))) (AH.mk (Ns (Sg (AObj.cells [Vb false, Vi 0, Vi 0, Vb false, Vi 0, Vi 0] 60)) (AObj.cells [Vb false, Vi 0, Vi 0, Vb false, Vi 0, Vi 0] 60) Lf) 2)) := by kernel_rfl
theorem xC (P : List Value → Prop) (f : List Value → RU) (K : KV) (q : SR) : jRs9 P f K q = (K (Va [Vb false, Vi 0, Vi 0, Vb true, Vi 0, Vi 0]) (AH.mk (Ns (Sg (AObj.cells [Vb false, Vi 0, Vi 0, Vb true, Vi 0, Vi 0] 60)) (AObj.cells (stcL (rk 9 q)) 88) (Sg (AObj.cells [Vb true, Vi 0, Vi 0] 58))) 3)) := by kernel_rfl
theorem rB (P : List Value → Prop) (f : List Value → RU) (K : KV) (q : SR) : jRs10 P f K q = (K (Va [Vb false, Vi 0, Vi 0, Vb true, Vi 0, Vi 0]) (AH.mk (Ns (Sg (AObj.cells [Vb false, Vi 0, Vi 0, Vb true, Vi 0, Vi 0] 60)) (AObj.cells (stcL (rk 10 q)) 88) (Sg (AObj.cells [Vb true, Vi 0, Vi 0] 58))) 3)) := by kernel_rfl
theorem xB (P : List Value → Prop) (f : List Value → RU) (K : KV) (again : KF) (l : List Value) (i : Nat) (a : RU) : jRsL P f K again l i a = (Sp (decide ((i : Int) < (l.length : Int))) ((0 ≤ (i : Int) ∧ (i : Int) < (l.length : Int)) ∧ nth l (i) = some (Va [Vi (wyW l i), Vd 19 (wyK l i)]) ∧ P (wyK l i) ∧ ruV a = ruV a ∧ HF (Vd 2 l) ∧ again (No (No (No Lf (No (No Lf (Sg (Vi (Wi ((i : Int) + 1))))) Lf)) (No (No (No Lf (Sg (Vd 2 l))) Lf) Lf)) (Ns (Sg (Value.pointer (some ⟨1, 0, none⟩))) (Value.pointer (some ⟨0, 0, none⟩)) (No (No (No Lf (Sg (Vi l.length))) Lf) Lf))) (AH.mk (Ns (Sg (AObj.cells (ruC (orU a (f (wyK l i)))) 60)) (AObj.cells [Vb false, Vi 0, Vi 0, Vb false, Vi 0, Vi 0] 60) Lf) 2)) (K (ruV a) (AH.mk (Ns (Sg (AObj.cells (ruC a) 60)) (AObj.cells (ruC a) 60) Lf) 2))) := by kernel_rfl
theorem jRa_nf (P : SR → Prop) (f : SR → RU) (K : KV) (l : List Value) : jRa P f K l = (HF (Vd 19 l) ∧ LAtZ (XRa P f) 1 f28.ntmps (AH.mk Lf 0) (ae f28) [1, 1, 0, 1, 0] (finK (SX.E (XRa P f)) f28.results.toList K) (No (No (Sg (Value.pointer (some ⟨1, 0, none⟩))) (No (Sg (Vi l.length)) Lf)) (Ns (No (Sg (Vd 19 l)) Lf) (Value.pointer (some ⟨0, 0, none⟩)) (No (Sg (Vi 0)) Lf))) (AH.mk (Ns (Sg (AObj.cells [Vb true, Vi 0, Vi 0, Vb false, Vi 0, Vi 0] 60)) (AObj.cells [Vb false, Vi 0, Vi 0, Vb false, Vi 0, Vi 0] 60) Lf) 2)) := by kernel_rfl
theorem xL (P : SR → Prop) (f : SR → RU) (K : KV) (again : KF) (l : List Value) (i : Nat) (a : RU) : jRaL P f K again l i a = (Sp (decide ((i : Int) < (l.length : Int))) ((0 ≤ (i : Int) ∧ (i : Int) < (l.length : Int)) ∧ nth l (i) = some (stpV (srAt l i)) ∧ P (srAt l i) ∧ ruV a = ruV a ∧ (InU a ∧ InU (f (srAt l i))) ∧ HF (Vd 19 l) ∧ again (No (No (Sg (Value.pointer (some ⟨1, 0, none⟩))) (No (Sg (Vi l.length)) Lf)) (Ns (No (Sg (Vd 19 l)) Lf) (Value.pointer (some ⟨0, 0, none⟩)) (No (Sg (Vi (Wi ((i : Int) + 1)))) Lf))) (AH.mk (Ns (Sg (AObj.cells (ruC (bhU a (f (srAt l i)))) 60)) (AObj.cells [Vb false, Vi 0, Vi 0, Vb false, Vi 0, Vi 0] 60) Lf) 2)) (K (ruV a) (AH.mk (Ns (Sg (AObj.cells (ruC a) 60)) (AObj.cells (ruC a) 60) Lf) 2))) := by kernel_rfl
theorem xA (P : List Value → Prop) (f : List Value → SP) (K : KV) (q : SR) : jSa1 P f K q = (K (Va [Vi 1, Vi 1, Vb false, Vi 0, Vi 0, Vb false]) (AH.mk (Ns (Sg (AObj.cells [Vi 1, Vi 1, Vb false, Vi 0, Vi 0, Vb false] 64)) (AObj.cells (stcL (rk 1 q)) 88) Lf) 2)) := by kernel_rfl
theorem xz (P : List Value → Prop) (f : List Value → SP) (K : KV) (q : SR) : jSa2 P f K q = (K (Va [Vi 0, Vi 0, Vb false, Vi 0, Vi 0, Vb false]) (AH.mk (Ns (Sg (AObj.cells [Vi 0, Vi 0, Vb false, Vi 0, Vi 0, Vb false] 64)) (AObj.cells (stcL (rk 2 q)) 88) Lf) 2)) := by kernel_rfl
theorem xy (P : List Value → Prop) (f : List Value → SP) (K : KV) (q : SR) : jSa3 P f K q = (K (Va [Vi 0, Vi 0, Vb false, Vi 0, Vi 0, Vb false]) (AH.mk (Ns (Sg (AObj.cells [Vi 0, Vi 0, Vb false, Vi 0, Vi 0, Vb false] 64)) (AObj.cells (stcL (rk 3 q)) 88) Lf) 2)) := by kernel_rfl
theorem xx (P : List Value → Prop) (f : List Value → SP) (K : KV) (q : SR) : jSa4 P f K q = (K (Va [Vi 0, Vi 0, Vb false, Vi 0, Vi 0, Vb false]) (AH.mk (Ns (Sg (AObj.cells [Vi 0, Vi 0, Vb false, Vi 0, Vi 0, Vb false] 64)) (AObj.cells (stcL (rk 4 q)) 88) Lf) 2)) := by kernel_rfl
theorem xw (P : List Value → Prop) (f : List Value → SP) (K : KV) (q : SR) : jSa5 P f K q = (P q.thn ∧ Vd 19 q.els = Vd 19 q.els ∧ P q.els ∧ K (spV (eiR (f q.thn) (f q.els))) (AH.mk (Ns (Sg (AObj.cells (spC (eiR (f q.thn) (f q.els))) 64)) (AObj.cells (stcL (rk 5 q)) 88) Lf) 10)) := by kernel_rfl
theorem xv (P : List Value → Prop) (f : List Value → SP) (K : KV) (q : SR) : jSa6 P f K q = (P q.thn ∧ Vi q.hi = Vi q.hi ∧ (InSp (f q.thn) ∧ 0 ≤ q.hi ∧ q.hi ≤ 4000000000000000) ∧ K (spV (reR (f q.thn) q.hi)) (AH.mk (Ns (Sg (AObj.cells (spC (reR (f q.thn) q.hi)) 64)) (AObj.cells (stcL (rk 6 q)) 88) Lf) 9)) := by kernel_rfl
theorem xu (P : List Value → Prop) (f : List Value → SP) (K : KV) (q : SR) : jSa7 P f K q = (P q.thn ∧ Vi q.hi = Vi q.hi ∧ (InSp (f q.thn) ∧ 0 ≤ q.hi ∧ q.hi ≤ 4000000000000000) ∧ K (spV (eiR (0, 0, false, 0, 0, false) (reR (f q.thn) q.hi))) (AH.mk (Ns (Sg (AObj.cells (spC (eiR (0, 0, false, 0, 0, false) (reR (f q.thn) q.hi))) 64)) (AObj.cells (stcL (rk 7 q)) 88) Lf) 11)) := by kernel_rfl
theorem xr (P : List Value → Prop) (f : List Value → SP) (K : KV) (q : SR) : jSa8 P f K q = (HF (Vd 2 q.ways) ∧ LAtZ (XSa P f) 1 f56.ntmps (AH.mk Lf 0) (ae f56) [1, 0, 1, 0, 1, 1, 1, 1, 1, 1, 1, 1, 1, 0, 1, 0, 1, 0] (finK (SX.E (XSa P f)) f56.results.toList K) (No (No (Ns Lf (Value.pointer (some ⟨1, 0, none⟩)) (No Lf (No (Sg (Vi q.ways.length)) Lf))) Lf) (Ns (No Lf (No Lf (No (Sg (Vi 0)) Lf))) (Value.pointer (some ⟨0, 0, none⟩)) (No (No Lf (No (Sg (Vd 2 q.ways)) Lf)) Lf))) (AH.mk (Ns (Sg (AObj.cells [Vi 0, Vi 0, Vb true, Vi 0, Vi 0, Vb false] 64)) (AObj.cells [Vi 0, Vi 0, Vb false, Vi 0, Vi 0, Vb false] 64) Lf) 2)) := by kernel_rfl
theorem xq (P : List Value → Prop) (f : List Value → SP) (K : KV) (q : SR) : jSa9 P f K q = (K (Va [Vi 0, Vi 0, Vb true, Vi 0, Vi 0, Vb true]) (AH.mk (Ns (Sg (AObj.cells [Vi 0, Vi 0, Vb true, Vi 0, Vi 0, Vb true] 64)) (AObj.cells (stcL (rk 9 q)) 88) Lf) 2)) := by kernel_rfl
theorem rA (P : List Value → Prop) (f : List Value → SP) (K : KV) (q : SR) : jSa10 P f K q = (K (Va [Vi 0, Vi 0, Vb true, Vi 0, Vi 0, Vb true]) (AH.mk (Ns (Sg (AObj.cells [Vi 0, Vi 0, Vb true, Vi 0, Vi 0, Vb true] 64)) (AObj.cells (stcL (rk 10 q)) 88) Lf) 2)) := by kernel_rfl
theorem xp (P : List Value → Prop) (f : List Value → SP) (K : KV) (again : KF) (l : List Value) (i : Nat) (a : SP) : jSaL P f K again l i a = (Sp (decide ((i : Int) < (l.length : Int))) ((0 ≤ (i : Int) ∧ (i : Int) < (l.length : Int)) ∧ nth l (i) = some (Va [Vi (wyW l i), Vd 19 (wyK l i)]) ∧ P (wyK l i) ∧ spV a = spV a ∧ HF (Vd 2 l) ∧ again (No (No (Ns Lf (Value.pointer (some ⟨1, 0, none⟩)) (No Lf (No (Sg (Vi l.length)) Lf))) Lf) (Ns (No Lf (No Lf (No (Sg (Vi (Wi ((i : Int) + 1)))) Lf))) (Value.pointer (some ⟨0, 0, none⟩)) (No (No Lf (No (Sg (Vd 2 l)) Lf)) Lf))) (AH.mk (Ns (Sg (AObj.cells (spC (eiR a (f (wyK l i)))) 64)) (AObj.cells [Vi 0, Vi 0, Vb false, Vi 0, Vi 0, Vb false] 64) Lf) 2)) (K (spV a) (AH.mk (Ns (Sg (AObj.cells (spC a) 64)) (AObj.cells (spC a) 64) Lf) 2))) := by kernel_rfl
theorem jAa_nf (P : SR → Prop) (f : SR → SP) (K : KV) (l : List Value) : jAa P f K l = (HF (Vd 19 l) ∧ LAtZ (XAa P f) 1 f30.ntmps (AH.mk Lf 0) (ae f30) [1, 1, 0, 1, 0] (finK (SX.E (XAa P f)) f30.results.toList K) (No (No (Ns (Sg (Vd 19 l)) (Value.pointer (some ⟨1, 0, none⟩)) Lf) (No (Sg (Vi 0)) Lf)) (Ns (No (Sg (Vi l.length)) Lf) (Value.pointer (some ⟨0, 0, none⟩)) Lf)) (AH.mk (Ns (Sg (AObj.cells [Vi 0, Vi 0, Vb false, Vi 0, Vi 0, Vb false] 64)) (AObj.cells [Vi 0, Vi 0, Vb false, Vi 0, Vi 0, Vb false] 64) Lf) 2)) := by kernel_rfl
theorem yM (P : SR → Prop) (f : SR → SP) (K : KV) (again : KF) (l : List Value) (i : Nat) (a : SP) : jAaL P f K again l i a = (Sp (decide ((i : Int) < (l.length : Int))) ((0 ≤ (i : Int) ∧ (i : Int) < (l.length : Int)) ∧ nth l (i) = some (stpV (srAt l i)) ∧ P (srAt l i) ∧ spV a = spV a ∧ (InSp a ∧ InSp (f (srAt l i))) ∧ HF (Vd 19 l) ∧ again (No (No (Ns (Sg (Vd 19 l)) (Value.pointer (some ⟨1, 0, none⟩)) Lf) (No (Sg (Vi (Wi ((i : Int) + 1)))) Lf)) (Ns (No (Sg (Vi l.length)) Lf) (Value.pointer (some ⟨0, 0, none⟩)) Lf)) (AH.mk (Ns (Sg (AObj.cells (spC (thR a (f (srAt l i)))) 64)) (AObj.cells [Vi 0, Vi 0, Vb false, Vi 0, Vi 0, Vb false] 64) Lf) 2)) (K (spV a) (AH.mk (Ns (Sg (AObj.cells (spC a) 64)) (AObj.cells (spC a) 64) Lf) 2))) := by kernel_rfl
theorem in_r1 : InU r1 := by simp [InU, InE, r1, bx]
theorem j4 : InU r0 := by simp [InU, InE, r0, bx]
theorem yT : InU rZ := by simp [InU, InE, rZ, bx]
theorem in_rN : InU rN := by simp [InU, InE, rN, bx]
theorem qN {r : RU} (h : InU r) : InSp (spO r) := by
 obtain ⟨⟨b1, l1, m1⟩, ⟨b2, l2, m2⟩⟩ := r
 unfold InU InE at h
 unfold InSp spO capI farI
 dsimp only at *
 omega
theorem uF {r : RU} (hr : InU r) {n : Int} (hn : 0 ≤ n) : spO (svU r 0 n) = eiR s0 (reR (spO r) n) := by
 have e : svU r 0 n = orU r0 (svU r n n) := by
  obtain ⟨⟨b1, l1, m1⟩, e2⟩ := r
  obtain ⟨⟨h1, h2, h3, h4⟩, _⟩ := hr
  have t1 := p6 (a := l1) (b := n) (c := m1) (d := n) h1 h2 hn (Int.le_refl _)
  have t2 : tmP l1 0 = 0 := by unfold tmP bx; rw [Int.mul_zero]; omega
  dsimp only at *
  by_cases h0 : n = 0
  · subst h0; rfl
  · have hp : 0 < n := by omega
    unfold svU orU
    refine Prod.ext ?_ ?_
    · unfold svE
      dsimp only
      rw [decide_eq_false h0, decide_eq_true hp]
      cases b1
      · rfl
      · simp only [r0, orE, cond_true, cond_false, Bool.not_true, Bool.false_and, t2]
        rw [show min 0 (tmP l1 n) = 0 by omega, show max 0 (tmP m1 n) = tmP m1 n by omega]
    · rfl
 rw [e, kh j4 (nu hr hn (Int.le_refl _)), nP hr hn]; rfl
theorem kQ {r : SR} (h : stE r = 0) : ¬ r.kind < 1 ∧ ¬ 10 < r.kind ∧ stB r = 0 := by
 unfold stE at h
 by_cases h1 : r.kind < 1
 · rw [decide_eq_true h1] at h; exact absurd (show (7 : Int) = 0 from h) (by decide)
 by_cases h2 : 10 < r.kind
 · rw [decide_eq_false h1, decide_eq_true h2] at h; exact absurd (show (7 : Int) = 0 from h) (by decide)
 rw [decide_eq_false h1, decide_eq_false h2] at h
 refine ⟨h1, h2, ?_⟩
 cases hx : exR r
 · rw [hx] at h; exact h
 · rw [hx] at h; exact absurd (show (2 : Int) = 0 from h) (by decide)
theorem mo_of {x : Int} (h : (bif decide (x < 0) then (9 : Int) else bif decide (100000 < x) then 9 else 0) = 0) : 0 ≤ x ∧ x ≤ 100000 := by
 by_cases h1 : x < 0
 · rw [decide_eq_true h1] at h; exact absurd (show (9 : Int) = 0 from h) (by decide)
 by_cases h2 : 100000 < x
 · rw [decide_eq_false h1, decide_eq_true h2] at h; exact absurd (show (9 : Int) = 0 from h) (by decide)
 omega
theorem hi_6 {q : SR} (h : stE (rk 6 q) = 0) : 0 ≤ q.hi ∧ q.hi ≤ 100000 := by
 have := (kQ h).2.2
 rw [vA] at this
 exact mo_of this
theorem hi_7 {q : SR} (h : stE (rk 7 q) = 0) : 0 ≤ q.hi ∧ q.hi ≤ 100000 := by
 have h := (kQ h).2.2
 rw [vz] at h
 cases hx : !decide (tsE q.tr q.ta q.tb q.tx q.ty = 0)
 · rw [hx] at h; exact mo_of h
 · rw [hx] at h
   have h : tsE q.tr q.ta q.tb q.tx q.ty = 0 := h
   rw [h] at hx; exact absurd hx (by decide)
theorem oI {r : SR} (h : stE r = 0) : ∃ (k : Int) (q : SR), r = rk k q ∧ (k = 1 ∨ k = 2 ∨ k = 3 ∨ k = 4 ∨ k = 5 ∨ k = 6 ∨ k = 7 ∨ k = 8 ∨ k = 9 ∨ k = 10) := wQ (kQ h).1 (kQ h).2.1
theorem cS (k : Int) (q : SR) : q.thn ∈ ksR (rk k q) := List.mem_cons.2 (.inl rfl)
theorem oG (k : Int) (q : SR) : q.els ∈ ksR (rk k q) := List.mem_cons.2 (.inr (List.mem_cons.2 (.inl rfl)))
theorem oF (k : Int) (q : SR) {w : WY} (h : w ∈ unW q.ways) : w.2 ∈ ksR (rk k q) := List.mem_cons.2 (.inr (List.mem_cons.2 (.inr (List.mem_map.2 ⟨w, h, rfl⟩))))
def orF (f : List Value → RU) (a : RU) (w : WY) : RU := orU a (f w.2)
theorem tp {f : List Value → RU} : ∀ (ws : List WY) (a : RU), InU a → (∀ w ∈ ws, InU (f w.2)) → InU (ws.foldl (orF f) a)
 | [], a, h, _ => h
 | w :: ws, a, h, hk => tp ws _ (lg h (hk w (List.mem_cons.2 (.inl rfl)))) fun x hx => hk x (List.mem_cons.2 (.inr hx))
theorem rS_in {f : List Value → RU} {r : SR} (hE : stE r = 0) (hk : ∀ k ∈ ksR r, InU (f k)) : InU (rS f r) := by
 obtain ⟨k, q, rfl, h⟩ := oI hE
 rcases h with rfl | rfl | rfl | rfl | rfl | rfl | rfl | rfl | rfl | rfl
 · exact in_r1
 · exact j4
 · exact j4
 · exact j4
 · exact lg (hk _ (cS 5 q)) (hk _ (oG 5 q))
 · exact nu (hk _ (cS 6 q)) (hi_6 hE).1 (Int.le_refl _)
 · exact nu (hk _ (cS 7 q)) (Int.le_refl _) (hi_7 hE).1
 · exact tp (unW q.ways) rZ yT fun w hw => hk _ (oF 8 q hw)
 · exact in_rN
 · exact in_rN
theorem tD {f : List Value → Int} : ∀ {ks : List (List Value)}, kdE f ks = 0 → ∀ k ∈ ks, f k = 0
 | [], _, k, hk => by cases hk
 | x :: ks, h, k, hk => by
   rw [kdE] at h
   by_cases hx : f x = 0
   · rw [decide_eq_true hx] at h
     rcases List.mem_cons.1 hk with q | q
     · rw [q]; exact hx
     · exact tD h k q
   · rw [decide_eq_false hx] at h; exact absurd h hx
theorem cE_of {n : Nat} : ∀ {l : List Value}, cE (n + 1) l = 0 → ∀ v ∈ l, stE (srD v) = 0 ∧ kdE (cE n) (ksV v) = 0
 | [], _, v, hv => by cases hv
 | x :: l, h, v, hv => by
   rw [ky] at h
   by_cases h1 : stE (srD x) = 0
   · rw [decide_eq_true h1] at h
     by_cases h2 : kdE (cE n) (ksV x) = 0
     · rw [decide_eq_true h2] at h
       rcases List.mem_cons.1 hv with q | q
       · rw [q]; exact ⟨h1, h2⟩
       · exact cE_of h v q
     · rw [decide_eq_false h2] at h; exact absurd h h2
   · rw [decide_eq_false h1] at h; exact absurd h h1
theorem kP {n : Nat} {l : List Value} (h : lsQ (n + 1) l) {v : Value} (hv : v ∈ l) : stQ n (srD v) := by
 obtain ⟨h1, h2⟩ := cE_of h.2 v hv
 obtain ⟨_, h3, _⟩ := bW (h.1.1 v hv)
 exact ⟨h3, h1, fun k hk => ⟨(dD h.1 hv hk).1, tD h2 k hk⟩⟩
def bhF (n : Nat) (a : RU) (v : Value) : RU := bhU a (rS (rW n) (srD v))
theorem tV {n : Nat} : ∀ (l : List Value) (a : RU), InU a → (∀ v ∈ l, InU (rS (rW n) (srD v))) → InU (l.foldl (bhF n) a)
 | [], a, h, _ => h
 | v :: l, a, h, hk => tV l _ (pF h (hk v (List.mem_cons.2 (.inl rfl)))) fun x hx => hk x (List.mem_cons.2 (.inr hx))
theorem nR : ∀ (n : Nat) (l : List Value), lsQ n l → InU (rW n l)
 | 0, l, h => h.1.elim
 | n + 1, l, h => tV l r0 j4 fun v hv => rS_in (kP h hv).2.1 fun k hk => nR n k ((kP h hv).2.2 k hk)
theorem tj {n : Nat} {r : SR} (h : stQ n r) : InU (rS (rW n) r) := rS_in h.2.1 fun k hk => nR n k (h.2.2 k hk)
theorem Au {P : List Value → Prop} {f : List Value → RU} (hX : (XRs P f).Ok) {K : KV} (ws : List WY) (hf : HF (dat 2 (wyvs ws))) (hl : ws.length ≤ 1048576) (hP : ∀ w ∈ ws, P w.2 ∧ InU (f w.2)) (hK : ∀ A, K (ruV (ws.foldl (orF f) rZ)) A) :
 LAtZ (XRs P f) 1 (Func.ntmps f54) ⟨.leaf, 0⟩ (ae f54) [1, 1, 0, 1, 0, 1, 1, 1, 1, 1, 1, 1, 1, 1, 1, 1, 0, 1, 0, 1, 0] (tG P f K) (frRs (wyvs ws) 0) (hRs rZ) := by
 have hlen := ce ws
 refine LAtZ.step hX rfl [] [] [] [2, 4, 49, 50, 51] (by kernel_rfl) (fun k F A => ∃ (i : Nat) (a : RU), F = frRs (wyvs ws) i ∧ A = hRs a ∧ InU a ∧ i + k = ws.length ∧ (ws.drop i).foldl (orF f) a = ws.foldl (orF f) rZ) ?_ (k := ws.length) ⟨0, rZ, rfl, rfl, yT, by omega, rfl⟩
 rintro k F A ⟨i, a, rfl, rfl, ha, hk, e⟩
 refine (xB P f _ _ (wyvs ws) i a).mpr ?_
 rw [hlen]
 refine Sp.intro (fun c => ?_) (fun c => ?_)
 · have hi : i < ws.length := by have := odt c; omega
   rw [List.drop_eq_getElem_cons hi, List.foldl_cons] at e
   have hwr : IntKind.i64.wrap ((i : Int) + 1) = ((i + 1 : Nat) : Int) := by rw [aB (by omega) (by omega)]; rfl
   have hy := eM hi
   have hW := eL hi
   have hN := di hi
   have hm := hP _ (List.getElem_mem hi)
   simp only [Int.toNat_natCast, hy, hW, hN, hwr]
   refine ⟨by omega, by first | trivial | rfl, hm.1, by first | trivial | rfl, hf, k - 1, by omega, i + 1, orF f a ws[i], by rw [← hlen]; rfl, ?_, lg ha hm.2, by omega, e⟩
   rfl
 · have hn : ws.drop i = [] := List.drop_eq_nil_of_le (by have := odf c; omega)
   rw [hn] at e
   have e : a = ws.foldl (orF f) rZ := e
   rw [e]
   exact hK _
theorem Ar {P : List Value → Prop} {f : List Value → RU} (hX : (XSa P (fun l => spO (f l))).Ok) {K : KV} (ws : List WY) (hf : HF (dat 2 (wyvs ws))) (hl : ws.length ≤ 1048576) (hP : ∀ w ∈ ws, P w.2 ∧ InU (f w.2)) (hK : ∀ A, K (spV (spO (ws.foldl (orF f) rZ))) A) :
 LAtZ (XSa P (fun l => spO (f l))) 1 (Func.ntmps f56) ⟨.leaf, 0⟩ (ae f56) [1, 0, 1, 0, 1, 1, 1, 1, 1, 1, 1, 1, 1, 0, 1, 0, 1, 0] (tF P (fun l => spO (f l)) K) (frSa (wyvs ws) 0) (hSa sN) := by
 have hlen := ce ws
 refine LAtZ.step hX rfl [] [] [] [2, 3, 42, 43, 44] (by kernel_rfl) (fun k F A => ∃ (i : Nat) (a : RU), F = frSa (wyvs ws) i ∧ A = hSa (spO a) ∧ InU a ∧ i + k = ws.length ∧ (ws.drop i).foldl (orF f) a = ws.foldl (orF f) rZ) ?_ (k := ws.length) ⟨0, rZ, rfl, rfl, yT, by omega, rfl⟩
 rintro k F A ⟨i, a, rfl, rfl, ha, hk, e⟩
 refine (xp P (fun l => spO (f l)) _ _ (wyvs ws) i (spO a)).mpr ?_
 rw [hlen]
 refine Sp.intro (fun c => ?_) (fun c => ?_)
 · have hi : i < ws.length := by have := odt c; omega
   rw [List.drop_eq_getElem_cons hi, List.foldl_cons] at e
   have hwr : IntKind.i64.wrap ((i : Int) + 1) = ((i + 1 : Nat) : Int) := by rw [aB (by omega) (by omega)]; rfl
   have hy := eM hi
   have hW := eL hi
   have hN := di hi
   have hm := hP _ (List.getElem_mem hi)
   simp only [Int.toNat_natCast, hy, hW, hN, hwr]
   refine ⟨by omega, by first | trivial | rfl, hm.1, by first | trivial | rfl, hf, k - 1, by omega, i + 1, orF f a ws[i], by rw [← hlen]; rfl, ?_, lg ha hm.2, by omega, e⟩
   show _ = hSa (spO (orU a (f ws[i].2)))
   rw [kh ha hm.2]; rfl
 · have hn : ws.drop i = [] := List.drop_eq_nil_of_le (by have := odf c; omega)
   rw [hn] at e
   have e : a = ws.foldl (orF f) rZ := e
   rw [e]
   exact hK _
theorem Av {n : Nat} (hX : (XRa (stQ n) (fun r => rS (rW n) r)).Ok) (l : List Value) (hQ : lsQ (n + 1) l) :
 LAtZ (XRa (stQ n) (fun r => rS (rW n) r)) 1 (Func.ntmps f28) ⟨.leaf, 0⟩ (ae f28) [1, 1, 0, 1, 0] (tH (stQ n) (fun r => rS (rW n) r) (fun v A => Frz A v (ruV (rW (n + 1) l)))) (frRa l 0) (hRa r0) := by
 have hll := eU n l
 have hl := cd hQ.1
 have hb := hQ.1.2
 refine LAtZ.step hX rfl [] [] [] [2, 3, 8, 9, 10] (by kernel_rfl) (fun k F A => ∃ (i : Nat) (a : RU), F = frRa l i ∧ A = hRa a ∧ InU a ∧ i + k = l.length ∧ (l.drop i).foldl (bhF n) a = rW (n + 1) l) ?_ (k := l.length) ⟨0, r0, rfl, rfl, j4, by omega, rfl⟩
 rintro k F A ⟨i, a, rfl, rfl, ha, hk, e⟩
 refine (xL (stQ n) (fun r => rS (rW n) r) _ _ l i a).mpr ?_
 refine Sp.intro (fun c => ?_) (fun c => ?_)
 · have hi : i < l.length := by have := odt c; omega
   rw [List.drop_eq_getElem_cons hi, List.foldl_cons] at e
   have hwr : IntKind.i64.wrap ((i : Int) + 1) = ((i + 1 : Nat) : Int) := by rw [aB (by omega) (by omega)]; rfl
   obtain ⟨hv, hw, m, hm, hk2⟩ := bW (hQ.1.1 _ (List.getElem_mem hi))
   have hs := kP hQ (List.getElem_mem hi)
   have hr := tj hs
   simp only [Int.toNat_natCast, du hi, hwr]
   refine ⟨by omega, (cQ hi).trans (congrArg some hv), hs, by first | trivial | rfl, ⟨ha, hr⟩, hl, k - 1, by omega, i + 1, bhF n a l[i], rfl, ?_, pF ha hr, by omega, e⟩
   rfl
 · have hn : l.drop i = [] := List.drop_eq_nil_of_le (by have := odf c; omega)
   rw [hn] at e
   have e : a = rW (n + 1) l := e
   rw [e]
   exact .same (gx _)
theorem AW {n : Nat} (hX : (XAa (stQ n) (fun r => spO (rS (rW n) r))).Ok) (l : List Value) (hQ : lsQ (n + 1) l) :
 LAtZ (XAa (stQ n) (fun r => spO (rS (rW n) r))) 1 (Func.ntmps f30) ⟨.leaf, 0⟩ (ae f30) [1, 1, 0, 1, 0] (tI (stQ n) (fun r => spO (rS (rW n) r)) (fun v A => Frz A v (spV (spO (rW (n + 1) l))))) (frAa l 0) (hAa s0) := by
 have hll := eU n l
 have hl := cd hQ.1
 have hb := hQ.1.2
 refine LAtZ.step hX rfl [] [] [] [2, 3, 7, 8, 9] (by kernel_rfl) (fun k F A => ∃ (i : Nat) (a : RU), F = frAa l i ∧ A = hAa (spO a) ∧ InU a ∧ i + k = l.length ∧ (l.drop i).foldl (bhF n) a = rW (n + 1) l) ?_ (k := l.length) ⟨0, r0, rfl, rfl, j4, by omega, rfl⟩
 rintro k F A ⟨i, a, rfl, rfl, ha, hk, e⟩
 refine (yM (stQ n) (fun r => spO (rS (rW n) r)) _ _ l i (spO a)).mpr ?_
 refine Sp.intro (fun c => ?_) (fun c => ?_)
 · have hi : i < l.length := by have := odt c; omega
   rw [List.drop_eq_getElem_cons hi, List.foldl_cons] at e
   have hwr : IntKind.i64.wrap ((i : Int) + 1) = ((i + 1 : Nat) : Int) := by rw [aB (by omega) (by omega)]; rfl
   obtain ⟨hv, hw, m, hm, hk2⟩ := bW (hQ.1.1 _ (List.getElem_mem hi))
   have hs := kP hQ (List.getElem_mem hi)
   have hr := tj hs
   simp only [Int.toNat_natCast, du hi, hwr]
   refine ⟨by omega, (cQ hi).trans (congrArg some hv), hs, by first | trivial | rfl, ⟨qN ha, qN hr⟩, hl, k - 1, by omega, i + 1, bhF n a l[i], rfl, ?_, pF ha hr, by omega, e⟩
   show _ = hAa (spO (bhU a (rS (rW n) (srD l[i]))))
   rw [uX ha hr]; rfl
 · have hn : l.drop i = [] := List.drop_eq_nil_of_le (by have := odf c; omega)
   rw [hn] at e
   have e : a = rW (n + 1) l := e
   rw [e]
   exact .same (eJ _)
end
end Go.T9

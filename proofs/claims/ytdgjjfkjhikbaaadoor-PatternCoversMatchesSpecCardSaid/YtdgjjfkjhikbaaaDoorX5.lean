/- A part of the proof. -/
import Derived.Test.YtdgjjfkjhikbaaaDoorX4
set_option linter.unusedVariables false
set_option linter.unusedSimpArgs false
set_option maxRecDepth 1000000
namespace Go.T9
open Go Go.AM Go.MK
noncomputable section
def XPcG (C Fs : AU → AU → List Int) (Ac : AU → AU → List Bool) (Rw : AU → AU → List (List Int)) (W : List Nat → List Bool → List (List Int) → Option LB) : SX := ⟨env, [(29, pureR caP caX), (33, frmR noAr (spPaG C Fs Ac Rw)), (35, frmR arD (spShG W))], noEl, fun _ => .unroll 0⟩
def XPe (C Fs : AU → List Int) (Ac : AU → List Bool) (Rw : AU → List (List Int)) (W : List Nat → List Bool → List (List Int) → Option LB) : SX := ⟨env, [(29, pureR caP caX), (41, frmR noAr (spSiG C Fs Ac Rw)), (35, frmR arD (spShG W))], noEl, fun _ => .unroll 0⟩
def jPc (K : KV) (C Fs : AU → AU → List Int) (Ac : AU → AU → List Bool) (Rw : AU → AU → List (List Int)) (W : List Nat → List Bool → List (List Int) → Option LB) (s : Int) (acc : List Bool) (nx : List (List Int)) (s2 : Int) (acc2 : List Bool) (nx2 : List (List Int)) : Prop := sxFnF (XPcG C Fs Ac Rw W) 2 Proofs.Tryd.f11 [.agg ⟨[.int .i64 s, dat 1 (blV acc), dat 1 (roV nx)]⟩, .agg ⟨[.int .i64 s2, dat 1 (blV acc2), dat 1 (roV nx2)]⟩] ⟨.leaf, 0⟩ K
def jPe (K : KV) (C Fs : AU → List Int) (Ac : AU → List Bool) (Rw : AU → List (List Int)) (W : List Nat → List Bool → List (List Int) → Option LB) (s : Int) (acc : List Bool) (nx : List (List Int)) : Prop := sxFnF (XPe C Fs Ac Rw W) 2 Proofs.Tryd.f14 [.agg ⟨[.int .i64 s, dat 1 (blV acc), dat 1 (roV nx)]⟩] ⟨.leaf, 0⟩ K
theorem jPc_nf (K : KV) (C : AU → AU → List Int) (Fs : AU → AU → List Int) (Ac : AU → AU → List Bool) (Rw : AU → AU → List (List Int)) (W : List Nat → List Bool → List (List Int) → Option LB) (s : Int) (acc : List Bool) (nx : List (List Int)) (s2 : Int) (acc2 : List Bool) (nx2 : List (List Int)) : jPc K C Fs Ac Rw W s acc nx s2 acc2 nx2 = (WfV (Value.agg (Array.mk [Vi s, Vd 1 (blV acc), Vd 1 (roV nx)])) ∧ Sp (!decide (chkA (s, List.map deB (blV acc), List.map deR (roV nx)) = 0)) (Sp (!decide (chkA (s, List.map deB (blV acc), List.map deR (roV nx)) = 0)) (K (Value.tuple (Array.mk [Vs (ByteArray.mk ⟨[]⟩), Value.bool false, Vi (chkA (s, List.map deB (blV acc), List.map deR (roV nx)))])) (AH.mk (Nd (Nd (Nd Lf (some (AObj.cells [Vi s2, Vd 1 (blV acc2), Vd 1 (roV nx2)] 29)) Lf) (some (AObj.cells [Vi s2, Vd 1 (blV acc2), Vd 1 (roV nx2)] 29)) Lf) (some (AObj.cells [Vi s, Vd 1 (blV acc), Vd 1 (roV nx)] 29)) (Nd Lf (some (AObj.cells [Vi s, Vd 1 (blV acc), Vd 1 (roV nx)] 29)) Lf)) 4)) (HFs [Vd 1 (blV acc), Vd 1 (roV nx), Vd 1 (blV acc2), Vd 1 (roV nx2), Value.agg (Array.mk (roV (Rw (s, List.map deB (blV acc), List.map deR (roV nx)) (s2, List.map deB (blV acc2), List.map deR (roV nx2))))), Value.agg (Array.mk (blV (Ac (s, List.map deB (blV acc), List.map deR (roV nx)) (s2, List.map deB (blV acc2), List.map deR (roV nx2))))), Value.agg (Array.mk (inV (Fs (s, List.map deB (blV acc), List.map deR (roV nx)) (s2, List.map deB (blV acc2), List.map deR (roV nx2))))), Value.agg (Array.mk (inV (C (s, List.map deB (blV acc), List.map deR (roV nx)) (s2, List.map deB (blV acc2), List.map deR (roV nx2)))))] (PH (Prod.fst (some (Value.agg (Array.mk [Vi s, Vd 1 (blV acc), Vd 1 (roV nx)]) = Value.agg (Array.mk [Vi s, Vd 1 (blV (List.map deB (blV acc))), Vd 1 (roV (List.map deR (roV nx)))]) ∧ OkA (s, List.map deB (blV acc), List.map deR (roV nx)) ∧ Value.agg (Array.mk [Vi s2, Vd 1 (blV acc2), Vd 1 (roV nx2)]) = Value.agg (Array.mk [Vi s2, Vd 1 (blV (List.map deB (blV acc2))), Vd 1 (roV (List.map deR (roV nx2)))]) ∧ OkA (s2, List.map deB (blV acc2), List.map deR (roV nx2))), Value.pointer (some ⟨0, 0, none⟩), [AObj.arr (inV (C (s, List.map deB (blV acc), List.map deR (roV nx)) (s2, List.map deB (blV acc2), List.map deR (roV nx2)))) [Value.slice (some ⟨1, 0, none⟩) (List.length (Fs (s, List.map deB (blV acc), List.map deR (roV nx)) (s2, List.map deB (blV acc2), List.map deR (roV nx2)))) 18446744073709551620, Value.slice (some ⟨2, 0, none⟩) (List.length (Ac (s, List.map deB (blV acc), List.map deR (roV nx)) (s2, List.map deB (blV acc2), List.map deR (roV nx2)))) 18446744073709551620, Value.slice (some ⟨3, 0, none⟩) (List.length (Rw (s, List.map deB (blV acc), List.map deR (roV nx)) (s2, List.map deB (blV acc2), List.map deR (roV nx2)))) 18446744073709551620] 256 68, AObj.gro (inV (Fs (s, List.map deB (blV acc), List.map deR (roV nx)) (s2, List.map deB (blV acc2), List.map deR (roV nx2)))) [] 3, AObj.gro (blV (Ac (s, List.map deB (blV acc), List.map deR (roV nx)) (s2, List.map deB (blV acc2), List.map deR (roV nx2)))) [] 4, AObj.gro (roV (Rw (s, List.map deB (blV acc), List.map deR (roV nx)) (s2, List.map deB (blV acc2), List.map deR (roV nx2)))) [] 50]))) ∧ HFs [Value.agg (Array.mk (inV (C (s, List.map deB (blV acc), List.map deR (roV nx)) (s2, List.map deB (blV acc2), List.map deR (roV nx2))))), Value.agg (Array.mk (inV (Fs (s, List.map deB (blV acc), List.map deR (roV nx)) (s2, List.map deB (blV acc2), List.map deR (roV nx2))))), Value.agg (Array.mk (blV (Ac (s, List.map deB (blV acc), List.map deR (roV nx)) (s2, List.map deB (blV acc2), List.map deR (roV nx2))))), Value.agg (Array.mk (roV (Rw (s, List.map deB (blV acc), List.map deR (roV nx)) (s2, List.map deB (blV acc2), List.map deR (roV nx2))))), Value.agg (Array.mk (inV (C (s, List.map deB (blV acc), List.map deR (roV nx)) (s2, List.map deB (blV acc2), List.map deR (roV nx2))))), Value.agg (Array.mk (inV (Fs (s, List.map deB (blV acc), List.map deR (roV nx)) (s2, List.map deB (blV acc2), List.map deR (roV nx2))))), Value.agg (Array.mk (blV (Ac (s, List.map deB (blV acc), List.map deR (roV nx)) (s2, List.map deB (blV acc2), List.map deR (roV nx2))))), Value.agg (Array.mk (roV (Rw (s, List.map deB (blV acc), List.map deR (roV nx)) (s2, List.map deB (blV acc2), List.map deR (roV nx2)))))] (PH (Prod.fst (some (inV (C (s, List.map deB (blV acc), List.map deR (roV nx)) (s2, List.map deB (blV acc2), List.map deR (roV nx2))) = inV (List.map deI (inV (C (s, List.map deB (blV acc), List.map deR (roV nx)) (s2, List.map deB (blV acc2), List.map deR (roV nx2))))) ∧ (([] : List Value) = [] ∧ ([] : List Value) = [] ∧ ([] : List Value) = []) ∧ (inV (Fs (s, List.map deB (blV acc), List.map deR (roV nx)) (s2, List.map deB (blV acc2), List.map deR (roV nx2))) = inV (inF (deN (inV (Fs (s, List.map deB (blV acc), List.map deR (roV nx)) (s2, List.map deB (blV acc2), List.map deR (roV nx2)))))) ∧ blV (Ac (s, List.map deB (blV acc), List.map deR (roV nx)) (s2, List.map deB (blV acc2), List.map deR (roV nx2))) = blV (List.map deB (blV (Ac (s, List.map deB (blV acc), List.map deR (roV nx)) (s2, List.map deB (blV acc2), List.map deR (roV nx2))))) ∧ roV (Rw (s, List.map deB (blV acc), List.map deR (roV nx)) (s2, List.map deB (blV acc2), List.map deR (roV nx2))) = roV (List.map deR (roV (Rw (s, List.map deB (blV acc), List.map deR (roV nx)) (s2, List.map deB (blV acc2), List.map deR (roV nx2)))))) ∧ (List.length (Fs (s, List.map deB (blV acc), List.map deR (roV nx)) (s2, List.map deB (blV acc2), List.map deR (roV nx2))) = List.length (inV (Fs (s, List.map deB (blV acc), List.map deR (roV nx)) (s2, List.map deB (blV acc2), List.map deR (roV nx2)))) ∧ List.length (Ac (s, List.map deB (blV acc), List.map deR (roV nx)) (s2, List.map deB (blV acc2), List.map deR (roV nx2))) = List.length (blV (Ac (s, List.map deB (blV acc), List.map deR (roV nx)) (s2, List.map deB (blV acc2), List.map deR (roV nx2)))) ∧ List.length (Rw (s, List.map deB (blV acc), List.map deR (roV nx)) (s2, List.map deB (blV acc2), List.map deR (roV nx2))) = List.length (roV (Rw (s, List.map deB (blV acc), List.map deR (roV nx)) (s2, List.map deB (blV acc2), List.map deR (roV nx2))))) ∧ DW (deN (inV (Fs (s, List.map deB (blV acc), List.map deR (roV nx)) (s2, List.map deB (blV acc2), List.map deR (roV nx2))))) (List.map deB (blV (Ac (s, List.map deB (blV acc), List.map deR (roV nx)) (s2, List.map deB (blV acc2), List.map deR (roV nx2))))) (List.map deR (roV (Rw (s, List.map deB (blV acc), List.map deR (roV nx)) (s2, List.map deB (blV acc2), List.map deR (roV nx2)))))), Value.tuple (Array.mk [Vs (ByteArray.mk (Array.mk (Option.getD (W (deN (glue (glue (inV (Fs (s, List.map deB (blV acc), List.map deR (roV nx)) (s2, List.map deB (blV acc2), List.map deR (roV nx2)))) []) [])) (List.map deB (glue (glue (blV (Ac (s, List.map deB (blV acc), List.map deR (roV nx)) (s2, List.map deB (blV acc2), List.map deR (roV nx2)))) []) [])) (List.map deR (glue (glue (roV (Rw (s, List.map deB (blV acc), List.map deR (roV nx)) (s2, List.map deB (blV acc2), List.map deR (roV nx2)))) []) []))) []))), Value.bool (Option.isSome (W (deN (glue (glue (inV (Fs (s, List.map deB (blV acc), List.map deR (roV nx)) (s2, List.map deB (blV acc2), List.map deR (roV nx2)))) []) [])) (List.map deB (glue (glue (blV (Ac (s, List.map deB (blV acc), List.map deR (roV nx)) (s2, List.map deB (blV acc2), List.map deR (roV nx2)))) []) [])) (List.map deR (glue (glue (roV (Rw (s, List.map deB (blV acc), List.map deR (roV nx)) (s2, List.map deB (blV acc2), List.map deR (roV nx2)))) []) []))))]), [AObj.arr (inV (C (s, List.map deB (blV acc), List.map deR (roV nx)) (s2, List.map deB (blV acc2), List.map deR (roV nx2)))) [Value.slice (some ⟨1, 0, none⟩) (List.length (Fs (s, List.map deB (blV acc), List.map deR (roV nx)) (s2, List.map deB (blV acc2), List.map deR (roV nx2)))) 18446744073709551620, Value.slice (some ⟨2, 0, none⟩) (List.length (Ac (s, List.map deB (blV acc), List.map deR (roV nx)) (s2, List.map deB (blV acc2), List.map deR (roV nx2)))) 18446744073709551620, Value.slice (some ⟨3, 0, none⟩) (List.length (Rw (s, List.map deB (blV acc), List.map deR (roV nx)) (s2, List.map deB (blV acc2), List.map deR (roV nx2)))) 18446744073709551620] 256 68, AObj.gro (inV (Fs (s, List.map deB (blV acc), List.map deR (roV nx)) (s2, List.map deB (blV acc2), List.map deR (roV nx2)))) [] 3, AObj.gro (blV (Ac (s, List.map deB (blV acc), List.map deR (roV nx)) (s2, List.map deB (blV acc2), List.map deR (roV nx2)))) [] 4, AObj.gro (roV (Rw (s, List.map deB (blV acc), List.map deR (roV nx)) (s2, List.map deB (blV acc2), List.map deR (roV nx2)))) [] 50]))) ∧ K (Value.tuple (Array.mk [Vs (ByteArray.mk (Array.mk (Option.getD (W (deN (glue (glue (inV (Fs (s, List.map deB (blV acc), List.map deR (roV nx)) (s2, List.map deB (blV acc2), List.map deR (roV nx2)))) []) [])) (List.map deB (glue (glue (blV (Ac (s, List.map deB (blV acc), List.map deR (roV nx)) (s2, List.map deB (blV acc2), List.map deR (roV nx2)))) []) [])) (List.map deR (glue (glue (roV (Rw (s, List.map deB (blV acc), List.map deR (roV nx)) (s2, List.map deB (blV acc2), List.map deR (roV nx2)))) []) []))) []))), Value.bool !Option.isSome (W (deN (glue (glue (inV (Fs (s, List.map deB (blV acc), List.map deR (roV nx)) (s2, List.map deB (blV acc2), List.map deR (roV nx2)))) []) [])) (List.map deB (glue (glue (blV (Ac (s, List.map deB (blV acc), List.map deR (roV nx)) (s2, List.map deB (blV acc2), List.map deR (roV nx2)))) []) [])) (List.map deR (glue (glue (roV (Rw (s, List.map deB (blV acc), List.map deR (roV nx)) (s2, List.map deB (blV acc2), List.map deR (roV nx2)))) []) []))), Vi 0])) (AH.mk (Nd (Nd (Nd (Nd Lf (some (AObj.gro (roV (Rw (s, List.map deB (blV acc), List.map deR (roV nx)) (s2, List.map deB (blV acc2), List.map deR (roV nx2)))) [] 50)) Lf) (some (AObj.cells [Vi s2, Vd 1 (blV acc2), Vd 1 (roV nx2)] 29)) Lf) (some (AObj.cells [Vi s2, Vd 1 (blV acc2), Vd 1 (roV nx2)] 29)) (Nd Lf (some (AObj.gro (inV (Fs (s, List.map deB (blV acc), List.map deR (roV nx)) (s2, List.map deB (blV acc2), List.map deR (roV nx2)))) [] 3)) Lf)) (some (AObj.cells [Vi s, Vd 1 (blV acc), Vd 1 (roV nx)] 29)) (Nd (Nd Lf (some (AObj.arr (inV (C (s, List.map deB (blV acc), List.map deR (roV nx)) (s2, List.map deB (blV acc2), List.map deR (roV nx2)))) [Value.slice (some ⟨5, 0, none⟩) (List.length (Fs (s, List.map deB (blV acc), List.map deR (roV nx)) (s2, List.map deB (blV acc2), List.map deR (roV nx2)))) 18446744073709551620, Value.slice (some ⟨6, 0, none⟩) (List.length (Ac (s, List.map deB (blV acc), List.map deR (roV nx)) (s2, List.map deB (blV acc2), List.map deR (roV nx2)))) 18446744073709551620, Value.slice (some ⟨7, 0, none⟩) (List.length (Rw (s, List.map deB (blV acc), List.map deR (roV nx)) (s2, List.map deB (blV acc2), List.map deR (roV nx2)))) 18446744073709551620] 256 68)) Lf) (some (AObj.cells [Vi s, Vd 1 (blV acc), Vd 1 (roV nx)] 29)) (Nd Lf (some (AObj.gro (blV (Ac (s, List.map deB (blV acc), List.map deR (roV nx)) (s2, List.map deB (blV acc2), List.map deR (roV nx2)))) [] 4)) Lf))) 8))) (WfV (Value.agg (Array.mk [Vi s2, Vd 1 (blV acc2), Vd 1 (roV nx2)])) ∧ Sp (!decide (chkA (s2, List.map deB (blV acc2), List.map deR (roV nx2)) = 0)) (K (Value.tuple (Array.mk [Vs (ByteArray.mk ⟨[]⟩), Value.bool false, Vi (chkA (s2, List.map deB (blV acc2), List.map deR (roV nx2)))])) (AH.mk (Nd (Nd (Nd Lf (some (AObj.cells [Vi s2, Vd 1 (blV acc2), Vd 1 (roV nx2)] 29)) Lf) (some (AObj.cells [Vi s2, Vd 1 (blV acc2), Vd 1 (roV nx2)] 29)) Lf) (some (AObj.cells [Vi s, Vd 1 (blV acc), Vd 1 (roV nx)] 29)) (Nd Lf (some (AObj.cells [Vi s, Vd 1 (blV acc), Vd 1 (roV nx)] 29)) Lf)) 4)) (HFs [Vd 1 (blV acc), Vd 1 (roV nx), Vd 1 (blV acc2), Vd 1 (roV nx2), Value.agg (Array.mk (roV (Rw (s, List.map deB (blV acc), List.map deR (roV nx)) (s2, List.map deB (blV acc2), List.map deR (roV nx2))))), Value.agg (Array.mk (blV (Ac (s, List.map deB (blV acc), List.map deR (roV nx)) (s2, List.map deB (blV acc2), List.map deR (roV nx2))))), Value.agg (Array.mk (inV (Fs (s, List.map deB (blV acc), List.map deR (roV nx)) (s2, List.map deB (blV acc2), List.map deR (roV nx2))))), Value.agg (Array.mk (inV (C (s, List.map deB (blV acc), List.map deR (roV nx)) (s2, List.map deB (blV acc2), List.map deR (roV nx2)))))] (PH (Prod.fst (some (Value.agg (Array.mk [Vi s, Vd 1 (blV acc), Vd 1 (roV nx)]) = Value.agg (Array.mk [Vi s, Vd 1 (blV (List.map deB (blV acc))), Vd 1 (roV (List.map deR (roV nx)))]) ∧ OkA (s, List.map deB (blV acc), List.map deR (roV nx)) ∧ Value.agg (Array.mk [Vi s2, Vd 1 (blV acc2), Vd 1 (roV nx2)]) = Value.agg (Array.mk [Vi s2, Vd 1 (blV (List.map deB (blV acc2))), Vd 1 (roV (List.map deR (roV nx2)))]) ∧ OkA (s2, List.map deB (blV acc2), List.map deR (roV nx2))), Value.pointer (some ⟨0, 0, none⟩), [AObj.arr (inV (C (s, List.map deB (blV acc), List.map deR (roV nx)) (s2, List.map deB (blV acc2), List.map deR (roV nx2)))) [Value.slice (some ⟨1, 0, none⟩) (List.length (Fs (s, List.map deB (blV acc), List.map deR (roV nx)) (s2, List.map deB (blV acc2), List.map deR (roV nx2)))) 18446744073709551620, Value.slice (some ⟨2, 0, none⟩) (List.length (Ac (s, List.map deB (blV acc), List.map deR (roV nx)) (s2, List.map deB (blV acc2), List.map deR (roV nx2)))) 18446744073709551620, Value.slice (some ⟨3, 0, none⟩) (List.length (Rw (s, List.map deB (blV acc), List.map deR (roV nx)) (s2, List.map deB (blV acc2), List.map deR (roV nx2)))) 18446744073709551620] 256 68, AObj.gro (inV (Fs (s, List.map deB (blV acc), List.map deR (roV nx)) (s2, List.map deB (blV acc2), List.map deR (roV nx2)))) [] 3, AObj.gro (blV (Ac (s, List.map deB (blV acc), List.map deR (roV nx)) (s2, List.map deB (blV acc2), List.map deR (roV nx2)))) [] 4, AObj.gro (roV (Rw (s, List.map deB (blV acc), List.map deR (roV nx)) (s2, List.map deB (blV acc2), List.map deR (roV nx2)))) [] 50]))) ∧ HFs [Value.agg (Array.mk (inV (C (s, List.map deB (blV acc), List.map deR (roV nx)) (s2, List.map deB (blV acc2), List.map deR (roV nx2))))), Value.agg (Array.mk (inV (Fs (s, List.map deB (blV acc), List.map deR (roV nx)) (s2, List.map deB (blV acc2), List.map deR (roV nx2))))), Value.agg (Array.mk (blV (Ac (s, List.map deB (blV acc), List.map deR (roV nx)) (s2, List.map deB (blV acc2), List.map deR (roV nx2))))), Value.agg (Array.mk (roV (Rw (s, List.map deB (blV acc), List.map deR (roV nx)) (s2, List.map deB (blV acc2), List.map deR (roV nx2))))), Value.agg (Array.mk (inV (C (s, List.map deB (blV acc), List.map deR (roV nx)) (s2, List.map deB (blV acc2), List.map deR (roV nx2))))), Value.agg (Array.mk (inV (Fs (s, List.map deB (blV acc), List.map deR (roV nx)) (s2, List.map deB (blV acc2), List.map deR (roV nx2))))), Value.agg (Array.mk (blV (Ac (s, List.map deB (blV acc), List.map deR (roV nx)) (s2, List.map deB (blV acc2), List.map deR (roV nx2))))), Value.agg (Array.mk (roV (Rw (s, List.map deB (blV acc), List.map deR (roV nx)) (s2, List.map deB (blV acc2), List.map deR (roV nx2)))))] (PH (Prod.fst (some (inV (C (s, List.map deB (blV acc), List.map deR (roV nx)) (s2, List.map deB (blV acc2), List.map deR (roV nx2))) = inV (List.map deI (inV (C (s, List.map deB (blV acc), List.map deR (roV nx)) (s2, List.map deB (blV acc2), List.map deR (roV nx2))))) ∧ (([] : List Value) = [] ∧ ([] : List Value) = [] ∧ ([] : List Value) = []) ∧ (inV (Fs (s, List.map deB (blV acc), List.map deR (roV nx)) (s2, List.map deB (blV acc2), List.map deR (roV nx2))) = inV (inF (deN (inV (Fs (s, List.map deB (blV acc), List.map deR (roV nx)) (s2, List.map deB (blV acc2), List.map deR (roV nx2)))))) ∧ blV (Ac (s, List.map deB (blV acc), List.map deR (roV nx)) (s2, List.map deB (blV acc2), List.map deR (roV nx2))) = blV (List.map deB (blV (Ac (s, List.map deB (blV acc), List.map deR (roV nx)) (s2, List.map deB (blV acc2), List.map deR (roV nx2))))) ∧ roV (Rw (s, List.map deB (blV acc), List.map deR (roV nx)) (s2, List.map deB (blV acc2), List.map deR (roV nx2))) = roV (List.map deR (roV (Rw (s, List.map deB (blV acc), List.map deR (roV nx)) (s2, List.map deB (blV acc2), List.map deR (roV nx2)))))) ∧ (List.length (Fs (s, List.map deB (blV acc), List.map deR (roV nx)) (s2, List.map deB (blV acc2), List.map deR (roV nx2))) = List.length (inV (Fs (s, List.map deB (blV acc), List.map deR (roV nx)) (s2, List.map deB (blV acc2), List.map deR (roV nx2)))) ∧ List.length (Ac (s, List.map deB (blV acc), List.map deR (roV nx)) (s2, List.map deB (blV acc2), List.map deR (roV nx2))) = List.length (blV (Ac (s, List.map deB (blV acc), List.map deR (roV nx)) (s2, List.map deB (blV acc2), List.map deR (roV nx2)))) ∧ List.length (Rw (s, List.map deB (blV acc), List.map deR (roV nx)) (s2, List.map deB (blV acc2), List.map deR (roV nx2))) = List.length (roV (Rw (s, List.map deB (blV acc), List.map deR (roV nx)) (s2, List.map deB (blV acc2), List.map deR (roV nx2))))) ∧ DW (deN (inV (Fs (s, List.map deB (blV acc), List.map deR (roV nx)) (s2, List.map deB (blV acc2), List.map deR (roV nx2))))) (List.map deB (blV (Ac (s, List.map deB (blV acc), List.map deR (roV nx)) (s2, List.map deB (blV acc2), List.map deR (roV nx2))))) (List.map deR (roV (Rw (s, List.map deB (blV acc), List.map deR (roV nx)) (s2, List.map deB (blV acc2), List.map deR (roV nx2)))))), Value.tuple (Array.mk [Vs (ByteArray.mk (Array.mk (Option.getD (W (deN (glue (glue (inV (Fs (s, List.map deB (blV acc), List.map deR (roV nx)) (s2, List.map deB (blV acc2), List.map deR (roV nx2)))) []) [])) (List.map deB (glue (glue (blV (Ac (s, List.map deB (blV acc), List.map deR (roV nx)) (s2, List.map deB (blV acc2), List.map deR (roV nx2)))) []) [])) (List.map deR (glue (glue (roV (Rw (s, List.map deB (blV acc), List.map deR (roV nx)) (s2, List.map deB (blV acc2), List.map deR (roV nx2)))) []) []))) []))), Value.bool (Option.isSome (W (deN (glue (glue (inV (Fs (s, List.map deB (blV acc), List.map deR (roV nx)) (s2, List.map deB (blV acc2), List.map deR (roV nx2)))) []) [])) (List.map deB (glue (glue (blV (Ac (s, List.map deB (blV acc), List.map deR (roV nx)) (s2, List.map deB (blV acc2), List.map deR (roV nx2)))) []) [])) (List.map deR (glue (glue (roV (Rw (s, List.map deB (blV acc), List.map deR (roV nx)) (s2, List.map deB (blV acc2), List.map deR (roV nx2)))) []) []))))]), [AObj.arr (inV (C (s, List.map deB (blV acc), List.map deR (roV nx)) (s2, List.map deB (blV acc2), List.map deR (roV nx2)))) [Value.slice (some ⟨1, 0, none⟩) (List.length (Fs (s, List.map deB (blV acc), List.map deR (roV nx)) (s2, List.map deB (blV acc2), List.map deR (roV nx2)))) 18446744073709551620, Value.slice (some ⟨2, 0, none⟩) (List.length (Ac (s, List.map deB (blV acc), List.map deR (roV nx)) (s2, List.map deB (blV acc2), List.map deR (roV nx2)))) 18446744073709551620, Value.slice (some ⟨3, 0, none⟩) (List.length (Rw (s, List.map deB (blV acc), List.map deR (roV nx)) (s2, List.map deB (blV acc2), List.map deR (roV nx2)))) 18446744073709551620] 256 68, AObj.gro (inV (Fs (s, List.map deB (blV acc), List.map deR (roV nx)) (s2, List.map deB (blV acc2), List.map deR (roV nx2)))) [] 3, AObj.gro (blV (Ac (s, List.map deB (blV acc), List.map deR (roV nx)) (s2, List.map deB (blV acc2), List.map deR (roV nx2)))) [] 4, AObj.gro (roV (Rw (s, List.map deB (blV acc), List.map deR (roV nx)) (s2, List.map deB (blV acc2), List.map deR (roV nx2)))) [] 50]))) ∧ K (Value.tuple (Array.mk [Vs (ByteArray.mk (Array.mk (Option.getD (W (deN (glue (glue (inV (Fs (s, List.map deB (blV acc), List.map deR (roV nx)) (s2, List.map deB (blV acc2), List.map deR (roV nx2)))) []) [])) (List.map deB (glue (glue (blV (Ac (s, List.map deB (blV acc), List.map deR (roV nx)) (s2, List.map deB (blV acc2), List.map deR (roV nx2)))) []) [])) (List.map deR (glue (glue (roV (Rw (s, List.map deB (blV acc), List.map deR (roV nx)) (s2, List.map deB (blV acc2), List.map deR (roV nx2)))) []) []))) []))), Value.bool !Option.isSome (W (deN (glue (glue (inV (Fs (s, List.map deB (blV acc), List.map deR (roV nx)) (s2, List.map deB (blV acc2), List.map deR (roV nx2)))) []) [])) (List.map deB (glue (glue (blV (Ac (s, List.map deB (blV acc), List.map deR (roV nx)) (s2, List.map deB (blV acc2), List.map deR (roV nx2)))) []) [])) (List.map deR (glue (glue (roV (Rw (s, List.map deB (blV acc), List.map deR (roV nx)) (s2, List.map deB (blV acc2), List.map deR (roV nx2)))) []) []))), Vi 0])) (AH.mk (Nd (Nd (Nd (Nd Lf (some (AObj.gro (roV (Rw (s, List.map deB (blV acc), List.map deR (roV nx)) (s2, List.map deB (blV acc2), List.map deR (roV nx2)))) [] 50)) Lf) (some (AObj.cells [Vi s2, Vd 1 (blV acc2), Vd 1 (roV nx2)] 29)) Lf) (some (AObj.cells [Vi s2, Vd 1 (blV acc2), Vd 1 (roV nx2)] 29)) (Nd Lf (some (AObj.gro (inV (Fs (s, List.map deB (blV acc), List.map deR (roV nx)) (s2, List.map deB (blV acc2), List.map deR (roV nx2)))) [] 3)) Lf)) (some (AObj.cells [Vi s, Vd 1 (blV acc), Vd 1 (roV nx)] 29)) (Nd (Nd Lf (some (AObj.arr (inV (C (s, List.map deB (blV acc), List.map deR (roV nx)) (s2, List.map deB (blV acc2), List.map deR (roV nx2)))) [Value.slice (some ⟨5, 0, none⟩) (List.length (Fs (s, List.map deB (blV acc), List.map deR (roV nx)) (s2, List.map deB (blV acc2), List.map deR (roV nx2)))) 18446744073709551620, Value.slice (some ⟨6, 0, none⟩) (List.length (Ac (s, List.map deB (blV acc), List.map deR (roV nx)) (s2, List.map deB (blV acc2), List.map deR (roV nx2)))) 18446744073709551620, Value.slice (some ⟨7, 0, none⟩) (List.length (Rw (s, List.map deB (blV acc), List.map deR (roV nx)) (s2, List.map deB (blV acc2), List.map deR (roV nx2)))) 18446744073709551620] 256 68)) Lf) (some (AObj.cells [Vi s, Vd 1 (blV acc), Vd 1 (roV nx)] 29)) (Nd Lf (some (AObj.gro (blV (Ac (s, List.map deB (blV acc), List.map deR (roV nx)) (s2, List.map deB (blV acc2), List.map deR (roV nx2)))) [] 4)) Lf))) 8)))) := by kernel_rfl
theorem jPe_nf (K : KV) (C : AU → List Int) (Fs : AU → List Int) (Ac : AU → List Bool) (Rw : AU → List (List Int)) (W : List Nat → List Bool → List (List Int) → Option LB) (s : Int) (acc : List Bool) (nx : List (List Int)) : jPe K C Fs Ac Rw W s acc nx = (WfV (Value.agg (Array.mk [Vi s, Vd 1 (blV acc), Vd 1 (roV nx)])) ∧ Sp (!decide (chkA (s, List.map deB (blV acc), List.map deR (roV nx)) = 0)) (K (Value.tuple (Array.mk [Value.bool false, Vi (chkA (s, List.map deB (blV acc), List.map deR (roV nx)))])) (AH.mk (Nd Lf (some (AObj.cells [Vi s, Vd 1 (blV acc), Vd 1 (roV nx)] 29)) Lf) 1)) (HFs [Vd 1 (blV acc), Vd 1 (roV nx), Value.agg (Array.mk (roV (Rw (s, List.map deB (blV acc), List.map deR (roV nx))))), Value.agg (Array.mk (blV (Ac (s, List.map deB (blV acc), List.map deR (roV nx))))), Value.agg (Array.mk (inV (Fs (s, List.map deB (blV acc), List.map deR (roV nx))))), Value.agg (Array.mk (inV (C (s, List.map deB (blV acc), List.map deR (roV nx)))))] (PH (Prod.fst (some (Value.agg (Array.mk [Vi s, Vd 1 (blV acc), Vd 1 (roV nx)]) = Value.agg (Array.mk [Vi s, Vd 1 (blV (List.map deB (blV acc))), Vd 1 (roV (List.map deR (roV nx)))]) ∧ OkA (s, List.map deB (blV acc), List.map deR (roV nx))), Value.pointer (some ⟨0, 0, none⟩), [AObj.arr (inV (C (s, List.map deB (blV acc), List.map deR (roV nx)))) [Value.slice (some ⟨1, 0, none⟩) (List.length (Fs (s, List.map deB (blV acc), List.map deR (roV nx)))) 18446744073709551620, Value.slice (some ⟨2, 0, none⟩) (List.length (Ac (s, List.map deB (blV acc), List.map deR (roV nx)))) 18446744073709551620, Value.slice (some ⟨3, 0, none⟩) (List.length (Rw (s, List.map deB (blV acc), List.map deR (roV nx)))) 18446744073709551620] 256 68, AObj.gro (inV (Fs (s, List.map deB (blV acc), List.map deR (roV nx)))) [] 3, AObj.gro (blV (Ac (s, List.map deB (blV acc), List.map deR (roV nx)))) [] 4, AObj.gro (roV (Rw (s, List.map deB (blV acc), List.map deR (roV nx)))) [] 50]))) ∧ HFs [Value.agg (Array.mk (inV (C (s, List.map deB (blV acc), List.map deR (roV nx))))), Value.agg (Array.mk (inV (Fs (s, List.map deB (blV acc), List.map deR (roV nx))))), Value.agg (Array.mk (blV (Ac (s, List.map deB (blV acc), List.map deR (roV nx))))), Value.agg (Array.mk (roV (Rw (s, List.map deB (blV acc), List.map deR (roV nx))))), Value.agg (Array.mk (inV (C (s, List.map deB (blV acc), List.map deR (roV nx))))), Value.agg (Array.mk (inV (Fs (s, List.map deB (blV acc), List.map deR (roV nx))))), Value.agg (Array.mk (blV (Ac (s, List.map deB (blV acc), List.map deR (roV nx))))), Value.agg (Array.mk (roV (Rw (s, List.map deB (blV acc), List.map deR (roV nx)))))] (PH (Prod.fst (some (inV (C (s, List.map deB (blV acc), List.map deR (roV nx))) = inV (List.map deI (inV (C (s, List.map deB (blV acc), List.map deR (roV nx))))) ∧ (([] : List Value) = [] ∧ ([] : List Value) = [] ∧ ([] : List Value) = []) ∧ (inV (Fs (s, List.map deB (blV acc), List.map deR (roV nx))) = inV (inF (deN (inV (Fs (s, List.map deB (blV acc), List.map deR (roV nx)))))) ∧ blV (Ac (s, List.map deB (blV acc), List.map deR (roV nx))) = blV (List.map deB (blV (Ac (s, List.map deB (blV acc), List.map deR (roV nx))))) ∧ roV (Rw (s, List.map deB (blV acc), List.map deR (roV nx))) = roV (List.map deR (roV (Rw (s, List.map deB (blV acc), List.map deR (roV nx)))))) ∧ (List.length (Fs (s, List.map deB (blV acc), List.map deR (roV nx))) = List.length (inV (Fs (s, List.map deB (blV acc), List.map deR (roV nx)))) ∧ List.length (Ac (s, List.map deB (blV acc), List.map deR (roV nx))) = List.length (blV (Ac (s, List.map deB (blV acc), List.map deR (roV nx)))) ∧ List.length (Rw (s, List.map deB (blV acc), List.map deR (roV nx))) = List.length (roV (Rw (s, List.map deB (blV acc), List.map deR (roV nx))))) ∧ DW (deN (inV (Fs (s, List.map deB (blV acc), List.map deR (roV nx))))) (List.map deB (blV (Ac (s, List.map deB (blV acc), List.map deR (roV nx))))) (List.map deR (roV (Rw (s, List.map deB (blV acc), List.map deR (roV nx)))))), Value.tuple (Array.mk [Vs (ByteArray.mk (Array.mk (Option.getD (W (deN (glue (glue (inV (Fs (s, List.map deB (blV acc), List.map deR (roV nx)))) []) [])) (List.map deB (glue (glue (blV (Ac (s, List.map deB (blV acc), List.map deR (roV nx)))) []) [])) (List.map deR (glue (glue (roV (Rw (s, List.map deB (blV acc), List.map deR (roV nx)))) []) []))) []))), Value.bool (Option.isSome (W (deN (glue (glue (inV (Fs (s, List.map deB (blV acc), List.map deR (roV nx)))) []) [])) (List.map deB (glue (glue (blV (Ac (s, List.map deB (blV acc), List.map deR (roV nx)))) []) [])) (List.map deR (glue (glue (roV (Rw (s, List.map deB (blV acc), List.map deR (roV nx)))) []) []))))]), [AObj.arr (inV (C (s, List.map deB (blV acc), List.map deR (roV nx)))) [Value.slice (some ⟨1, 0, none⟩) (List.length (Fs (s, List.map deB (blV acc), List.map deR (roV nx)))) 18446744073709551620, Value.slice (some ⟨2, 0, none⟩) (List.length (Ac (s, List.map deB (blV acc), List.map deR (roV nx)))) 18446744073709551620, Value.slice (some ⟨3, 0, none⟩) (List.length (Rw (s, List.map deB (blV acc), List.map deR (roV nx)))) 18446744073709551620] 256 68, AObj.gro (inV (Fs (s, List.map deB (blV acc), List.map deR (roV nx)))) [] 3, AObj.gro (blV (Ac (s, List.map deB (blV acc), List.map deR (roV nx)))) [] 4, AObj.gro (roV (Rw (s, List.map deB (blV acc), List.map deR (roV nx)))) [] 50]))) ∧ K (Value.tuple (Array.mk [Value.bool !Option.isSome (W (deN (glue (glue (inV (Fs (s, List.map deB (blV acc), List.map deR (roV nx)))) []) [])) (List.map deB (glue (glue (blV (Ac (s, List.map deB (blV acc), List.map deR (roV nx)))) []) [])) (List.map deR (glue (glue (roV (Rw (s, List.map deB (blV acc), List.map deR (roV nx)))) []) []))), Vi 0])) (AH.mk (Nd (Nd (Nd Lf (some (AObj.gro (blV (Ac (s, List.map deB (blV acc), List.map deR (roV nx)))) [] 4)) Lf) (some (AObj.arr (inV (C (s, List.map deB (blV acc), List.map deR (roV nx)))) [Value.slice (some ⟨2, 0, none⟩) (List.length (Fs (s, List.map deB (blV acc), List.map deR (roV nx)))) 18446744073709551620, Value.slice (some ⟨3, 0, none⟩) (List.length (Ac (s, List.map deB (blV acc), List.map deR (roV nx)))) 18446744073709551620, Value.slice (some ⟨4, 0, none⟩) (List.length (Rw (s, List.map deB (blV acc), List.map deR (roV nx)))) 18446744073709551620] 256 68)) Lf) (some (AObj.cells [Vi s, Vd 1 (blV acc), Vd 1 (roV nx)] 29)) (Nd (Nd Lf (some (AObj.gro (roV (Rw (s, List.map deB (blV acc), List.map deR (roV nx)))) [] 50)) Lf) (some (AObj.gro (inV (Fs (s, List.map deB (blV acc), List.map deR (roV nx)))) [] 3)) Lf)) 5))) := by kernel_rfl
theorem glue2 (x : List Value) : glue (glue x []) [] = x := rfl
theorem chk_dec {a : AU} (h : (!decide (chkA a = 0)) = true) : chkA a ≠ 0 := by simpa using h
theorem chk_dec0 {a : AU} (h : (!decide (chkA a = 0)) = false) : chkA a = 0 := by simpa using h
theorem pc_gen (K : KV) (C Fs : AU → AU → List Int) (Ac : AU → AU → List Bool) (Rw : AU → AU → List (List Int)) (W : List Nat → List Bool → List (List Int) → Option LB) {a b : AU} (hwa : WfA a) (hwb : WfA b) (F : List Nat) (hF : Fs a b = inF F)
 (h1 : chkA a ≠ 0 → ∀ A, K (.tuple ⟨[.string (mkBytes []), .bool false, .int .i64 (chkA a)]⟩) A) (h2 : chkA a = 0 → chkA b ≠ 0 → ∀ A, K (.tuple ⟨[.string (mkBytes []), .bool false, .int .i64 (chkA b)]⟩) A)
 (h3 : OkA a → OkA b → DW F (Ac a b) (Rw a b) ∧ ∀ A, K (.tuple ⟨[.string (mkBytes ((W F (Ac a b) (Rw a b)).getD [])), .bool (!(W F (Ac a b) (Rw a b)).isSome), .int .i64 0]⟩) A) : jPc K C Fs Ac Rw W a.1 a.2.1 a.2.2 b.1 b.2.1 b.2.2 := by
 obtain ⟨s, acc, nx⟩ := a
 obtain ⟨s2, acc2, nx2⟩ := b
 refine (jPc_nf K C Fs Ac Rw W s acc nx s2 acc2 nx2).mpr ?_
 rw [blV_de acc, roV_de nx, blV_de acc2, roV_de nx2, hF, glue2, glue2, glue2, deN_in, blV_de (Ac _ _), roV_de (Rw _ _), inV_de]
 refine ⟨wfV_au hwa, Sp.intro (fun c => ?_) (fun c => ?_)⟩
 · rw [c]
   exact h1 (chk_dec c) _
 · have c0 := chk_dec0 c
   refine ⟨wfV_au hwb, Sp.intro (fun d => ?_) (fun d => ?_)⟩
   · exact h2 c0 (chk_dec d) _
   · have oka := chk_ok hwa c0
     have okb := chk_ok hwb (chk_dec0 d)
     obtain ⟨hD, hK⟩ := h3 oka okb
     refine ⟨⟨.dat (HF_bl _), .dat (HF_ro _), .dat (HF_bl _), .dat (HF_ro _), HF_roA _, HF_blA _, HF_inA _, HF_inA _, rfl, oka, rfl, okb⟩, ⟨HF_inA _, HF_inA _, HF_blA _, HF_roA _, HF_inA _, HF_inA _, HF_blA _, HF_roA _, rfl, ⟨rfl, rfl, rfl⟩, ⟨rfl, rfl, rfl⟩, ⟨by rw [inV_len], by rw [blV_len], by rw [roV_len]⟩, hD⟩, hK _⟩
theorem pe_gen (K : KV) (C Fs : AU → List Int) (Ac : AU → List Bool) (Rw : AU → List (List Int)) (W : List Nat → List Bool → List (List Int) → Option LB) {a : AU} (hwa : WfA a) (F : List Nat) (hF : Fs a = inF F)
 (h1 : chkA a ≠ 0 → ∀ A, K (.tuple ⟨[.bool false, .int .i64 (chkA a)]⟩) A)
 (h3 : OkA a → DW F (Ac a) (Rw a) ∧ ∀ A, K (.tuple ⟨[.bool (!(W F (Ac a) (Rw a)).isSome), .int .i64 0]⟩) A) : jPe K C Fs Ac Rw W a.1 a.2.1 a.2.2 := by
 obtain ⟨s, acc, nx⟩ := a
 refine (jPe_nf K C Fs Ac Rw W s acc nx).mpr ?_
 rw [blV_de acc, roV_de nx, hF, glue2, glue2, glue2, deN_in, blV_de (Ac _), roV_de (Rw _), inV_de]
 refine ⟨wfV_au hwa, Sp.intro (fun c => ?_) (fun c => ?_)⟩
 · exact h1 (chk_dec c) _
 · have oka := chk_ok hwa (chk_dec0 c)
   obtain ⟨hD, hK⟩ := h3 oka
   refine ⟨⟨.dat (HF_bl _), .dat (HF_ro _), HF_roA _, HF_blA _, HF_inA _, HF_inA _, rfl, oka⟩, ⟨HF_inA _, HF_inA _, HF_blA _, HF_roA _, HF_inA _, HF_inA _, HF_blA _, HF_roA _, rfl, ⟨rfl, rfl, rfl⟩, ⟨rfl, rfl, rfl⟩, ⟨by rw [inV_len], by rw [blV_len], by rw [roV_len]⟩, hD⟩, hK _⟩
theorem dw_ei {st : PR → Nat → PR} {F : List Nat} {P : PR → Prop} {N : Nat} {s0 : PR} {ks : List PR} (ac : PR → Bool) (h : EI (scF F st) P N s0 ks ks.length) (hN : ks.length ≤ 90000) (hF : ∀ c ∈ F, c < 256) (hFl : F.length ≤ 256) : DW F (ks.map ac) (rowsT (scF F st) ks ks.length) := by
 have hl : (rowsT (scF F st) ks ks.length).length = ks.length := by unfold rowsT; rw [List.length_map, List.take_length]
 have hrow : ∀ r ∈ rowsT (scF F st) ks ks.length, ∃ k ∈ ks, r = nums ks (scF F st k) := fun r hr => by
  unfold rowsT at hr
  rw [List.take_length] at hr
  obtain ⟨k, hk, rfl⟩ := List.mem_map.1 hr
  exact ⟨k, hk, rfl⟩
 have h0 : 0 < ks.length := by
  have := h.hd
  cases ks with
  | nil => simp at this
  | cons x l => simp
 refine ⟨by omega, by omega, by rw [hl, List.length_map], fun r hr => ?_, fun r hr x hx => ?_, hFl, hF⟩
 · obtain ⟨k, _, rfl⟩ := hrow r hr
   rw [nums_len]; exact List.length_map _
 · obtain ⟨k, hk, rfl⟩ := hrow r hr
   unfold nums at hx
   obtain ⟨s, hs, rfl⟩ := List.mem_map.1 hx
   obtain ⟨j, hj, e⟩ := List.mem_iff_getElem.1 hk
   have := idN_lt (h.cl j k hj (by rw [List.getElem?_eq_getElem hj, e]) s hs)
   rw [hl]; omega
theorem fsP_lt (a b : AU) : ∀ c ∈ fsP a b, c < 256 := clsF_lt _ _
theorem fsS_lt (a : AU) : ∀ c ∈ fsS a, c < 256 := clsF_lt _ _
theorem fsP_len (a b : AU) : (fsP a b).length ≤ 256 := by unfold fsP; exact clsF_len _ 256
theorem fsS_len (a : AU) : (fsS a).length ≤ 256 := by unfold fsS; exact clsF_len _ 256
theorem dw_P {a b : AU} (h : OkA a) (h2 : OkA b) : DW (fsP a b) (accP a b) (rowP a b) := by
 have e := ei_P h h2 (fsP_lt a b)
 unfold accP rowP aceP rweP
 exact dw_ei (acP2 a b) e (inP_le h h2 _ e.nd e.inp) (fsP_lt a b) (fsP_len a b)
theorem dw_S {a : AU} (h : OkA a) : DW (fsS a) (accS a) (rowS a) := by
 have e := ei_S h (fsS_lt a)
 unfold accS rowS aceS rweS
 exact dw_ei (acS a) e (inS_le h _ e.nd e.inp) (fsS_lt a) (fsS_len a)
theorem sh_P {a b : AU} (h : OkA a) (h2 : OkA b) : shW (fsP a b) (accP a b) (rowP a b) = wordP a b := by
 have e : fsP a b = clsF (keyP a.2.2 b.2.2) 256 := by unfold fsP; exact Eq.refl _
 have := word_P h h2 (fsP a b) e
 unfold shW accP rowP aceP rweP
 exact this
theorem sh_S {a : AU} (h : OkA a) : shW (fsS a) (accS a) (rowS a) = wordS a := by
 have e : fsS a = clsF (keyS a.2.2) 256 := by unfold fsS; exact Eq.refl _
 have := word_S h (fsS a) e
 unfold shW accS rowS aceS rweS
 exact this
def coI (a b : AU) : LB × Bool × Int := bif decide (chkA a = 0) then (bif decide (chkA b = 0) then ((wordP a b).getD [], !(wordP a b).isSome, 0) else ([], false, chkA b)) else ([], false, chkA a)
def emI (a : AU) : Bool × Int := bif decide (chkA a = 0) then (!(wordS a).isSome, 0) else (false, chkA a)
def coV (r : LB × Bool × Int) : Value := .tuple ⟨[.string (mkBytes r.1), .bool r.2.1, .int .i64 r.2.2]⟩
theorem HF_co (r : LB × Bool × Int) : HF (coV r) := .tuple (HF.cons (.scal rfl) (HF.cons (HFb _) (HF.cons (HFi _ _) HF.nil)))
theorem coI_1 {a b : AU} (h : chkA a ≠ 0) : coI a b = ([], false, chkA a) := by unfold coI; rw [decide_eq_false h]; rfl
theorem coI_2 {a b : AU} (h : chkA a = 0) (h2 : chkA b ≠ 0) : coI a b = ([], false, chkA b) := by unfold coI; rw [decide_eq_true h, decide_eq_false h2]; rfl
theorem coI_3 {a b : AU} (h : chkA a = 0) (h2 : chkA b = 0) : coI a b = ((wordP a b).getD [], !(wordP a b).isSome, 0) := by unfold coI; rw [decide_eq_true h, decide_eq_true h2]; rfl
theorem emI_1 {a : AU} (h : chkA a ≠ 0) : emI a = (false, chkA a) := by unfold emI; rw [decide_eq_false h]; rfl
theorem emI_3 {a : AU} (h : chkA a = 0) : emI a = (!(wordS a).isSome, 0) := by unfold emI; rw [decide_eq_true h]; rfl
theorem chk_okA {a : AU} (h : OkA a) : chkA a = 0 := by
 obtain ⟨s, acc, nx⟩ := a
 have h0 := h.n0
 have h1 := h.n1
 have h2 := h.acc
 have h3 := h.st
 have h4 := h.row
 have h5 := h.ent
 dsimp only at h0 h1 h2 h3 h4 h5
 unfold chkA
 dsimp only
 have out0 : ∀ x : Int, 0 ≤ x ∧ x < nx.length → outI nx.length x = false := fun x hx => by
  unfold outI
  rw [decide_eq_false (by omega), decide_eq_false (by omega)]; rfl
 have e3 : nx.any (fun r => !decide ((r.length : Int) = 256)) = false := List.any_eq_false.2 fun r hr => by
  have := h4 r hr
  simp [this]
 have e4 : nx.any (outR nx.length) = false := List.any_eq_false.2 fun r hr => by
  have : outR nx.length r = false := List.any_eq_false.2 fun x hx => by rw [out0 x (h5 r hr x hx)]; simp
  rw [this]; simp
 rw [decide_eq_false (by omega), decide_eq_false (by omega), decide_eq_true (by omega), e3, out0 s h3, e4]
 rfl
theorem XPc_ok : (XPcG caP2 (fun a b => inF (fsP a b)) accP rowP shW).Ok := ⟨env_ok, env_sym, env_gl, .cons ca_tab (.cons pa_tab (.cons sh_tab .nil))⟩
theorem XPe_ok : (XPe caS (fun a => inF (fsS a)) accS rowS shW).Ok := ⟨env_ok, env_sym, env_gl, .cons ca_tab (.cons si_tab (.cons sh_tab .nil))⟩
theorem pc_walk {a b : AU} (ha : WfA a) (hb : WfA b) : Walk env Proofs.Tryd.f11 [auV a, auV b] (coV (coI a b)) := by
 refine plainF XPc_ok (d := 2) (HF_co _) (pc_gen _ caP2 (fun a b => inF (fsP a b)) accP rowP shW ha hb (fsP a b) rfl (fun h A => ?_) (fun h h2 A => ?_) (fun h h2 => ⟨dw_P h h2, fun A => ?_⟩))
 · rw [coI_1 h]; rfl
 · rw [coI_2 h h2]; rfl
 · rw [coI_3 (chk_okA h) (chk_okA h2), sh_P h h2]; rfl
theorem pe_walk {a : AU} (ha : WfA a) : Walk env Proofs.Tryd.f14 [auV a] (acV (emI a)) := by
 refine plainF XPe_ok (d := 2) (HF_ac _) (pe_gen _ caS (fun a => inF (fsS a)) accS rowS shW ha (fsS a) rfl (fun h A => ?_) (fun h => ⟨dw_S h, fun A => ?_⟩))
 · rw [emI_1 h]; rfl
 · rw [emI_3 (chk_okA h), sh_S h]; rfl
def stAt (els : List Value) (i : Int) : LB := match nth els i.toNat with | some (.string s) => s.data.toList | _ => []
def sV (l : List LB) : List Value := l.map fun w => .string (mkBytes w)
def elRs : El := { El.of (fun _ t els i => bif inL t [44, 76] then some (.string (mkBytes (stAt els i))) else bif inL t [37, 63] then some (.bool (boolAt els i)) else bif Nat.beq t 56 then some (.func (.yield 1) ⟨rowAt els i⟩ ⟨[]⟩) else some (.int .i64 (intAt els i))) with app := true, gm := fun _ => true }
def nsRs : List (NPos × TypeId × Nat) := [(.slot 6, 3, 1)]
def XRs : SX := ⟨env, [], elRs, fun k => .autoN nsRs [] [] (bif Nat.beq k 6 then [1, 4, 5, 6, 7] else [1, 4, 5, 6, 7, 8])⟩
theorem XRs_ok : XRs.Ok := ⟨env_ok, env_sym, env_gl, .nil⟩
def kFinRs (K : KV) : KX := finK XRs.E (Proofs.Tryd.f37.results).toList K
def hRs (s : Int) (acc : List Bool) (nx : List (List Int)) (wd : List LB) (sn : List Bool) (q : List Int) : AH := ⟨(.node (.node (.node .leaf (some (groI q)) .leaf) (some (.gro (sV wd) [] 9)) .leaf) (some (auC s acc nx)) (.node .leaf (some (groB sn)) .leaf)), 4⟩
def frRs (n m i : Nat) : T Value := (.node (.node (.node (.node .leaf (some (.int .i64 i)) .leaf) none .leaf) (some (.pointer (some ⟨0, 0, none⟩))) (.node .leaf (some (groS 2 n)) .leaf)) none (.node (.node .leaf (some (groS 1 n)) .leaf) none (.node .leaf (some (groS 3 m)) .leaf)))
def frRsI (n m i b : Nat) : T Value := (.node (.node (.node (.node .leaf (some (.int .i64 i)) .leaf) none .leaf) (some (.pointer (some ⟨0, 0, none⟩))) (.node .leaf (some (groS 2 n)) .leaf)) none (.node (.node (.node .leaf (some (.int .i64 b)) .leaf) (some (groS 1 n)) .leaf) none (.node .leaf (some (groS 3 m)) .leaf)))
def jRs (K : KV) (s : Int) (acc : List Bool) (nx : List (List Int)) : Prop := sxFnF XRs 1 Proofs.Tryd.f37 [.agg ⟨[.int .i64 s, dat 1 (blV acc), dat 1 (roV nx)]⟩] ⟨.leaf, 0⟩ K
def jRsL (K : KV) (again : KF) (s : Int) (acc : List Bool) (nx : List (List Int)) (wd : List LB) (sn : List Bool) (q : List Int) (n m i : Nat) : Prop := sxStepF XRs 1 (Func.ntmps Proofs.Tryd.f37) ⟨.leaf, 0⟩ (bodyOf Proofs.Tryd.f37) [1, 1, 1, 1, 1, 0, 1, 0] (kFinRs K) nsRs [] [] [1, 4, 5, 6, 7] again (frRs n m i) (hRs s acc nx wd sn q)
def kRs2 (K : KV) (again2 : KF) : KX := stepF XRs 1 (Func.ntmps Proofs.Tryd.f37) ⟨.leaf, 0⟩ (bodyOf Proofs.Tryd.f37) [1, 1, 1, 1, 1, 0, 1, 0] (kFinRs K) nsRs [] [] [1, 4, 5, 6, 7] again2
def jRsI (K : KV) (again2 again : KF) (s : Int) (acc : List Bool) (nx : List (List Int)) (wd : List LB) (sn : List Bool) (q : List Int) (n m i b : Nat) : Prop := sxStepF XRs 1 (Func.ntmps Proofs.Tryd.f37) ⟨.leaf, 0⟩ (loopBody (subC [1, 1, 1, 1, 1, 0, 1, 0] (bodyOf Proofs.Tryd.f37))) [1, 0, 0, 1, 1, 0] (kRs2 K again2) nsRs [] [] [1, 4, 5, 6, 7, 8] again (frRsI n m i b) (hRs s acc nx wd sn q)
def cmbI (k : Int) (x y : Bool) : Bool := bif decide (k = 1) then (bif x then y else false) else bif decide (k = 2) then (bif x then true else y) else (bif x then !y else false)
def XCb : SX := ⟨env, [], noEl, fun _ => .unroll 0⟩
theorem XCb_ok : XCb.Ok := ⟨env_ok, env_sym, env_gl, .nil⟩
def jCb (K : KV) (k : Int) (x y : Bool) : Prop := sxFnF XCb 1 Proofs.Tryd.f69 [.int .i64 k, .bool x, .bool y] ⟨.leaf, 0⟩ K
def cbX : List Value → Option Value
 | [.int .i64 k, .bool x, .bool y] => some (.bool (cmbI k x y))
 | _ => none
set_option maxHeartbeats 1000000
theorem jRs_nf (K : KV) (s : Int) (acc : List Bool) (nx : List (List Int)) : jRs K s acc nx = ((0 ≤ (↑(List.length (roV nx)) : Int) ∧ (↑(List.length (roV nx)) : Int) ≤ (↑(List.length (roV nx)) : Int) ∧ (↑(List.length (roV nx)) : Int) ≤ 281474976710656 ∧ 16 * Int.toNat (↑(List.length (roV nx)) : Int) ≤ 281474976710656) ∧ (0 ≤ (↑(List.length (roV nx)) : Int) ∧ (↑(List.length (roV nx)) : Int) ≤ (↑(List.length (roV nx)) : Int) ∧ (↑(List.length (roV nx)) : Int) ≤ 281474976710656 ∧ 1 * Int.toNat (↑(List.length (roV nx)) : Int) ≤ 281474976710656) ∧ (0 ≤ s ∧ s < (↑(Int.toNat (↑(List.length (roV nx)) : Int)) : Int)) ∧ Int.toNat (↑(Int.toNat s + 0) : Int) < List.length (List.replicate (Int.toNat (↑(List.length (roV nx)) : Int)) (Value.bool false)) ∧ HF (Vd 1 (blV acc)) ∧ HF (Vd 1 (roV nx)) ∧ HF (Value.agg (Array.mk (List.replicate (Int.toNat (↑(List.length (roV nx)) : Int)) (Vs (ByteArray.mk ⟨[]⟩))))) ∧ HF (Value.agg (Array.mk (List.set (List.replicate (Int.toNat (↑(List.length (roV nx)) : Int)) (Value.bool false)) (Int.toNat (↑(Int.toNat s + 0) : Int)) (Value.bool true)))) ∧ HF (Value.agg (Array.mk [Vi s])) ∧ LAtZ XRs 1 (Func.ntmps Proofs.Tryd.f37) (AH.mk Lf 0) (bodyOf Proofs.Tryd.f37) [1, 1, 1, 1, 1, 0, 1, 0] (finK (SX.E XRs) (Array.toList (Func.results Proofs.Tryd.f37)) K) (Nd (Nd (Nd (Nd Lf (some (Vi 0)) Lf) none Lf) (some (Value.pointer (some ⟨0, 0, none⟩))) (Nd Lf (some (Value.slice (some ⟨2, 0, none⟩) (Int.toNat (↑(List.length (roV nx)) : Int)) 18446744073709551620)) Lf)) none (Nd (Nd Lf (some (Value.slice (some ⟨1, 0, none⟩) (Int.toNat (↑(List.length (roV nx)) : Int)) 18446744073709551620)) Lf) none (Nd Lf (some (Value.slice (some ⟨3, 0, none⟩) 1 18446744073709551620)) Lf))) (AH.mk (Nd (Nd (Nd Lf (some (AObj.gro [Vi s] [] 3)) Lf) (some (AObj.gro (List.replicate (Int.toNat (↑(List.length (roV nx)) : Int)) (Vs (ByteArray.mk ⟨[]⟩))) [] 9)) Lf) (some (AObj.cells [Vi s, Vd 1 (blV acc), Vd 1 (roV nx)] 29)) (Nd Lf (some (AObj.gro (List.set (List.replicate (Int.toNat (↑(List.length (roV nx)) : Int)) (Value.bool false)) (Int.toNat (↑(Int.toNat s + 0) : Int)) (Value.bool true)) [] 4)) Lf)) 4)) := by kernel_rfl
theorem jRsL_nf (K : KV) (again : KF) (s : Int) (acc : List Bool) (nx : List (List Int)) (wd : List LB) (sn : List Bool) (q : List Int) (n m i : Nat) : jRsL K again s acc nx wd sn q n m i = (Sp (decide ((i : Int) < (m : Int))) ((0 ≤ (i : Int) ∧ (i : Int) < (m : Int)) ∧ nth (inV q) (i) = some (Vi (intAt (inV q) (i : Int))) ∧ (0 ≤ intAt (inV q) (i : Int) ∧ intAt (inV q) (i : Int) < (↑(List.length (blV acc)) : Int)) ∧ nth (blV acc) (Int.toNat (↑(Int.toNat (intAt (inV q) (i : Int))) : Int)) = some (Value.bool (boolAt (blV acc) (↑(Int.toNat (intAt (inV q) (i : Int))) : Int))) ∧ Sp (boolAt (blV acc) (↑(Int.toNat (intAt (inV q) (i : Int))) : Int)) ((0 ≤ (i : Int) ∧ (i : Int) < (m : Int)) ∧ nth (inV q) (i) = some (Vi (intAt (inV q) (i : Int))) ∧ (0 ≤ intAt (inV q) (i : Int) ∧ intAt (inV q) (i : Int) < (n : Int)) ∧ nth (sV wd) (Int.toNat (↑(Int.toNat (intAt (inV q) (i : Int)) + 0) : Int)) = some (Vs (ByteArray.mk (Array.mk (stAt (sV wd) (↑(Int.toNat (intAt (inV q) (i : Int)) + 0) : Int))))) ∧ K (Value.tuple (Array.mk [Vs (ByteArray.mk (Array.mk (stAt (sV wd) (↑(Int.toNat (intAt (inV q) (i : Int)) + 0) : Int)))), Value.bool true])) (AH.mk (Nd (Nd (Nd Lf (some (AObj.gro (inV q) [] 3)) Lf) (some (AObj.gro (sV wd) [] 9)) Lf) (some (AObj.cells [Vi s, Vd 1 (blV acc), Vd 1 (roV nx)] 29)) (Nd Lf (some (AObj.gro (blV sn) [] 4)) Lf)) 12)) (HF (Vd 1 (blV acc)) ∧ HF (Vd 1 (roV nx)) ∧ HF (Value.agg (Array.mk (sV wd))) ∧ HF (Value.agg (Array.mk (blV sn))) ∧ HF (Value.agg (Array.mk (inV q))) ∧ LAtZ XRs 1 (Func.ntmps Proofs.Tryd.f37) (AH.mk Lf 0) (loopBody (subC [1, 1, 1, 1, 1, 0, 1, 0] (bodyOf Proofs.Tryd.f37))) [1, 0, 0, 1, 1, 0] (stepF XRs 1 (Func.ntmps Proofs.Tryd.f37) (AH.mk Lf 0) (bodyOf Proofs.Tryd.f37) [1, 1, 1, 1, 1, 0, 1, 0] (kFinRs K) nsRs [] [] [1, 4, 5, 6, 7] again) (Nd (Nd (Nd (Nd Lf (some (Vi (i : Int))) Lf) none Lf) (some (Value.pointer (some ⟨0, 0, none⟩))) (Nd Lf (some (Value.slice (some ⟨2, 0, none⟩) n 18446744073709551620)) Lf)) none (Nd (Nd (Nd Lf (some (Vi 0)) Lf) (some (Value.slice (some ⟨1, 0, none⟩) n 18446744073709551620)) Lf) none (Nd Lf (some (Value.slice (some ⟨3, 0, none⟩) m 18446744073709551620)) Lf))) (AH.mk (Nd (Nd (Nd Lf (some (AObj.gro (inV q) [] 3)) Lf) (some (AObj.gro (sV wd) [] 9)) Lf) (some (AObj.cells [Vi s, Vd 1 (blV acc), Vd 1 (roV nx)] 29)) (Nd Lf (some (AObj.gro (blV sn) [] 4)) Lf)) 4))) (K (Value.tuple (Array.mk [Vs (ByteArray.mk ⟨[]⟩), Value.bool false])) (AH.mk (Nd (Nd (Nd Lf (some (AObj.gro (inV q) [] 3)) Lf) (some (AObj.gro (sV wd) [] 9)) Lf) (some (AObj.cells [Vi s, Vd 1 (blV acc), Vd 1 (roV nx)] 29)) (Nd Lf (some (AObj.gro (blV sn) [] 4)) Lf)) 4))) := by kernel_rfl
theorem jRsI_nf (K : KV) (again2 : KF) (again : KF) (s : Int) (acc : List Bool) (nx : List (List Int)) (wd : List LB) (sn : List Bool) (q : List Int) (n m i b : Nat) : jRsI K again2 again s acc nx wd sn q n m i b = (Sp (decide ((b : Int) < 256)) ((0 ≤ (i : Int) ∧ (i : Int) < (m : Int)) ∧ nth (inV q) (i) = some (Vi (intAt (inV q) (i : Int))) ∧ (0 ≤ intAt (inV q) (i : Int) ∧ intAt (inV q) (i : Int) < (↑(List.length (roV nx)) : Int)) ∧ nth (roV nx) (Int.toNat (↑(Int.toNat (intAt (inV q) (i : Int))) : Int)) = some (Vd 1 (rowAt (roV nx) (↑(Int.toNat (intAt (inV q) (i : Int))) : Int))) ∧ (0 ≤ (b : Int) ∧ (b : Int) < (↑(List.length (rowAt (roV nx) (↑(Int.toNat (intAt (inV q) (i : Int))) : Int))) : Int)) ∧ nth (rowAt (roV nx) (↑(Int.toNat (intAt (inV q) (i : Int))) : Int)) (b) = some (Vi (intAt (rowAt (roV nx) (↑(Int.toNat (intAt (inV q) (i : Int))) : Int)) (b : Int))) ∧ (0 ≤ intAt (rowAt (roV nx) (↑(Int.toNat (intAt (inV q) (i : Int))) : Int)) (b : Int) ∧ intAt (rowAt (roV nx) (↑(Int.toNat (intAt (inV q) (i : Int))) : Int)) (b : Int) < (n : Int)) ∧ nth (blV sn) (Int.toNat (↑(Int.toNat (intAt (rowAt (roV nx) (↑(Int.toNat (intAt (inV q) (i : Int))) : Int)) (b : Int)) + 0) : Int)) = some (Value.bool (boolAt (blV sn) (↑(Int.toNat (intAt (rowAt (roV nx) (↑(Int.toNat (intAt (inV q) (i : Int))) : Int)) (b : Int)) + 0) : Int))) ∧ Sp (!boolAt (blV sn) (↑(Int.toNat (intAt (rowAt (roV nx) (↑(Int.toNat (intAt (inV q) (i : Int))) : Int)) (b : Int)) + 0) : Int)) ((0 ≤ intAt (rowAt (roV nx) (↑(Int.toNat (intAt (inV q) (i : Int))) : Int)) (b : Int) ∧ intAt (rowAt (roV nx) (↑(Int.toNat (intAt (inV q) (i : Int))) : Int)) (b : Int) < (n : Int)) ∧ Int.toNat (↑(Int.toNat (intAt (rowAt (roV nx) (↑(Int.toNat (intAt (inV q) (i : Int))) : Int)) (b : Int)) + 0) : Int) < List.length (blV sn) ∧ (0 ≤ (i : Int) ∧ (i : Int) < (m : Int)) ∧ nth (inV q) (i) = some (Vi (intAt (inV q) (i : Int))) ∧ (0 ≤ intAt (inV q) (i : Int) ∧ intAt (inV q) (i : Int) < (n : Int)) ∧ nth (sV wd) (Int.toNat (↑(Int.toNat (intAt (inV q) (i : Int)) + 0) : Int)) = some (Vs (ByteArray.mk (Array.mk (stAt (sV wd) (↑(Int.toNat (intAt (inV q) (i : Int)) + 0) : Int))))) ∧ IsB [Value.int .u8 (IntKind.wrap .u8 (b : Int))] 0 1 ∧ List.length ((stAt (sV wd) (↑(Int.toNat (intAt (inV q) (i : Int)) + 0) : Int))) + (1 : Nat) ≤ (4611686018427387904 : Nat) ∧ (0 ≤ intAt (rowAt (roV nx) (↑(Int.toNat (intAt (inV q) (i : Int))) : Int)) (b : Int) ∧ intAt (rowAt (roV nx) (↑(Int.toNat (intAt (inV q) (i : Int))) : Int)) (b : Int) < (n : Int)) ∧ Int.toNat (↑(Int.toNat (intAt (rowAt (roV nx) (↑(Int.toNat (intAt (inV q) (i : Int))) : Int)) (b : Int)) + 0) : Int) < List.length (sV wd) ∧ (List.all [Vi (intAt (rowAt (roV nx) (↑(Int.toNat (intAt (inV q) (i : Int))) : Int)) (b : Int))] cellv = true ∧ m + 0 = List.length (inV q) ∧ m + (1 : Nat) ≤ (70368744177664 : Nat) ∧ (m + 1) * (8 : Nat) ≤ (140737488355328 : Nat)) ∧ HF (Vd 1 (blV acc)) ∧ HF (Vd 1 (roV nx)) ∧ HF (Value.agg (Array.mk (List.set (sV wd) (Int.toNat (↑(Int.toNat (intAt (rowAt (roV nx) (↑(Int.toNat (intAt (inV q) (i : Int))) : Int)) (b : Int)) + 0) : Int)) (Vs (ByteArray.mk (Array.mk ((stAt (sV wd) (↑(Int.toNat (intAt (inV q) (i : Int)) + 0) : Int)) ++ [UInt8.ofNat (Int.toNat (IntKind.wrap .u8 (b : Int)))]))))))) ∧ HF (Value.agg (Array.mk (List.set (blV sn) (Int.toNat (↑(Int.toNat (intAt (rowAt (roV nx) (↑(Int.toNat (intAt (inV q) (i : Int))) : Int)) (b : Int)) + 0) : Int)) (Value.bool true)))) ∧ HF (Value.agg (Array.mk (inV q ++ [Vi (intAt (rowAt (roV nx) (↑(Int.toNat (intAt (inV q) (i : Int))) : Int)) (b : Int))]))) ∧ again (Nd (Nd (Nd (Nd Lf (some (Vi (i : Int))) Lf) none Lf) (some (Value.pointer (some ⟨0, 0, none⟩))) (Nd Lf (some (Value.slice (some ⟨2, 0, none⟩) n 18446744073709551620)) Lf)) none (Nd (Nd (Nd Lf (some (Vi (IntKind.wrap .i64 ((b : Int) + 1)))) Lf) (some (Value.slice (some ⟨1, 0, none⟩) n 18446744073709551620)) Lf) none (Nd Lf (some (Value.slice (some ⟨3, 0, none⟩) (m + 1) 18446744073709551620)) Lf))) (AH.mk (Nd (Nd (Nd Lf (some (AObj.gro (inV q ++ [Vi (intAt (rowAt (roV nx) (↑(Int.toNat (intAt (inV q) (i : Int))) : Int)) (b : Int))]) [] 3)) Lf) (some (AObj.gro (List.set (sV wd) (Int.toNat (↑(Int.toNat (intAt (rowAt (roV nx) (↑(Int.toNat (intAt (inV q) (i : Int))) : Int)) (b : Int)) + 0) : Int)) (Vs (ByteArray.mk (Array.mk ((stAt (sV wd) (↑(Int.toNat (intAt (inV q) (i : Int)) + 0) : Int)) ++ [UInt8.ofNat (Int.toNat (IntKind.wrap .u8 (b : Int)))]))))) [] 9)) Lf) (some (AObj.cells [Vi s, Vd 1 (blV acc), Vd 1 (roV nx)] 29)) (Nd Lf (some (AObj.gro (List.set (blV sn) (Int.toNat (↑(Int.toNat (intAt (rowAt (roV nx) (↑(Int.toNat (intAt (inV q) (i : Int))) : Int)) (b : Int)) + 0) : Int)) (Value.bool true)) [] 4)) Lf)) 4)) (HF (Vd 1 (blV acc)) ∧ HF (Vd 1 (roV nx)) ∧ HF (Value.agg (Array.mk (sV wd))) ∧ HF (Value.agg (Array.mk (blV sn))) ∧ HF (Value.agg (Array.mk (inV q))) ∧ again (Nd (Nd (Nd (Nd Lf (some (Vi (i : Int))) Lf) none Lf) (some (Value.pointer (some ⟨0, 0, none⟩))) (Nd Lf (some (Value.slice (some ⟨2, 0, none⟩) n 18446744073709551620)) Lf)) none (Nd (Nd (Nd Lf (some (Vi (IntKind.wrap .i64 ((b : Int) + 1)))) Lf) (some (Value.slice (some ⟨1, 0, none⟩) n 18446744073709551620)) Lf) none (Nd Lf (some (Value.slice (some ⟨3, 0, none⟩) m 18446744073709551620)) Lf))) (AH.mk (Nd (Nd (Nd Lf (some (AObj.gro (inV q) [] 3)) Lf) (some (AObj.gro (sV wd) [] 9)) Lf) (some (AObj.cells [Vi s, Vd 1 (blV acc), Vd 1 (roV nx)] 29)) (Nd Lf (some (AObj.gro (blV sn) [] 4)) Lf)) 4))) (HF (Vd 1 (blV acc)) ∧ HF (Vd 1 (roV nx)) ∧ HF (Value.agg (Array.mk (sV wd))) ∧ HF (Value.agg (Array.mk (blV sn))) ∧ HF (Value.agg (Array.mk (inV q))) ∧ again2 (Nd (Nd (Nd (Nd Lf (some (Vi (IntKind.wrap .i64 ((i : Int) + 1)))) Lf) none Lf) (some (Value.pointer (some ⟨0, 0, none⟩))) (Nd Lf (some (Value.slice (some ⟨2, 0, none⟩) n 18446744073709551620)) Lf)) none (Nd (Nd Lf (some (Value.slice (some ⟨1, 0, none⟩) n 18446744073709551620)) Lf) none (Nd Lf (some (Value.slice (some ⟨3, 0, none⟩) m 18446744073709551620)) Lf))) (AH.mk (Nd (Nd (Nd Lf (some (AObj.gro (inV q) [] 3)) Lf) (some (AObj.gro (sV wd) [] 9)) Lf) (some (AObj.cells [Vi s, Vd 1 (blV acc), Vd 1 (roV nx)] 29)) (Nd Lf (some (AObj.gro (blV sn) [] 4)) Lf)) 4))) := by kernel_rfl
theorem jCb_nf (K : KV) (k : Int) (x : Bool) (y : Bool) : jCb K k x y = (Sp (decide (k = 1)) (Sp x (K (Value.bool y) (AH.mk Lf 0)) (K (Value.bool false) (AH.mk Lf 0))) (Sp (decide (k = 2)) (Sp x (K (Value.bool true) (AH.mk Lf 0)) (K (Value.bool y) (AH.mk Lf 0))) (Sp x (K (Value.bool !y) (AH.mk Lf 0)) (K (Value.bool false) (AH.mk Lf 0))))) := by kernel_rfl
structure GA (a : AU) : Prop where
 n0 : 0 < a.2.2.length
 n1 : a.2.2.length ≤ 90000
 acc : a.2.1.length = a.2.2.length
 row : ∀ r ∈ a.2.2, r.length = 256
 st : 0 ≤ a.1 ∧ a.1 < a.2.2.length
 ent : ∀ r ∈ a.2.2, ∀ x ∈ r, 0 ≤ x ∧ x < a.2.2.length
theorem OkA.ga {a : AU} (h : OkA a) : GA a := ⟨h.n0, by have := h.n1; omega, h.acc, h.row, h.st, h.ent⟩
theorem sV_len (l : List LB) : (sV l).length = l.length := List.length_map _
theorem nth_sV {l : List LB} {i : Nat} (h : i < l.length) : nth (sV l) i = some (.string (mkBytes l[i])) := by
 rw [nth_eq]; unfold sV; rw [List.getElem?_map, List.getElem?_eq_getElem h]; rfl
theorem stAt_sV {l : List LB} {i : Nat} (h : i < l.length) : stAt (sV l) (i : Int) = l[i] := by
 unfold stAt; rw [Int.toNat_natCast, nth_sV h]; rfl
theorem sV_set (l : List LB) (i : Nat) (w : LB) : (sV l).set i (.string (mkBytes w)) = sV (l.set i w) := by unfold sV; rw [List.map_set]
theorem HF_sV (l : List LB) : HF (.agg ⟨sV l⟩) := .agg fun x hx => by obtain ⟨w, _, rfl⟩ := List.mem_map.1 hx; exact .scal rfl
def ScR (nx : List (List Int)) (sc : Int → List (UInt8 × Int)) : Prop := ∀ k : Nat, k < nx.length → (sc k).length = 256 ∧ ∀ b, b < 256 → (sc k)[b]? = some (UInt8.ofNat b, (nx.getD k []).getD b 0)
theorem rs_inner (K : KV) (again2 : KF) {s : Int} {acc : List Bool} {nx : List (List Int)} (hG : GA (s, acc, nx)) {sc : Int → List (UInt8 × Int)} (hsc : ScR nx sc) {wd : List LB} {sn : List Bool} {q0 : QW} (hS : SQ nx.length q0 sn) (hB : WQ nx.length q0 wd) {i : Nat} {x : Int} {w : LB} (hx : q0[i]? = some (x, w))
 (hK : ∀ wd sn, SQ nx.length (addW w q0 (sc x)) sn → WQ nx.length (addW w q0 (sc x)) wd → again2 (frRs nx.length (addW w q0 (sc x)).length (i + 1)) (hRs s acc nx wd sn (qs (addW w q0 (sc x))))) :
 LAtZ XRs 1 (Func.ntmps Proofs.Tryd.f37) ⟨.leaf, 0⟩ (loopBody (subC [1, 1, 1, 1, 1, 0, 1, 0] (bodyOf Proofs.Tryd.f37))) [1, 0, 0, 1, 1, 0] (kRs2 K again2) (frRsI nx.length q0.length i 0) (hRs s acc nx wd sn (qs q0)) := by
 have hn := hG.n1
 have hrow := hG.row
 have hent := hG.ent
 dsimp only at hn hrow hent
 have hxm := List.mem_of_getElem? hx
 have hql0 := hS.le
 have hs := hS.rng _ hxm
 dsimp only at hs
 obtain ⟨k, rfl⟩ := Int.eq_ofNat_of_zero_le hs.1
 have hk : k < nx.length := by omega
 have hrl : nx[k].length = 256 := hrow _ (List.getElem_mem hk)
 obtain ⟨hLl, hLc⟩ := hsc k hk
 have hi0 : i < q0.length := (List.getElem?_eq_some_iff.1 hx).1
 refine LAtZ.stepF XRs_ok nsRs [] [] [1, 4, 5, 6, 7, 8] (by kernel_rfl) (fun m G A => ∃ (b : Nat) (wd : List LB) (sn : List Bool) (q : QW), G = frRsI nx.length q.length i b ∧ A = hRs s acc nx wd sn (qs q) ∧ q = addW w q0 ((sc k).take b) ∧ SQ nx.length q sn ∧ WQ nx.length q wd ∧ q[i]? = some ((k : Int), w) ∧ b + m = 256) ?_ (k := 256) ⟨0, wd, sn, q0, rfl, rfl, by simp [addW], hS, hB, hx, by omega⟩
 rintro m G A ⟨b, wd, sn, q, rfl, rfl, hq, hS, hB, hx, hcm⟩
 have hql := hS.le
 have hi : i < q.length := (List.getElem?_eq_some_iff.1 hx).1
 have hxm := List.mem_of_getElem? hx
 have hi2 : i < (qs q).length := by rw [qs_len]; exact hi
 have hat : (qs q)[i] = (k : Int) := by rw [qs_get hi hi2, (List.getElem?_eq_some_iff.1 hx).2]
 refine (jRsI_nf K again2 _ s acc nx wd sn (qs q) nx.length q.length i b).mpr ?_
 rw [intAt_in hi2, hat, Int.toNat_natCast, Nat.add_zero, Int.toNat_natCast, rowAt_ro hk]
 refine Sp.intro (fun h => ?_) (fun h => ?_)
 · have h := of_decide_eq_true h
   have hb : b < 256 := by omega
   have hcr : b < nx[k].length := by omega
   have ht := hent _ (List.getElem_mem hk) _ (List.getElem_mem hcr)
   rw [intAt_in hcr]
   have hLb := hLc b hb
   rw [gD hk, gD hcr] at hLb
   have hsnoc : addW w q0 ((sc k).take (b + 1)) = if nx[k][b] ∈ qs q then q else q ++ [(nx[k][b], w ++ [UInt8.ofNat b])] := by
    rw [List.take_succ_eq_append_getElem (by rw [hLl]; exact hb), (List.getElem?_eq_some_iff.1 hLb).2, addW_snoc, ← hq]; rfl
   generalize hte : nx[k][b] = t at *
   obtain ⟨j, rfl⟩ := Int.eq_ofNat_of_zero_le ht.1
   have hjs : j < sn.length := by rw [hS.ls]; omega
   have hjw : j < wd.length := by rw [hB.lw]; omega
   have hkw : k < wd.length := by rw [hB.lw]; omega
   have hseen := hS.seen ht.1 ht.2
   rw [Int.toNat_natCast] at hseen
   have hw := hB.ww _ hxm
   dsimp only at hw
   rw [Int.toNat_natCast, gD hkw] at hw
   have hwl := hS.wl _ hxm
   dsimp only at hwl
   rw [Int.toNat_natCast, Nat.add_zero, Int.toNat_natCast, boolAt_bl0 hjs, hseen, stAt_sV hkw, hw]
   refine ⟨⟨by omega, by omega⟩, by rw [nth_in hi2, hat], ⟨by omega, by rw [roV_len]; omega⟩, nth_ro hk, ⟨by omega, by rw [inV_len]; omega⟩, by rw [nth_in hcr, hte], ht, ?_, Sp.intro (fun g => ?_) (fun g => ?_)⟩
   · rw [nth_bl hjs, ← hseen, gD hjs]
   · have g : ¬ (j : Int) ∈ qs q := by simpa using g
     rw [if_neg g] at hsnoc
     have ew : UInt8.ofNat (Int.toNat (IntKind.wrap .u8 (b : Int))) = UInt8.ofNat b := by
      rw [u8_wrap (by omega), Int.toNat_natCast, Int.toNat_natCast]; simp; congr 1; omega
     rw [ew, show Vs (ByteArray.mk ⟨w ++ [UInt8.ofNat b]⟩) = .string (mkBytes (w ++ [UInt8.ofNat b])) from rfl, sV_set, blV_set, blV_len, sV_len, show [Vi (j : Int)] = inV [(j : Int)] from rfl, inV_app, inV_len, i64_in (x := (b : Int) + 1) (by omega) (by omega)]
     refine ⟨ht, hjs, ⟨by omega, by omega⟩, by rw [nth_in hi2, hat], ⟨by omega, by omega⟩, by rw [Int.toNat_natCast, nth_sV hkw, hw]; rfl, ?_, ?_, ht, hjw, ⟨rfl, by rw [qs_len]; omega, by omega, by omega⟩, .dat (HF_bl _), .dat (HF_ro _), HF_sV _, HF_blA _, HF_inA _, m - 1, by omega, b + 1, wd.set j (w ++ [UInt8.ofNat b]), sn.set j true, q ++ [((j : Int), w ++ [UInt8.ofNat b])], ?_, ?_, hsnoc.symm, ?_, ?_, ?_, by omega⟩
     · rw [u8_wrap (by omega), Int.toNat_natCast]
       exact u8_isB [UInt8.ofNat b]
     · show w.length + 1 ≤ _
       omega
     · rw [List.length_append]; rfl
     · rw [qs_app]; rfl
     · have := hS.add ht.1 ht.2 g (w ++ [UInt8.ofNat b]) (by rw [List.length_append]; simp; omega)
       rw [Int.toNat_natCast] at this
       exact this
     · have := WQ.add hS hB ht.1 ht.2 g (w ++ [UInt8.ofNat b])
       rw [Int.toNat_natCast] at this
       exact this
     · rw [List.getElem?_append_left hi]; exact hx
   · have g : (j : Int) ∈ qs q := by simpa using g
     rw [if_pos g] at hsnoc
     rw [i64_in (x := (b : Int) + 1) (by omega) (by omega)]
     exact ⟨.dat (HF_bl _), .dat (HF_ro _), HF_sV _, HF_blA _, HF_inA _, m - 1, by omega, b + 1, wd, sn, q, rfl, rfl, hsnoc.symm, hS, hB, hx, by omega⟩
 · have h := of_decide_eq_false h
   rw [List.take_of_length_le (by omega)] at hq
   subst hq
   rw [i64_in (x := (i : Int) + 1) (by omega) (by omega)]
   exact ⟨.dat (HF_bl _), .dat (HF_ro _), HF_sV _, HF_blA _, HF_inA _, hK wd sn hS hB⟩
theorem HF_sh (w : Option LB) : HF (shV w) := .tuple (HF.cons (.scal rfl) (HF.cons (HFb _) HF.nil))
theorem rs_walk {a : AU} (hG : GA a) {sc : Int → List (UInt8 × Int)} (hsc : ScR a.2.2 sc) : Walk env Proofs.Tryd.f37 [auV a] (shV (bfs sc (acD a.2.1) 90001 [(a.1, [])] 0)) := by
 obtain ⟨s, acc, nx⟩ := a
 have hn0 := hG.n0
 have hn := hG.n1
 have hal := hG.acc
 have hst := hG.st
 dsimp only at hn0 hn hal hst hsc ⊢
 obtain ⟨st, rfl⟩ := Int.eq_ofNat_of_zero_le hst.1
 refine plainF XRs_ok (d := 1) (HF_sh _) ((jRs_nf _ st acc nx).mpr ?_)
 rw [roV_len, Int.toNat_natCast, Int.toNat_natCast, Nat.add_zero, Int.toNat_natCast, show List.replicate nx.length (Value.bool false) = blV (List.replicate nx.length false) by unfold blV; rw [List.map_replicate], show List.replicate nx.length (Vs (ByteArray.mk ⟨[]⟩)) = sV (List.replicate nx.length []) by unfold sV; rw [List.map_replicate]; rfl, blV_set, blV_len, List.length_replicate]
 refine ⟨⟨by omega, by omega, by omega, by omega⟩, ⟨by omega, by omega, by omega, by omega⟩, ⟨by omega, by omega⟩, by omega, .dat (HF_bl _), .dat (HF_ro _), HF_sV _, HF_blA _, HF_inA [(st : Int)], ?_⟩
 refine LAtZ.stepF XRs_ok nsRs [] [] [1, 4, 5, 6, 7] (by kernel_rfl) (fun m G A => ∃ (i : Nat) (wd : List LB) (sn : List Bool) (q : QW), G = frRs nx.length q.length i ∧ A = hRs st acc nx wd sn (qs q) ∧ SQ nx.length q sn ∧ WQ nx.length q wd ∧ i ≤ q.length ∧ bfs sc (acD acc) m q i = bfs sc (acD acc) 90001 [((st : Int), [])] 0 ∧ i + m = 90001) ?_ (k := 90001) ⟨0, _, _, [((st : Int), [])], rfl, rfl, ?_, WQ.init nx.length (by omega), by simp, rfl, by omega⟩
 rotate_left
 · have := SQ.init nx.length (s := (st : Int)) (by omega) (by omega)
   rw [Int.toNat_natCast] at this
   exact this
 rintro m G A ⟨i, wd, sn, q, rfl, rfl, hS, hB, hil, hW, him⟩
 have hql := hS.le
 refine (jRsL_nf _ _ st acc nx wd sn (qs q) nx.length q.length i).mpr (Sp.intro (fun c => ?_) (fun c => ?_))
 · have c := of_decide_eq_true c
   have hi : i < q.length := by omega
   have hi2 : i < (qs q).length := by rw [qs_len]; exact hi
   have hqi : q[i]? = some q[i] := List.getElem?_eq_getElem hi
   have hat : (qs q)[i] = q[i].1 := qs_get hi hi2
   obtain ⟨m, rfl⟩ : ∃ m', m = m' + 1 := ⟨m - 1, by omega⟩
   have hr := hS.rng _ (List.getElem_mem hi)
   have hww := hB.ww _ (List.getElem_mem hi)
   rw [bfs_at hqi] at hW
   rw [intAt_in hi2, hat]
   generalize q[i] = x at *
   obtain ⟨s, w⟩ := x
   dsimp only at hr hW hww ⊢
   obtain ⟨k, rfl⟩ := Int.eq_ofNat_of_zero_le hr.1
   have hk : k < acc.length := by omega
   have hkw : k < wd.length := by rw [hB.lw]; omega
   rw [Int.toNat_natCast, gD hkw] at hww
   have hac : acD acc (k : Int) = acc.getD k false := by unfold acD; rw [Int.toNat_natCast]
   rw [Int.toNat_natCast, Nat.add_zero, Int.toNat_natCast, boolAt_bl0 hk]
   refine ⟨⟨by omega, c⟩, by rw [nth_in hi2, hat], ⟨by omega, by rw [blV_len]; omega⟩, by rw [nth_bl hk, gD hk], Sp.intro (fun g => ?_) (fun g => ?_)⟩
   · rw [hac, g, if_pos rfl] at hW
     refine ⟨⟨by omega, c⟩, by rw [nth_in hi2, hat], ⟨by omega, by omega⟩, ?_, ?_⟩
     · rw [stAt_sV hkw, Int.toNat_natCast, nth_sV hkw]; rfl
     · rw [stAt_sV hkw, hww, ← hW]; rfl
   · rw [hac, g, if_neg (by simp)] at hW
     refine ⟨.dat (HF_bl _), .dat (HF_ro _), HF_sV _, HF_blA _, HF_inA _, ?_⟩
     refine rs_inner _ _ hG hsc hS hB hqi fun wd sn hS hB => ?_
     refine ⟨m, by omega, i + 1, wd, sn, _, rfl, rfl, hS, hB, ?_, hW, by omega⟩
     obtain ⟨r, hr⟩ := addW_pre w (sc (k : Int)) q
     rw [hr, List.length_append]; omega
 · have c := of_decide_eq_false c
   rw [bfs_end m (by omega)] at hW
   rw [← hW]; rfl
theorem cb_walk (k : Int) (x y : Bool) : Walk env Proofs.Tryd.f69 [.int .i64 k, .bool x, .bool y] (.bool (cmbI k x y)) := by
 refine plainF XCb_ok (d := 1) (HFb _) ((jCb_nf _ k x y).mpr ?_)
 unfold cmbI
 refine Sp.intro (fun h => ?_) (fun h => ?_)
 · rw [h]; cases x <;> exact rfl
 · rw [h]
   refine Sp.intro (fun h => ?_) (fun h => ?_)
   · rw [h]; cases x <;> exact rfl
   · rw [h]; cases x <;> exact rfl
theorem cb_tab : ∀ args A p v A', pureR (fun _ => none) cbX args A = some (p, v, A') → PH p → CallAt env 69 args A v A' := walk_tab env_ok env_gl (fn := Proofs.Tryd.f69) rfl fun args v h hp => by
 unfold cbX at h
 split at h
 · simp only [Option.some.injEq] at h
   subst h
   exact ⟨HF.cons (HFi _ _) (HF.cons (HFb _) (HF.cons (HFb _) HF.nil)), cb_walk _ _ _⟩
 · cases h
end
end Go.T9

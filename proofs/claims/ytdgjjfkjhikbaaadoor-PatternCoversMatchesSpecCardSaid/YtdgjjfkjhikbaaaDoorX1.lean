/- A part of the proof. -/
import Derived.Test.YtdgjjfkjhikbaaaDoorY0
set_option linter.unusedVariables false
set_option linter.unusedSimpArgs false
set_option maxRecDepth 1000000
namespace Go.T9
open Go Go.AM
noncomputable section
abbrev AU := Int × List Bool × List (List Int)
def blV (l : List Bool) : List Value := l.map Value.bool
def inV (l : List Int) : List Value := l.map (Value.int .i64)
def roV (l : List (List Int)) : List Value := l.map fun r => dat 1 (inV r)
def auV (a : AU) : Value := .agg ⟨[.int .i64 a.1, dat 1 (blV a.2.1), dat 1 (roV a.2.2)]⟩
def deI : Value → Int
 | .int _ n => n
 | _ => 0
def deB : Value → Bool
 | .bool b => b
 | _ => false
def deR : Value → List Int
 | .func _ ⟨l⟩ _ => l.map deI
 | _ => []
theorem inV_de (l : List Int) : (inV l).map deI = l := by
 unfold inV; rw [List.map_map]; conv => rhs; rw [← List.map_id l]
 exact List.map_congr_left fun x _ => rfl
theorem blV_de (l : List Bool) : (blV l).map deB = l := by
 unfold blV; rw [List.map_map]; conv => rhs; rw [← List.map_id l]
 exact List.map_congr_left fun x _ => rfl
theorem roV_de (l : List (List Int)) : (roV l).map deR = l := by
 unfold roV; rw [List.map_map]; conv => rhs; rw [← List.map_id l]
 exact List.map_congr_left fun x _ => inV_de x
theorem HF_in (l : List Int) : ∀ x ∈ inV l, HF x := fun x hx => by
 obtain ⟨n, _, rfl⟩ := List.mem_map.1 hx; exact HFi _ _
theorem HF_bl (l : List Bool) : ∀ x ∈ blV l, HF x := fun x hx => by
 obtain ⟨n, _, rfl⟩ := List.mem_map.1 hx; exact HFb _
theorem HF_ro (l : List (List Int)) : ∀ x ∈ roV l, HF x := fun x hx => by
 obtain ⟨n, _, rfl⟩ := List.mem_map.1 hx; exact .dat (HF_in n)
theorem HF_au (a : AU) : HF (auV a) := .agg (HF.cons (HFi _ _) (HF.cons (.dat (HF_bl _)) (HF.cons (.dat (HF_ro _)) HF.nil)))
theorem nth_in {l : List Int} {i : Nat} (h : i < l.length) : nth (inV l) i = some (.int .i64 l[i]) := by
 rw [nth_eq]; simp [inV, h]
theorem intAt_in {l : List Int} {i : Nat} (h : i < l.length) : intAt (inV l) (i : Int) = l[i] := by
 unfold intAt; rw [Int.toNat_natCast, nth_in h]
theorem nth_bl {l : List Bool} {i : Nat} (h : i < l.length) : nth (blV l) i = some (.bool l[i]) := by
 rw [nth_eq]; simp [blV, h]
theorem boolAt_bl {l : List Bool} {i : Nat} (h : i < l.length) : boolAt (blV l) (i : Int) = l[i] := by
 unfold boolAt; rw [Int.toNat_natCast, nth_bl h]
def rowAt (els : List Value) (i : Int) : List Value := match nth els i.toNat with | some (.func _ ⟨l⟩ _) => l | _ => []
theorem nth_ro {l : List (List Int)} {i : Nat} (h : i < l.length) : nth (roV l) i = some (dat 1 (inV l[i])) := by
 rw [nth_eq]; simp [roV, h]
theorem rowAt_ro {l : List (List Int)} {i : Nat} (h : i < l.length) : rowAt (roV l) (i : Int) = inV l[i] := by
 unfold rowAt; rw [Int.toNat_natCast, nth_ro h]; rfl
theorem inV_len (l : List Int) : (inV l).length = l.length := List.length_map _
theorem blV_len (l : List Bool) : (blV l).length = l.length := List.length_map _
theorem roV_len (l : List (List Int)) : (roV l).length = l.length := List.length_map _
def elI : El := .of fun _ _ els i => some (.int .i64 (intAt els i))
def elRw : El := .of fun _ _ els i => some (.func (.yield 1) ⟨rowAt els i⟩ ⟨[]⟩)
def outI (n x : Int) : Bool := decide (x < 0) || decide (n ≤ x)
def ixF {α : Type} (p : α → Bool) : List α → Nat → Int
 | [], _ => -1
 | x :: l, i => bif p x then (i : Int) else ixF p l (i + 1)
def XIx : SX := ⟨env, [], elI, fun _ => .autoN [] [] [] [0, 1, 7, 8]⟩
theorem XIx_ok : XIx.Ok := ⟨env_ok, env_sym, env_gl, .nil⟩
def hIx (n : Int) : AH := ⟨.node .leaf (some (.cells [.int .i64 n] 3)) .leaf, 1⟩
def cOut (B : Nat) : Value := .func (.func 59) ⟨[]⟩ ⟨[.pointer (some ⟨B, 0, none⟩)]⟩
def frIx (l : List Int) (i : Nat) : T Value := (.node (.node (.node (.node .leaf (some (.int .i64 (inV l).length)) .leaf) none .leaf) (some (cOut 0)) .leaf) (some (dat 1 (inV l))) (.node (.node (.node .leaf (some (.int .i64 i)) .leaf) none .leaf) none .leaf))
def kFinIx (K : KV) : KX := finK XIx.E (Proofs.Tryd.f89.results).toList K
def jIx (K : KV) (n : Int) (l : List Int) : Prop := sxFnF XIx 2 Proofs.Tryd.f89 [dat 1 (inV l), cOut 0] (hIx n) K
def jIxL (K : KV) (again : KF) (n : Int) (l : List Int) (i : Nat) : Prop := sxStepF XIx 2 (Func.ntmps Proofs.Tryd.f89) (hIx n) (bodyOf Proofs.Tryd.f89) [1, 0, 1, 0] (kFinIx K) [] [] [] [0, 1, 7, 8] again (frIx l i) (hIx n)
theorem jIx_nf (K : KV) (n : Int) (l : List Int) : jIx K n l = (HF (Vd 1 (inV l)) ∧ LAtZ XIx 2 (Func.ntmps Proofs.Tryd.f89) (hIx n) (bodyOf Proofs.Tryd.f89) [1, 0, 1, 0] (finK (SX.E XIx) (Array.toList (Func.results Proofs.Tryd.f89)) K) (Nd (Nd (Nd (Nd Lf (some (Vi (↑(List.length (inV l)) : Int))) Lf) none Lf) (some (Value.func (Go.Fn.func 59) ⟨[]⟩ (Array.mk [Value.pointer (some ⟨0, 0, none⟩)]))) Lf) (some (Vd 1 (inV l))) (Nd (Nd (Nd Lf (some (Vi 0)) Lf) none Lf) none Lf)) (AH.mk (Nd Lf (some (AObj.cells [Vi n] 3)) Lf) 1)) := by kernel_rfl
theorem jIxL_nf (K : KV) (again : KF) (n : Int) (l : List Int) (i : Nat) : jIxL K again n l i = (Sp (decide ((i : Int) < (↑(List.length (inV l)) : Int))) ((0 ≤ (i : Int) ∧ (i : Int) < (↑(List.length (inV l)) : Int)) ∧ nth (inV l) (i) = some (Vi (intAt (inV l) (i : Int))) ∧ Sp (decide (intAt (inV l) (i : Int) < 0)) (K (Vi (i : Int)) (AH.mk (Nd Lf (some (AObj.cells [Vi n] 3)) Lf) 1)) (Sp (decide (n ≤ intAt (inV l) (i : Int))) (K (Vi (i : Int)) (AH.mk (Nd Lf (some (AObj.cells [Vi n] 3)) Lf) 1)) (HF (Vd 1 (inV l)) ∧ again (Nd (Nd (Nd (Nd Lf (some (Vi (↑(List.length (inV l)) : Int))) Lf) none Lf) (some (Value.func (Go.Fn.func 59) ⟨[]⟩ (Array.mk [Value.pointer (some ⟨0, 0, none⟩)]))) Lf) (some (Vd 1 (inV l))) (Nd (Nd (Nd Lf (some (Vi (IntKind.wrap .i64 ((i : Int) + 1)))) Lf) none Lf) none Lf)) (AH.mk (Nd Lf (some (AObj.cells [Vi n] 3)) Lf) 1)))) (K (Vi (-1 : Int)) (AH.mk (Nd Lf (some (AObj.cells [Vi n] 3)) Lf) 1))) := by kernel_rfl
theorem ixF_step {α : Type} {p : α → Bool} {l : List α} {i : Nat} (h : i < l.length) : ixF p (l.drop i) i = bif p l[i] then (i : Int) else ixF p (l.drop (i + 1)) (i + 1) := by
 rw [List.drop_eq_getElem_cons h]; rfl
theorem ixF_end {α : Type} {p : α → Bool} {l : List α} {i : Nat} (h : l.length ≤ i) : ixF p (l.drop i) i = -1 := by
 rw [List.drop_eq_nil_of_le h]; rfl
theorem ixF_neg {α : Type} {p : α → Bool} : ∀ {l : List α} {i : Nat}, (0 ≤ ixF p l i) ↔ l.any p = true
 | [], i => by simp [ixF]
 | x :: l, i => by
   simp only [ixF, List.any_cons]
   cases hp : p x with
   | true => simp
   | false => simpa using ixF_neg (l := l)
theorem end_ix (Q : Value → AH → Prop) (n x : Int) : endF env (hIx n) [] [] [] Q (.int .i64 x) (hIx n) = Q (.int .i64 x) (hIx n) := by kernel_rfl
theorem ix_walk (n : Int) (l : List Int) (hl : l.length < 9223372036854775808) : WalkF env Proofs.Tryd.f89 [dat 1 (inV l), cOut 0] (hIx n) (.int .i64 (ixF (outI n) l 0)) (hIx n) := by
 refine sxFnF_walk XIx_ok (d := 2) (ns := []) (zs := []) (ws := []) ((jIx_nf _ n l).mpr ⟨.dat (HF_in l), ?_⟩)
 refine LAtZ.stepF XIx_ok [] [] [] [0, 1, 7, 8] (by kernel_rfl) (fun k F A => ∃ i : Nat, F = frIx l i ∧ A = hIx n ∧ i + k = l.length ∧ ixF (outI n) l 0 = ixF (outI n) (l.drop i) i) ?_ (k := l.length) ⟨0, rfl, rfl, by omega, by simp⟩
 rintro k F A ⟨i, rfl, rfl, hik, hv⟩
 refine (jIxL_nf _ _ n l i).mpr (Sp.intro (fun h => ?_) (fun h => ?_))
 · have h := of_decide_eq_true h
   rw [inV_len] at h
   have hi : i < l.length := by omega
   rw [ixF_step hi] at hv
   refine ⟨⟨by omega, by rw [inV_len]; exact h⟩, by rw [nth_in hi, intAt_in hi], ?_⟩
   rw [intAt_in hi]
   refine Sp.intro (fun c => ?_) (fun c => ?_)
   · refine (end_ix _ n i).mpr ⟨?_, rfl⟩
     rw [hv]; unfold outI; rw [c]; rfl
   · refine Sp.intro (fun c2 => ?_) (fun c2 => ?_)
     · refine (end_ix _ n i).mpr ⟨?_, rfl⟩
       rw [hv]; unfold outI; rw [c, c2]; rfl
     · refine ⟨.dat (HF_in l), k - 1, by omega, i + 1, ?_, rfl, by omega, ?_⟩
       · rw [i64_in (x := (i : Int) + 1) (by omega) (by omega)]; rfl
       · rw [hv]; unfold outI; rw [c, c2]; rfl
 · have h := of_decide_eq_false h
   rw [inV_len] at h
   refine (end_ix _ n (-1)).mpr ⟨?_, rfl⟩
   rw [hv, ixF_end (by omega)]
def IsI (l : List Value) : Prop := l = inV (l.map deI) ∧ l.length < 9223372036854775808
theorem isI_in {l : List Int} (h : l.length < 9223372036854775808) : IsI (inV l) := ⟨by rw [inV_de], by rw [inV_len]; exact h⟩
def noAr : TypeId → Option Nat := fun _ => none
def spIx : List Value → List AObj → Option (Option Prop × Value × List AObj)
 | [.func (.yield sz) ⟨l⟩ ⟨[]⟩, .func (.func g) ⟨[]⟩ ⟨[.pointer (some ⟨B, o, none⟩)]⟩], [.cells [.int .i64 n] e] =>
   bif (Nat.beq sz 1 && Nat.beq g 59) && ((Nat.beq B 0 && Nat.beq o 0) && Nat.beq e 3) then some (some (IsI l), .int .i64 (ixF (outI n) (l.map deI) 0), [.cells [.int .i64 n] e]) else none
 | _, _ => none
theorem heap_ix (n : Int) : heapN [.cells [.int .i64 n] 3] = hIx n := by kernel_rfl
theorem ix_tab : ∀ args A p v A', frmR noAr spIx args A = some (p, v, A') → PH p → CallAt env 89 args A v A' := frmR_ok env_ok (fn := Proofs.Tryd.f89) rfl fun args objs p v objs' h hp => by
 unfold spIx at h
 split at h
 · rename_i sz l g B o n e
   cases hb : (Nat.beq sz 1 && Nat.beq g 59) && ((Nat.beq B 0 && Nat.beq o 0) && Nat.beq e 3) with
   | false => rw [hb] at h; cases h
   | true =>
     rw [hb] at h
     simp only [cond_true, Option.some.injEq, Prod.mk.injEq] at h
     obtain ⟨rfl, rfl, rfl⟩ := h
     simp only [Bool.and_eq_true, Nat.beq_eq] at hb
     obtain ⟨⟨rfl, rfl⟩, ⟨rfl, rfl⟩, rfl⟩ := hb
     obtain ⟨h1, h2⟩ : IsI l := hp
     have := ix_walk n (l.map deI) (by simpa using h2)
     rw [← h1] at this
     rw [heap_ix]
     exact this
 · cases h
def XRx : SX := ⟨env, [(89, frmR noAr spIx)], elRw, fun _ => .autoN [] [] [] [0, 1, 7, 8]⟩
theorem XRx_ok : XRx.Ok := ⟨env_ok, env_sym, env_gl, .cons ix_tab .nil⟩
def hRx (n : Int) : AH := ⟨.node (.node .leaf (some (.cells [.int .i64 n] 3)) .leaf) (some (.cells [cOut 1] 120)) .leaf, 2⟩
def cRow (B : Nat) : Value := .func (.func 61) ⟨[]⟩ ⟨[.pointer (some ⟨B, 0, none⟩)]⟩
def frRx (l : List (List Int)) (i : Nat) : T Value := (.node (.node (.node (.node .leaf (some (.int .i64 (roV l).length)) .leaf) none .leaf) (some (cRow 0)) .leaf) (some (dat 1 (roV l))) (.node (.node (.node .leaf (some (.int .i64 i)) .leaf) none .leaf) none .leaf))
def kFinRx (K : KV) : KX := finK XRx.E (Proofs.Tryd.f88.results).toList K
def jRx (K : KV) (n : Int) (l : List (List Int)) : Prop := sxFnF XRx 4 Proofs.Tryd.f88 [dat 1 (roV l), cRow 0] (hRx n) K
def jRxL (K : KV) (again : KF) (n : Int) (l : List (List Int)) (i : Nat) : Prop := sxStepF XRx 4 (Func.ntmps Proofs.Tryd.f88) (hRx n) (bodyOf Proofs.Tryd.f88) [1, 0, 1, 0] (kFinRx K) [] [] [] [0, 1, 7, 8] again (frRx l i) (hRx n)
theorem jRx_nf (K : KV) (n : Int) (l : List (List Int)) : jRx K n l = (HF (Vd 1 (roV l)) ∧ LAtZ XRx 4 (Func.ntmps Proofs.Tryd.f88) (hRx n) (bodyOf Proofs.Tryd.f88) [1, 0, 1, 0] (finK (SX.E XRx) (Array.toList (Func.results Proofs.Tryd.f88)) K) (Nd (Nd (Nd (Nd Lf (some (Vi (↑(List.length (roV l)) : Int))) Lf) none Lf) (some (Value.func (Go.Fn.func 61) ⟨[]⟩ (Array.mk [Value.pointer (some ⟨0, 0, none⟩)]))) Lf) (some (Vd 1 (roV l))) (Nd (Nd (Nd Lf (some (Vi 0)) Lf) none Lf) none Lf)) (AH.mk (Nd (Nd Lf (some (AObj.cells [Vi n] 3)) Lf) (some (AObj.cells [Value.func (Go.Fn.func 59) ⟨[]⟩ (Array.mk [Value.pointer (some ⟨1, 0, none⟩)])] 120)) Lf) 2)) := by kernel_rfl
theorem jRxL_nf (K : KV) (again : KF) (n : Int) (l : List (List Int)) (i : Nat) : jRxL K again n l i = (Sp (decide ((i : Int) < (↑(List.length (roV l)) : Int))) ((0 ≤ (i : Int) ∧ (i : Int) < (↑(List.length (roV l)) : Int)) ∧ nth (roV l) (i) = some (Vd 1 (rowAt (roV l) (i : Int))) ∧ HFs [Vd 1 (rowAt (roV l) (i : Int))] (PH (some (IsI (rowAt (roV l) (i : Int))))) ∧ Sp (decide (0 ≤ ixF (outI n) (List.map deI (rowAt (roV l) (i : Int))) 0)) (K (Vi (i : Int)) (AH.mk (Nd (Nd Lf (some (AObj.cells [Vi n] 3)) Lf) (some (AObj.cells [Value.func (Go.Fn.func 59) ⟨[]⟩ (Array.mk [Value.pointer (some ⟨1, 0, none⟩)])] 120)) Lf) 2)) (HF (Vd 1 (roV l)) ∧ again (Nd (Nd (Nd (Nd Lf (some (Vi (↑(List.length (roV l)) : Int))) Lf) none Lf) (some (Value.func (Go.Fn.func 61) ⟨[]⟩ (Array.mk [Value.pointer (some ⟨0, 0, none⟩)]))) Lf) (some (Vd 1 (roV l))) (Nd (Nd (Nd Lf (some (Vi (IntKind.wrap .i64 ((i : Int) + 1)))) Lf) none Lf) none Lf)) (AH.mk (Nd (Nd Lf (some (AObj.cells [Vi n] 3)) Lf) (some (AObj.cells [Value.func (Go.Fn.func 59) ⟨[]⟩ (Array.mk [Value.pointer (some ⟨1, 0, none⟩)])] 120)) Lf) 2))) (K (Vi (-1 : Int)) (AH.mk (Nd (Nd Lf (some (AObj.cells [Vi n] 3)) Lf) (some (AObj.cells [Value.func (Go.Fn.func 59) ⟨[]⟩ (Array.mk [Value.pointer (some ⟨1, 0, none⟩)])] 120)) Lf) 2))) := by kernel_rfl
theorem end_rx (Q : Value → AH → Prop) (n x : Int) : endF env (hRx n) [] [] [] Q (.int .i64 x) (hRx n) = Q (.int .i64 x) (hRx n) := by kernel_rfl
def outR (n : Int) (r : List Int) : Bool := r.any (outI n)
theorem rx_walk (n : Int) (l : List (List Int)) (hl : l.length < 9223372036854775808) (hr : ∀ r ∈ l, r.length < 9223372036854775808) : WalkF env Proofs.Tryd.f88 [dat 1 (roV l), cRow 0] (hRx n) (.int .i64 (ixF (outR n) l 0)) (hRx n) := by
 refine sxFnF_walk XRx_ok (d := 4) (ns := []) (zs := []) (ws := []) ((jRx_nf _ n l).mpr ⟨.dat (HF_ro l), ?_⟩)
 refine LAtZ.stepF XRx_ok [] [] [] [0, 1, 7, 8] (by kernel_rfl) (fun k F A => ∃ i : Nat, F = frRx l i ∧ A = hRx n ∧ i + k = l.length ∧ ixF (outR n) l 0 = ixF (outR n) (l.drop i) i) ?_ (k := l.length) ⟨0, rfl, rfl, by omega, by simp⟩
 rintro k F A ⟨i, rfl, rfl, hik, hv⟩
 refine (jRxL_nf _ _ n l i).mpr (Sp.intro (fun h => ?_) (fun h => ?_))
 · have h := of_decide_eq_true h
   rw [roV_len] at h
   have hi : i < l.length := by omega
   have hri := hr l[i] (List.getElem_mem hi)
   rw [ixF_step hi] at hv
   rw [rowAt_ro hi, inV_de]
   refine ⟨⟨by omega, by rw [roV_len]; exact h⟩, nth_ro hi, ⟨.dat (HF_in _), isI_in hri⟩, Sp.intro (fun c => ?_) (fun c => ?_)⟩
   · have c : outR n l[i] = true := ixF_neg.1 (of_decide_eq_true c)
     refine (end_rx _ n i).mpr ⟨?_, rfl⟩
     rw [hv, c]; rfl
   · have c : outR n l[i] = false := by
      have := fun h => of_decide_eq_false c (ixF_neg.2 h)
      unfold outR
      cases hx : l[i].any (outI n) with
      | true => exact absurd hx this
      | false => rfl
     refine ⟨.dat (HF_ro l), k - 1, by omega, i + 1, ?_, rfl, by omega, ?_⟩
     · rw [i64_in (x := (i : Int) + 1) (by omega) (by omega)]; rfl
     · rw [hv, c]; rfl
 · have h := of_decide_eq_false h
   rw [roV_len] at h
   refine (end_rx _ n (-1)).mpr ⟨?_, rfl⟩
   rw [hv, ixF_end (by omega)]
def IsR (l : List Value) : Prop := l = roV (l.map deR) ∧ l.length < 9223372036854775808 ∧ ∀ r ∈ l.map deR, r.length < 9223372036854775808
theorem isR_ro {l : List (List Int)} (h : l.length < 9223372036854775808) (hr : ∀ r ∈ l, r.length < 9223372036854775808) : IsR (roV l) := ⟨by rw [roV_de], by rw [roV_len]; exact h, by rw [roV_de]; exact hr⟩
def spRx : List Value → List AObj → Option (Option Prop × Value × List AObj)
 | [.func (.yield sz) ⟨l⟩ ⟨[]⟩, .func (.func g) ⟨[]⟩ ⟨[.pointer (some ⟨B, o, none⟩)]⟩], [.cells [.func (.func g2) ⟨[]⟩ ⟨[.pointer (some ⟨B2, o2, none⟩)]⟩] e, .cells [.int .i64 n] e2] =>
   bif ((Nat.beq sz 1 && Nat.beq g 61) && (Nat.beq B 0 && Nat.beq o 0)) && (((Nat.beq g2 59) && (Nat.beq B2 1 && Nat.beq o2 0)) && (Nat.beq e 120 && Nat.beq e2 3)) then some (some (IsR l), .int .i64 (ixF (outR n) (l.map deR) 0), [.cells [cOut 1] e, .cells [.int .i64 n] e2]) else none
 | _, _ => none
theorem heap_rx (n : Int) : heapN [.cells [cOut 1] 120, .cells [.int .i64 n] 3] = hRx n := by kernel_rfl
theorem rx_tab : ∀ args A p v A', frmR noAr spRx args A = some (p, v, A') → PH p → CallAt env 88 args A v A' := frmR_ok env_ok (fn := Proofs.Tryd.f88) rfl fun args objs p v objs' h hp => by
 unfold spRx at h
 split at h
 · rename_i sz l g B o g2 B2 o2 e n e2
   cases hb : ((Nat.beq sz 1 && Nat.beq g 61) && (Nat.beq B 0 && Nat.beq o 0)) && (((Nat.beq g2 59) && (Nat.beq B2 1 && Nat.beq o2 0)) && (Nat.beq e 120 && Nat.beq e2 3)) with
   | false => rw [hb] at h; cases h
   | true =>
     rw [hb] at h
     simp only [cond_true, Option.some.injEq, Prod.mk.injEq] at h
     obtain ⟨rfl, rfl, rfl⟩ := h
     simp only [Bool.and_eq_true, Nat.beq_eq] at hb
     obtain ⟨⟨⟨rfl, rfl⟩, rfl, rfl⟩, ⟨rfl, rfl, rfl⟩, rfl, rfl⟩ := hb
     obtain ⟨h1, h2, h3⟩ : IsR l := hp
     have := rx_walk n (l.map deR) (by simpa using h2) h3
     rw [← h1] at this
     have e1 := heap_rx n
     unfold cOut at e1
     unfold cOut
     rw [e1]
     exact this
 · cases h
def chkA (a : AU) : Int := bif decide (300 < (a.2.2.length : Int)) then 3 else bif decide ((a.2.2.length : Int) = 0) || !decide ((a.2.1.length : Int) = a.2.2.length) then 2 else bif a.2.2.any (fun r => !decide ((r.length : Int) = 256)) then 2 else bif outI a.2.2.length a.1 || a.2.2.any (outR a.2.2.length) then 9 else 0
def WfA (a : AU) : Prop := a.2.1.length < 9223372036854775808 ∧ a.2.2.length < 9223372036854775808 ∧ ∀ r ∈ a.2.2, r.length < 9223372036854775808
def XCa : SX := ⟨env, [(88, frmR noAr spRx)], elRw, fun _ => .autoN [] [] [] [1, 3, 24, 25, 26]⟩
theorem XCa_ok : XCa.Ok := ⟨env_ok, env_sym, env_gl, .cons rx_tab .nil⟩
def hCa (s n : Int) (acc nx : List Value) : AH := ⟨.node (.node .leaf (some (.cells [.int .i64 n] 3)) .leaf) (some (.cells [.int .i64 s, dat 1 acc, dat 1 nx] 29)) .leaf, 2⟩
def frCa (l : List (List Int)) (i : Nat) : T Value := (.node (.node (.node .leaf (some (.pointer (some ⟨1, 0, none⟩))) .leaf) (some (.pointer (some ⟨0, 0, none⟩))) (.node (.node .leaf none (.node .leaf (some (.int .i64 (roV l).length)) .leaf)) none .leaf)) none (.node (.node (.node .leaf none (.node .leaf (some (dat 1 (roV l))) .leaf)) none .leaf) none (.node (.node .leaf none (.node .leaf (some (.int .i64 i)) .leaf)) none .leaf)))
def kFinCa (K : KV) : KX := finK XCa.E (Proofs.Tryd.f29.results).toList K
def jCa (K : KV) (s : Int) (acc : List Bool) (nx : List (List Int)) : Prop := sxFnF XCa 5 Proofs.Tryd.f29 [.agg ⟨[.int .i64 s, dat 1 (blV acc), dat 1 (roV nx)]⟩] ⟨.leaf, 0⟩ K
def jCaL (K : KV) (again : KF) (s : Int) (acc : List Bool) (nx : List (List Int)) (i : Nat) : Prop := sxStepF XCa 5 (Func.ntmps Proofs.Tryd.f29) ⟨.leaf, 0⟩ (bodyOf Proofs.Tryd.f29) [1, 1, 1, 0, 1, 0] (kFinCa K) [] [] [] [1, 3, 24, 25, 26] again (frCa nx i) (hCa s (roV nx).length (blV acc) (roV nx))
theorem jCa_nf (K : KV) (s : Int) (acc : List Bool) (nx : List (List Int)) : jCa K s acc nx = (Sp (decide (300 < (↑(List.length (roV nx)) : Int))) (K (Vi 3) (AH.mk (Nd (Nd Lf (some (AObj.cells [Vi (↑(List.length (roV nx)) : Int)] 3)) Lf) (some (AObj.cells [Vi s, Vd 1 (blV acc), Vd 1 (roV nx)] 29)) Lf) 2)) (Sp (decide ((↑(List.length (roV nx)) : Int) = 0)) (K (Vi 2) (AH.mk (Nd (Nd Lf (some (AObj.cells [Vi (↑(List.length (roV nx)) : Int)] 3)) Lf) (some (AObj.cells [Vi s, Vd 1 (blV acc), Vd 1 (roV nx)] 29)) Lf) 2)) (Sp (!decide ((↑(List.length (blV acc)) : Int) = (↑(List.length (roV nx)) : Int))) (K (Vi 2) (AH.mk (Nd (Nd Lf (some (AObj.cells [Vi (↑(List.length (roV nx)) : Int)] 3)) Lf) (some (AObj.cells [Vi s, Vd 1 (blV acc), Vd 1 (roV nx)] 29)) Lf) 2)) (HF (Vd 1 (roV nx)) ∧ HF (Vd 1 (blV acc)) ∧ HF (Vd 1 (roV nx)) ∧ LAtZ XCa 5 (Func.ntmps Proofs.Tryd.f29) (AH.mk Lf 0) (bodyOf Proofs.Tryd.f29) [1, 1, 1, 0, 1, 0] (finK (SX.E XCa) (Array.toList (Func.results Proofs.Tryd.f29)) K) (Nd (Nd (Nd Lf (some (Value.pointer (some ⟨1, 0, none⟩))) Lf) (some (Value.pointer (some ⟨0, 0, none⟩))) (Nd (Nd Lf none (Nd Lf (some (Vi (↑(List.length (roV nx)) : Int))) Lf)) none Lf)) none (Nd (Nd (Nd Lf none (Nd Lf (some (Vd 1 (roV nx))) Lf)) none Lf) none (Nd (Nd Lf none (Nd Lf (some (Vi 0)) Lf)) none Lf))) (AH.mk (Nd (Nd Lf (some (AObj.cells [Vi (↑(List.length (roV nx)) : Int)] 3)) Lf) (some (AObj.cells [Vi s, Vd 1 (blV acc), Vd 1 (roV nx)] 29)) Lf) 2))))) := by kernel_rfl
theorem jCaL_nf (K : KV) (again : KF) (s : Int) (acc : List Bool) (nx : List (List Int)) (i : Nat) : jCaL K again s acc nx i = (Sp (decide ((i : Int) < (↑(List.length (roV nx)) : Int))) ((0 ≤ (i : Int) ∧ (i : Int) < (↑(List.length (roV nx)) : Int)) ∧ nth (roV nx) (i) = some (Vd 1 (rowAt (roV nx) (i : Int))) ∧ Sp (!decide ((↑(List.length (rowAt (roV nx) (i : Int))) : Int) = 256)) (K (Vi 2) (AH.mk (Nd (Nd Lf (some (AObj.cells [Vi (↑(List.length (roV nx)) : Int)] 3)) Lf) (some (AObj.cells [Vi s, Vd 1 (blV acc), Vd 1 (roV nx)] 29)) Lf) 2)) (HF (Vd 1 (roV nx)) ∧ HF (Vd 1 (blV acc)) ∧ HF (Vd 1 (roV nx)) ∧ again (Nd (Nd (Nd Lf (some (Value.pointer (some ⟨1, 0, none⟩))) Lf) (some (Value.pointer (some ⟨0, 0, none⟩))) (Nd (Nd Lf none (Nd Lf (some (Vi (↑(List.length (roV nx)) : Int))) Lf)) none Lf)) none (Nd (Nd (Nd Lf none (Nd Lf (some (Vd 1 (roV nx))) Lf)) none Lf) none (Nd (Nd Lf none (Nd Lf (some (Vi (IntKind.wrap .i64 ((i : Int) + 1)))) Lf)) none Lf))) (AH.mk (Nd (Nd Lf (some (AObj.cells [Vi (↑(List.length (roV nx)) : Int)] 3)) Lf) (some (AObj.cells [Vi s, Vd 1 (blV acc), Vd 1 (roV nx)] 29)) Lf) 2))) (Sp (decide (s < 0)) (K (Vi 9) (AH.mk (Nd (Nd Lf (some (AObj.cells [Vi (↑(List.length (roV nx)) : Int)] 3)) Lf) (some (AObj.cells [Vi s, Vd 1 (blV acc), Vd 1 (roV nx)] 29)) (Nd Lf (some (AObj.cells [Value.func (Go.Fn.func 59) ⟨[]⟩ (Array.mk [Value.pointer (some ⟨1, 0, none⟩)])] 120)) Lf)) 3)) (Sp (decide ((↑(List.length (roV nx)) : Int) ≤ s)) (K (Vi 9) (AH.mk (Nd (Nd Lf (some (AObj.cells [Vi (↑(List.length (roV nx)) : Int)] 3)) Lf) (some (AObj.cells [Vi s, Vd 1 (blV acc), Vd 1 (roV nx)] 29)) (Nd Lf (some (AObj.cells [Value.func (Go.Fn.func 59) ⟨[]⟩ (Array.mk [Value.pointer (some ⟨1, 0, none⟩)])] 120)) Lf)) 3)) (HFs [Vd 1 (roV nx)] (PH (some (IsR (roV nx)))) ∧ Sp (decide (0 ≤ ixF (outR (↑(List.length (roV nx)) : Int)) (List.map deR (roV nx)) 0)) (K (Vi 9) (AH.mk (Nd (Nd Lf (some (AObj.cells [Vi (↑(List.length (roV nx)) : Int)] 3)) Lf) (some (AObj.cells [Vi s, Vd 1 (blV acc), Vd 1 (roV nx)] 29)) (Nd Lf (some (AObj.cells [Value.func (Go.Fn.func 59) ⟨[]⟩ (Array.mk [Value.pointer (some ⟨1, 0, none⟩)])] 120)) Lf)) 3)) (K (Vi 0) (AH.mk (Nd (Nd Lf (some (AObj.cells [Vi (↑(List.length (roV nx)) : Int)] 3)) Lf) (some (AObj.cells [Vi s, Vd 1 (blV acc), Vd 1 (roV nx)] 29)) (Nd Lf (some (AObj.cells [Value.func (Go.Fn.func 59) ⟨[]⟩ (Array.mk [Value.pointer (some ⟨1, 0, none⟩)])] 120)) Lf)) 3)))))) := by kernel_rfl
theorem plainF {X : SX} (hX : X.Ok) {d : Nat} {fn : Func} {args : List Value} {v : Value} (hv : HF v) (h : sxFnF X d fn args ⟨.leaf, 0⟩ (leafK (fun v2 => v2 = v) (fun v2 A2 => Frz A2 v2 v))) : Walk X.E fn args v := by
 unfold sxFnF at h
 split at h
 · rename_i c hc
   split at h
   · rename_i F hF
     cases hb : Nat.ble args.length fn.ntmps with
     | false => rw [hb] at h; exact h.elim
     | true =>
       rw [hb] at h
       refine ⟨c, F, hc, hb, hF, (sx_ok hX (d := d) h).mono fun ex F' A' q => ?_⟩
       obtain ⟨q1, v2, q2, q3⟩ := finK_ok q
       refine ⟨q1, v2, q2, ?_⟩
       rcases leafK_ok q3 with q3 | q3
       · rw [q3]; exact .same hv
       · exact q3
   · exact h.elim
 · exact h.elim
theorem any_drop {α : Type} {p : α → Bool} {l : List α} {i : Nat} (h : i < l.length) : (l.drop i).any p = (p l[i] || (l.drop (i + 1)).any p) := by
 rw [List.drop_eq_getElem_cons h]; rfl
theorem any_end {α : Type} {p : α → Bool} {l : List α} {i : Nat} (h : l.length ≤ i) : (l.drop i).any p = false := by
 rw [List.drop_eq_nil_of_le h]; rfl
theorem ca_walk {a : AU} (hw : WfA a) : Walk env Proofs.Tryd.f29 [auV a] (.int .i64 (chkA a)) := by
 obtain ⟨s, acc, nx⟩ := a
 obtain ⟨w1, w2, w3⟩ := hw
 dsimp only at w1 w2 w3
 refine plainF XCa_ok (d := 5) (HFi _ _) ((jCa_nf _ s acc nx).mpr ?_)
 rw [roV_len, blV_len]
 unfold chkA
 dsimp only
 refine Sp.intro (fun c1 => ?_) (fun c1 => ?_)
 · rw [c1]; rfl
 rw [c1]
 refine Sp.intro (fun c2 => ?_) (fun c2 => ?_)
 · rw [c2]; rfl
 rw [c2]
 refine Sp.intro (fun c3 => ?_) (fun c3 => ?_)
 · rw [c3]; rfl
 rw [c3]
 refine ⟨.dat (HF_ro _), .dat (HF_bl _), .dat (HF_ro _), ?_⟩
 simp only [cond_false, Bool.or_self]
 refine LAtZ.stepF XCa_ok [] [] [] [1, 3, 24, 25, 26] (by kernel_rfl) (fun k F A => ∃ i : Nat, F = frCa nx i ∧ A = hCa s (roV nx).length (blV acc) (roV nx) ∧ i + k = nx.length ∧ nx.any (fun r => !decide ((r.length : Int) = 256)) = (nx.drop i).any (fun r => !decide ((r.length : Int) = 256))) ?_ (k := nx.length) ⟨0, by unfold frCa; rw [roV_len]; rfl, by unfold hCa; rw [roV_len]; rfl, by omega, by simp⟩
 rintro k F A ⟨i, rfl, rfl, hik, hv⟩
 refine (jCaL_nf _ _ s acc nx i).mpr ?_
 rw [roV_len]
 refine Sp.intro (fun h => ?_) (fun h => ?_)
 · have h := of_decide_eq_true h
   have hi : i < nx.length := by omega
   rw [any_drop hi] at hv
   rw [rowAt_ro hi, inV_len]
   refine ⟨⟨by omega, h⟩, nth_ro hi, Sp.intro (fun c => ?_) (fun c => ?_)⟩
   · rw [hv, c]; rfl
   · refine ⟨.dat (HF_ro _), .dat (HF_bl _), .dat (HF_ro _), k - 1, by omega, i + 1, ?_, ?_, by omega, ?_⟩
     · rw [i64_in (x := (i : Int) + 1) (by omega) (by omega)]; unfold frCa; rw [roV_len]; rfl
     · rfl
     · rw [hv, c]; rfl
 · have h := of_decide_eq_false h
   rw [any_end (by omega)] at hv
   rw [hv, roV_de]
   unfold outI
   refine Sp.intro (fun c4 => ?_) (fun c4 => ?_)
   · rw [c4]; rfl
   rw [c4]
   refine Sp.intro (fun c5 => ?_) (fun c5 => ?_)
   · rw [c5]; rfl
   rw [c5]
   refine ⟨⟨.dat (HF_ro _), isR_ro w2 w3⟩, Sp.intro (fun c6 => ?_) (fun c6 => ?_)⟩
   · rw [ixF_neg.1 (of_decide_eq_true c6)]; rfl
   · have : nx.any (outR nx.length) = false := by
      cases hx : nx.any (outR nx.length) with
      | false => rfl
      | true => exact absurd (ixF_neg.2 hx) (of_decide_eq_false c6)
     rw [this]; rfl
def auD : Value → AU
 | .agg ⟨[.int _ s, .func _ ⟨bs⟩ _, .func _ ⟨rs⟩ _]⟩ => (s, bs.map deB, rs.map deR)
 | _ => (0, [], [])
theorem auD_au (a : AU) : auD (auV a) = a := by
 obtain ⟨s, acc, nx⟩ := a
 show (s, (blV acc).map deB, (roV nx).map deR) = _
 rw [blV_de, roV_de]
def WfV (v : Value) : Prop := v = auV (auD v) ∧ WfA (auD v)
theorem wfV_au {a : AU} (h : WfA a) : WfV (auV a) := ⟨by rw [auD_au], by rw [auD_au]; exact h⟩
def auQ : Value → Option AU
 | .agg ⟨[.int .i64 s, .func (.yield 1) ⟨bs⟩ ⟨[]⟩, .func (.yield 1) ⟨rs⟩ ⟨[]⟩]⟩ => some (s, bs.map deB, rs.map deR)
 | _ => none
theorem auQ_of {v : Value} {a : AU} (h : v = auV (auD v)) (hq : auQ v = some a) : a = auD v := by
 rw [h] at hq
 have : auQ (auV (auD v)) = some (auD v) := by
  obtain ⟨s, acc, nx⟩ := auD v
  show some (s, (blV acc).map deB, (roV nx).map deR) = _
  rw [blV_de, roV_de]
 rw [this] at hq
 exact (Option.some.inj hq).symm
def caX : List Value → Option Value
 | [v] => (match auQ v with | some a => some (.int .i64 (chkA a)) | none => none)
 | _ => none
def caP : List Value → Option Prop
 | [v] => some (WfV v)
 | _ => none
theorem ca_tab : ∀ args A p v A', pureR caP caX args A = some (p, v, A') → PH p → CallAt env 29 args A v A' := walk_tab env_ok env_gl (fn := Proofs.Tryd.f29) rfl fun args v h hp => by
 unfold caX at h
 split at h
 · rename_i u
   obtain ⟨h1, h2⟩ : WfV u := hp
   split at h
   rotate_left
   · cases h
   rename_i a ha
   simp only [Option.some.injEq] at h
   subst h
   rw [auQ_of h1 ha]
   have := ca_walk h2
   rw [← h1] at this
   exact ⟨HF.cons (by rw [h1]; exact HF_au _) HF.nil, this⟩
 · cases h
def elT (rs bs : List Nat) : El := .of fun _ t els i => bif inL t rs then some (.func (.yield 1) ⟨rowAt els i⟩ ⟨[]⟩) else bif inL t bs then some (.bool (boolAt els i)) else some (.int .i64 (intAt els i))
def hAu (s : Int) (acc nx : List Value) : AH := ⟨.node .leaf (some (.cells [.int .i64 s, dat 1 acc, dat 1 nx] 29)) .leaf, 1⟩
def XCr : SX := ⟨env, [], elT [33, 62, 72] [], fun k => .autoN [] [] [] (bif Nat.beq k 6 then [1, 3] else bif Nat.beq k 13 then [1, 4] else [1, 4, 5])⟩
theorem XCr_ok : XCr.Ok := ⟨env_ok, env_sym, env_gl, .nil⟩
def frCr1 (i : Nat) : T Value := (.node (.node (.node .leaf (some (.int .i64 i)) .leaf) (some (.pointer (some ⟨0, 0, none⟩))) .leaf) none .leaf)
def frCr2 (i : Nat) : T Value := (.node (.node .leaf (some (.pointer (some ⟨0, 0, none⟩))) .leaf) none (.node (.node .leaf (some (.int .i64 i)) .leaf) none .leaf))
def frCr3 (i j : Nat) : T Value := (.node (.node .leaf (some (.pointer (some ⟨0, 0, none⟩))) (.node .leaf (some (.int .i64 j)) .leaf)) none (.node (.node .leaf (some (.int .i64 i)) .leaf) none .leaf))
abbrev fCr : Func := Proofs.Tryd.f39
def kFinCr (K : KV) : KX := finK XCr.E (fCr.results).toList K
def jCr (K : KV) (s : Int) (acc : List Bool) (nx : List (List Int)) : Prop := sxFnF XCr 1 Proofs.Tryd.f39 [.agg ⟨[.int .i64 s, dat 1 (blV acc), dat 1 (roV nx)]⟩] ⟨.leaf, 0⟩ K
def jCr1 (K : KV) (again : KF) (s : Int) (acc : List Bool) (nx : List (List Int)) (i : Nat) : Prop := sxStepF XCr 1 (Func.ntmps Proofs.Tryd.f39) ⟨.leaf, 0⟩ (bodyOf Proofs.Tryd.f39) [1, 1, 1, 0, 1, 0] (kFinCr K) [] [] [] [1, 3] again (frCr1 i) (hAu s (blV acc) (roV nx))
def jCr2 (K : KV) (again : KF) (s : Int) (acc : List Bool) (nx : List (List Int)) (i : Nat) : Prop := sxStepF XCr 1 (Func.ntmps Proofs.Tryd.f39) ⟨.leaf, 0⟩ (bodyOf Proofs.Tryd.f39) [1, 1, 1, 1, 1, 0, 1, 0] (kFinCr K) [] [] [] [1, 4] again (frCr2 i) (hAu s (blV acc) (roV nx))
def kCr2 (K : KV) (again2 : KF) : KX := stepF XCr 1 (Func.ntmps Proofs.Tryd.f39) ⟨.leaf, 0⟩ (bodyOf Proofs.Tryd.f39) [1, 1, 1, 1, 1, 0, 1, 0] (kFinCr K) [] [] [] [1, 4] again2
def jCr3 (K : KV) (again2 again : KF) (s : Int) (acc : List Bool) (nx : List (List Int)) (i j : Nat) : Prop := sxStepF XCr 1 (Func.ntmps Proofs.Tryd.f39) ⟨.leaf, 0⟩ (loopBody (subC [1, 1, 1, 1, 1, 0, 1, 0] (bodyOf Proofs.Tryd.f39))) [1, 0, 0, 1, 0] (kCr2 K again2) [] [] [] [1, 4, 5] again (frCr3 i j) (hAu s (blV acc) (roV nx))
def XAf : SX := ⟨env, [], elT [17] [], fun _ => .autoN [] [] [] [1, 2, 5, 10, 11]⟩
theorem XAf_ok : XAf.Ok := ⟨env_ok, env_sym, env_gl, .nil⟩
def frAf (s : ByteArray) (q : Int) (i : Nat) : T Value := (.node (.node (.node .leaf none (.node .leaf (some (.int .i64 i)) .leaf)) (some (.string s)) (.node .leaf (some (.int .i64 q)) .leaf)) none (.node .leaf (some (.pointer (some ⟨0, 0, none⟩))) (.node (.node .leaf (some (.int .i64 s.size)) .leaf) none .leaf)))
def kFinAf (K : KV) : KX := finK XAf.E (Proofs.Tryd.f30.results).toList K
def jAf (K : KV) (s : Int) (acc : List Bool) (nx : List (List Int)) (t : ByteArray) : Prop := sxFnF XAf 1 Proofs.Tryd.f30 [.agg ⟨[.int .i64 s, dat 1 (blV acc), dat 1 (roV nx)]⟩, .string t] ⟨.leaf, 0⟩ K
def jAfL (K : KV) (again : KF) (s : Int) (acc : List Bool) (nx : List (List Int)) (t : ByteArray) (q : Int) (i : Nat) : Prop := sxStepF XAf 1 (Func.ntmps Proofs.Tryd.f30) ⟨.leaf, 0⟩ (bodyOf Proofs.Tryd.f30) [1, 1, 0, 1, 0] (kFinAf K) [] [] [] [1, 2, 5, 10, 11] again (frAf t q i) (hAu s (blV acc) (roV nx))
def XRu : SX := ⟨env, [], elT [17] [], fun _ => .autoN [] [] [] [1, 2, 3, 7]⟩
theorem XRu_ok : XRu.Ok := ⟨env_ok, env_sym, env_gl, .nil⟩
def frRu (s : ByteArray) (q : Int) (i : Nat) : T Value := (.node (.node (.node (.node .leaf (some (.int .i64 i)) .leaf) (some (.pointer (some ⟨0, 0, none⟩))) .leaf) (some (.int .i64 q)) .leaf) none (.node .leaf (some (.string s)) .leaf))
def kFinRu (K : KV) : KX := finK XRu.E (Proofs.Tryd.f40.results).toList K
def jRu (K : KV) (s : Int) (acc : List Bool) (nx : List (List Int)) (q : Int) (t : ByteArray) : Prop := sxFnF XRu 1 Proofs.Tryd.f40 [.agg ⟨[.int .i64 s, dat 1 (blV acc), dat 1 (roV nx)]⟩, .int .i64 q, .string t] ⟨.leaf, 0⟩ K
def jRuL (K : KV) (again : KF) (s : Int) (acc : List Bool) (nx : List (List Int)) (t : ByteArray) (q : Int) (i : Nat) : Prop := sxStepF XRu 1 (Func.ntmps Proofs.Tryd.f40) ⟨.leaf, 0⟩ (bodyOf Proofs.Tryd.f40) [1, 0, 1, 0] (kFinRu K) [] [] [] [1, 2, 3, 7] again (frRu t q i) (hAu s (blV acc) (roV nx))
theorem jCr_nf (K : KV) (s : Int) (acc : List Bool) (nx : List (List Int)) : jCr K s acc nx = (Sp (decide (300 < (↑(List.length (roV nx)) : Int))) (K (Vi 3) (AH.mk (Nd Lf (some (AObj.cells [Vi s, Vd 1 (blV acc), Vd 1 (roV nx)] 29)) Lf) 1)) (Sp (decide ((↑(List.length (roV nx)) : Int) = 0)) (K (Vi 2) (AH.mk (Nd Lf (some (AObj.cells [Vi s, Vd 1 (blV acc), Vd 1 (roV nx)] 29)) Lf) 1)) (Sp (!decide ((↑(List.length (blV acc)) : Int) = (↑(List.length (roV nx)) : Int))) (K (Vi 2) (AH.mk (Nd Lf (some (AObj.cells [Vi s, Vd 1 (blV acc), Vd 1 (roV nx)] 29)) Lf) 1)) (HF (Vd 1 (blV acc)) ∧ HF (Vd 1 (roV nx)) ∧ LAtZ XCr 1 (Func.ntmps Proofs.Tryd.f39) (AH.mk Lf 0) (bodyOf Proofs.Tryd.f39) [1, 1, 1, 0, 1, 0] (finK (SX.E XCr) (Array.toList (Func.results Proofs.Tryd.f39)) K) (Nd (Nd (Nd Lf (some (Vi 0)) Lf) (some (Value.pointer (some ⟨0, 0, none⟩))) Lf) none Lf) (AH.mk (Nd Lf (some (AObj.cells [Vi s, Vd 1 (blV acc), Vd 1 (roV nx)] 29)) Lf) 1))))) := by kernel_rfl
theorem jCr1_nf (K : KV) (again : KF) (s : Int) (acc : List Bool) (nx : List (List Int)) (i : Nat) : jCr1 K again s acc nx i = (Sp (decide ((i : Int) < (↑(List.length (roV nx)) : Int))) ((0 ≤ (i : Int) ∧ (i : Int) < (↑(List.length (roV nx)) : Int)) ∧ nth (roV nx) (i) = some (Vd 1 (rowAt (roV nx) (i : Int))) ∧ Sp (!decide ((↑(List.length (rowAt (roV nx) (i : Int))) : Int) = 256)) (K (Vi 2) (AH.mk (Nd Lf (some (AObj.cells [Vi s, Vd 1 (blV acc), Vd 1 (roV nx)] 29)) Lf) 1)) (HF (Vd 1 (blV acc)) ∧ HF (Vd 1 (roV nx)) ∧ again (Nd (Nd (Nd Lf (some (Vi (IntKind.wrap .i64 ((i : Int) + 1)))) Lf) (some (Value.pointer (some ⟨0, 0, none⟩))) Lf) none Lf) (AH.mk (Nd Lf (some (AObj.cells [Vi s, Vd 1 (blV acc), Vd 1 (roV nx)] 29)) Lf) 1))) (Sp (decide (s < 0)) (K (Vi 9) (AH.mk (Nd Lf (some (AObj.cells [Vi s, Vd 1 (blV acc), Vd 1 (roV nx)] 29)) Lf) 1)) (Sp (decide ((↑(List.length (roV nx)) : Int) ≤ s)) (K (Vi 9) (AH.mk (Nd Lf (some (AObj.cells [Vi s, Vd 1 (blV acc), Vd 1 (roV nx)] 29)) Lf) 1)) (HF (Vd 1 (blV acc)) ∧ HF (Vd 1 (roV nx)) ∧ LAtZ XCr 1 (Func.ntmps Proofs.Tryd.f39) (AH.mk Lf 0) (bodyOf Proofs.Tryd.f39) [1, 1, 1, 1, 1, 0, 1, 0] (kFinCr K) (Nd (Nd Lf (some (Value.pointer (some ⟨0, 0, none⟩))) Lf) none (Nd (Nd Lf (some (Vi 0)) Lf) none Lf)) (AH.mk (Nd Lf (some (AObj.cells [Vi s, Vd 1 (blV acc), Vd 1 (roV nx)] 29)) Lf) 1))))) := by kernel_rfl
theorem jCr2_nf (K : KV) (again : KF) (s : Int) (acc : List Bool) (nx : List (List Int)) (i : Nat) : jCr2 K again s acc nx i = (Sp (decide ((i : Int) < (↑(List.length (roV nx)) : Int))) (HF (Vd 1 (blV acc)) ∧ HF (Vd 1 (roV nx)) ∧ LAtZ XCr 1 (Func.ntmps Proofs.Tryd.f39) (AH.mk Lf 0) (loopBody (subC [1, 1, 1, 1, 1, 0, 1, 0] (bodyOf Proofs.Tryd.f39))) [1, 0, 0, 1, 0] (stepF XCr 1 (Func.ntmps Proofs.Tryd.f39) (AH.mk Lf 0) (bodyOf Proofs.Tryd.f39) [1, 1, 1, 1, 1, 0, 1, 0] (kFinCr K) [] [] [] [1, 4] again) (Nd (Nd Lf (some (Value.pointer (some ⟨0, 0, none⟩))) (Nd Lf (some (Vi 0)) Lf)) none (Nd (Nd Lf (some (Vi (i : Int))) Lf) none Lf)) (AH.mk (Nd Lf (some (AObj.cells [Vi s, Vd 1 (blV acc), Vd 1 (roV nx)] 29)) Lf) 1)) (K (Vi 0) (AH.mk (Nd Lf (some (AObj.cells [Vi s, Vd 1 (blV acc), Vd 1 (roV nx)] 29)) Lf) 1))) := by kernel_rfl
theorem jCr3_nf (K : KV) (again2 : KF) (again : KF) (s : Int) (acc : List Bool) (nx : List (List Int)) (i j : Nat) : jCr3 K again2 again s acc nx i j = (Sp (decide ((j : Int) < 256)) ((0 ≤ (i : Int) ∧ (i : Int) < (↑(List.length (roV nx)) : Int)) ∧ nth (roV nx) (i) = some (Vd 1 (rowAt (roV nx) (i : Int))) ∧ (0 ≤ (j : Int) ∧ (j : Int) < (↑(List.length (rowAt (roV nx) (i : Int))) : Int)) ∧ nth (rowAt (roV nx) (i : Int)) (j) = some (Vi (intAt (rowAt (roV nx) (i : Int)) (j : Int))) ∧ Sp (decide (intAt (rowAt (roV nx) (i : Int)) (j : Int) < 0)) (K (Vi 9) (AH.mk (Nd Lf (some (AObj.cells [Vi s, Vd 1 (blV acc), Vd 1 (roV nx)] 29)) Lf) 24)) ((0 ≤ (i : Int) ∧ (i : Int) < (↑(List.length (roV nx)) : Int)) ∧ nth (roV nx) (i) = some (Vd 1 (rowAt (roV nx) (i : Int))) ∧ (0 ≤ (j : Int) ∧ (j : Int) < (↑(List.length (rowAt (roV nx) (i : Int))) : Int)) ∧ nth (rowAt (roV nx) (i : Int)) (j) = some (Vi (intAt (rowAt (roV nx) (i : Int)) (j : Int))) ∧ Sp (decide ((↑(List.length (roV nx)) : Int) ≤ intAt (rowAt (roV nx) (i : Int)) (j : Int))) (K (Vi 9) (AH.mk (Nd Lf (some (AObj.cells [Vi s, Vd 1 (blV acc), Vd 1 (roV nx)] 29)) Lf) 24)) (HF (Vd 1 (blV acc)) ∧ HF (Vd 1 (roV nx)) ∧ again (Nd (Nd Lf (some (Value.pointer (some ⟨0, 0, none⟩))) (Nd Lf (some (Vi (IntKind.wrap .i64 ((j : Int) + 1)))) Lf)) none (Nd (Nd Lf (some (Vi (i : Int))) Lf) none Lf)) (AH.mk (Nd Lf (some (AObj.cells [Vi s, Vd 1 (blV acc), Vd 1 (roV nx)] 29)) Lf) 1)))) (HF (Vd 1 (blV acc)) ∧ HF (Vd 1 (roV nx)) ∧ again2 (Nd (Nd Lf (some (Value.pointer (some ⟨0, 0, none⟩))) Lf) none (Nd (Nd Lf (some (Vi (IntKind.wrap .i64 ((i : Int) + 1)))) Lf) none Lf)) (AH.mk (Nd Lf (some (AObj.cells [Vi s, Vd 1 (blV acc), Vd 1 (roV nx)] 29)) Lf) 1))) := by kernel_rfl
theorem jAfL_nf (K : KV) (again : KF) (s : Int) (acc : List Bool) (nx : List (List Int)) (t : ByteArray) (q : Int) (i : Nat) : jAfL K again s acc nx t q i = (Sp (decide ((i : Int) < (↑(ByteArray.size t) : Int))) ((0 ≤ q ∧ q < (↑(List.length (roV nx)) : Int)) ∧ nth (roV nx) (Int.toNat (↑(Int.toNat q) : Int)) = some (Vd 1 (rowAt (roV nx) (↑(Int.toNat q) : Int))) ∧ (0 ≤ (i : Int) ∧ (i : Int) < (↑(ByteArray.size t) : Int)) ∧ (0 ≤ byteAt t (i : Int) ∧ byteAt t (i : Int) < (↑(List.length (rowAt (roV nx) (↑(Int.toNat q) : Int))) : Int)) ∧ nth (rowAt (roV nx) (↑(Int.toNat q) : Int)) (Int.toNat (↑(Int.toNat (byteAt t (i : Int))) : Int)) = some (Vi (intAt (rowAt (roV nx) (↑(Int.toNat q) : Int)) (↑(Int.toNat (byteAt t (i : Int))) : Int))) ∧ HF (Vd 1 (blV acc)) ∧ HF (Vd 1 (roV nx)) ∧ again (Nd (Nd (Nd Lf none (Nd Lf (some (Vi (IntKind.wrap .i64 ((i : Int) + 1)))) Lf)) (some (Vs t)) (Nd Lf (some (Vi (intAt (rowAt (roV nx) (↑(Int.toNat q) : Int)) (↑(Int.toNat (byteAt t (i : Int))) : Int)))) Lf)) none (Nd Lf (some (Value.pointer (some ⟨0, 0, none⟩))) (Nd (Nd Lf (some (Vi (↑(ByteArray.size t) : Int))) Lf) none Lf))) (AH.mk (Nd Lf (some (AObj.cells [Vi s, Vd 1 (blV acc), Vd 1 (roV nx)] 29)) Lf) 1)) (K (Vi q) (AH.mk (Nd Lf (some (AObj.cells [Vi s, Vd 1 (blV acc), Vd 1 (roV nx)] 29)) Lf) 1))) := by kernel_rfl
theorem jRu_nf (K : KV) (s : Int) (acc : List Bool) (nx : List (List Int)) (q : Int) (t : ByteArray) : jRu K s acc nx q t = (HF (Vd 1 (blV acc)) ∧ HF (Vd 1 (roV nx)) ∧ LAtZ XRu 1 (Func.ntmps Proofs.Tryd.f40) (AH.mk Lf 0) (bodyOf Proofs.Tryd.f40) [1, 0, 1, 0] (finK (SX.E XRu) (Array.toList (Func.results Proofs.Tryd.f40)) K) (Nd (Nd (Nd (Nd Lf (some (Vi 0)) Lf) (some (Value.pointer (some ⟨0, 0, none⟩))) Lf) (some (Vi q)) Lf) none (Nd Lf (some (Vs t)) Lf)) (AH.mk (Nd Lf (some (AObj.cells [Vi s, Vd 1 (blV acc), Vd 1 (roV nx)] 29)) Lf) 1)) := by kernel_rfl
theorem jRuL_nf (K : KV) (again : KF) (s : Int) (acc : List Bool) (nx : List (List Int)) (t : ByteArray) (q : Int) (i : Nat) : jRuL K again s acc nx t q i = (Sp (decide ((i : Int) < (↑(ByteArray.size t) : Int))) ((0 ≤ q ∧ q < (↑(List.length (roV nx)) : Int)) ∧ nth (roV nx) (Int.toNat (↑(Int.toNat q) : Int)) = some (Vd 1 (rowAt (roV nx) (↑(Int.toNat q) : Int))) ∧ (0 ≤ (i : Int) ∧ (i : Int) < (↑(ByteArray.size t) : Int)) ∧ (0 ≤ byteAt t (i : Int) ∧ byteAt t (i : Int) < (↑(List.length (rowAt (roV nx) (↑(Int.toNat q) : Int))) : Int)) ∧ nth (rowAt (roV nx) (↑(Int.toNat q) : Int)) (Int.toNat (↑(Int.toNat (byteAt t (i : Int))) : Int)) = some (Vi (intAt (rowAt (roV nx) (↑(Int.toNat q) : Int)) (↑(Int.toNat (byteAt t (i : Int))) : Int))) ∧ HF (Vd 1 (blV acc)) ∧ HF (Vd 1 (roV nx)) ∧ again (Nd (Nd (Nd (Nd Lf (some (Vi (IntKind.wrap .i64 ((i : Int) + 1)))) Lf) (some (Value.pointer (some ⟨0, 0, none⟩))) Lf) (some (Vi (intAt (rowAt (roV nx) (↑(Int.toNat q) : Int)) (↑(Int.toNat (byteAt t (i : Int))) : Int)))) Lf) none (Nd Lf (some (Vs t)) Lf)) (AH.mk (Nd Lf (some (AObj.cells [Vi s, Vd 1 (blV acc), Vd 1 (roV nx)] 29)) Lf) 1)) (K (Vi q) (AH.mk (Nd Lf (some (AObj.cells [Vi s, Vd 1 (blV acc), Vd 1 (roV nx)] 29)) Lf) 1))) := by kernel_rfl
theorem jAf_nf (K : KV) (s : Int) (acc : List Bool) (nx : List (List Int)) (t : ByteArray) : jAf K s acc nx t = (HF (Vd 1 (blV acc)) ∧ HF (Vd 1 (roV nx)) ∧ LAtZ XAf 1 (Func.ntmps Proofs.Tryd.f30) (AH.mk Lf 0) (bodyOf Proofs.Tryd.f30) [1, 1, 0, 1, 0] (finK (SX.E XAf) (Array.toList (Func.results Proofs.Tryd.f30)) K) (Nd (Nd (Nd Lf none (Nd Lf (some (Vi 0)) Lf)) (some (Vs t)) (Nd Lf (some (Vi s)) Lf)) none (Nd Lf (some (Value.pointer (some ⟨0, 0, none⟩))) (Nd (Nd Lf (some (Vi (↑(ByteArray.size t) : Int))) Lf) none Lf))) (AH.mk (Nd Lf (some (AObj.cells [Vi s, Vd 1 (blV acc), Vd 1 (roV nx)] 29)) Lf) 1)) := by kernel_rfl
theorem cr_loop3 (K : KV) (again2 : KF) (s : Int) (acc : List Bool) (nx : List (List Int)) (i : Nat) (hi : i < nx.length) (hn : nx.length < 9223372036854775808) (h256 : nx[i].length = 256)
 (h9 : outR nx.length nx[i] = true → ∀ A, K (.int .i64 9) A) (h0 : outR nx.length nx[i] = false → again2 (frCr2 (i + 1)) (hAu s (blV acc) (roV nx))) :
 LAtZ XCr 1 (Func.ntmps Proofs.Tryd.f39) ⟨.leaf, 0⟩ (loopBody (subC [1, 1, 1, 1, 1, 0, 1, 0] (bodyOf Proofs.Tryd.f39))) [1, 0, 0, 1, 0] (kCr2 K again2) (frCr3 i 0) (hAu s (blV acc) (roV nx)) := by
 refine LAtZ.stepF XCr_ok [] [] [] [1, 4, 5] (by kernel_rfl) (fun k F A => ∃ j : Nat, F = frCr3 i j ∧ A = hAu s (blV acc) (roV nx) ∧ j + k = 256 ∧ outR nx.length nx[i] = (nx[i].drop j).any (outI nx.length)) ?_ (k := 256) ⟨0, rfl, rfl, by omega, by simp [outR]⟩
 rintro k F A ⟨j, rfl, rfl, hjk, hv⟩
 refine (jCr3_nf _ _ _ s acc nx i j).mpr ?_
 rw [rowAt_ro hi, roV_len, inV_len]
 refine Sp.intro (fun h => ?_) (fun h => ?_)
 · have h := of_decide_eq_true h
   have hj : j < nx[i].length := by omega
   rw [any_drop hj] at hv
   rw [intAt_in hj]
   refine ⟨⟨by omega, by omega⟩, nth_ro hi, ⟨by omega, by omega⟩, nth_in hj, Sp.intro (fun c => ?_) (fun c => ?_)⟩
   · exact h9 (by rw [hv]; unfold outI; rw [c]; rfl) _
   · refine ⟨⟨by omega, by omega⟩, nth_ro hi, ⟨by omega, by omega⟩, nth_in hj, Sp.intro (fun c2 => ?_) (fun c2 => ?_)⟩
     · exact h9 (by rw [hv]; unfold outI; rw [c, c2]; rfl) _
     · refine ⟨.dat (HF_bl _), .dat (HF_ro _), k - 1, by omega, j + 1, ?_, rfl, by omega, ?_⟩
       · rw [i64_in (x := (j : Int) + 1) (by omega) (by omega)]; rfl
       · rw [hv]; unfold outI; rw [c, c2]; rfl
 · have h := of_decide_eq_false h
   rw [any_end (by omega)] at hv
   refine ⟨.dat (HF_bl _), .dat (HF_ro _), ?_⟩
   rw [i64_in (x := (i : Int) + 1) (by omega) (by omega)]
   exact h0 hv
theorem cr_loop2 (K : KV) (s : Int) (acc : List Bool) (nx : List (List Int)) (hn : nx.length < 9223372036854775808) (h256 : ∀ r ∈ nx, r.length = 256)
 (h9 : nx.any (outR nx.length) = true → ∀ A, K (.int .i64 9) A) (h0 : nx.any (outR nx.length) = false → ∀ A, K (.int .i64 0) A) :
 LAtZ XCr 1 (Func.ntmps Proofs.Tryd.f39) ⟨.leaf, 0⟩ (bodyOf Proofs.Tryd.f39) [1, 1, 1, 1, 1, 0, 1, 0] (kFinCr K) (frCr2 0) (hAu s (blV acc) (roV nx)) := by
 refine LAtZ.stepF XCr_ok [] [] [] [1, 4] (by kernel_rfl) (fun k F A => ∃ i : Nat, F = frCr2 i ∧ A = hAu s (blV acc) (roV nx) ∧ i + k = nx.length ∧ nx.any (outR nx.length) = (nx.drop i).any (outR nx.length)) ?_ (k := nx.length) ⟨0, rfl, rfl, by omega, by simp⟩
 rintro k F A ⟨i, rfl, rfl, hik, hv⟩
 refine (jCr2_nf _ _ s acc nx i).mpr ?_
 rw [roV_len]
 refine Sp.intro (fun h => ?_) (fun h => ?_)
 · have h := of_decide_eq_true h
   have hi : i < nx.length := by omega
   rw [any_drop hi] at hv
   refine ⟨.dat (HF_bl _), .dat (HF_ro _), cr_loop3 K _ s acc nx i hi hn (h256 _ (List.getElem_mem hi)) (fun c => h9 (by rw [hv, c]; rfl)) fun c => ⟨k - 1, by omega, i + 1, rfl, rfl, by omega, by rw [hv, c]; rfl⟩⟩
 · have h := of_decide_eq_false h
   rw [any_end (by omega)] at hv
   exact h0 hv _
theorem cr_walk {a : AU} (hw : WfA a) : Walk env Proofs.Tryd.f39 [auV a] (.int .i64 (chkA a)) := by
 obtain ⟨s, acc, nx⟩ := a
 obtain ⟨w1, w2, w3⟩ := hw
 dsimp only at w1 w2 w3
 refine plainF XCr_ok (d := 1) (HFi _ _) ((jCr_nf _ s acc nx).mpr ?_)
 rw [roV_len, blV_len]
 unfold chkA
 dsimp only
 refine Sp.intro (fun c1 => ?_) (fun c1 => ?_)
 · rw [c1]; rfl
 rw [c1]
 refine Sp.intro (fun c2 => ?_) (fun c2 => ?_)
 · rw [c2]; rfl
 rw [c2]
 refine Sp.intro (fun c3 => ?_) (fun c3 => ?_)
 · rw [c3]; rfl
 rw [c3]
 refine ⟨.dat (HF_bl _), .dat (HF_ro _), ?_⟩
 simp only [cond_false, Bool.or_self]
 refine LAtZ.stepF XCr_ok [] [] [] [1, 3] (by kernel_rfl) (fun k F A => ∃ i : Nat, F = frCr1 i ∧ A = hAu s (blV acc) (roV nx) ∧ i + k = nx.length ∧ (∀ r ∈ nx.take i, r.length = 256) ∧ nx.any (fun r => !decide ((r.length : Int) = 256)) = (nx.drop i).any (fun r => !decide ((r.length : Int) = 256))) ?_ (k := nx.length) ⟨0, rfl, rfl, by omega, by simp, by simp⟩
 rintro k F A ⟨i, rfl, rfl, hik, hl, hv⟩
 refine (jCr1_nf _ _ s acc nx i).mpr ?_
 rw [roV_len]
 refine Sp.intro (fun h => ?_) (fun h => ?_)
 · have h := of_decide_eq_true h
   have hi : i < nx.length := by omega
   rw [any_drop hi] at hv
   rw [rowAt_ro hi, inV_len]
   refine ⟨⟨by omega, h⟩, nth_ro hi, Sp.intro (fun c => ?_) (fun c => ?_)⟩
   · rw [hv, c]; rfl
   · refine ⟨.dat (HF_bl _), .dat (HF_ro _), k - 1, by omega, i + 1, ?_, rfl, by omega, ?_, ?_⟩
     · rw [i64_in (x := (i : Int) + 1) (by omega) (by omega)]; rfl
     · intro r hr
       rw [List.take_succ_eq_append_getElem hi] at hr
       rcases List.mem_append.1 hr with hr | hr
       · exact hl r hr
       · simp only [List.mem_singleton] at hr
         subst hr
         simp only [Bool.not_eq_false', decide_eq_true_eq] at c
         omega
     · rw [hv, c]; rfl
 · have h := of_decide_eq_false h
   rw [any_end (by omega)] at hv
   rw [List.take_of_length_le (by omega)] at hl
   rw [hv]
   unfold outI
   refine Sp.intro (fun c4 => ?_) (fun c4 => ?_)
   · rw [c4]; rfl
   rw [c4]
   refine Sp.intro (fun c5 => ?_) (fun c5 => ?_)
   · rw [c5]; rfl
   rw [c5]
   refine ⟨.dat (HF_bl _), .dat (HF_ro _), cr_loop2 _ s acc nx w2 hl (fun c A => ?_) (fun c A => ?_)⟩
   · rw [c]; rfl
   · rw [c]; rfl
theorem cr_tab : ∀ args A p v A', pureR caP caX args A = some (p, v, A') → PH p → CallAt env 39 args A v A' := walk_tab env_ok env_gl (fn := Proofs.Tryd.f39) rfl fun args v h hp => by
 unfold caX at h
 split at h
 · rename_i u
   obtain ⟨h1, h2⟩ : WfV u := hp
   split at h
   rotate_left
   · cases h
   rename_i a ha
   simp only [Option.some.injEq] at h
   subst h
   rw [auQ_of h1 ha]
   have := cr_walk h2
   rw [← h1] at this
   exact ⟨HF.cons (by rw [h1]; exact HF_au _) HF.nil, this⟩
 · cases h
structure OkA (a : AU) : Prop where
 wf : WfA a
 n0 : 0 < a.2.2.length
 n1 : a.2.2.length ≤ 300
 acc : a.2.1.length = a.2.2.length
 row : ∀ r ∈ a.2.2, r.length = 256
 st : 0 ≤ a.1 ∧ a.1 < a.2.2.length
 ent : ∀ r ∈ a.2.2, ∀ x ∈ r, 0 ≤ x ∧ x < a.2.2.length
theorem outI_no {n x : Int} (h : outI n x = false) : 0 ≤ x ∧ x < n := by
 unfold outI at h
 simp only [Bool.or_eq_false_iff, decide_eq_false_iff_not] at h
 omega
theorem chk_ok {a : AU} (hw : WfA a) (h : chkA a = 0) : OkA a := by
 obtain ⟨s, acc, nx⟩ := a
 unfold chkA at h
 dsimp only at h
 cases c1 : decide (300 < (nx.length : Int)) with
 | true => rw [c1] at h; cases h
 | false =>
 rw [c1] at h
 cases c2 : decide ((nx.length : Int) = 0) || !decide ((acc.length : Int) = nx.length) with
 | true => rw [c2] at h; cases h
 | false =>
 rw [c2] at h
 cases c3 : nx.any (fun r => !decide ((r.length : Int) = 256)) with
 | true => rw [c3] at h; cases h
 | false =>
 rw [c3] at h
 cases c4 : outI nx.length s || nx.any (outR nx.length) with
 | true => rw [c4] at h; cases h
 | false =>
 simp only [Bool.or_eq_false_iff, decide_eq_false_iff_not, Bool.not_eq_false', decide_eq_true_eq] at c1 c2 c4
 have c3' := List.any_eq_false.1 c3
 refine ⟨hw, by dsimp only; omega, by dsimp only; omega, by dsimp only; omega, fun r hr => ?_, outI_no c4.1, fun r hr x hx => ?_⟩
 · have := c3' r hr
   simp only [Bool.not_eq_true', decide_eq_false_iff_not, Classical.not_not] at this
   omega
 · have := List.any_eq_false.1 c4.2 r hr
   unfold outR at this
   have h2 := List.any_eq_false.1 (Bool.eq_false_iff.2 this) x hx
   exact outI_no (Bool.eq_false_iff.2 h2)
theorem gD {α : Type} {l : List α} {i : Nat} {d : α} (h : i < l.length) : l.getD i d = l[i] := by
 rw [List.getD_eq_getElem?_getD, List.getElem?_eq_getElem h]; rfl
def stp (nx : List (List Int)) (q : Int) (b : Nat) : Int := (nx.getD q.toNat []).getD b 0
def runI (nx : List (List Int)) (q : Int) (l : List UInt8) : Int := l.foldl (fun q b => stp nx q b.toNat) q
theorem stp_in {a : AU} (h : OkA a) {q : Int} (h0 : 0 ≤ q) (h1 : q < a.2.2.length) {b : Nat} (hb : b < 256) : 0 ≤ stp a.2.2 q b ∧ stp a.2.2 q b < a.2.2.length := by
 have hq : q.toNat < a.2.2.length := by omega
 have hr : a.2.2[q.toNat] ∈ a.2.2 := List.getElem_mem hq
 have hl := h.row _ hr
 have hb' : b < a.2.2[q.toNat].length := by omega
 have e : stp a.2.2 q b = a.2.2[q.toNat][b] := by
  unfold stp
  rw [gD hq, gD hb']
 rw [e]
 exact h.ent _ hr _ (List.getElem_mem hb')
theorem stp_row {a : AU} (h : OkA a) {q : Int} (h0 : 0 ≤ q) (h1 : q < a.2.2.length) {b : Nat} (hb : b < 256) :
 (0 ≤ q ∧ q < ((roV a.2.2).length : Int)) ∧ nth (roV a.2.2) q.toNat = some (dat 1 (rowAt (roV a.2.2) q)) ∧ ((rowAt (roV a.2.2) q).length = 256) ∧ nth (rowAt (roV a.2.2) q) b = some (.int .i64 (intAt (rowAt (roV a.2.2) q) (b : Int))) ∧ intAt (rowAt (roV a.2.2) q) (b : Int) = stp a.2.2 q b := by
 obtain ⟨n, rfl⟩ := Int.eq_ofNat_of_zero_le h0
 have hq : n < a.2.2.length := by omega
 have hl := h.row _ (List.getElem_mem hq)
 have hb' : b < a.2.2[n].length := by omega
 rw [roV_len]
 rw [rowAt_ro hq, intAt_in hb']
 refine ⟨⟨h0, h1⟩, by rw [Int.toNat_natCast]; exact nth_ro hq, by rw [inV_len]; exact hl, nth_in hb', ?_⟩
 unfold stp
 rw [Int.toNat_natCast, gD hq, gD hb']
theorem byteAt_el {t : ByteArray} {i : Nat} (h : i < t.data.toList.length) : byteAt t (i : Int) = (t.data.toList[i].toNat : Int) := by
 unfold byteAt
 rw [Int.toNat_natCast, nth_eq, List.getElem?_eq_getElem h]
theorem tl_size (t : ByteArray) : t.data.toList.length = t.size := by simp
theorem af_walk {a : AU} (h : OkA a) (t : ByteArray) (ht : t.size < 9223372036854775808) : Walk env Proofs.Tryd.f30 [auV a, .string t] (.int .i64 (runI a.2.2 a.1 t.data.toList)) := by
 obtain ⟨s, acc, nx⟩ := a
 have hs := h.st
 dsimp only at hs
 have hl := tl_size t
 refine plainF XAf_ok (d := 1) (HFi _ _) ((jAf_nf _ s acc nx t).mpr ⟨.dat (HF_bl _), .dat (HF_ro _), ?_⟩)
 refine LAtZ.stepF XAf_ok [] [] [] [1, 2, 5, 10, 11] (by kernel_rfl) (fun k F A => ∃ (i : Nat) (q : Int), F = frAf t q i ∧ A = hAu s (blV acc) (roV nx) ∧ i + k = t.size ∧ (0 ≤ q ∧ q < nx.length) ∧ runI nx s t.data.toList = runI nx q (t.data.toList.drop i)) ?_ (k := t.size) ⟨0, s, rfl, rfl, by omega, hs, by simp⟩
 rintro k F A ⟨i, q, rfl, rfl, hik, hq, hv⟩
 refine (jAfL_nf _ _ s acc nx t q i).mpr (Sp.intro (fun c => ?_) (fun c => ?_))
 · have c := of_decide_eq_true c
   have hi : i < t.data.toList.length := by omega
   have hb : t.data.toList[i].toNat < 256 := t.data.toList[i].toNat_lt
   have e0 : (↑q.toNat : Int) = q := by omega
   have e1 : (↑(Int.toNat (↑(t.data.toList[i].toNat) : Int)) : Int) = (t.data.toList[i].toNat : Int) := by omega
   rw [byteAt_el hi, e0, e1, Int.toNat_natCast]
   obtain ⟨g1, g2, g3, g4, g5⟩ := stp_row h hq.1 hq.2 hb
   refine ⟨g1, g2, ⟨by omega, c⟩, ⟨by omega, by rw [g3]; omega⟩, g4, .dat (HF_bl _), .dat (HF_ro _), k - 1, by omega, i + 1, stp nx q t.data.toList[i].toNat, ?_, rfl, by omega, stp_in h hq.1 hq.2 hb, ?_⟩
   · rw [g5, i64_in (x := (i : Int) + 1) (by omega) (by omega)]; rfl
   · rw [hv, List.drop_eq_getElem_cons hi]; rfl
 · have c := of_decide_eq_false c
   rw [List.drop_eq_nil_of_le (by omega)] at hv
   show Value.int .i64 q = _
   rw [hv]; rfl
theorem ru_walk {a : AU} (h : OkA a) {q0 : Int} (h0 : 0 ≤ q0 ∧ q0 < a.2.2.length) (t : ByteArray) (ht : t.size < 9223372036854775808) : Walk env Proofs.Tryd.f40 [auV a, .int .i64 q0, .string t] (.int .i64 (runI a.2.2 q0 t.data.toList)) := by
 obtain ⟨s, acc, nx⟩ := a
 dsimp only at h0
 have hl := tl_size t
 refine plainF XRu_ok (d := 1) (HFi _ _) ((jRu_nf _ s acc nx q0 t).mpr ⟨.dat (HF_bl _), .dat (HF_ro _), ?_⟩)
 refine LAtZ.stepF XRu_ok [] [] [] [1, 2, 3, 7] (by kernel_rfl) (fun k F A => ∃ (i : Nat) (q : Int), F = frRu t q i ∧ A = hAu s (blV acc) (roV nx) ∧ i + k = t.size ∧ (0 ≤ q ∧ q < nx.length) ∧ runI nx q0 t.data.toList = runI nx q (t.data.toList.drop i)) ?_ (k := t.size) ⟨0, q0, rfl, rfl, by omega, h0, by simp⟩
 rintro k F A ⟨i, q, rfl, rfl, hik, hq, hv⟩
 refine (jRuL_nf _ _ s acc nx t q i).mpr (Sp.intro (fun c => ?_) (fun c => ?_))
 · have c := of_decide_eq_true c
   have hi : i < t.data.toList.length := by omega
   have hb : t.data.toList[i].toNat < 256 := t.data.toList[i].toNat_lt
   have e0 : (↑q.toNat : Int) = q := by omega
   have e1 : (↑(Int.toNat (↑(t.data.toList[i].toNat) : Int)) : Int) = (t.data.toList[i].toNat : Int) := by omega
   rw [byteAt_el hi, e0, e1, Int.toNat_natCast]
   obtain ⟨g1, g2, g3, g4, g5⟩ := stp_row h hq.1 hq.2 hb
   refine ⟨g1, g2, ⟨by omega, c⟩, ⟨by omega, by rw [g3]; omega⟩, g4, .dat (HF_bl _), .dat (HF_ro _), k - 1, by omega, i + 1, stp nx q t.data.toList[i].toNat, ?_, rfl, by omega, stp_in h hq.1 hq.2 hb, ?_⟩
   · rw [g5, i64_in (x := (i : Int) + 1) (by omega) (by omega)]; rfl
   · rw [hv, List.drop_eq_getElem_cons hi]; rfl
 · have c := of_decide_eq_false c
   rw [List.drop_eq_nil_of_le (by omega)] at hv
   show Value.int .i64 q = _
   rw [hv]; rfl
def okV (v : Value) : Prop := v = auV (auD v) ∧ OkA (auD v)
theorem okV_au {a : AU} (h : OkA a) : okV (auV a) := ⟨by rw [auD_au], by rw [auD_au]; exact h⟩
def afX : List Value → Option Value
 | [v, .string t] => (match auQ v with | some a => some (.int .i64 (runI a.2.2 a.1 t.data.toList)) | none => none)
 | _ => none
def afP : List Value → Option Prop
 | [v, .string t] => some (okV v ∧ t.size < 9223372036854775808)
 | _ => none
theorem af_tab : ∀ args A p v A', pureR afP afX args A = some (p, v, A') → PH p → CallAt env 30 args A v A' := walk_tab env_ok env_gl (fn := Proofs.Tryd.f30) rfl fun args v h hp => by
 unfold afX at h
 split at h
 · rename_i u t
   obtain ⟨⟨h1, h2⟩, h3⟩ : okV u ∧ t.size < 9223372036854775808 := hp
   split at h
   rotate_left
   · cases h
   rename_i a ha
   simp only [Option.some.injEq] at h
   subst h
   rw [auQ_of h1 ha]
   have := af_walk h2 t h3
   rw [← h1] at this
   exact ⟨HF.cons (by rw [h1]; exact HF_au _) (HF.cons (.scal rfl) HF.nil), this⟩
 · cases h
def ruX : List Value → Option Value
 | [v, .int .i64 q, .string t] => (match auQ v with | some a => some (.int .i64 (runI a.2.2 q t.data.toList)) | none => none)
 | _ => none
def ruP : List Value → Option Prop
 | [v, .int .i64 q, .string t] => some (okV v ∧ (0 ≤ q ∧ q < (auD v).2.2.length) ∧ t.size < 9223372036854775808)
 | _ => none
theorem ru_tab : ∀ args A p v A', pureR ruP ruX args A = some (p, v, A') → PH p → CallAt env 40 args A v A' := walk_tab env_ok env_gl (fn := Proofs.Tryd.f40) rfl fun args v h hp => by
 unfold ruX at h
 split at h
 · rename_i u q t
   obtain ⟨⟨h1, h2⟩, h3, h4⟩ : okV u ∧ (0 ≤ q ∧ q < (auD u).2.2.length) ∧ t.size < 9223372036854775808 := hp
   split at h
   rotate_left
   · cases h
   rename_i a ha
   simp only [Option.some.injEq] at h
   subst h
   rw [auQ_of h1 ha]
   have := ru_walk h2 h3 t h4
   rw [← h1] at this
   exact ⟨HF.cons (by rw [h1]; exact HF_au _) (HF.cons (HFi _ _) (HF.cons (.scal rfl) HF.nil)), this⟩
 · cases h
def elB : El := .of fun _ _ els i => some (.bool (boolAt els i))
def XAc : SX := ⟨env, [(29, pureR caP caX), (30, pureR afP afX)], elB, fun _ => .unroll 0⟩
theorem XAc_ok : XAc.Ok := ⟨env_ok, env_sym, env_gl, .cons ca_tab (.cons af_tab .nil)⟩
def XAr : SX := ⟨env, [(39, pureR caP caX), (40, pureR ruP ruX)], elB, fun _ => .unroll 0⟩
theorem XAr_ok : XAr.Ok := ⟨env_ok, env_sym, env_gl, .cons cr_tab (.cons ru_tab .nil)⟩
def jAc (K : KV) (s : Int) (acc : List Bool) (nx : List (List Int)) (t : ByteArray) : Prop := sxFnF XAc 1 Proofs.Tryd.f9 [.agg ⟨[.int .i64 s, dat 1 (blV acc), dat 1 (roV nx)]⟩, .string t] ⟨.leaf, 0⟩ K
def jAr (K : KV) (s : Int) (acc : List Bool) (nx : List (List Int)) (t : ByteArray) : Prop := sxFnF XAr 1 Proofs.Tryd.f13 [.agg ⟨[.int .i64 s, dat 1 (blV acc), dat 1 (roV nx)]⟩, .string t] ⟨.leaf, 0⟩ K
theorem jAc_nf (K : KV) (s : Int) (acc : List Bool) (nx : List (List Int)) (t : ByteArray) : jAc K s acc nx t = (WfV (Value.agg (Array.mk [Vi s, Vd 1 (blV acc), Vd 1 (roV nx)])) ∧ Sp (!decide (chkA (s, List.map deB (blV acc), List.map deR (roV nx)) = 0)) (K (Value.tuple (Array.mk [Value.bool false, Vi (chkA (s, List.map deB (blV acc), List.map deR (roV nx)))])) (AH.mk (Nd Lf (some (AObj.cells [Vi s, Vd 1 (blV acc), Vd 1 (roV nx)] 29)) Lf) 1)) ((okV (Value.agg (Array.mk [Vi s, Vd 1 (blV acc), Vd 1 (roV nx)])) ∧ ByteArray.size t < 9223372036854775808) ∧ Vd 1 (blV acc) = Vd 1 (blV acc) ∧ (0 ≤ runI (List.map deR (roV nx)) s t.data.toList ∧ runI (List.map deR (roV nx)) s t.data.toList < (↑(List.length (blV acc)) : Int)) ∧ nth (blV acc) (Int.toNat (↑(Int.toNat (runI (List.map deR (roV nx)) s t.data.toList)) : Int)) = some (Value.bool (boolAt (blV acc) (↑(Int.toNat (runI (List.map deR (roV nx)) s t.data.toList)) : Int))) ∧ K (Value.tuple (Array.mk [Value.bool (boolAt (blV acc) (↑(Int.toNat (runI (List.map deR (roV nx)) s t.data.toList)) : Int)), Vi 0])) (AH.mk (Nd Lf (some (AObj.cells [Vi s, Vd 1 (blV acc), Vd 1 (roV nx)] 29)) Lf) 10))) := by kernel_rfl
theorem jAr_nf (K : KV) (s : Int) (acc : List Bool) (nx : List (List Int)) (t : ByteArray) : jAr K s acc nx t = (WfV (Value.agg (Array.mk [Vi s, Vd 1 (blV acc), Vd 1 (roV nx)])) ∧ Sp (!decide (chkA (s, List.map deB (blV acc), List.map deR (roV nx)) = 0)) (K (Value.tuple (Array.mk [Value.bool false, Vi (chkA (s, List.map deB (blV acc), List.map deR (roV nx)))])) (AH.mk (Nd Lf (some (AObj.cells [Vi s, Vd 1 (blV acc), Vd 1 (roV nx)] 29)) Lf) 1)) ((okV (Value.agg (Array.mk [Vi s, Vd 1 (blV acc), Vd 1 (roV nx)])) ∧ (0 ≤ s ∧ s < (↑(List.length (List.map deR (roV nx))) : Int)) ∧ ByteArray.size t < 9223372036854775808) ∧ Vd 1 (blV acc) = Vd 1 (blV acc) ∧ (0 ≤ runI (List.map deR (roV nx)) s t.data.toList ∧ runI (List.map deR (roV nx)) s t.data.toList < (↑(List.length (blV acc)) : Int)) ∧ nth (blV acc) (Int.toNat (↑(Int.toNat (runI (List.map deR (roV nx)) s t.data.toList)) : Int)) = some (Value.bool (boolAt (blV acc) (↑(Int.toNat (runI (List.map deR (roV nx)) s t.data.toList)) : Int))) ∧ K (Value.tuple (Array.mk [Value.bool (boolAt (blV acc) (↑(Int.toNat (runI (List.map deR (roV nx)) s t.data.toList)) : Int)), Vi 0])) (AH.mk (Nd Lf (some (AObj.cells [Vi s, Vd 1 (blV acc), Vd 1 (roV nx)] 29)) Lf) 12))) := by kernel_rfl
def accI (a : AU) (t : ByteArray) : Bool × Int := bif decide (chkA a = 0) then (a.2.1.getD (runI a.2.2 a.1 t.data.toList).toNat false, 0) else (false, chkA a)
theorem runI_in {a : AU} (h : OkA a) : ∀ (l : List UInt8) (q : Int), 0 ≤ q ∧ q < a.2.2.length → 0 ≤ runI a.2.2 q l ∧ runI a.2.2 q l < a.2.2.length
 | [], q, hq => hq
 | b :: l, q, hq => runI_in h l _ (stp_in h hq.1 hq.2 b.toNat_lt)
def acV (r : Bool × Int) : Value := .tuple ⟨[.bool r.1, .int .i64 r.2]⟩
theorem HF_ac (r : Bool × Int) : HF (acV r) := .tuple (HF.cons (HFb _) (HF.cons (HFi _ _) HF.nil))
theorem ac_walk {a : AU} (hw : WfA a) (t : ByteArray) (ht : t.size < 9223372036854775808) : Walk env Proofs.Tryd.f9 [auV a, .string t] (acV (accI a t)) := by
 obtain ⟨s, acc, nx⟩ := a
 refine plainF XAc_ok (d := 1) (HF_ac _) ((jAc_nf _ s acc nx t).mpr ?_)
 rw [blV_de, roV_de, blV_len]
 refine ⟨wfV_au (a := (s, acc, nx)) hw, Sp.intro (fun c => ?_) (fun c => ?_)⟩
 · have c : ¬ chkA (s, acc, nx) = 0 := by simpa using c
   show acV (false, _) = _
   unfold accI; rw [decide_eq_false c]; rfl
 · have c : chkA (s, acc, nx) = 0 := by simpa using c
   have ok := chk_ok hw c
   have hr := runI_in ok t.data.toList s ok.st
   dsimp only at hr
   have ha := ok.acc
   dsimp only at ha
   have e0 : (↑(runI nx s t.data.toList).toNat : Int) = runI nx s t.data.toList := by omega
   have hq : (runI nx s t.data.toList).toNat < acc.length := by omega
   have e1 : boolAt (blV acc) (runI nx s t.data.toList) = acc[(runI nx s t.data.toList).toNat] := by
    have := boolAt_bl hq; rw [e0] at this; exact this
   rw [e0, e1]
   refine ⟨⟨okV_au ok, ht⟩, rfl, ⟨hr.1, by omega⟩, nth_bl hq, ?_⟩
   show acV (_, 0) = _
   unfold accI; rw [decide_eq_true c]
   show _ = acV (acc.getD _ false, 0)
   rw [gD hq]
theorem ar_walk {a : AU} (hw : WfA a) (t : ByteArray) (ht : t.size < 9223372036854775808) : Walk env Proofs.Tryd.f13 [auV a, .string t] (acV (accI a t)) := by
 obtain ⟨s, acc, nx⟩ := a
 refine plainF XAr_ok (d := 1) (HF_ac _) ((jAr_nf _ s acc nx t).mpr ?_)
 rw [blV_de, roV_de, blV_len]
 refine ⟨wfV_au (a := (s, acc, nx)) hw, Sp.intro (fun c => ?_) (fun c => ?_)⟩
 · have c : ¬ chkA (s, acc, nx) = 0 := by simpa using c
   show acV (false, _) = _
   unfold accI; rw [decide_eq_false c]; rfl
 · have c : chkA (s, acc, nx) = 0 := by simpa using c
   have ok := chk_ok hw c
   have hr := runI_in ok t.data.toList s ok.st
   dsimp only at hr
   have ha := ok.acc
   dsimp only at ha
   have e0 : (↑(runI nx s t.data.toList).toNat : Int) = runI nx s t.data.toList := by omega
   have hq : (runI nx s t.data.toList).toNat < acc.length := by omega
   have e1 : boolAt (blV acc) (runI nx s t.data.toList) = acc[(runI nx s t.data.toList).toNat] := by
    have := boolAt_bl hq; rw [e0] at this; exact this
   rw [e0, e1]
   refine ⟨⟨okV_au ok, ok.st, ht⟩, rfl, ⟨hr.1, by omega⟩, nth_bl hq, ?_⟩
   show acV (_, 0) = _
   unfold accI; rw [decide_eq_true c]
   show _ = acV (acc.getD _ false, 0)
   rw [gD hq]
def acX : List Value → Option Value
 | [v, .string t] => (match auQ v with | some a => some (acV (accI a t)) | none => none)
 | _ => none
def acP : List Value → Option Prop
 | [v, .string t] => some (WfV v ∧ t.size < 9223372036854775808)
 | _ => none
theorem acX_ok {fn : Func} (hw : ∀ a t, WfA a → t.size < 9223372036854775808 → Walk env fn [auV a, .string t] (acV (accI a t))) : ∀ args v, acX args = some v → PH (acP args) → (∀ x ∈ args, HF x) ∧ Walk env fn args v := fun args v h hp => by
 unfold acX at h
 split at h
 · rename_i u t
   obtain ⟨⟨h1, h2⟩, h3⟩ : WfV u ∧ t.size < 9223372036854775808 := hp
   split at h
   rotate_left
   · cases h
   rename_i a ha
   simp only [Option.some.injEq] at h
   subst h
   rw [auQ_of h1 ha]
   have := hw _ t h2 h3
   rw [← h1] at this
   exact ⟨HF.cons (by rw [h1]; exact HF_au _) (HF.cons (.scal rfl) HF.nil), this⟩
 · cases h
theorem ac_tab : ∀ args A p v A', pureR acP acX args A = some (p, v, A') → PH p → CallAt env 9 args A v A' := walk_tab env_ok env_gl (fn := Proofs.Tryd.f9) rfl (acX_ok fun a t h1 h2 => ac_walk h1 t h2)
theorem ar_tab : ∀ args A p v A', pureR acP acX args A = some (p, v, A') → PH p → CallAt env 13 args A v A' := walk_tab env_ok env_gl (fn := Proofs.Tryd.f13) rfl (acX_ok fun a t h1 h2 => ar_walk h1 t h2)
def u8v (l : List UInt8) : List Value := l.map fun b => .int .u8 b.toNat
def elCo : El := { elT [18] [] with app := true, gm := fun _ => true }
def XCo : SX := ⟨env, [], elCo, fun _ => .autoN [] [] [] [1, 5, 14, 15, 16]⟩
theorem XCo_ok : XCo.Ok := ⟨env_ok, env_sym, env_gl, .nil⟩
def hCo (l : List UInt8) : AH := ⟨.node .leaf (some (.gro (u8v l) [] 5)) .leaf, 1⟩
def frCo (c : Int) (nx : List (List Int)) (l : List UInt8) (i : Nat) : T Value := (.node (.node (.node (.node (.node .leaf (some (.int .i64 (roV nx).length)) .leaf) none .leaf) none .leaf) (some (.int .i64 c)) (.node .leaf (some (.slice (some ⟨0, 0, none⟩) l.length (unk + 3 + 1))) .leaf)) none (.node (.node (.node (.node .leaf (some (.int .i64 i)) .leaf) none .leaf) none .leaf) none (.node .leaf none (.node .leaf (some (dat 1 (roV nx))) .leaf))))
def kFinCo (K : KV) : KX := finK XCo.E (Proofs.Tryd.f64.results).toList K
def jCo (K : KV) (s : Int) (acc : List Bool) (nx : List (List Int)) (c : Int) : Prop := sxFnF XCo 1 Proofs.Tryd.f64 [.agg ⟨[.int .i64 s, dat 1 (blV acc), dat 1 (roV nx)]⟩, .int .i64 c] ⟨.leaf, 0⟩ K
def jCoL (K : KV) (again : KF) (nx : List (List Int)) (c : Int) (l : List UInt8) (i : Nat) : Prop := sxStepF XCo 1 (Func.ntmps Proofs.Tryd.f64) ⟨.leaf, 0⟩ (bodyOf Proofs.Tryd.f64) [1, 1, 0, 1, 0] (kFinCo K) [] [] [] [1, 5, 14, 15, 16] again (frCo c nx l i) (hCo l)
end
end Go.T9

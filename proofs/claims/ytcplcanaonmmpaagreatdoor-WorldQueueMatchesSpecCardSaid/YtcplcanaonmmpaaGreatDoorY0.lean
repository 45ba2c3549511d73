/- A part of the proof. -/
import Derived.Test.YtcplcanaonmmpaaGreatDoorR
import Derived.Test.YtcplcanaonmmpaaGreatDoorF
import Derived.KernelRfl
set_option linter.unusedVariables false
set_option linter.unusedSimpArgs false
set_option maxRecDepth 1000000
namespace Go.T9
open Go Go.AM
noncomputable section
theorem HFi (k : IntKind) (x : Int) : HF (.int k x) := .scal rfl
theorem HFb (b : Bool) : HF (.bool b) := .scal rfl
def dat (sz : Nat) (els : List Value) : Value := .func (.yield sz) ⟨els⟩ ⟨[]⟩
abbrev Vi (x : Int) : Value := .int .i64 x
abbrev Vs (s : ByteArray) : Value := .string s
abbrev Vd (n : Nat) (l : List Value) : Value := .func (.yield n) ⟨l⟩ ⟨[]⟩
abbrev Vb (b : Bool) : Value := .bool b
abbrev Va (l : List Value) : Value := .agg ⟨l⟩
abbrev Vt (l : List Value) : Value := .tuple ⟨l⟩
abbrev Ac (l : List Value) (e : TypeId) : AObj := .cells l e
abbrev Wi (x : Int) : Int := IntKind.wrap .i64 x
abbrev Lf {α : Type} : T α := .leaf
abbrev Nd {α : Type} (a : T α) (b : Option α) (c : T α) : T α := .node a b c
abbrev Ns {α : Type} (a : T α) (x : α) (b : T α) : T α := .node a (some x) b
abbrev No {α : Type} (a b : T α) : T α := .node a none b
abbrev mvl (l : List (Value × Value × Nat)) : List Value := l.map fun x => x.2.1
abbrev Sg {α : Type} (x : α) : T α := .node .leaf (some x) .leaf
def noEl : El := .of fun _ _ _ _ => none
def inV (l : List Int) : List Value := l.map (Value.int .i64)
def deI : Value → Int
 | .int _ n => n
 | _ => 0
theorem inV_de (l : List Int) : (inV l).map deI = l := by
 unfold inV; rw [List.map_map]; conv => rhs; rw [← List.map_id l]
 exact List.map_congr_left fun x _ => rfl
theorem HF_in (l : List Int) : ∀ x ∈ inV l, HF x := fun x hx => by
 obtain ⟨n, _, rfl⟩ := List.mem_map.1 hx; exact HFi _ _
theorem HF_inA (l : List Int) : HF (.agg ⟨inV l⟩) := .agg (HF_in l)
theorem nth_in {l : List Int} {i : Nat} (h : i < l.length) : nth (inV l) i = some (.int .i64 l[i]) := by
 rw [nth_eq]; simp [inV, h]
theorem intAt_in {l : List Int} {i : Nat} (h : i < l.length) : intAt (inV l) (i : Int) = l[i] := by
 unfold intAt; rw [Int.toNat_natCast, nth_in h]
theorem inV_len (l : List Int) : (inV l).length = l.length := List.length_map _
theorem inV_set (l : List Int) (i : Nat) (x : Int) : (inV l).set i (.int .i64 x) = inV (l.set i x) := by unfold inV; rw [List.map_set]
theorem inV_app (l r : List Int) : inV l ++ inV r = inV (l ++ r) := by unfold inV; rw [List.map_append]
theorem inV_take (l : List Int) (n : Nat) : (inV l).take n = inV (l.take n) := by unfold inV; rw [List.map_take]
theorem inV_drop (l : List Int) (n : Nat) : (inV l).drop n = inV (l.drop n) := by unfold inV; rw [List.map_drop]
abbrev SvP := Int × Int
def svV (x : SvP) : Value := .agg ⟨[.int .i64 x.1, .int .i64 x.2]⟩
def svs (l : List SvP) : List Value := l.map svV
def deS : Value → SvP
 | .agg ⟨[.int _ a, .int _ b]⟩ => (a, b)
 | _ => (0, 0)
theorem svs_de (l : List SvP) : (svs l).map deS = l := by
 unfold svs; rw [List.map_map]; conv => rhs; rw [← List.map_id l]
 exact List.map_congr_left fun x _ => rfl
theorem HF_sv (x : SvP) : HF (svV x) := .agg (HF.cons (HFi _ _) (HF.cons (HFi _ _) HF.nil))
theorem HF_svs (l : List SvP) : ∀ x ∈ svs l, HF x := fun x hx => by
 obtain ⟨n, _, rfl⟩ := List.mem_map.1 hx; exact HF_sv _
theorem HF_svA (l : List SvP) : HF (.agg ⟨svs l⟩) := .agg (HF_svs l)
theorem nth_svs {l : List SvP} {i : Nat} (h : i < l.length) : nth (svs l) i = some (svV l[i]) := by
 rw [nth_eq]; simp [svs, h]
def svAt (els : List Value) (i : Int) : SvP := match nth els i.toNat with | some v => deS v | none => (0, 0)
theorem svAt_in {l : List SvP} {i : Nat} (h : i < l.length) : svAt (svs l) (i : Int) = l[i] := by
 unfold svAt; rw [Int.toNat_natCast, nth_svs h]; rfl
theorem svs_len (l : List SvP) : (svs l).length = l.length := List.length_map _
theorem svs_set (l : List SvP) (i : Nat) (x : SvP) : (svs l).set i (svV x) = svs (l.set i x) := by unfold svs; rw [List.map_set]
theorem svs_take (l : List SvP) (n : Nat) : (svs l).take n = svs (l.take n) := by unfold svs; rw [List.map_take]
def elQ : El := { El.of (fun sz _ els i => bif Nat.beq sz 1 then some (.int .i64 (intAt els i)) else bif Nat.beq sz 2 then some (.agg ⟨[.int .i64 (svAt els i).1, .int .i64 (svAt els i).2]⟩) else none) with app := true, gm := fun _ => true }
def noAr : TypeId → Option Nat := fun _ => none
theorem plainF {X : SX} (hX : X.Ok) {d : Nat} {fn : Func} {args : List Value} {v : Value} (hv : HF v) (h : sxFnF X d fn args ⟨.leaf, 0⟩ (leafK (fun v2 => v2 = v) (fun v2 A2 => Frz A2 v2 v))) : Walk X.E fn args v := by
 unfold sxFnF at h
 split at h
 · rename_i c hc
   split at h
   · rename_i F hF
     cases hb : Nat.ble args.length fn.ntmps with
     | false => rw [hb] at h; exact h.elim
     | true =>
       rw [hb] at h
       refine ⟨c, F, hc, hb, hF, (sx_ok hX (d := d) h).mono fun ex F' A' q => ?_⟩
       obtain ⟨q1, v2, q2, q3⟩ := finK_ok q
       refine ⟨q1, v2, q2, ?_⟩
       rcases leafK_ok q3 with q3 | q3
       · rw [q3]; exact .same hv
       · exact q3
   · exact h.elim
 · exact h.elim
theorem any_drop {α : Type} {p : α → Bool} {l : List α} {i : Nat} (h : i < l.length) : (l.drop i).any p = (p l[i] || (l.drop (i + 1)).any p) := by
 rw [List.drop_eq_getElem_cons h]; rfl
theorem any_end {α : Type} {p : α → Bool} {l : List α} {i : Nat} (h : l.length ≤ i) : (l.drop i).any p = false := by
 rw [List.drop_eq_nil_of_le h]; rfl
def ixF {α : Type} (p : α → Bool) : List α → Nat → Int
 | [], _ => -1
 | x :: l, i => bif p x then (i : Int) else ixF p l (i + 1)
theorem ixF_step {α : Type} {p : α → Bool} {l : List α} {i : Nat} (h : i < l.length) : ixF p (l.drop i) i = bif p l[i] then (i : Int) else ixF p (l.drop (i + 1)) (i + 1) := by
 rw [List.drop_eq_getElem_cons h]; rfl
theorem ixF_end {α : Type} {p : α → Bool} {l : List α} {i : Nat} (h : l.length ≤ i) : ixF p (l.drop i) i = -1 := by
 rw [List.drop_eq_nil_of_le h]; rfl
theorem ixF_neg {α : Type} {p : α → Bool} : ∀ {l : List α} {i : Nat}, (0 ≤ ixF p l i) ↔ l.any p = true
 | [], i => by simp [ixF]
 | x :: l, i => by
   simp only [ixF, List.any_cons]
   cases hp : p x with
   | true => simp
   | false => simpa using ixF_neg (l := l)
end
end Go.T9

/- A part of the proof. -/
import Derived.Test.YtibbcafgmjcilaaGreatDoorX3
import Derived.KernelRfl
set_option maxRecDepth 1000000
set_option linter.unusedVariables false
set_option linter.unusedSimpArgs false
set_option maxHeartbeats 4000000
namespace Go.T9
open Go Go.AM Go.MK
noncomputable section
theorem jNa_nf (K : KV) (els : List Go.Value) (nm : SB) : jNa K els nm = (HF (Value.func (Go.Fn.yield (2 : Nat)) (Array.mk els) (Array.mk [])) ∧ LAtZ XNm (1 : Nat) (Go.Func.ntmps Go.Proofs.Tryz.f44) (AH.mk (AH.t (AH.mk T.leaf (0 : Nat))) (0 : Nat)) (bodyOf Go.Proofs.Tryz.f44) [(1 : Nat), (0 : Nat), (1 : Nat), (0 : Nat)] (finK (SX.E XNm) (Array.toList (Go.Func.results Go.Proofs.Tryz.f44)) K) (T.node (T.node (T.node T.leaf Option.none (T.node T.leaf (Option.some (Value.int IntKind.i64 (↑(List.length els) : Int))) T.leaf)) (Option.some (Value.string nm)) T.leaf) Option.none (T.node (T.node T.leaf Option.none (T.node T.leaf (Option.some (Value.int IntKind.i64 (0 : Int))) T.leaf)) (Option.some (Value.bool Bool.false)) (T.node (T.node T.leaf (Option.some (Value.func (Go.Fn.yield (2 : Nat)) (Array.mk els) (Array.mk []))) T.leaf) Option.none T.leaf))) (AH.mk T.leaf (0 : Nat))) := by kernel_rfl
theorem jNa1_nf (K : KV) (again : KF) (nm : SB) (els : List Go.Value) (i : Nat) : jNa1 K again nm els i = (Sp (decide ((↑i : Int) < (↑(List.length els) : Int))) (((0 : Int) ≤ (↑i : Int) ∧ (↑i : Int) < (↑(List.length els) : Int)) ∧ nth els (Int.toNat (↑(Int.toNat (↑i : Int)) : Int)) = Option.some (Value.agg (Array.mk [Value.string (paAt els (↑(Int.toNat (↑i : Int)) : Int)), Value.string (pbAt els (↑(Int.toNat (↑i : Int)) : Int))])) ∧ Sp (eqL (Array.toList (ByteArray.data (paAt els (↑(Int.toNat (↑i : Int)) : Int)))) (Array.toList (ByteArray.data nm))) (K (Value.tuple (Array.mk [Value.bool Bool.true, Value.string (pbAt els (↑(Int.toNat (↑i : Int)) : Int))])) (AH.mk (T.node T.leaf (Option.some (AObj.cells [Value.string (paAt els (↑(Int.toNat (↑i : Int)) : Int)), Value.string (pbAt els (↑(Int.toNat (↑i : Int)) : Int))] (82 : Nat))) T.leaf) (5 : Nat))) (HF (Value.func (Go.Fn.yield (2 : Nat)) (Array.mk els) (Array.mk [])) ∧ again (T.node (T.node (T.node T.leaf Option.none (T.node T.leaf (Option.some (Value.int IntKind.i64 (↑(List.length els) : Int))) T.leaf)) (Option.some (Value.string nm)) T.leaf) Option.none (T.node (T.node T.leaf Option.none (T.node T.leaf (Option.some (Value.int IntKind.i64 (IntKind.wrap IntKind.i64 ((↑i : Int) + (1 : Int))))) T.leaf)) (Option.some (Value.bool Bool.false)) (T.node (T.node T.leaf (Option.some (Value.func (Go.Fn.yield (2 : Nat)) (Array.mk els) (Array.mk []))) T.leaf) Option.none T.leaf))) (AH.mk T.leaf (0 : Nat)))) (K (Value.tuple (Array.mk [Value.bool Bool.false, Value.string (ByteArray.mk (Array.mk []))])) (AH.mk T.leaf (0 : Nat)))) := by kernel_rfl
def naR (l : List (SB × SB)) (nm : SB) : Value := .tuple ⟨[.bool (fv l nm.data.toList).isSome, .string (vv l nm)]⟩
theorem fv_drop {l : List (SB × SB)} {i : Nat} (h : i < l.length) (x : List UInt8) : fv (l.drop i) x = if l[i].1.data.toList = x then some l[i].2 else fv (l.drop (i + 1)) x := by
  rw [List.drop_eq_getElem_cons h]; rfl
theorem Na_loop (l : List (SB × SB)) (hl : l.length ≤ 9223372036854775807) (nm : SB) : LAtZ XNm 1 ntNm ⟨.leaf, 0⟩ bdNm [1, 0, 1, 0] (kFinNm (fun v A => Frz A v (naR l nm))) (frNa nm (pv l) 0) ⟨.leaf, 0⟩ := by
  refine LAtZ.step XNm_ok rfl [] [] [] [1, 2, 10, 11, 12] (by kernel_rfl) (fun k F A => ∃ i : Nat, F = frNa nm (pv l) i ∧ A = ⟨.leaf, 0⟩ ∧ i + k = l.length ∧ fv l nm.data.toList = fv (l.drop i) nm.data.toList) ?_ (k := l.length) ⟨0, rfl, rfl, by simp, rfl⟩
  rintro k F A ⟨i, rfl, rfl, hk, hx⟩
  refine (jNa1_nf _ _ nm _ i).mpr ?_
  have HT : ∀ (b : Bool) (s : SB), HF (.tuple ⟨[.bool b, .string s]⟩) := fun b s => .tuple (HF.cons (.scal rfl) (HF.cons (.scal rfl) HF.nil))
  refine Sp.intro (fun c => ?_) (fun c => ?_)
  · have hlt : i < l.length := by simpa [pv_len] using c
    have hw : IntKind.i64.wrap ((i : Int) + 1) = ((i + 1 : Nat) : Int) := by rw [i64_in (by omega) (by omega)]; rfl
    rw [fv_drop hlt] at hx
    simp only [Int.toNat_natCast, pa_at hlt, pb_at hlt, hw]
    refine ⟨by rw [pv_len]; omega, pv_nth hlt, Sp.intro (fun c2 => ?_) (fun c2 => ⟨HF_dpv l, k - 1, by omega, i + 1, rfl, by first | trivial | rfl, by omega, ?_⟩)⟩
    · rw [if_pos ((eqL_iff _ _).1 c2)] at hx
      have e : naR l nm = .tuple ⟨[.bool true, .string l[i].2]⟩ := by unfold naR vv; rw [hx]; rfl
      rw [e]; exact .same (HT _ _)
    · rw [if_neg (fun q => by rw [(eqL_iff _ _).2 q] at c2; cases c2)] at hx
      exact hx
  · have hn : l.drop i = [] := List.drop_eq_nil_of_le (by simp [pv_len] at c; omega)
    rw [hn] at hx
    have e : naR l nm = .tuple ⟨[.bool false, .string (mkBytes [])]⟩ := by unfold naR vv; rw [hx]; rfl
    rw [e]; exact .same (HT _ _)
theorem na_walk (l : List (SB × SB)) (hl : l.length ≤ 9223372036854775807) (nm : SB) : WalkZ envX Proofs.Tryz.f44 [dat 2 (pv l), .string nm, .bool false] ⟨.leaf, 0⟩ (naR l nm) := by
  refine sxFnZ_walk XNm_ok (d := 1) ((jNa_nf _ _ nm).mpr ⟨HF_dpv l, ?_⟩)
  exact Na_loop l hl nm
def naX : List Value → Option Value
  | [.func (.yield 2) ⟨els⟩ ⟨[]⟩, .string nm, .bool false] => some (.tuple ⟨[.bool (fv (unP els) nm.data.toList).isSome, .string (vv (unP els) nm)]⟩)
  | _ => none
def naPre : List Value → Option Prop
  | [.func (.yield 2) ⟨els⟩ ⟨[]⟩, .string nm, .bool false] => some (∃ l, els = pv l ∧ SmP l)
  | _ => none
theorem na_tab : ∀ args A p v A', pureR naPre naX args A = some (p, v, A') → PH p → CallAt envX 44 args A v A' := walk_tab envX_ok envX_gl (fn := Proofs.Tryz.f44) rfl fun args v h hp => by
  unfold naX at h
  split at h
  · simp only [Option.some.injEq] at h
    subst h
    obtain ⟨l, rfl, hl⟩ := hp
    refine ⟨HF.cons (HF_dpv l) (HF.cons (.scal rfl) (HF.cons (.scal rfl) HF.nil)), ?_⟩
    rw [unP_pv]
    exact na_walk l (by have := hl.1; omega) _
  · cases h
def tabRf : Tab := [(35, pureR (fun _ => none) qcX), (27, pureR nmPre nmX), (44, pureR naPre naX)]
theorem tabRf_ok : TabOk envX tabRf := .cons qc_tab (.cons (toX is_tab) (.cons na_tab .nil))
def XRf : SX := ⟨envX, tabRf, elL, fun k => bif Nat.beq k 5 then .autoN [] [] [5] [1, 6, 24, 25, 26] else .autoN [] [] [5] [1, 11, 35, 36, 37]⟩
theorem XRf_ok : XRf.Ok := ⟨envX_ok, envX_sym, envX_gl, tabRf_ok⟩
def frRf1 (vs ps : List Value) (i : Nat) : T Value := (.node (.node .leaf (some (dat 2 vs)) (.node (.node .leaf none (.node .leaf (some (.int .i64 vs.length)) .leaf)) none .leaf)) none (.node (.node (.node .leaf none (.node .leaf (some (dat 2 vs)) .leaf)) none .leaf) none (.node (.node .leaf none (.node .leaf (some (.int .i64 i)) .leaf)) (some (dat 2 ps)) .leaf)))
def frRf2 (vs ps : List Value) (i : Nat) : T Value := (.node (.node (.node .leaf none (.node (.node (.node .leaf (some (dat 2 ps)) .leaf) none .leaf) (some (.slice none 0 0)) .leaf)) (some (dat 2 vs)) (.node .leaf none (.node (.node (.node .leaf (some (.int .i64 i)) .leaf) none .leaf) none .leaf))) none (.node (.node .leaf none (.node (.node (.node .leaf (some (.int .i64 ps.length)) .leaf) none .leaf) none .leaf)) none .leaf))
def frRf3 (vs ps : List Value) (i n : Nat) : T Value := (.node (.node (.node .leaf none (.node (.node (.node .leaf (some (dat 2 ps)) .leaf) none .leaf) (some (.slice (some ⟨0, 0, none⟩) n unk)) .leaf)) (some (dat 2 vs)) (.node .leaf none (.node (.node (.node .leaf (some (.int .i64 i)) .leaf) none .leaf) none .leaf))) none (.node (.node .leaf none (.node (.node (.node .leaf (some (.int .i64 ps.length)) .leaf) none .leaf) none .leaf)) none .leaf))
def hRf3 (bs : List Value) : AH := ⟨.node .leaf (some (.cells bs 5)) .leaf, 1⟩
def ntRf : Nat := Func.ntmps Proofs.Tryz.f19
def bdRf : Code := bodyOf Proofs.Tryz.f19
def kFinRf (K : KV) : KX := finK XRf.E (Proofs.Tryz.f19.results).toList K
def jRf (K : KV) (s : SB) (vs : List Value) : Prop := sxFnZ XRf 1 Proofs.Tryz.f19 [.string s, dat 2 vs] ⟨.leaf, 0⟩ K
def jRf1 (K : KV) (again : KF) (vs ps : List Value) (i : Nat) : Prop := sxStepZ XRf 1 ntRf ⟨.leaf, 0⟩ bdRf [1, 1, 1, 0, 1, 0] (kFinRf K) [] [] [5] [1, 6, 24, 25, 26] again (frRf1 vs ps i) ⟨.leaf, 0⟩
def jRf2 (K : KV) (again : KF) (vs ps : List Value) (i : Nat) : Prop := sxStepZ XRf 1 ntRf ⟨.leaf, 0⟩ bdRf [1, 1, 1, 1, 1, 0, 1, 0] (kFinRf K) [] [] [5] [1, 11, 35, 36, 37] again (frRf2 vs ps i) ⟨.leaf, 0⟩
def jRf3 (K : KV) (again : KF) (vs ps : List Value) (i n : Nat) (bs : List Value) : Prop := sxStepZ XRf 1 ntRf ⟨.leaf, 0⟩ bdRf [1, 1, 1, 1, 1, 0, 1, 0] (kFinRf K) [] [] [5] [1, 11, 35, 36, 37] again (frRf3 vs ps i n) (hRf3 bs)
end
end Go.T9
set_option maxRecDepth 1000000
set_option linter.unusedVariables false
set_option linter.unusedSimpArgs false
set_option maxHeartbeats 4000000
namespace Go.T9
open Go Go.AM Go.MK
noncomputable section
theorem jRf_nf (K : KV) (s : SB) (vs : List Go.Value) : jRf K s vs = (Sp (!decide (qE s = (0 : Int))) (K (Value.tuple (Array.mk [Value.string (ByteArray.mk (Array.mk [])), Value.int IntKind.i64 (qE s)])) (AH.mk T.leaf (0 : Nat))) (HF (Value.func (Go.Fn.yield (2 : Nat)) (Array.mk vs) (Array.mk [])) ∧ HF (Value.func (Go.Fn.yield (2 : Nat)) (Array.mk (pv (qL s))) (Array.mk [])) ∧ HF (Value.func (Go.Fn.yield (2 : Nat)) (Array.mk vs) (Array.mk [])) ∧ LAtZ XRf (1 : Nat) (Go.Func.ntmps Go.Proofs.Tryz.f19) (AH.mk (AH.t (AH.mk T.leaf (0 : Nat))) (0 : Nat)) (bodyOf Go.Proofs.Tryz.f19) [(1 : Nat), (1 : Nat), (1 : Nat), (0 : Nat), (1 : Nat), (0 : Nat)] (finK (SX.E XRf) (Array.toList (Go.Func.results Go.Proofs.Tryz.f19)) K) (T.node (T.node T.leaf (Option.some (Value.func (Go.Fn.yield (2 : Nat)) (Array.mk vs) (Array.mk []))) (T.node (T.node T.leaf Option.none (T.node T.leaf (Option.some (Value.int IntKind.i64 (↑(List.length vs) : Int))) T.leaf)) Option.none T.leaf)) Option.none (T.node (T.node (T.node T.leaf Option.none (T.node T.leaf (Option.some (Value.func (Go.Fn.yield (2 : Nat)) (Array.mk vs) (Array.mk []))) T.leaf)) Option.none T.leaf) Option.none (T.node (T.node T.leaf Option.none (T.node T.leaf (Option.some (Value.int IntKind.i64 (0 : Int))) T.leaf)) (Option.some (Value.func (Go.Fn.yield (2 : Nat)) (Array.mk (pv (qL s))) (Array.mk []))) T.leaf))) (AH.mk T.leaf (0 : Nat)))) := by kernel_rfl
theorem jRf1_nf (K : KV) (again : KF) (vs : List Go.Value) (ps : List Go.Value) (i : Nat) : jRf1 K again vs ps i = (Sp (decide ((↑i : Int) < (↑(List.length vs) : Int))) (((0 : Int) ≤ (↑i : Int) ∧ (↑i : Int) < (↑(List.length vs) : Int)) ∧ nth vs (Int.toNat (↑(Int.toNat (↑i : Int)) : Int)) = Option.some (Value.agg (Array.mk [Value.string (paAt vs (↑(Int.toNat (↑i : Int)) : Int)), Value.string (pbAt vs (↑(Int.toNat (↑i : Int)) : Int))])) ∧ ByteArray.size (paAt vs (↑(Int.toNat (↑i : Int)) : Int)) < (9223372036854775808 : Nat) ∧ Sp (!nameB (paAt vs (↑(Int.toNat (↑i : Int)) : Int))) (K (Value.tuple (Array.mk [Value.string (ByteArray.mk (Array.mk [])), Value.int IntKind.i64 (8 : Int)])) (AH.mk (T.node T.leaf (Option.some (AObj.cells [Value.string (paAt vs (↑(Int.toNat (↑i : Int)) : Int)), Value.string (pbAt vs (↑(Int.toNat (↑i : Int)) : Int))] (82 : Nat))) T.leaf) (1 : Nat))) (HF (Value.func (Go.Fn.yield (2 : Nat)) (Array.mk vs) (Array.mk [])) ∧ HF (Value.func (Go.Fn.yield (2 : Nat)) (Array.mk ps) (Array.mk [])) ∧ HF (Value.func (Go.Fn.yield (2 : Nat)) (Array.mk vs) (Array.mk [])) ∧ again (T.node (T.node T.leaf (Option.some (Value.func (Go.Fn.yield (2 : Nat)) (Array.mk vs) (Array.mk []))) (T.node (T.node T.leaf Option.none (T.node T.leaf (Option.some (Value.int IntKind.i64 (↑(List.length vs) : Int))) T.leaf)) Option.none T.leaf)) Option.none (T.node (T.node (T.node T.leaf Option.none (T.node T.leaf (Option.some (Value.func (Go.Fn.yield (2 : Nat)) (Array.mk vs) (Array.mk []))) T.leaf)) Option.none T.leaf) Option.none (T.node (T.node T.leaf Option.none (T.node T.leaf (Option.some (Value.int IntKind.i64 (IntKind.wrap IntKind.i64 ((↑i : Int) + (1 : Int))))) T.leaf)) (Option.some (Value.func (Go.Fn.yield (2 : Nat)) (Array.mk ps) (Array.mk []))) T.leaf))) (AH.mk T.leaf (0 : Nat)))) (HF (Value.func (Go.Fn.yield (2 : Nat)) (Array.mk vs) (Array.mk [])) ∧ HF (Value.func (Go.Fn.yield (2 : Nat)) (Array.mk ps) (Array.mk [])) ∧ LAtZ XRf (1 : Nat) ntRf (AH.mk T.leaf (0 : Nat)) bdRf [(1 : Nat), (1 : Nat), (1 : Nat), (1 : Nat), (1 : Nat), (0 : Nat), (1 : Nat), (0 : Nat)] (kFinRf K) (T.node (T.node (T.node T.leaf Option.none (T.node (T.node (T.node T.leaf (Option.some (Value.func (Go.Fn.yield (2 : Nat)) (Array.mk ps) (Array.mk []))) T.leaf) Option.none T.leaf) (Option.some (Value.slice Option.none (0 : Nat) (0 : Nat))) T.leaf)) (Option.some (Value.func (Go.Fn.yield (2 : Nat)) (Array.mk vs) (Array.mk []))) (T.node T.leaf Option.none (T.node (T.node (T.node T.leaf (Option.some (Value.int IntKind.i64 (0 : Int))) T.leaf) Option.none T.leaf) Option.none T.leaf))) Option.none (T.node (T.node T.leaf Option.none (T.node (T.node (T.node T.leaf (Option.some (Value.int IntKind.i64 (↑(List.length ps) : Int))) T.leaf) Option.none T.leaf) Option.none T.leaf)) Option.none T.leaf)) (AH.mk T.leaf (0 : Nat)))) := by kernel_rfl
theorem jRf2_nf (K : KV) (again : KF) (vs : List Go.Value) (ps : List Go.Value) (i : Nat) : jRf2 K again vs ps i = (Sp (decide ((↑i : Int) < (↑(List.length ps) : Int))) (((0 : Int) ≤ (↑i : Int) ∧ (↑i : Int) < (↑(List.length ps) : Int)) ∧ nth ps (Int.toNat (↑(Int.toNat (↑i : Int)) : Int)) = Option.some (Value.agg (Array.mk [Value.string (paAt ps (↑(Int.toNat (↑i : Int)) : Int)), Value.string (pbAt ps (↑(Int.toNat (↑i : Int)) : Int))])) ∧ Sp (!eqL (Array.toList (ByteArray.data (pbAt ps (↑(Int.toNat (↑i : Int)) : Int)))) (Array.toList (ByteArray.data (ByteArray.mk #[])))) ((∃ (l : List (SB × SB)), vs = pv l ∧ SmP l) ∧ Sp (decide ((1000000 : Int) < IntKind.wrap IntKind.i64 ((0 : Int) + (↑(ByteArray.size (vv (unP vs) (pbAt ps (↑(Int.toNat (↑i : Int)) : Int)))) : Int)))) (K (Value.tuple (Array.mk [Value.string (ByteArray.mk (Array.mk [])), Value.int IntKind.i64 (3 : Int)])) (AH.mk (T.node T.leaf (Option.some (AObj.cells [Value.string (paAt ps (↑(Int.toNat (↑i : Int)) : Int)), Value.string (pbAt ps (↑(Int.toNat (↑i : Int)) : Int))] (75 : Nat))) T.leaf) (1 : Nat))) (Sp (Nat.beq (ByteArray.size (vv (unP vs) (pbAt ps (↑(Int.toNat (↑i : Int)) : Int)))) (0 : Nat)) (HF (Value.func (Go.Fn.yield (2 : Nat)) (Array.mk vs) (Array.mk [])) ∧ HF (Value.func (Go.Fn.yield (2 : Nat)) (Array.mk ps) (Array.mk [])) ∧ again (T.node (T.node (T.node T.leaf Option.none (T.node (T.node (T.node T.leaf (Option.some (Value.func (Go.Fn.yield (2 : Nat)) (Array.mk ps) (Array.mk []))) T.leaf) Option.none T.leaf) (Option.some (Value.slice Option.none (0 : Nat) (0 : Nat))) T.leaf)) (Option.some (Value.func (Go.Fn.yield (2 : Nat)) (Array.mk vs) (Array.mk []))) (T.node T.leaf Option.none (T.node (T.node (T.node T.leaf (Option.some (Value.int IntKind.i64 (IntKind.wrap IntKind.i64 ((↑i : Int) + (1 : Int))))) T.leaf) Option.none T.leaf) Option.none T.leaf))) Option.none (T.node (T.node T.leaf Option.none (T.node (T.node (T.node T.leaf (Option.some (Value.int IntKind.i64 (↑(List.length ps) : Int))) T.leaf) Option.none T.leaf) Option.none T.leaf)) Option.none T.leaf)) (AH.mk T.leaf (0 : Nat))) ((ByteArray.size (vv (unP vs) (pbAt ps (↑(Int.toNat (↑i : Int)) : Int))) ≤ (70368744177664 : Nat) ∧ ByteArray.size (vv (unP vs) (pbAt ps (↑(Int.toNat (↑i : Int)) : Int))) * (1 : Nat) ≤ (140737488355328 : Nat)) ∧ HF (Value.func (Go.Fn.yield (2 : Nat)) (Array.mk vs) (Array.mk [])) ∧ HF (Value.func (Go.Fn.yield (2 : Nat)) (Array.mk ps) (Array.mk [])) ∧ HF (Value.agg (Array.mk (List.map (fun (b : UInt8) => Value.int IntKind.u8 (↑(UInt8.toNat b) : Int)) (Array.toList (ByteArray.data (vv (unP vs) (pbAt ps (↑(Int.toNat (↑i : Int)) : Int)))))))) ∧ again (T.node (T.node (T.node T.leaf Option.none (T.node (T.node (T.node T.leaf (Option.some (Value.func (Go.Fn.yield (2 : Nat)) (Array.mk ps) (Array.mk []))) T.leaf) Option.none T.leaf) (Option.some (Value.slice (Option.some (Go.Addr.mk (0 : Nat) (0 : Nat) Option.none)) (ByteArray.size (vv (unP vs) (pbAt ps (↑(Int.toNat (↑i : Int)) : Int)))) (18446744073709551616 : Nat))) T.leaf)) (Option.some (Value.func (Go.Fn.yield (2 : Nat)) (Array.mk vs) (Array.mk []))) (T.node T.leaf Option.none (T.node (T.node (T.node T.leaf (Option.some (Value.int IntKind.i64 (IntKind.wrap IntKind.i64 ((↑i : Int) + (1 : Int))))) T.leaf) Option.none T.leaf) Option.none T.leaf))) Option.none (T.node (T.node T.leaf Option.none (T.node (T.node (T.node T.leaf (Option.some (Value.int IntKind.i64 (↑(List.length ps) : Int))) T.leaf) Option.none T.leaf) Option.none T.leaf)) Option.none T.leaf)) (AH.mk (T.node T.leaf (Option.some (AObj.cells (List.map (fun (b : UInt8) => Value.int IntKind.u8 (↑(UInt8.toNat b) : Int)) (Array.toList (ByteArray.data (vv (unP vs) (pbAt ps (↑(Int.toNat (↑i : Int)) : Int)))))) (5 : Nat))) T.leaf) (1 : Nat))))) (Sp (decide ((1000000 : Int) < IntKind.wrap IntKind.i64 ((0 : Int) + (↑(ByteArray.size (paAt ps (↑(Int.toNat (↑i : Int)) : Int))) : Int)))) (K (Value.tuple (Array.mk [Value.string (ByteArray.mk (Array.mk [])), Value.int IntKind.i64 (3 : Int)])) (AH.mk (T.node T.leaf (Option.some (AObj.cells [Value.string (paAt ps (↑(Int.toNat (↑i : Int)) : Int)), Value.string (pbAt ps (↑(Int.toNat (↑i : Int)) : Int))] (75 : Nat))) T.leaf) (1 : Nat))) (Sp (Nat.beq (ByteArray.size (paAt ps (↑(Int.toNat (↑i : Int)) : Int))) (0 : Nat)) (HF (Value.func (Go.Fn.yield (2 : Nat)) (Array.mk vs) (Array.mk [])) ∧ HF (Value.func (Go.Fn.yield (2 : Nat)) (Array.mk ps) (Array.mk [])) ∧ again (T.node (T.node (T.node T.leaf Option.none (T.node (T.node (T.node T.leaf (Option.some (Value.func (Go.Fn.yield (2 : Nat)) (Array.mk ps) (Array.mk []))) T.leaf) Option.none T.leaf) (Option.some (Value.slice Option.none (0 : Nat) (0 : Nat))) T.leaf)) (Option.some (Value.func (Go.Fn.yield (2 : Nat)) (Array.mk vs) (Array.mk []))) (T.node T.leaf Option.none (T.node (T.node (T.node T.leaf (Option.some (Value.int IntKind.i64 (IntKind.wrap IntKind.i64 ((↑i : Int) + (1 : Int))))) T.leaf) Option.none T.leaf) Option.none T.leaf))) Option.none (T.node (T.node T.leaf Option.none (T.node (T.node (T.node T.leaf (Option.some (Value.int IntKind.i64 (↑(List.length ps) : Int))) T.leaf) Option.none T.leaf) Option.none T.leaf)) Option.none T.leaf)) (AH.mk T.leaf (0 : Nat))) ((ByteArray.size (paAt ps (↑(Int.toNat (↑i : Int)) : Int)) ≤ (70368744177664 : Nat) ∧ ByteArray.size (paAt ps (↑(Int.toNat (↑i : Int)) : Int)) * (1 : Nat) ≤ (140737488355328 : Nat)) ∧ HF (Value.func (Go.Fn.yield (2 : Nat)) (Array.mk vs) (Array.mk [])) ∧ HF (Value.func (Go.Fn.yield (2 : Nat)) (Array.mk ps) (Array.mk [])) ∧ HF (Value.agg (Array.mk (List.map (fun (b : UInt8) => Value.int IntKind.u8 (↑(UInt8.toNat b) : Int)) (Array.toList (ByteArray.data (paAt ps (↑(Int.toNat (↑i : Int)) : Int))))))) ∧ again (T.node (T.node (T.node T.leaf Option.none (T.node (T.node (T.node T.leaf (Option.some (Value.func (Go.Fn.yield (2 : Nat)) (Array.mk ps) (Array.mk []))) T.leaf) Option.none T.leaf) (Option.some (Value.slice (Option.some (Go.Addr.mk (0 : Nat) (0 : Nat) Option.none)) (ByteArray.size (paAt ps (↑(Int.toNat (↑i : Int)) : Int))) (18446744073709551616 : Nat))) T.leaf)) (Option.some (Value.func (Go.Fn.yield (2 : Nat)) (Array.mk vs) (Array.mk []))) (T.node T.leaf Option.none (T.node (T.node (T.node T.leaf (Option.some (Value.int IntKind.i64 (IntKind.wrap IntKind.i64 ((↑i : Int) + (1 : Int))))) T.leaf) Option.none T.leaf) Option.none T.leaf))) Option.none (T.node (T.node T.leaf Option.none (T.node (T.node (T.node T.leaf (Option.some (Value.int IntKind.i64 (↑(List.length ps) : Int))) T.leaf) Option.none T.leaf) Option.none T.leaf)) Option.none T.leaf)) (AH.mk (T.node T.leaf (Option.some (AObj.cells (List.map (fun (b : UInt8) => Value.int IntKind.u8 (↑(UInt8.toNat b) : Int)) (Array.toList (ByteArray.data (paAt ps (↑(Int.toNat (↑i : Int)) : Int))))) (5 : Nat))) T.leaf) (1 : Nat)))))) (K (Value.tuple (Array.mk [Value.string (ByteArray.mk (Array.mk [])), Value.int IntKind.i64 (0 : Int)])) (AH.mk T.leaf (0 : Nat)))) := by kernel_rfl
theorem jRf3_nf (K : KV) (again : KF) (vs : List Go.Value) (ps : List Go.Value) (i : Nat) (n : Nat) (bs : List Go.Value) : jRf3 K again vs ps i n bs = (Sp (decide ((↑i : Int) < (↑(List.length ps) : Int))) (((0 : Int) ≤ (↑i : Int) ∧ (↑i : Int) < (↑(List.length ps) : Int)) ∧ nth ps (Int.toNat (↑(Int.toNat (↑i : Int)) : Int)) = Option.some (Value.agg (Array.mk [Value.string (paAt ps (↑(Int.toNat (↑i : Int)) : Int)), Value.string (pbAt ps (↑(Int.toNat (↑i : Int)) : Int))])) ∧ Sp (!eqL (Array.toList (ByteArray.data (pbAt ps (↑(Int.toNat (↑i : Int)) : Int)))) (Array.toList (ByteArray.data (ByteArray.mk #[])))) ((∃ (l : List (SB × SB)), vs = pv l ∧ SmP l) ∧ Sp (decide ((1000000 : Int) < IntKind.wrap IntKind.i64 ((↑n : Int) + (↑(ByteArray.size (vv (unP vs) (pbAt ps (↑(Int.toNat (↑i : Int)) : Int)))) : Int)))) (K (Value.tuple (Array.mk [Value.string (ByteArray.mk (Array.mk [])), Value.int IntKind.i64 (3 : Int)])) (AH.mk (T.node (T.node T.leaf (Option.some (AObj.cells [Value.string (paAt ps (↑(Int.toNat (↑i : Int)) : Int)), Value.string (pbAt ps (↑(Int.toNat (↑i : Int)) : Int))] (75 : Nat))) T.leaf) (Option.some (AObj.cells bs (5 : Nat))) T.leaf) (2 : Nat))) (Sp (Nat.beq (ByteArray.size (vv (unP vs) (pbAt ps (↑(Int.toNat (↑i : Int)) : Int)))) (0 : Nat)) (HF (Value.func (Go.Fn.yield (2 : Nat)) (Array.mk vs) (Array.mk [])) ∧ HF (Value.func (Go.Fn.yield (2 : Nat)) (Array.mk ps) (Array.mk [])) ∧ HF (Value.agg (Array.mk bs)) ∧ again (T.node (T.node (T.node T.leaf Option.none (T.node (T.node (T.node T.leaf (Option.some (Value.func (Go.Fn.yield (2 : Nat)) (Array.mk ps) (Array.mk []))) T.leaf) Option.none T.leaf) (Option.some (Value.slice (Option.some (Go.Addr.mk (0 : Nat) (0 : Nat) Option.none)) n (18446744073709551616 : Nat))) T.leaf)) (Option.some (Value.func (Go.Fn.yield (2 : Nat)) (Array.mk vs) (Array.mk []))) (T.node T.leaf Option.none (T.node (T.node (T.node T.leaf (Option.some (Value.int IntKind.i64 (IntKind.wrap IntKind.i64 ((↑i : Int) + (1 : Int))))) T.leaf) Option.none T.leaf) Option.none T.leaf))) Option.none (T.node (T.node T.leaf Option.none (T.node (T.node (T.node T.leaf (Option.some (Value.int IntKind.i64 (↑(List.length ps) : Int))) T.leaf) Option.none T.leaf) Option.none T.leaf)) Option.none T.leaf)) (AH.mk (T.node T.leaf (Option.some (AObj.cells bs (5 : Nat))) T.leaf) (1 : Nat))) ((n + ByteArray.size (vv (unP vs) (pbAt ps (↑(Int.toNat (↑i : Int)) : Int))) ≤ (70368744177664 : Nat) ∧ (n + ByteArray.size (vv (unP vs) (pbAt ps (↑(Int.toNat (↑i : Int)) : Int)))) * (1 : Nat) ≤ (140737488355328 : Nat) ∧ n * (1 : Nat) ≤ List.length bs) ∧ HF (Value.func (Go.Fn.yield (2 : Nat)) (Array.mk vs) (Array.mk [])) ∧ HF (Value.func (Go.Fn.yield (2 : Nat)) (Array.mk ps) (Array.mk [])) ∧ HF (Value.agg (Array.mk (List.take (n * (1 : Nat)) bs ++ List.map (fun (b : UInt8) => Value.int IntKind.u8 (↑(UInt8.toNat b) : Int)) (Array.toList (ByteArray.data (vv (unP vs) (pbAt ps (↑(Int.toNat (↑i : Int)) : Int)))))))) ∧ again (T.node (T.node (T.node T.leaf Option.none (T.node (T.node (T.node T.leaf (Option.some (Value.func (Go.Fn.yield (2 : Nat)) (Array.mk ps) (Array.mk []))) T.leaf) Option.none T.leaf) (Option.some (Value.slice (Option.some (Go.Addr.mk (0 : Nat) (0 : Nat) Option.none)) (n + ByteArray.size (vv (unP vs) (pbAt ps (↑(Int.toNat (↑i : Int)) : Int)))) (18446744073709551616 : Nat))) T.leaf)) (Option.some (Value.func (Go.Fn.yield (2 : Nat)) (Array.mk vs) (Array.mk []))) (T.node T.leaf Option.none (T.node (T.node (T.node T.leaf (Option.some (Value.int IntKind.i64 (IntKind.wrap IntKind.i64 ((↑i : Int) + (1 : Int))))) T.leaf) Option.none T.leaf) Option.none T.leaf))) Option.none (T.node (T.node T.leaf Option.none (T.node (T.node (T.node T.leaf (Option.some (Value.int IntKind.i64 (↑(List.length ps) : Int))) T.leaf) Option.none T.leaf) Option.none T.leaf)) Option.none T.leaf)) (AH.mk (T.node T.leaf (Option.some (AObj.cells (List.take (n * (1 : Nat)) bs ++ List.map (fun (b : UInt8) => Value.int IntKind.u8 (↑(UInt8.toNat b) : Int)) (Array.toList (ByteArray.data (vv (unP vs) (pbAt ps (↑(Int.toNat (↑i : Int)) : Int)))))) (5 : Nat))) T.leaf) (1 : Nat))))) (Sp (decide ((1000000 : Int) < IntKind.wrap IntKind.i64 ((↑n : Int) + (↑(ByteArray.size (paAt ps (↑(Int.toNat (↑i : Int)) : Int))) : Int)))) (K (Value.tuple (Array.mk [Value.string (ByteArray.mk (Array.mk [])), Value.int IntKind.i64 (3 : Int)])) (AH.mk (T.node (T.node T.leaf (Option.some (AObj.cells [Value.string (paAt ps (↑(Int.toNat (↑i : Int)) : Int)), Value.string (pbAt ps (↑(Int.toNat (↑i : Int)) : Int))] (75 : Nat))) T.leaf) (Option.some (AObj.cells bs (5 : Nat))) T.leaf) (2 : Nat))) (Sp (Nat.beq (ByteArray.size (paAt ps (↑(Int.toNat (↑i : Int)) : Int))) (0 : Nat)) (HF (Value.func (Go.Fn.yield (2 : Nat)) (Array.mk vs) (Array.mk [])) ∧ HF (Value.func (Go.Fn.yield (2 : Nat)) (Array.mk ps) (Array.mk [])) ∧ HF (Value.agg (Array.mk bs)) ∧ again (T.node (T.node (T.node T.leaf Option.none (T.node (T.node (T.node T.leaf (Option.some (Value.func (Go.Fn.yield (2 : Nat)) (Array.mk ps) (Array.mk []))) T.leaf) Option.none T.leaf) (Option.some (Value.slice (Option.some (Go.Addr.mk (0 : Nat) (0 : Nat) Option.none)) n (18446744073709551616 : Nat))) T.leaf)) (Option.some (Value.func (Go.Fn.yield (2 : Nat)) (Array.mk vs) (Array.mk []))) (T.node T.leaf Option.none (T.node (T.node (T.node T.leaf (Option.some (Value.int IntKind.i64 (IntKind.wrap IntKind.i64 ((↑i : Int) + (1 : Int))))) T.leaf) Option.none T.leaf) Option.none T.leaf))) Option.none (T.node (T.node T.leaf Option.none (T.node (T.node (T.node T.leaf (Option.some (Value.int IntKind.i64 (↑(List.length ps) : Int))) T.leaf) Option.none T.leaf) Option.none T.leaf)) Option.none T.leaf)) (AH.mk (T.node T.leaf (Option.some (AObj.cells bs (5 : Nat))) T.leaf) (1 : Nat))) ((n + ByteArray.size (paAt ps (↑(Int.toNat (↑i : Int)) : Int)) ≤ (70368744177664 : Nat) ∧ (n + ByteArray.size (paAt ps (↑(Int.toNat (↑i : Int)) : Int))) * (1 : Nat) ≤ (140737488355328 : Nat) ∧ n * (1 : Nat) ≤ List.length bs) ∧ HF (Value.func (Go.Fn.yield (2 : Nat)) (Array.mk vs) (Array.mk [])) ∧ HF (Value.func (Go.Fn.yield (2 : Nat)) (Array.mk ps) (Array.mk [])) ∧ HF (Value.agg (Array.mk (List.take (n * (1 : Nat)) bs ++ List.map (fun (b : UInt8) => Value.int IntKind.u8 (↑(UInt8.toNat b) : Int)) (Array.toList (ByteArray.data (paAt ps (↑(Int.toNat (↑i : Int)) : Int))))))) ∧ again (T.node (T.node (T.node T.leaf Option.none (T.node (T.node (T.node T.leaf (Option.some (Value.func (Go.Fn.yield (2 : Nat)) (Array.mk ps) (Array.mk []))) T.leaf) Option.none T.leaf) (Option.some (Value.slice (Option.some (Go.Addr.mk (0 : Nat) (0 : Nat) Option.none)) (n + ByteArray.size (paAt ps (↑(Int.toNat (↑i : Int)) : Int))) (18446744073709551616 : Nat))) T.leaf)) (Option.some (Value.func (Go.Fn.yield (2 : Nat)) (Array.mk vs) (Array.mk []))) (T.node T.leaf Option.none (T.node (T.node (T.node T.leaf (Option.some (Value.int IntKind.i64 (IntKind.wrap IntKind.i64 ((↑i : Int) + (1 : Int))))) T.leaf) Option.none T.leaf) Option.none T.leaf))) Option.none (T.node (T.node T.leaf Option.none (T.node (T.node (T.node T.leaf (Option.some (Value.int IntKind.i64 (↑(List.length ps) : Int))) T.leaf) Option.none T.leaf) Option.none T.leaf)) Option.none T.leaf)) (AH.mk (T.node T.leaf (Option.some (AObj.cells (List.take (n * (1 : Nat)) bs ++ List.map (fun (b : UInt8) => Value.int IntKind.u8 (↑(UInt8.toNat b) : Int)) (Array.toList (ByteArray.data (paAt ps (↑(Int.toNat (↑i : Int)) : Int))))) (5 : Nat))) T.leaf) (1 : Nat)))))) (IsB bs (0 : Nat) n ∧ K (Value.tuple (Array.mk [Value.string (mkBytes (u8L bs (0 : Nat) n)), Value.int IntKind.i64 (0 : Int)])) (AH.mk (T.node T.leaf (Option.some (AObj.cells bs (5 : Nat))) T.leaf) (1 : Nat)))) := by kernel_rfl
theorem nameB_ne {s : SB} (h : nameB s = true) : s.data.toList ≠ [] := fun e => by
  unfold nameB at h
  simp only [Bool.and_eq_true, decide_eq_true_eq] at h
  have := tl_len s
  rw [e] at this
  simp at this
  omega
theorem fv_nil {l : List (SB × SB)} (h : vaOk l = true) : fv l [] = none := by
  cases hf : fv l [] with
  | none => rfl
  | some v =>
    obtain ⟨p, hp, _, e⟩ := fv_mem hf
    have := List.all_eq_true.1 h p hp
    exact absurd e (nameB_ne this)
def Kinds (l : List (SB × SB)) : Prop := ∀ p ∈ l, (p.2 = mkBytes [] ∨ (p.1 = mkBytes [] ∧ nameB p.2 = true)) ∧ p.1.size ≤ 1048576
def RI (vs l : List (SB × SB)) (k : Nat) (F : T Value) (A : AH) : Prop := ∃ (i : Nat) (acc : List UInt8), i + k = l.length ∧ acc.length ≤ 1000000 ∧ flF (vv vs) [] l = flF (vv vs) acc (l.drop i) ∧
  ((acc = [] ∧ F = frRf2 (pv vs) (pv l) i ∧ A = ⟨.leaf, 0⟩) ∨ (acc ≠ [] ∧ F = frRf3 (pv vs) (pv l) i (u8v acc).length ∧ A = hRf3 (u8v acc)))
def fRR (vs l : List (SB × SB)) : Value := .tuple ⟨[.string (flF (vv vs) [] l).1, .int .i64 (flF (vv vs) [] l).2]⟩
theorem Rf_stepE (vs l : List (SB × SB)) (hvs : SmP vs) (hok : vaOk vs = true) (hl : l.length ≤ 9223372036854775807) (hkd : Kinds l) (i k : Nat) (hk : i + k = l.length) (hx : flF (vv vs) [] l = flF (vv vs) [] (l.drop i)) :
    jRf2 (fun v A => Frz A v (fRR vs l)) (fun F' A' => ∃ m', m' < k ∧ RI vs l m' F' A') (pv vs) (pv l) i := by
  refine (jRf2_nf _ _ _ _ i).mpr ?_
  refine Sp.intro (fun c => ?_) (fun c => ?_)
  · have hlt : i < l.length := by simpa [pv_len] using c
    have hw : IntKind.i64.wrap ((i : Int) + 1) = ((i + 1 : Nat) : Int) := by rw [i64_in (by omega) (by omega)]; rfl
    simp only [Int.toNat_natCast, pa_at hlt, pb_at hlt, hw, unP_pv]
    rw [flF_at hlt] at hx
    obtain ⟨hkind, hts⟩ := hkd l[i] (List.getElem_mem hlt)
    have hX : 1000000 < (nac (vv vs) [] l[i]).length → ∀ A, Frz A (.tuple ⟨[.string (ByteArray.mk (Array.mk [])), .int .i64 3]⟩) (fRR vs l) := fun h A => by
      have e : fRR vs l = .tuple ⟨[.string (mkBytes []), .int .i64 3]⟩ := by unfold fRR; rw [hx, decide_eq_true h]; rfl
      rw [e]; exact .same (HF_t2 _ _)
    have hO : ¬ 1000000 < (nac (vv vs) [] l[i]).length → flF (vv vs) [] l = flF (vv vs) (nac (vv vs) [] l[i]) (l.drop (i + 1)) := fun h => by rw [hx, decide_eq_false h]; rfl
    have hN : ∀ bs n, ¬ 1000000 < (nac (vv vs) [] l[i]).length → nac (vv vs) [] l[i] ≠ [] → bs = u8v (nac (vv vs) [] l[i]) → n = (nac (vv vs) [] l[i]).length → HF (.agg ⟨bs⟩) ∧ ∃ m', m' < k ∧ RI vs l m' (frRf3 (pv vs) (pv l) (i + 1) n) (hRf3 bs) := fun bs n h1 h2 h3 h4 => by
      subst h3; subst h4
      exact ⟨.agg (HF_u8 _), k - 1, by omega, i + 1, nac (vv vs) [] l[i], by omega, by omega, hO h1, .inr ⟨h2, by rw [u8_len], rfl⟩⟩
    have hE : nac (vv vs) [] l[i] = [] → ∃ m', m' < k ∧ RI vs l m' (frRf2 (pv vs) (pv l) (i + 1)) ⟨.leaf, 0⟩ := fun h => by
      have e := hO (by rw [h]; simp)
      rw [h] at e
      exact ⟨k - 1, by omega, i + 1, [], by omega, by simp, e, .inl ⟨rfl, rfl, rfl⟩⟩
    refine ⟨by rw [pv_len]; omega, pv_nth hlt, Sp.intro (fun c1 => ⟨⟨vs, rfl, hvs⟩, ?_⟩) (fun c1 => ?_)⟩
    · have hne : ¬ l[i].2.data.toList = [] := fun e => by rw [e] at c1; cases c1
      have h1 : l[i].1 = mkBytes [] := by
        rcases hkind with h | h
        · exact absurd (by rw [h]; rfl) hne
        · exact h.1
      have hTs := vv_size (fun p hp => (hvs.2 p hp).2) l[i].2
      have hnac : nac (vv vs) ([] : List UInt8) l[i] = ([] : List UInt8) ++ (vv vs l[i].2).data.toList := by unfold nac; rw [h1]; simp [mkBytes]
      have hTl := tl_len (vv vs l[i].2)
      have hnl : (nac (vv vs) [] l[i]).length = ((vv vs l[i].2)).size := by rw [hnac, List.nil_append, hTl]
      have hw2 : IntKind.i64.wrap (0 + (((vv vs l[i].2)).size : Int)) = ((((vv vs l[i].2)).size : Nat) : Int) := by rw [i64_in (by omega) (by omega)]; omega
      simp only [hw2]
      refine Sp.intro (fun c3 => hX (by have := of_decide_eq_true c3; rw [hnl]; omega) _) (fun c3 => Sp.intro (fun c4 => ?_) (fun c4 => ?_))
      · exact ⟨HF_dpv vs, HF_dpv l, hE (by rw [hnac, tl_nil c4]; rfl)⟩
      · exact ⟨⟨by omega, by omega⟩, HF_dpv vs, HF_dpv l, hN _ _ (by have := of_decide_eq_false c3; rw [hnl]; omega) (by rw [hnac]; simpa using tl_ne c4) (by rw [hnac]; rfl) (by rw [hnl])⟩
    · have he : l[i].2.data.toList = [] := by
        cases hh : l[i].2.data.toList with
        | nil => rfl
        | cons x y => rw [hh] at c1; cases c1
      have hTs := hts
      have hnac : nac (vv vs) ([] : List UInt8) l[i] = ([] : List UInt8) ++ l[i].1.data.toList := by
        unfold nac vv; rw [he, fv_nil hok]; simp
      have hTl := tl_len l[i].1
      have hnl : (nac (vv vs) [] l[i]).length = (l[i].1).size := by rw [hnac, List.nil_append, hTl]
      have hw2 : IntKind.i64.wrap (0 + ((l[i].1).size : Int)) = (((l[i].1).size : Nat) : Int) := by rw [i64_in (by omega) (by omega)]; omega
      simp only [hw2]
      refine Sp.intro (fun c3 => hX (by have := of_decide_eq_true c3; rw [hnl]; omega) _) (fun c3 => Sp.intro (fun c4 => ?_) (fun c4 => ?_))
      · exact ⟨HF_dpv vs, HF_dpv l, hE (by rw [hnac, tl_nil c4]; rfl)⟩
      · exact ⟨⟨by omega, by omega⟩, HF_dpv vs, HF_dpv l, hN _ _ (by have := of_decide_eq_false c3; rw [hnl]; omega) (by rw [hnac]; simpa using tl_ne c4) (by rw [hnac]; rfl) (by rw [hnl])⟩
  · have hn : l.drop i = [] := List.drop_eq_nil_of_le (by simp [pv_len] at c; omega)
    rw [hn] at hx
    have hx : flF (vv vs) [] l = (mkBytes [], 0) := hx
    unfold fRR; rw [hx]; exact .same (HF_t2 _ _)
theorem Rf_stepN (vs l : List (SB × SB)) (hvs : SmP vs) (hok : vaOk vs = true) (hl : l.length ≤ 9223372036854775807) (hkd : Kinds l) (i k : Nat) (acc : List UInt8) (ha : acc ≠ []) (hal : acc.length ≤ 1000000) (hk : i + k = l.length) (hx : flF (vv vs) [] l = flF (vv vs) acc (l.drop i)) :
    jRf3 (fun v A => Frz A v (fRR vs l)) (fun F' A' => ∃ m', m' < k ∧ RI vs l m' F' A') (pv vs) (pv l) i (u8v acc).length (u8v acc) := by
  refine (jRf3_nf _ _ _ _ i _ _).mpr ?_
  refine Sp.intro (fun c => ?_) (fun c => ?_)
  · have hlt : i < l.length := by simpa [pv_len] using c
    have hw : IntKind.i64.wrap ((i : Int) + 1) = ((i + 1 : Nat) : Int) := by rw [i64_in (by omega) (by omega)]; rfl
    simp only [Int.toNat_natCast, pa_at hlt, pb_at hlt, hw, unP_pv]
    rw [flF_at hlt] at hx
    obtain ⟨hkind, hts⟩ := hkd l[i] (List.getElem_mem hlt)
    have hX : 1000000 < (nac (vv vs) acc l[i]).length → ∀ A, Frz A (.tuple ⟨[.string (ByteArray.mk (Array.mk [])), .int .i64 3]⟩) (fRR vs l) := fun h A => by
      have e : fRR vs l = .tuple ⟨[.string (mkBytes []), .int .i64 3]⟩ := by unfold fRR; rw [hx, decide_eq_true h]; rfl
      rw [e]; exact .same (HF_t2 _ _)
    have hO : ¬ 1000000 < (nac (vv vs) acc l[i]).length → flF (vv vs) [] l = flF (vv vs) (nac (vv vs) acc l[i]) (l.drop (i + 1)) := fun h => by rw [hx, decide_eq_false h]; rfl
    have hN : ∀ bs n, ¬ 1000000 < (nac (vv vs) acc l[i]).length → nac (vv vs) acc l[i] ≠ [] → bs = u8v (nac (vv vs) acc l[i]) → n = (nac (vv vs) acc l[i]).length → HF (.agg ⟨bs⟩) ∧ ∃ m', m' < k ∧ RI vs l m' (frRf3 (pv vs) (pv l) (i + 1) n) (hRf3 bs) := fun bs n h1 h2 h3 h4 => by
      subst h3; subst h4
      exact ⟨.agg (HF_u8 _), k - 1, by omega, i + 1, nac (vv vs) acc l[i], by omega, by omega, hO h1, .inr ⟨h2, by rw [u8_len], rfl⟩⟩
    have hul := u8_len acc
    refine ⟨by rw [pv_len]; omega, pv_nth hlt, Sp.intro (fun c1 => ⟨⟨vs, rfl, hvs⟩, ?_⟩) (fun c1 => ?_)⟩
    · have hne : ¬ l[i].2.data.toList = [] := fun e => by rw [e] at c1; cases c1
      have h1 : l[i].1 = mkBytes [] := by
        rcases hkind with h | h
        · exact absurd (by rw [h]; rfl) hne
        · exact h.1
      have hTs := vv_size (fun p hp => (hvs.2 p hp).2) l[i].2
      have hnac : nac (vv vs) acc l[i] = acc ++ (vv vs l[i].2).data.toList := by unfold nac; rw [h1]; simp [mkBytes]
      have hTl := tl_len (vv vs l[i].2)
      have hnl : (nac (vv vs) acc l[i]).length = acc.length + ((vv vs l[i].2)).size := by rw [hnac, List.length_append, hTl]
      have hw2 : IntKind.i64.wrap (((u8v acc).length : Int) + (((vv vs l[i].2)).size : Int)) = (((u8v acc).length + ((vv vs l[i].2)).size : Nat) : Int) := by rw [i64_in (by omega) (by omega)]; omega
      simp only [hw2]
      refine Sp.intro (fun c3 => hX (by have := of_decide_eq_true c3; rw [hnl]; omega) _) (fun c3 => Sp.intro (fun c4 => ?_) (fun c4 => ?_))
      · have z := Nat.eq_of_beq_eq_true c4
        exact ⟨HF_dpv vs, HF_dpv l, hN _ _ (by have := of_decide_eq_false c3; rw [hnl]; omega) (by rw [hnac]; simp [ha]) (by rw [hnac, tl_nil c4, List.append_nil]) (by rw [hnl]; omega)⟩
      · exact ⟨⟨by omega, by omega, by omega⟩, HF_dpv vs, HF_dpv l, hN _ _ (by have := of_decide_eq_false c3; rw [hnl]; omega) (by rw [hnac]; simp [ha]) (by rw [hnac]; exact takeU acc hul _) (by rw [hnl]; omega)⟩
    · have he : l[i].2.data.toList = [] := by
        cases hh : l[i].2.data.toList with
        | nil => rfl
        | cons x y => rw [hh] at c1; cases c1
      have hTs := hts
      have hnac : nac (vv vs) acc l[i] = acc ++ l[i].1.data.toList := by
        unfold nac vv; rw [he, fv_nil hok]; simp
      have hTl := tl_len l[i].1
      have hnl : (nac (vv vs) acc l[i]).length = acc.length + (l[i].1).size := by rw [hnac, List.length_append, hTl]
      have hw2 : IntKind.i64.wrap (((u8v acc).length : Int) + ((l[i].1).size : Int)) = (((u8v acc).length + (l[i].1).size : Nat) : Int) := by rw [i64_in (by omega) (by omega)]; omega
      simp only [hw2]
      refine Sp.intro (fun c3 => hX (by have := of_decide_eq_true c3; rw [hnl]; omega) _) (fun c3 => Sp.intro (fun c4 => ?_) (fun c4 => ?_))
      · have z := Nat.eq_of_beq_eq_true c4
        exact ⟨HF_dpv vs, HF_dpv l, hN _ _ (by have := of_decide_eq_false c3; rw [hnl]; omega) (by rw [hnac]; simp [ha]) (by rw [hnac, tl_nil c4, List.append_nil]) (by rw [hnl]; omega)⟩
      · exact ⟨⟨by omega, by omega, by omega⟩, HF_dpv vs, HF_dpv l, hN _ _ (by have := of_decide_eq_false c3; rw [hnl]; omega) (by rw [hnac]; simp [ha]) (by rw [hnac]; exact takeU acc hul _) (by rw [hnl]; omega)⟩
  · have hn : l.drop i = [] := List.drop_eq_nil_of_le (by simp [pv_len] at c; omega)
    rw [hn] at hx
    have hx : flF (vv vs) [] l = (mkBytes acc, 0) := hx
    have htp : 0 < acc.length := by rcases acc with _ | ⟨x, y⟩; exact absurd rfl ha; simp
    refine ⟨u8_is acc, ?_⟩
    unfold fRR; rw [hx, u8_L]; exact .same (HF_t2 _ _)
end
end Go.T9
set_option maxRecDepth 1000000
set_option linter.unusedVariables false
set_option linter.unusedSimpArgs false
set_option maxHeartbeats 4000000
namespace Go.T9
open Go Go.AM Go.MK
noncomputable section
theorem Rf2_loop (vs l : List (SB × SB)) (hvs : SmP vs) (hok : vaOk vs = true) (hl : l.length ≤ 9223372036854775807) (hkd : Kinds l) :
    LAtZ XRf 1 ntRf ⟨.leaf, 0⟩ bdRf [1, 1, 1, 1, 1, 0, 1, 0] (kFinRf (fun v A => Frz A v (fRR vs l))) (frRf2 (pv vs) (pv l) 0) ⟨.leaf, 0⟩ := by
  refine LAtZ.step XRf_ok rfl [] [] [5] [1, 11, 35, 36, 37] (by kernel_rfl) (RI vs l) ?_ (k := l.length) ⟨0, [], by simp, by simp, rfl, .inl ⟨rfl, rfl, rfl⟩⟩
  rintro k F A ⟨i, acc, hk, hal, hx, h | h⟩
  · obtain ⟨rfl, rfl, rfl⟩ := h
    exact Rf_stepE vs l hvs hok hl hkd i k hk hx
  · obtain ⟨h0, rfl, rfl⟩ := h
    exact Rf_stepN vs l hvs hok hl hkd i k acc h0 hal hk hx
def rfR (vs l : List (SB × SB)) : Value := bif vaOk vs then fRR vs l else .tuple ⟨[.string (mkBytes []), .int .i64 8]⟩
theorem Rf1_loop (vs l : List (SB × SB)) (hvs : SmP vs) (hl : l.length ≤ 9223372036854775807) (hkd : Kinds l) :
    LAtZ XRf 1 ntRf ⟨.leaf, 0⟩ bdRf [1, 1, 1, 0, 1, 0] (kFinRf (fun v A => Frz A v (rfR vs l))) (frRf1 (pv vs) (pv l) 0) ⟨.leaf, 0⟩ := by
  refine LAtZ.step XRf_ok rfl [] [] [5] [1, 6, 24, 25, 26] (by kernel_rfl) (fun k F A => ∃ i : Nat, F = frRf1 (pv vs) (pv l) i ∧ A = ⟨.leaf, 0⟩ ∧ i + k = vs.length ∧ vaOk (vs.take i) = true) ?_ (k := vs.length) ⟨0, rfl, rfl, by simp, rfl⟩
  rintro k F A ⟨i, rfl, rfl, hk, hm⟩
  refine (jRf1_nf _ _ _ _ i).mpr ?_
  refine Sp.intro (fun c => ?_) (fun c => ?_)
  · have hlt : i < vs.length := by simpa [pv_len] using c
    have hb := hvs.1
    have hw : IntKind.i64.wrap ((i : Int) + 1) = ((i + 1 : Nat) : Int) := by rw [i64_in (by omega) (by omega)]; rfl
    simp only [Int.toNat_natCast, pa_at hlt, pb_at hlt, hw]
    have hs := (hvs.2 _ (List.getElem_mem hlt)).1
    refine ⟨by rw [pv_len]; omega, pv_nth hlt, by omega, Sp.intro (fun c2 => ?_) (fun c2 => ⟨HF_dpv vs, HF_dpv l, HF_dpv vs, k - 1, by omega, i + 1, rfl, by first | trivial | rfl, by omega, ?_⟩)⟩
    · have e : rfR vs l = .tuple ⟨[.string (mkBytes []), .int .i64 8]⟩ := by unfold rfR; rw [vaOk_at hlt (by simpa using c2)]; rfl
      rw [e]; exact .same (HF_t2 _ _)
    · have hn : nameB vs[i].1 = true := by simpa using c2
      rw [vaOk_succ hlt, hm, hn]; rfl
  · have hge : vs.length ≤ i := by simp [pv_len] at c; omega
    rw [List.take_of_length_le hge] at hm
    have e : rfR vs l = fRR vs l := by unfold rfR; rw [hm]; rfl
    rw [e]
    exact ⟨HF_dpv vs, HF_dpv l, Rf2_loop vs l hvs hm hl hkd⟩
theorem findB_none {c : UInt8} : ∀ {l : List UInt8} {k : Nat}, findB c l k = none → ∀ x ∈ l, x.toNat ≠ c.toNat
  | [], _, _, x, hx => by cases hx
  | y :: l, k, h, x, hx => by
    unfold findB at h
    cases hb : Nat.beq y.toNat c.toNat with
    | true => rw [hb] at h; cases h
    | false =>
      rw [hb] at h
      rcases List.mem_cons.1 hx with rfl | hx
      · intro e; rw [e] at hb; simp at hb
      · exact findB_none h x hx
theorem no_dollar {s : SB} (h : ixB s 36 < 0) {i : Nat} (hi : i < s.size) : plB s i = true := by
  unfold ixB at h
  split at h
  · omega
  · rename_i hf
    have hl : i < s.data.toList.length := by rw [tl_len]; exact hi
    have hne := findB_none hf s.data.toList[i] (List.getElem_mem hl)
    have e : byteAt s (i : Int) = (s.data.toList[i].toNat : Int) := byteAt_in hl
    have : decide (byteAt s (i : Int) = 36) = false := by
      rw [e]; simp only [decide_eq_false_iff_not]
      intro q
      have h36 : ((36 : Int).toNat.toUInt8).toNat = 36 := rfl
      rw [h36] at hne
      omega
    unfold plB; rw [this]; rfl
theorem pcs_plain {s : SB} (h : ixB s 36 < 0) : ∀ (n i : Nat) (txt : List UInt8), s.size - i ≤ n → i ≤ s.size → pcs s i txt [] = ([(mkBytes (txt ++ s.data.toList.drop i), mkBytes [])], -1) := by
  intro n
  induction n with
  | zero =>
    intro i txt hn hi
    rw [pcs_end (by omega), List.drop_eq_nil_of_le (by rw [tl_len]; omega), List.append_nil]; rfl
  | succ n ih =>
    intro i txt hn hi
    by_cases hlt : i < s.size
    · have hl : i < s.data.toList.length := by rw [tl_len]; exact hlt
      rw [pcs_pl hlt (no_dollar h hlt), ih (i + 1) _ (by omega) (by omega), List.drop_eq_getElem_cons hl]
      have e : bAt s i = s.data.toList[i] := by simp only [bAt, List.getD_eq_getElem?_getD, List.getElem?_eq_getElem hl, Option.getD_some]
      rw [e, List.append_assoc]; rfl
    · rw [pcs_end hlt, List.drop_eq_nil_of_le (by rw [tl_len]; omega), List.append_nil]; rfl
theorem mkB_eta (s : SB) : mkBytes s.data.toList = s := by apply WideShapes.bytes_inj; simp [mkBytes]
theorem fl_plain {s : SB} {vs : List (SB × SB)} (h : ixB s 36 < 0) (hs : s.size ≤ 1000000) (hok : vaOk vs = true) : flF (vv vs) [] (pcL s) = (s, 0) := by
  unfold pcL
  rw [pcs_plain h s.size 0 [] (by omega) (by omega), List.drop_zero, List.nil_append, mkB_eta]
  have hv : vv vs (mkBytes []) = ByteArray.empty := by
    unfold vv
    have : (mkBytes []).data.toList = [] := rfl
    rw [this, fv_nil hok]; rfl
  have hn : nac (vv vs) [] (s, mkBytes []) = s.data.toList := by unfold nac; rw [hv]; simp
  show (bif decide (1000000 < (nac (vv vs) [] (s, mkBytes [])).length) then (mkBytes [], (3 : Int)) else (mkBytes (nac (vv vs) [] (s, mkBytes [])), 0)) = (s, 0)
  rw [hn, tl_len, decide_eq_false (by omega), mkB_eta]; rfl
theorem qL_pcL {s : SB} (h : qE s = 0) : qL s = pcL s := by
  have := qE_size h
  unfold qL pcL; rw [show decide (1000000 < (s.size : Int)) = false by simp; omega]; rfl
theorem rf_same (s : SB) (vs : List (SB × SB)) (h : qE s = 0) : rfR vs (pcL s) = .tuple ⟨[.string (FiS s vs), .int .i64 (FiE s vs)]⟩ := by
  unfold rfR FiS FiE
  rw [decide_eq_true h]
  cases ho : vaOk vs with
  | false => rfl
  | true =>
    simp only [cond_true, Bool.and_self]
    unfold fRR fiS fiE
    cases hd : decide (ixB s 36 < 0) with
    | false => rw [vl_vv]; rfl
    | true =>
      rw [fl_plain (of_decide_eq_true hd) (qE_size h) ho]; rfl
theorem Rf_walk (s : SB) (l : List (SB × SB)) (hl : SmP l) : WalkZ envX Proofs.Tryz.f19 [.string s, dat 2 (pv l)] ⟨.leaf, 0⟩ (.tuple ⟨[.string (FiS s l), .int .i64 (FiE s l)]⟩) := by
  refine sxFnZ_walk XRf_ok (d := 1) ((jRf_nf _ s _).mpr ?_)
  refine Sp.intro (fun c => ?_) (fun c => ⟨HF_dpv l, HF_dpv _, HF_dpv l, ?_⟩)
  · have c : decide (qE s = 0) = false := by simpa using c
    have e : (.tuple ⟨[.string (FiS s l), .int .i64 (FiE s l)]⟩ : Value) = .tuple ⟨[.string (mkBytes []), .int .i64 (qE s)]⟩ := by unfold FiS FiE; rw [c]; rfl
    rw [e]; exact .same (HF_t2 _ _)
  · have h : qE s = 0 := by simpa using c
    rw [← rf_same s l h, qL_pcL h]
    have hs := qE_size h
    exact Rf1_loop l (pcL s) hl (by have := pcL_len s; omega) (fun p hp => ⟨pcL_kind s p hp, by have := pcL_txt s p hp; omega⟩)
theorem Rf_tab : ∀ args A p v A', pureR FiPre FiX args A = some (p, v, A') → PH p → CallAt envX 19 args A v A' := walk_tab envX_ok envX_gl (fn := Proofs.Tryz.f19) rfl fun args v h hp => by
  unfold FiX at h
  split at h
  · simp only [Option.some.injEq] at h
    subst h
    obtain ⟨l, rfl, hl⟩ := hp
    refine ⟨HF.cons (.scal rfl) (HF.cons (HF_dpv l) HF.nil), ?_⟩
    rw [unP_pv]
    exact Rf_walk _ l hl
  · cases h
end
end Go.T9

/- A part of the proof. -/
import Derived.Test.YtibbcafgmjcilaaGreatDoorX2
import Derived.KernelRfl
import Derived.Test.YtibbcafgmjcilaaGreatDoorU1
import Derived.Test.YtibbcafgmjcilaaGreatDoorV
set_option maxRecDepth 1000000
set_option linter.unusedVariables false
set_option linter.unusedSimpArgs false
set_option maxHeartbeats 4000000
namespace Go.T9
open Go Go.AM Go.MK
noncomputable section
def tabR1 : Tab := [(34, pureR pcPre pcX), (35, pureR (fun _ => none) qcX)]
theorem tabR1_ok : TabOk envX tabR1 := .cons pc_tab (.cons qc_tab .nil)
def XR1 : SX := ⟨envX, tabR1, elA, fun _ => .unroll 0⟩
theorem XR1_ok : XR1.Ok := ⟨envX_ok, envX_sym, envX_gl, tabR1_ok⟩
def jCt (K : KV) (s : SB) : Prop := sxFn XR1 2 Proofs.Tryz.f13 [.string s] K
def jRt (K : KV) (s : SB) : Prop := sxFn XR1 2 Proofs.Tryz.f14 [.string s] K
end
end Go.T9
set_option maxRecDepth 1000000
set_option linter.unusedVariables false
set_option linter.unusedSimpArgs false
set_option maxHeartbeats 4000000
namespace Go.T9
open Go Go.AM Go.MK
noncomputable section
theorem jCt_nf (K : KV) (s : SB) : jCt K s = (Sp (decide ((1000000 : Int) < (↑(ByteArray.size s) : Int))) (K (Value.tuple (Array.mk [Value.int IntKind.i64 (0 : Int), Value.int IntKind.i64 (3 : Int)])) (AH.mk T.leaf (0 : Nat))) (ByteArray.size s ≤ (1000000 : Nat) ∧ Sp (decide ((0 : Int) ≤ Prod.snd (pcs s (0 : Nat) [] []))) (K (Value.tuple (Array.mk [Value.int IntKind.i64 (Prod.snd (pcs s (0 : Nat) [] [])), Value.int IntKind.i64 (6 : Int)])) (AH.mk T.leaf (0 : Nat))) (K (Value.tuple (Array.mk [Value.int IntKind.i64 (0 : Int), Value.int IntKind.i64 (0 : Int)])) (AH.mk T.leaf (0 : Nat))))) := by kernel_rfl
theorem jRt_nf (K : KV) (s : SB) : jRt K s = (K (Value.tuple (Array.mk [Value.int IntKind.i64 (qA s), Value.int IntKind.i64 (qE s)])) (AH.mk T.leaf (0 : Nat))) := by kernel_rfl
theorem ct_walk (s : SB) : Walk envX Proofs.Tryz.f13 [.string s] (.tuple ⟨[.int .i64 (qA s), .int .i64 (qE s)]⟩) := by
  refine sxFn_frz XR1_ok (d := 2) ((jCt_nf _ s).mpr ?_)
  have HT : ∀ a b : Int, HF (.tuple ⟨[.int .i64 a, .int .i64 b]⟩) := fun a b => .tuple (HF.cons (HFi _ _) (HF.cons (HFi _ _) HF.nil))
  refine Sp.intro (fun c => ?_) (fun c => ⟨by have := of_decide_eq_false c; omega, Sp.intro (fun c2 => ?_) (fun c2 => ?_)⟩)
  · have e : (.tuple ⟨[.int .i64 (qA s), .int .i64 (qE s)]⟩ : Value) = .tuple ⟨[.int .i64 0, .int .i64 3]⟩ := by unfold qA qE; rw [c]; rfl
    rw [e]; exact .same (HT _ _)
  · have h : decide ((pcs s 0 [] []).2 < 0) = false := by have := of_decide_eq_true c2; simp; omega
    have e : (.tuple ⟨[.int .i64 (qA s), .int .i64 (qE s)]⟩ : Value) = .tuple ⟨[.int .i64 (pcs s 0 [] []).2, .int .i64 6]⟩ := by unfold qA qE; rw [c, h]; rfl
    rw [e]; exact .same (HT _ _)
  · have h : decide ((pcs s 0 [] []).2 < 0) = true := by have := of_decide_eq_false c2; simp; omega
    have e : (.tuple ⟨[.int .i64 (qA s), .int .i64 (qE s)]⟩ : Value) = .tuple ⟨[.int .i64 0, .int .i64 0]⟩ := by unfold qA qE; rw [c, h]; rfl
    rw [e]; exact .same (HT _ _)
theorem rt_walk (s : SB) : Walk envX Proofs.Tryz.f14 [.string s] (.tuple ⟨[.int .i64 (qA s), .int .i64 (qE s)]⟩) := by
  refine sxFn_frz XR1_ok (d := 2) ((jRt_nf _ s).mpr ?_)
  exact .same (.tuple (HF.cons (HFi _ _) (HF.cons (HFi _ _) HF.nil)))
def ctX : List Value → Option Value
  | [.string s] => some (.tuple ⟨[.int .i64 (qA s), .int .i64 (qE s)]⟩)
  | _ => none
theorem ct_tab : ∀ args A p v A', pureR (fun _ => none) ctX args A = some (p, v, A') → PH p → CallAt envX 13 args A v A' := walk_tab envX_ok envX_gl (fn := Proofs.Tryz.f13) rfl fun args v h hp => by
  unfold ctX at h
  split at h
  · simp only [Option.some.injEq] at h
    subst h
    exact ⟨HF.cons (.scal rfl) HF.nil, ct_walk _⟩
  · cases h
theorem rt_tab : ∀ args A p v A', pureR (fun _ => none) ctX args A = some (p, v, A') → PH p → CallAt envX 14 args A v A' := walk_tab envX_ok envX_gl (fn := Proofs.Tryz.f14) rfl fun args v h hp => by
  unfold ctX at h
  split at h
  · simp only [Option.some.injEq] at h
    subst h
    exact ⟨HF.cons (.scal rfl) HF.nil, rt_walk _⟩
  · cases h
abbrev MS := List (List UInt8 × SB)
def vSt : Value → SB
  | .string s => s
  | _ => ByteArray.empty
def enS (m : MS) : EntsB := ents kS Value.string m
def mgS (es : EntsB) (k : Value) : SB := (aget (inv vS vSt es) (vS k)).getD ByteArray.empty
def mhS (es : EntsB) (k : Value) : Bool := (aget (inv vS vSt es) (vS k)).isSome
def msS (es : EntsB) (k v : Value) : EntsB := ents kS Value.string (aset (inv vS vSt es) (vS k) (vSt v))
def mnS (es : EntsB) (k v : Value) : Nat := (aset (inv vS vSt es) (vS k) (vSt v)).length
theorem koSS : KeyOk envX 77 9 9 kS (.string ByteArray.empty) := ⟨by kernel_rfl, fun _ => rfl, fun emp k => by cases emp <;> kernel_rfl, ⟨.string, by kernel_rfl, .inl fun a b => by
  show some (eqL a b) = _
  rw [eqL_dec]⟩, fun k => by simp [kS, Instr.sameBits, bytes_beq, (eqL_iff _ _).2 rfl], ⟨_, rfl, rfl, rfl⟩⟩
theorem invS (m : MS) : inv vS vSt (enS m) = m := inv_ents (fun _ => rfl) (fun _ => rfl) m
theorem mgS_e (m : MS) (s : SB) : mgS (enS m) (.string s) = (aget m s.data.toList).getD ByteArray.empty := by unfold mgS; rw [invS]; rfl
theorem mhS_e (m : MS) (s : SB) : mhS (enS m) (.string s) = (aget m s.data.toList).isSome := by unfold mhS; rw [invS]; rfl
theorem msS_e (m : MS) (s t : SB) : msS (enS m) (.string s) (.string t) = enS (aset m s.data.toList t) := by unfold msS; rw [invS]; rfl
theorem mnS_e (m : MS) (s t : SB) : mnS (enS m) (.string s) (.string t) = (aset m s.data.toList t).length := by unfold mnS; rw [invS]; rfl
theorem lookS (m : MS) (s : SB) : lookE envX 77 (enS m) (.string s) = some (.string ((aget m s.data.toList).getD ByteArray.empty), mhS (enS m) (.string s)) := by
  refine (look_ents koSS Value.string s.data.toList m).trans ?_
  rw [mhS_e]
  cases aget m s.data.toList <;> rfl
theorem updS (m : MS) (s t : SB) : mapUpdE envX 77 (enS m) m.length (.string s) (.string t) = some (enS (aset m s.data.toList t), (aset m s.data.toList t).length) := upd_ents koSS Value.string s.data.toList t m
theorem HF_enS (m : MS) : HF (.agg ⟨(enS m).map fun x => x.2.1⟩) := HF_ents (fun v => .scal rfl) m
def pcAt (els : List Value) (i : Int) : Value := match nth els i.toNat with | some (.agg ⟨[.string a, .string b]⟩) => .agg ⟨[.string a, .string b]⟩ | _ => .agg ⟨[.string ByteArray.empty, .string ByteArray.empty]⟩
def paAt (els : List Value) (i : Int) : SB := match nth els i.toNat with | some (.agg ⟨[.string a, .string b]⟩) => a | _ => ByteArray.empty
def pbAt (els : List Value) (i : Int) : SB := match nth els i.toNat with | some (.agg ⟨[.string a, .string b]⟩) => b | _ => ByteArray.empty
def elV : El := { El.of (fun sz t els i => some (.agg ⟨[.string (paAt els i), .string (pbAt els i)]⟩)) with ml := fun _ es k => some (.string (mgS es k), mhS es k), mu := fun _ es _ k v => some (msS es k v, mnS es k v) }
def tabV : Tab := [(25, pureR nmPre nmX)]
theorem tabV_ok : TabOk envX tabV := .cons (toX nm_tab) .nil
def XV : SX := ⟨envX, tabV, elV, fun _ => .autoN [] [] [] [4, 10, 11, 12]⟩
theorem XV_ok : XV.Ok := ⟨envX_ok, envX_sym, envX_gl, tabV_ok⟩
def frV (els : List Value) (i : Nat) : T Value := (.node (.node (.node .leaf none (.node .leaf (some (.int .i64 els.length)) .leaf)) none .leaf) none (.node (.node .leaf (some (.map (some 0))) (.node .leaf (some (.int .i64 i)) .leaf)) none (.node (.node .leaf (some (dat 2 els)) .leaf) none .leaf)))
def hV (es : EntsB) (c : Nat) : AH := ⟨.node .leaf (some (.map es c)) .leaf, 1⟩
def ntV : Nat := Func.ntmps Proofs.Tryz.f42
def bdV : Code := bodyOf Proofs.Tryz.f42
def kFinV (K : KV) : KX := finK XV.E (Proofs.Tryz.f42.results).toList K
def jVa (K : KV) (els : List Value) : Prop := sxFnZ XV 1 Proofs.Tryz.f42 [dat 2 els] ⟨.leaf, 0⟩ K
def jVa1 (K : KV) (again : KF) (els : List Value) (i : Nat) (es : EntsB) (c : Nat) : Prop := sxStepZ XV 1 ntV ⟨.leaf, 0⟩ bdV [1, 1, 0, 1, 0] (kFinV K) [] [] [] [4, 10, 11, 12] again (frV els i) (hV es c)
end
end Go.T9
set_option maxRecDepth 1000000
set_option linter.unusedVariables false
set_option linter.unusedSimpArgs false
set_option maxHeartbeats 4000000
namespace Go.T9
open Go Go.AM Go.MK
noncomputable section
theorem jVa_nf (K : KV) (els : List Go.Value) : jVa K els = (HF (Value.func (Go.Fn.yield (2 : Nat)) (Array.mk els) (Array.mk [])) ∧ HF (Value.agg (Array.mk [])) ∧ LAtZ XV (1 : Nat) (Go.Func.ntmps Go.Proofs.Tryz.f42) (AH.mk (AH.t (AH.mk T.leaf (0 : Nat))) (0 : Nat)) (bodyOf Go.Proofs.Tryz.f42) [(1 : Nat), (1 : Nat), (0 : Nat), (1 : Nat), (0 : Nat)] (finK (SX.E XV) (Array.toList (Go.Func.results Go.Proofs.Tryz.f42)) K) (T.node (T.node (T.node T.leaf Option.none (T.node T.leaf (Option.some (Value.int IntKind.i64 (↑(List.length els) : Int))) T.leaf)) Option.none T.leaf) Option.none (T.node (T.node T.leaf (Option.some (Value.map (Option.some (0 : Nat)))) (T.node T.leaf (Option.some (Value.int IntKind.i64 (0 : Int))) T.leaf)) Option.none (T.node (T.node T.leaf (Option.some (Value.func (Go.Fn.yield (2 : Nat)) (Array.mk els) (Array.mk []))) T.leaf) Option.none T.leaf))) (AH.mk (T.node T.leaf (Option.some (AObj.map [] (0 : Nat))) T.leaf) (1 : Nat))) := by kernel_rfl
theorem jVa1_nf (K : KV) (again : KF) (els : List Go.Value) (i : Nat) (es : EntsB) (c : Nat) : jVa1 K again els i es c = (Sp (decide ((↑i : Int) < (↑(List.length els) : Int))) (((0 : Int) ≤ (↑i : Int) ∧ (↑i : Int) < (↑(List.length els) : Int)) ∧ nth els (Int.toNat (↑(Int.toNat (↑i : Int)) : Int)) = Option.some (Value.agg (Array.mk [Value.string (paAt els (↑(Int.toNat (↑i : Int)) : Int)), Value.string (pbAt els (↑(Int.toNat (↑i : Int)) : Int))])) ∧ ByteArray.size (paAt els (↑(Int.toNat (↑i : Int)) : Int)) < (9223372036854775808 : Nat) ∧ Sp (!nameB (paAt els (↑(Int.toNat (↑i : Int)) : Int))) (K (Value.tuple (Array.mk [Value.map Option.none, Value.int IntKind.i64 (8 : Int)])) (AH.mk (T.node (T.node T.leaf (Option.some (AObj.cells [Value.string (paAt els (↑(Int.toNat (↑i : Int)) : Int)), Value.string (pbAt els (↑(Int.toNat (↑i : Int)) : Int))] (82 : Nat))) T.leaf) (Option.some (AObj.map es c)) T.leaf) (2 : Nat))) (lookE (SX.E XV) (77 : Nat) es (Value.string (paAt els (↑(Int.toNat (↑i : Int)) : Int))) = Option.some (Value.string (mgS es (Value.string (paAt els (↑(Int.toNat (↑i : Int)) : Int)))), mhS es (Value.string (paAt els (↑(Int.toNat (↑i : Int)) : Int)))) ∧ Sp (!mhS es (Value.string (paAt els (↑(Int.toNat (↑i : Int)) : Int)))) (mapUpdE (SX.E XV) (77 : Nat) es c (Value.string (paAt els (↑(Int.toNat (↑i : Int)) : Int))) (Value.string (pbAt els (↑(Int.toNat (↑i : Int)) : Int))) = Option.some (msS es (Value.string (paAt els (↑(Int.toNat (↑i : Int)) : Int))) (Value.string (pbAt els (↑(Int.toNat (↑i : Int)) : Int))), mnS es (Value.string (paAt els (↑(Int.toNat (↑i : Int)) : Int))) (Value.string (pbAt els (↑(Int.toNat (↑i : Int)) : Int)))) ∧ HF (Value.func (Go.Fn.yield (2 : Nat)) (Array.mk els) (Array.mk [])) ∧ HF (Value.agg (Array.mk (List.map (fun (x : Go.Value × Go.Value × Nat) => Prod.fst (Prod.snd x)) (msS es (Value.string (paAt els (↑(Int.toNat (↑i : Int)) : Int))) (Value.string (pbAt els (↑(Int.toNat (↑i : Int)) : Int))))))) ∧ again (T.node (T.node (T.node T.leaf Option.none (T.node T.leaf (Option.some (Value.int IntKind.i64 (↑(List.length els) : Int))) T.leaf)) Option.none T.leaf) Option.none (T.node (T.node T.leaf (Option.some (Value.map (Option.some (0 : Nat)))) (T.node T.leaf (Option.some (Value.int IntKind.i64 (IntKind.wrap IntKind.i64 ((↑i : Int) + (1 : Int))))) T.leaf)) Option.none (T.node (T.node T.leaf (Option.some (Value.func (Go.Fn.yield (2 : Nat)) (Array.mk els) (Array.mk []))) T.leaf) Option.none T.leaf))) (AH.mk (T.node T.leaf (Option.some (AObj.map (msS es (Value.string (paAt els (↑(Int.toNat (↑i : Int)) : Int))) (Value.string (pbAt els (↑(Int.toNat (↑i : Int)) : Int)))) (mnS es (Value.string (paAt els (↑(Int.toNat (↑i : Int)) : Int))) (Value.string (pbAt els (↑(Int.toNat (↑i : Int)) : Int)))))) T.leaf) (1 : Nat))) (HF (Value.func (Go.Fn.yield (2 : Nat)) (Array.mk els) (Array.mk [])) ∧ HF (Value.agg (Array.mk (List.map (fun (x : Go.Value × Go.Value × Nat) => Prod.fst (Prod.snd x)) es))) ∧ again (T.node (T.node (T.node T.leaf Option.none (T.node T.leaf (Option.some (Value.int IntKind.i64 (↑(List.length els) : Int))) T.leaf)) Option.none T.leaf) Option.none (T.node (T.node T.leaf (Option.some (Value.map (Option.some (0 : Nat)))) (T.node T.leaf (Option.some (Value.int IntKind.i64 (IntKind.wrap IntKind.i64 ((↑i : Int) + (1 : Int))))) T.leaf)) Option.none (T.node (T.node T.leaf (Option.some (Value.func (Go.Fn.yield (2 : Nat)) (Array.mk els) (Array.mk []))) T.leaf) Option.none T.leaf))) (AH.mk (T.node T.leaf (Option.some (AObj.map es c)) T.leaf) (1 : Nat))))) (K (Value.tuple (Array.mk [Value.map (Option.some (0 : Nat)), Value.int IntKind.i64 (0 : Int)])) (AH.mk (T.node T.leaf (Option.some (AObj.map es c)) T.leaf) (1 : Nat)))) := by kernel_rfl
def vaF (l : List (SB × SB)) : MS := l.foldl (fun m p => bif (aget m p.1.data.toList).isSome then m else aset m p.1.data.toList p.2) []
def vaOk (l : List (SB × SB)) : Bool := l.all fun p => nameB p.1
theorem vaF_succ {l : List (SB × SB)} {i : Nat} (h : i < l.length) : vaF (l.take (i + 1)) = bif (aget (vaF (l.take i)) l[i].1.data.toList).isSome then vaF (l.take i) else aset (vaF (l.take i)) l[i].1.data.toList l[i].2 := by
  unfold vaF; rw [List.take_succ_eq_append_getElem h, List.foldl_append]; rfl
theorem vaOk_succ {l : List (SB × SB)} {i : Nat} (h : i < l.length) : vaOk (l.take (i + 1)) = (vaOk (l.take i) && nameB l[i].1) := by
  unfold vaOk; rw [List.take_succ_eq_append_getElem h, List.all_append]; simp
theorem vaOk_at {l : List (SB × SB)} {i : Nat} (h : i < l.length) (h2 : nameB l[i].1 = false) : vaOk l = false := by
  unfold vaOk
  rw [List.all_eq_false]
  exact ⟨l[i], List.getElem_mem h, by simp [h2]⟩
theorem pv_nth {l : List (SB × SB)} {i : Nat} (h : i < l.length) : nth (pv l) i = some (.agg ⟨[.string l[i].1, .string l[i].2]⟩) := by
  rw [nth_eq]; simp [pv, pcv, List.getElem?_eq_getElem h]
theorem pa_at {l : List (SB × SB)} {i : Nat} (h : i < l.length) : paAt (pv l) (i : Int) = l[i].1 := by simp only [paAt, Int.toNat_natCast, pv_nth h]
theorem pb_at {l : List (SB × SB)} {i : Nat} (h : i < l.length) : pbAt (pv l) (i : Int) = l[i].2 := by simp only [pbAt, Int.toNat_natCast, pv_nth h]
theorem HF_dpv (l : List (SB × SB)) : HF (dat 2 (pv l)) := .dat (HF_pv l)
theorem V_loop {K : KV} (l : List (SB × SB)) (hl : l.length ≤ 9223372036854775807) (hb : ∀ p ∈ l, p.1.size < 9223372036854775808)
    (hK0 : vaOk l = false → ∀ A, K (.tuple ⟨[.map none, .int .i64 8]⟩) A) (hK1 : vaOk l = true → K (.tuple ⟨[.map (some 0), .int .i64 0]⟩) (hV (enS (vaF l)) (vaF l).length)) :
    LAtZ XV 1 ntV ⟨.leaf, 0⟩ bdV [1, 1, 0, 1, 0] (kFinV K) (frV (pv l) 0) (hV (enS []) 0) := by
  refine LAtZ.step XV_ok rfl [] [] [] [4, 10, 11, 12] (by kernel_rfl) (fun k F A => ∃ i : Nat, F = frV (pv l) i ∧ A = hV (enS (vaF (l.take i))) (vaF (l.take i)).length ∧ i + k = l.length ∧ vaOk (l.take i) = true) ?_ (k := l.length) ⟨0, rfl, rfl, by simp, rfl⟩
  rintro k F A ⟨i, rfl, rfl, hk, hm⟩
  refine (jVa1_nf K _ _ i _ _).mpr ?_
  refine Sp.intro (fun c => ?_) (fun c => ?_)
  · have hlt : i < l.length := by simpa [pv_len] using c
    have hw : IntKind.i64.wrap ((i : Int) + 1) = ((i + 1 : Nat) : Int) := by rw [i64_in (by omega) (by omega)]; rfl
    simp only [Int.toNat_natCast, pa_at hlt, pb_at hlt, hw, mgS_e, msS_e, mnS_e]
    refine ⟨by rw [pv_len]; omega, pv_nth hlt, hb _ (List.getElem_mem hlt), Sp.intro (fun c2 => hK0 (vaOk_at hlt (by simpa using c2)) _) (fun c2 => ⟨lookS _ _, ?_⟩)⟩
    have hn : nameB l[i].1 = true := by simpa using c2
    have hm2 : vaOk (l.take (i + 1)) = true := by rw [vaOk_succ hlt, hm, hn]; rfl
    rw [mhS_e]
    refine Sp.intro (fun c3 => ?_) (fun c3 => ?_)
    · have c3 : (aget (vaF (l.take i)) l[i].1.data.toList).isSome = false := by simpa using c3
      have e : vaF (l.take (i + 1)) = aset (vaF (l.take i)) l[i].1.data.toList l[i].2 := by rw [vaF_succ hlt, c3]; rfl
      exact ⟨updS _ _ _, HF_dpv l, HF_enS _, k - 1, by omega, i + 1, rfl, by rw [e]; rfl, by omega, hm2⟩
    · have c3 : (aget (vaF (l.take i)) l[i].1.data.toList).isSome = true := by simpa using c3
      have e : vaF (l.take (i + 1)) = vaF (l.take i) := by rw [vaF_succ hlt, c3]; rfl
      exact ⟨HF_dpv l, HF_enS _, k - 1, by omega, i + 1, rfl, by rw [e]; rfl, by omega, hm2⟩
  · have hge : l.length ≤ i := by simp [pv_len] at c; omega
    rw [List.take_of_length_le hge] at hm ⊢
    exact hK1 hm
def unP (els : List Value) : List (SB × SB) := els.map fun v => match v with | .agg ⟨[.string a, .string b]⟩ => (a, b) | _ => (ByteArray.empty, ByteArray.empty)
theorem unP_pv (l : List (SB × SB)) : unP (pv l) = l := by
  unfold unP pv
  rw [List.map_map]
  exact (List.map_congr_left fun x _ => rfl).trans (List.map_id _)
def GoodP (els : List Value) (b : Bool) : Prop := ∃ l, els = pv l ∧ l.length ≤ 9223372036854775807 ∧ (∀ p ∈ l, p.1.size < 9223372036854775808) ∧ vaOk l = b
theorem va_err (l : List (SB × SB)) (hl : l.length ≤ 9223372036854775807) (hb : ∀ p ∈ l, p.1.size < 9223372036854775808) (h : vaOk l = false) : WalkZ envX Proofs.Tryz.f42 [dat 2 (pv l)] ⟨.leaf, 0⟩ (.tuple ⟨[.map none, .int .i64 8]⟩) := by
  refine sxFnZ_walk XV_ok (d := 1) ((jVa_nf _ _).mpr ⟨HF_dpv l, .agg HF.nil, ?_⟩)
  exact V_loop l hl hb (fun _ A => .same (.tuple (HF.cons (.scal rfl) (HF.cons (.scal rfl) HF.nil)))) (fun q => by rw [h] at q; cases q)
def veX : List Value → Option Value
  | [.func (.yield 2) ⟨els⟩ ⟨[]⟩] => some (.tuple ⟨[.map none, .int .i64 8]⟩)
  | _ => none
def vePre : List Value → Option Prop
  | [.func (.yield 2) ⟨els⟩ ⟨[]⟩] => some (GoodP els false)
  | _ => none
theorem ve_tab : ∀ args A p v A', pureR vePre veX args A = some (p, v, A') → PH p → CallAt envX 42 args A v A' := walk_tab envX_ok envX_gl (fn := Proofs.Tryz.f42) rfl fun args v h hp => by
  unfold veX at h
  split at h
  · simp only [Option.some.injEq] at h
    subst h
    obtain ⟨l, rfl, hl, hb, ho⟩ := hp
    exact ⟨HF.cons (HF_dpv l) HF.nil, va_err l hl hb ho⟩
  · cases h
theorem REs_flat {ρ : Nat → Option Nat} : ∀ {es : EntsB}, (∀ x ∈ es, HF x.2.1) → REs ρ es es
  | [], _ => .nil
  | x :: es, h => .cons (.hf (h x (List.mem_cons_self ..))) (REs_flat fun y hy => h y (List.mem_cons_of_mem _ hy))
theorem va_made (N : Nat) (l : List (SB × SB)) (hl : l.length ≤ 9223372036854775807) (hb : ∀ p ∈ l, p.1.size < 9223372036854775808) (h : vaOk l = true) :
    WalkM envX Proofs.Tryz.f42 [dat 2 (pv l)] (MadeK N (.tuple ⟨[.map (some N), .int .i64 0]⟩) (.map (enS (vaF l)) (vaF l).length)) := by
  refine sxFnZ_made XV_ok (d := 1) ((jVa_nf _ _).mpr ⟨HF_dpv l, .agg HF.nil, ?_⟩)
  refine V_loop l hl hb (fun q => by rw [h] at q; cases q) (fun _ => ?_)
  have hbk : back [(N, 0)] N = some 0 := by simp [back, beq_eq]
  refine ⟨0, _, rfl, .map (REs_flat fun x hx => ?_), rfl, .tuple (.cons (.map hbk) (.cons (.hf (HFi _ _)) .nil))⟩
  exact HF_agg (HF_enS (vaF l)) _ (List.mem_map.2 ⟨x, hx, rfl⟩)
def vaR : RunF := fun args A => match args with
  | [.func (.yield 2) ⟨els⟩ ⟨[]⟩] => (match T.set FU A.t A.next (.map (enS (vaF (unP els))) (vaF (unP els)).length) with
    | some t => some (some (GoodP els true), .tuple ⟨[.map (some A.next), .int .i64 0]⟩, ⟨t, A.next + 1⟩)
    | none => none)
  | _ => none
theorem va_tab : ∀ args A p v A', vaR args A = some (p, v, A') → PH p → CallAt envX 42 args A v A' := by
  intro args A p v A' hr hp
  unfold vaR at hr
  split at hr
  · rename_i els
    split at hr
    · rename_i t ht
      simp only [Option.some.injEq, Prod.mk.injEq] at hr
      obtain ⟨rfl, rfl, rfl⟩ := hr
      obtain ⟨l, rfl, hl, hb, ho⟩ := hp
      rw [unP_pv] at ht
      exact callAt_made envX_ok (fn := Proofs.Tryz.f42) rfl (HF.cons (HF_dpv l) HF.nil) (va_made A.next l hl hb ho) ht
    · cases hr
  · cases hr
end
end Go.T9
set_option maxRecDepth 1000000
set_option linter.unusedVariables false
set_option linter.unusedSimpArgs false
set_option maxHeartbeats 4000000
namespace Go.T9
open Go Go.AM Go.MK
noncomputable section
def elL : El := { El.of (fun sz t els i => some (.agg ⟨[.string (paAt els i), .string (pbAt els i)]⟩)) with app := true, ml := fun _ es k => some (.string (mgS es k), mhS es k) }
def tabL : Tab := [(34, pureR pcPre pcX), (63, strR 5)]
theorem tabL_ok : TabOk envX tabL := .cons pc_tab (.cons str_tab .nil)
def XL : SX := ⟨envX, tabL, elL, fun _ => .autoN [] [] [5] [1, 8, 20, 21, 22]⟩
theorem XL_ok : XL.Ok := ⟨envX_ok, envX_sym, envX_gl, tabL_ok⟩
def frL (els : List Value) (i : Nat) : T Value := (.node (.node .leaf (some (.map (some 0))) (.node .leaf none (.node (.node .leaf (some (.int .i64 els.length)) .leaf) none .leaf))) none (.node (.node (.node .leaf (some (.pointer (some ⟨1, 0, none⟩))) .leaf) none (.node (.node .leaf (some (dat 2 els)) .leaf) none .leaf)) none (.node .leaf none (.node (.node .leaf (some (.int .i64 i)) .leaf) none .leaf))))
def hL0 (es : EntsB) (c : Nat) : AH := ⟨.node (.node .leaf (some (.cells [.pointer none, .slice none 0 0] 119)) .leaf) (some (.map es c)) .leaf, 2⟩
def hL1 (es : EntsB) (c : Nat) : AH := ⟨.node (.node .leaf (some (.cells [.pointer (some ⟨1, 0, none⟩), .slice none 0 0] 119)) .leaf) (some (.map es c)) .leaf, 2⟩
def hLN (es : EntsB) (c : Nat) (bs : List Value) (n : Nat) : AH := ⟨.node (.node .leaf (some (.cells [.pointer (some ⟨1, 0, none⟩), .slice (some ⟨2, 0, none⟩) n unk] 119)) .leaf) (some (.map es c)) (.node .leaf (some (.cells bs 5)) .leaf), 3⟩
def hM0 (es : EntsB) (c : Nat) : AH := ⟨.node .leaf (some (.map es c)) .leaf, 1⟩
def ntL : Nat := Func.ntmps Proofs.Tryz.f43
def bdL : Code := bodyOf Proofs.Tryz.f43
def kFinL (K : KV) : KX := finK XL.E (Proofs.Tryz.f43.results).toList K
def jFl (K : KV) (s : SB) (es : EntsB) (c : Nat) : Prop := sxFnZ XL 4 Proofs.Tryz.f43 [.string s, .map (some 0)] (hM0 es c) K
def jFl0 (K : KV) (es0 : EntsB) (c0 : Nat) (again : KF) (els : List Value) (i : Nat) (es : EntsB) (c : Nat) : Prop := sxStepZ XL 4 ntL ⟨(hM0 es0 c0).t, 0⟩ bdL [1, 1, 1, 1, 0, 1, 0] (kFinL K) [] [] [5] [1, 8, 20, 21, 22] again (frL els i) (hL0 es c)
def jFl1 (K : KV) (es0 : EntsB) (c0 : Nat) (again : KF) (els : List Value) (i : Nat) (es : EntsB) (c : Nat) : Prop := sxStepZ XL 4 ntL ⟨(hM0 es0 c0).t, 0⟩ bdL [1, 1, 1, 1, 0, 1, 0] (kFinL K) [] [] [5] [1, 8, 20, 21, 22] again (frL els i) (hL1 es c)
def jFlN (K : KV) (es0 : EntsB) (c0 : Nat) (again : KF) (els : List Value) (i : Nat) (es : EntsB) (c : Nat) (bs : List Value) (n : Nat) : Prop := sxStepZ XL 4 ntL ⟨(hM0 es0 c0).t, 0⟩ bdL [1, 1, 1, 1, 0, 1, 0] (kFinL K) [] [] [5] [1, 8, 20, 21, 22] again (frL els i) (hLN es c bs n)
end
end Go.T9
set_option maxRecDepth 1000000
set_option linter.unusedVariables false
set_option linter.unusedSimpArgs false
set_option maxHeartbeats 4000000
namespace Go.T9
open Go Go.AM Go.MK
noncomputable section
theorem jFl_nf (K : KV) (s : SB) (es : EntsB) (c : Nat) : jFl K s es c = (Sp (decide (ixB s (36 : Int) < (0 : Int))) (K (Value.tuple (Array.mk [Value.string s, Value.int IntKind.i64 (0 : Int)])) (AH.mk (T.node T.leaf (Option.some (AObj.map es c)) T.leaf) (1 : Nat))) (ByteArray.size s ≤ (1000000 : Nat) ∧ HF (Value.func (Go.Fn.yield (2 : Nat)) (Array.mk (pv (Prod.fst (pcs s (0 : Nat) [] [])))) (Array.mk [])) ∧ HF (Value.agg (Array.mk (List.map (fun (x : Go.Value × Go.Value × Nat) => Prod.fst (Prod.snd x)) es))) ∧ LAtZ XL (4 : Nat) (Go.Func.ntmps Go.Proofs.Tryz.f43) (AH.mk (AH.t (hM0 es c)) (0 : Nat)) (bodyOf Go.Proofs.Tryz.f43) [(1 : Nat), (1 : Nat), (1 : Nat), (1 : Nat), (0 : Nat), (1 : Nat), (0 : Nat)] (finK (SX.E XL) (Array.toList (Go.Func.results Go.Proofs.Tryz.f43)) K) (T.node (T.node T.leaf (Option.some (Value.map (Option.some (0 : Nat)))) (T.node T.leaf Option.none (T.node (T.node T.leaf (Option.some (Value.int IntKind.i64 (↑(List.length (pv (Prod.fst (pcs s (0 : Nat) [] [])))) : Int))) T.leaf) Option.none T.leaf))) Option.none (T.node (T.node (T.node T.leaf (Option.some (Value.pointer (Option.some (Go.Addr.mk (1 : Nat) (0 : Nat) Option.none)))) T.leaf) Option.none (T.node (T.node T.leaf (Option.some (Value.func (Go.Fn.yield (2 : Nat)) (Array.mk (pv (Prod.fst (pcs s (0 : Nat) [] [])))) (Array.mk []))) T.leaf) Option.none T.leaf)) Option.none (T.node T.leaf Option.none (T.node (T.node T.leaf (Option.some (Value.int IntKind.i64 (0 : Int))) T.leaf) Option.none T.leaf)))) (AH.mk (T.node (T.node T.leaf (Option.some (AObj.cells [Value.pointer Option.none, Value.slice Option.none (0 : Nat) (0 : Nat)] (119 : Nat))) T.leaf) (Option.some (AObj.map es c)) T.leaf) (2 : Nat)))) := by kernel_rfl
theorem jFl0_nf (K : KV) (es0 : EntsB) (c0 : Nat) (again : KF) (els : List Go.Value) (i : Nat) (es : EntsB) (c : Nat) : jFl0 K es0 c0 again els i es c = (Sp (decide ((↑i : Int) < (↑(List.length els) : Int))) (((0 : Int) ≤ (↑i : Int) ∧ (↑i : Int) < (↑(List.length els) : Int)) ∧ nth els (Int.toNat (↑(Int.toNat (↑i : Int)) : Int)) = Option.some (Value.agg (Array.mk [Value.string (paAt els (↑(Int.toNat (↑i : Int)) : Int)), Value.string (pbAt els (↑(Int.toNat (↑i : Int)) : Int))])) ∧ Sp (Nat.beq (ByteArray.size (paAt els (↑(Int.toNat (↑i : Int)) : Int))) (0 : Nat)) (lookE (SX.E XL) (77 : Nat) es (Value.string (pbAt els (↑(Int.toNat (↑i : Int)) : Int))) = Option.some (Value.string (mgS es (Value.string (pbAt els (↑(Int.toNat (↑i : Int)) : Int)))), mhS es (Value.string (pbAt els (↑(Int.toNat (↑i : Int)) : Int)))) ∧ Sp (Nat.beq (ByteArray.size (mgS es (Value.string (pbAt els (↑(Int.toNat (↑i : Int)) : Int))))) (0 : Nat)) (HF (Value.func (Go.Fn.yield (2 : Nat)) (Array.mk els) (Array.mk [])) ∧ HF (Value.agg (Array.mk (List.map (fun (x : Go.Value × Go.Value × Nat) => Prod.fst (Prod.snd x)) es))) ∧ again (T.node (T.node T.leaf (Option.some (Value.map (Option.some (0 : Nat)))) (T.node T.leaf Option.none (T.node (T.node T.leaf (Option.some (Value.int IntKind.i64 (↑(List.length els) : Int))) T.leaf) Option.none T.leaf))) Option.none (T.node (T.node (T.node T.leaf (Option.some (Value.pointer (Option.some (Go.Addr.mk (1 : Nat) (0 : Nat) Option.none)))) T.leaf) Option.none (T.node (T.node T.leaf (Option.some (Value.func (Go.Fn.yield (2 : Nat)) (Array.mk els) (Array.mk []))) T.leaf) Option.none T.leaf)) Option.none (T.node T.leaf Option.none (T.node (T.node T.leaf (Option.some (Value.int IntKind.i64 (IntKind.wrap IntKind.i64 ((↑i : Int) + (1 : Int))))) T.leaf) Option.none T.leaf)))) (AH.mk (T.node (T.node T.leaf (Option.some (AObj.cells [Value.pointer (Option.some (Go.Addr.mk (1 : Nat) (0 : Nat) Option.none)), Value.slice Option.none (0 : Nat) (0 : Nat)] (119 : Nat))) T.leaf) (Option.some (AObj.map es c)) T.leaf) (2 : Nat))) ((ByteArray.size (mgS es (Value.string (pbAt els (↑(Int.toNat (↑i : Int)) : Int)))) ≤ (70368744177664 : Nat) ∧ ByteArray.size (mgS es (Value.string (pbAt els (↑(Int.toNat (↑i : Int)) : Int)))) * (1 : Nat) ≤ (140737488355328 : Nat)) ∧ Sp (decide ((1000000 : Int) < (↑(ByteArray.size (mgS es (Value.string (pbAt els (↑(Int.toNat (↑i : Int)) : Int))))) : Int))) (K (Value.tuple (Array.mk [Value.string (ByteArray.mk (Array.mk [])), Value.int IntKind.i64 (3 : Int)])) (AH.mk (T.node (T.node (T.node T.leaf (Option.some (AObj.cells (List.map (fun (b : UInt8) => Value.int IntKind.u8 (↑(UInt8.toNat b) : Int)) (Array.toList (ByteArray.data (mgS es (Value.string (pbAt els (↑(Int.toNat (↑i : Int)) : Int))))))) (5 : Nat))) T.leaf) (Option.some (AObj.cells [Value.pointer (Option.some (Go.Addr.mk (1 : Nat) (0 : Nat) Option.none)), Value.slice (Option.some (Go.Addr.mk (3 : Nat) (0 : Nat) Option.none)) (ByteArray.size (mgS es (Value.string (pbAt els (↑(Int.toNat (↑i : Int)) : Int))))) (18446744073709551616 : Nat)] (119 : Nat))) T.leaf) (Option.some (AObj.map es c)) (T.node T.leaf (Option.some (AObj.cells [Value.string (paAt els (↑(Int.toNat (↑i : Int)) : Int)), Value.string (pbAt els (↑(Int.toNat (↑i : Int)) : Int))] (126 : Nat))) T.leaf)) (4 : Nat))) (HF (Value.func (Go.Fn.yield (2 : Nat)) (Array.mk els) (Array.mk [])) ∧ HF (Value.agg (Array.mk (List.map (fun (x : Go.Value × Go.Value × Nat) => Prod.fst (Prod.snd x)) es))) ∧ HF (Value.agg (Array.mk (List.map (fun (b : UInt8) => Value.int IntKind.u8 (↑(UInt8.toNat b) : Int)) (Array.toList (ByteArray.data (mgS es (Value.string (pbAt els (↑(Int.toNat (↑i : Int)) : Int))))))))) ∧ again (T.node (T.node T.leaf (Option.some (Value.map (Option.some (0 : Nat)))) (T.node T.leaf Option.none (T.node (T.node T.leaf (Option.some (Value.int IntKind.i64 (↑(List.length els) : Int))) T.leaf) Option.none T.leaf))) Option.none (T.node (T.node (T.node T.leaf (Option.some (Value.pointer (Option.some (Go.Addr.mk (1 : Nat) (0 : Nat) Option.none)))) T.leaf) Option.none (T.node (T.node T.leaf (Option.some (Value.func (Go.Fn.yield (2 : Nat)) (Array.mk els) (Array.mk []))) T.leaf) Option.none T.leaf)) Option.none (T.node T.leaf Option.none (T.node (T.node T.leaf (Option.some (Value.int IntKind.i64 (IntKind.wrap IntKind.i64 ((↑i : Int) + (1 : Int))))) T.leaf) Option.none T.leaf)))) (AH.mk (T.node (T.node T.leaf (Option.some (AObj.cells [Value.pointer (Option.some (Go.Addr.mk (1 : Nat) (0 : Nat) Option.none)), Value.slice (Option.some (Go.Addr.mk (2 : Nat) (0 : Nat) Option.none)) (ByteArray.size (mgS es (Value.string (pbAt els (↑(Int.toNat (↑i : Int)) : Int))))) (18446744073709551616 : Nat)] (119 : Nat))) T.leaf) (Option.some (AObj.map es c)) (T.node T.leaf (Option.some (AObj.cells (List.map (fun (b : UInt8) => Value.int IntKind.u8 (↑(UInt8.toNat b) : Int)) (Array.toList (ByteArray.data (mgS es (Value.string (pbAt els (↑(Int.toNat (↑i : Int)) : Int))))))) (5 : Nat))) T.leaf)) (3 : Nat))))) ((ByteArray.size (paAt els (↑(Int.toNat (↑i : Int)) : Int)) ≤ (70368744177664 : Nat) ∧ ByteArray.size (paAt els (↑(Int.toNat (↑i : Int)) : Int)) * (1 : Nat) ≤ (140737488355328 : Nat)) ∧ lookE (SX.E XL) (77 : Nat) es (Value.string (pbAt els (↑(Int.toNat (↑i : Int)) : Int))) = Option.some (Value.string (mgS es (Value.string (pbAt els (↑(Int.toNat (↑i : Int)) : Int)))), mhS es (Value.string (pbAt els (↑(Int.toNat (↑i : Int)) : Int)))) ∧ Sp (Nat.beq (ByteArray.size (mgS es (Value.string (pbAt els (↑(Int.toNat (↑i : Int)) : Int))))) (0 : Nat)) (Sp (decide ((1000000 : Int) < (↑(ByteArray.size (paAt els (↑(Int.toNat (↑i : Int)) : Int))) : Int))) (K (Value.tuple (Array.mk [Value.string (ByteArray.mk (Array.mk [])), Value.int IntKind.i64 (3 : Int)])) (AH.mk (T.node (T.node (T.node T.leaf (Option.some (AObj.cells (List.map (fun (b : UInt8) => Value.int IntKind.u8 (↑(UInt8.toNat b) : Int)) (Array.toList (ByteArray.data (paAt els (↑(Int.toNat (↑i : Int)) : Int))))) (5 : Nat))) T.leaf) (Option.some (AObj.cells [Value.pointer (Option.some (Go.Addr.mk (1 : Nat) (0 : Nat) Option.none)), Value.slice (Option.some (Go.Addr.mk (3 : Nat) (0 : Nat) Option.none)) (ByteArray.size (paAt els (↑(Int.toNat (↑i : Int)) : Int))) (18446744073709551616 : Nat)] (119 : Nat))) T.leaf) (Option.some (AObj.map es c)) (T.node T.leaf (Option.some (AObj.cells [Value.string (paAt els (↑(Int.toNat (↑i : Int)) : Int)), Value.string (pbAt els (↑(Int.toNat (↑i : Int)) : Int))] (126 : Nat))) T.leaf)) (4 : Nat))) (HF (Value.func (Go.Fn.yield (2 : Nat)) (Array.mk els) (Array.mk [])) ∧ HF (Value.agg (Array.mk (List.map (fun (x : Go.Value × Go.Value × Nat) => Prod.fst (Prod.snd x)) es))) ∧ HF (Value.agg (Array.mk (List.map (fun (b : UInt8) => Value.int IntKind.u8 (↑(UInt8.toNat b) : Int)) (Array.toList (ByteArray.data (paAt els (↑(Int.toNat (↑i : Int)) : Int))))))) ∧ again (T.node (T.node T.leaf (Option.some (Value.map (Option.some (0 : Nat)))) (T.node T.leaf Option.none (T.node (T.node T.leaf (Option.some (Value.int IntKind.i64 (↑(List.length els) : Int))) T.leaf) Option.none T.leaf))) Option.none (T.node (T.node (T.node T.leaf (Option.some (Value.pointer (Option.some (Go.Addr.mk (1 : Nat) (0 : Nat) Option.none)))) T.leaf) Option.none (T.node (T.node T.leaf (Option.some (Value.func (Go.Fn.yield (2 : Nat)) (Array.mk els) (Array.mk []))) T.leaf) Option.none T.leaf)) Option.none (T.node T.leaf Option.none (T.node (T.node T.leaf (Option.some (Value.int IntKind.i64 (IntKind.wrap IntKind.i64 ((↑i : Int) + (1 : Int))))) T.leaf) Option.none T.leaf)))) (AH.mk (T.node (T.node T.leaf (Option.some (AObj.cells [Value.pointer (Option.some (Go.Addr.mk (1 : Nat) (0 : Nat) Option.none)), Value.slice (Option.some (Go.Addr.mk (2 : Nat) (0 : Nat) Option.none)) (ByteArray.size (paAt els (↑(Int.toNat (↑i : Int)) : Int))) (18446744073709551616 : Nat)] (119 : Nat))) T.leaf) (Option.some (AObj.map es c)) (T.node T.leaf (Option.some (AObj.cells (List.map (fun (b : UInt8) => Value.int IntKind.u8 (↑(UInt8.toNat b) : Int)) (Array.toList (ByteArray.data (paAt els (↑(Int.toNat (↑i : Int)) : Int))))) (5 : Nat))) T.leaf)) (3 : Nat)))) ((ByteArray.size (paAt els (↑(Int.toNat (↑i : Int)) : Int)) + ByteArray.size (mgS es (Value.string (pbAt els (↑(Int.toNat (↑i : Int)) : Int)))) ≤ (70368744177664 : Nat) ∧ (ByteArray.size (paAt els (↑(Int.toNat (↑i : Int)) : Int)) + ByteArray.size (mgS es (Value.string (pbAt els (↑(Int.toNat (↑i : Int)) : Int))))) * (1 : Nat) ≤ (140737488355328 : Nat) ∧ ByteArray.size (paAt els (↑(Int.toNat (↑i : Int)) : Int)) * (1 : Nat) ≤ List.length (List.map (fun (b : UInt8) => Value.int IntKind.u8 (↑(UInt8.toNat b) : Int)) (Array.toList (ByteArray.data (paAt els (↑(Int.toNat (↑i : Int)) : Int)))))) ∧ Sp (decide ((1000000 : Int) < (↑(ByteArray.size (paAt els (↑(Int.toNat (↑i : Int)) : Int)) + ByteArray.size (mgS es (Value.string (pbAt els (↑(Int.toNat (↑i : Int)) : Int))))) : Int))) (K (Value.tuple (Array.mk [Value.string (ByteArray.mk (Array.mk [])), Value.int IntKind.i64 (3 : Int)])) (AH.mk (T.node (T.node (T.node T.leaf (Option.some AObj.dead) T.leaf) (Option.some (AObj.cells [Value.pointer (Option.some (Go.Addr.mk (1 : Nat) (0 : Nat) Option.none)), Value.slice (Option.some (Go.Addr.mk (4 : Nat) (0 : Nat) Option.none)) (ByteArray.size (paAt els (↑(Int.toNat (↑i : Int)) : Int)) + ByteArray.size (mgS es (Value.string (pbAt els (↑(Int.toNat (↑i : Int)) : Int))))) (18446744073709551616 : Nat)] (119 : Nat))) T.leaf) (Option.some (AObj.map es c)) (T.node (T.node T.leaf (Option.some (AObj.cells (List.take (ByteArray.size (paAt els (↑(Int.toNat (↑i : Int)) : Int)) * (1 : Nat)) (List.map (fun (b : UInt8) => Value.int IntKind.u8 (↑(UInt8.toNat b) : Int)) (Array.toList (ByteArray.data (paAt els (↑(Int.toNat (↑i : Int)) : Int))))) ++ List.map (fun (b : UInt8) => Value.int IntKind.u8 (↑(UInt8.toNat b) : Int)) (Array.toList (ByteArray.data (mgS es (Value.string (pbAt els (↑(Int.toNat (↑i : Int)) : Int))))))) (5 : Nat))) T.leaf) (Option.some (AObj.cells [Value.string (paAt els (↑(Int.toNat (↑i : Int)) : Int)), Value.string (pbAt els (↑(Int.toNat (↑i : Int)) : Int))] (126 : Nat))) T.leaf)) (5 : Nat))) (HF (Value.func (Go.Fn.yield (2 : Nat)) (Array.mk els) (Array.mk [])) ∧ HF (Value.agg (Array.mk (List.map (fun (x : Go.Value × Go.Value × Nat) => Prod.fst (Prod.snd x)) es))) ∧ HF (Value.agg (Array.mk (List.take (ByteArray.size (paAt els (↑(Int.toNat (↑i : Int)) : Int)) * (1 : Nat)) (List.map (fun (b : UInt8) => Value.int IntKind.u8 (↑(UInt8.toNat b) : Int)) (Array.toList (ByteArray.data (paAt els (↑(Int.toNat (↑i : Int)) : Int))))) ++ List.map (fun (b : UInt8) => Value.int IntKind.u8 (↑(UInt8.toNat b) : Int)) (Array.toList (ByteArray.data (mgS es (Value.string (pbAt els (↑(Int.toNat (↑i : Int)) : Int))))))))) ∧ again (T.node (T.node T.leaf (Option.some (Value.map (Option.some (0 : Nat)))) (T.node T.leaf Option.none (T.node (T.node T.leaf (Option.some (Value.int IntKind.i64 (↑(List.length els) : Int))) T.leaf) Option.none T.leaf))) Option.none (T.node (T.node (T.node T.leaf (Option.some (Value.pointer (Option.some (Go.Addr.mk (1 : Nat) (0 : Nat) Option.none)))) T.leaf) Option.none (T.node (T.node T.leaf (Option.some (Value.func (Go.Fn.yield (2 : Nat)) (Array.mk els) (Array.mk []))) T.leaf) Option.none T.leaf)) Option.none (T.node T.leaf Option.none (T.node (T.node T.leaf (Option.some (Value.int IntKind.i64 (IntKind.wrap IntKind.i64 ((↑i : Int) + (1 : Int))))) T.leaf) Option.none T.leaf)))) (AH.mk (T.node (T.node T.leaf (Option.some (AObj.cells [Value.pointer (Option.some (Go.Addr.mk (1 : Nat) (0 : Nat) Option.none)), Value.slice (Option.some (Go.Addr.mk (2 : Nat) (0 : Nat) Option.none)) (ByteArray.size (paAt els (↑(Int.toNat (↑i : Int)) : Int)) + ByteArray.size (mgS es (Value.string (pbAt els (↑(Int.toNat (↑i : Int)) : Int))))) (18446744073709551616 : Nat)] (119 : Nat))) T.leaf) (Option.some (AObj.map es c)) (T.node T.leaf (Option.some (AObj.cells (List.take (ByteArray.size (paAt els (↑(Int.toNat (↑i : Int)) : Int)) * (1 : Nat)) (List.map (fun (b : UInt8) => Value.int IntKind.u8 (↑(UInt8.toNat b) : Int)) (Array.toList (ByteArray.data (paAt els (↑(Int.toNat (↑i : Int)) : Int))))) ++ List.map (fun (b : UInt8) => Value.int IntKind.u8 (↑(UInt8.toNat b) : Int)) (Array.toList (ByteArray.data (mgS es (Value.string (pbAt els (↑(Int.toNat (↑i : Int)) : Int))))))) (5 : Nat))) T.leaf)) (3 : Nat)))))) (K (Value.tuple (Array.mk [Value.string (ByteArray.mk (Array.mk [])), Value.int IntKind.i64 (0 : Int)])) (AH.mk (T.node (T.node T.leaf (Option.some (AObj.cells [Value.pointer Option.none, Value.slice Option.none (0 : Nat) (0 : Nat)] (119 : Nat))) T.leaf) (Option.some (AObj.map es c)) T.leaf) (2 : Nat)))) := by kernel_rfl
theorem jFl1_nf (K : KV) (es0 : EntsB) (c0 : Nat) (again : KF) (els : List Go.Value) (i : Nat) (es : EntsB) (c : Nat) : jFl1 K es0 c0 again els i es c = (Sp (decide ((↑i : Int) < (↑(List.length els) : Int))) (((0 : Int) ≤ (↑i : Int) ∧ (↑i : Int) < (↑(List.length els) : Int)) ∧ nth els (Int.toNat (↑(Int.toNat (↑i : Int)) : Int)) = Option.some (Value.agg (Array.mk [Value.string (paAt els (↑(Int.toNat (↑i : Int)) : Int)), Value.string (pbAt els (↑(Int.toNat (↑i : Int)) : Int))])) ∧ Sp (Nat.beq (ByteArray.size (paAt els (↑(Int.toNat (↑i : Int)) : Int))) (0 : Nat)) (lookE (SX.E XL) (77 : Nat) es (Value.string (pbAt els (↑(Int.toNat (↑i : Int)) : Int))) = Option.some (Value.string (mgS es (Value.string (pbAt els (↑(Int.toNat (↑i : Int)) : Int)))), mhS es (Value.string (pbAt els (↑(Int.toNat (↑i : Int)) : Int)))) ∧ Sp (Nat.beq (ByteArray.size (mgS es (Value.string (pbAt els (↑(Int.toNat (↑i : Int)) : Int))))) (0 : Nat)) (HF (Value.func (Go.Fn.yield (2 : Nat)) (Array.mk els) (Array.mk [])) ∧ HF (Value.agg (Array.mk (List.map (fun (x : Go.Value × Go.Value × Nat) => Prod.fst (Prod.snd x)) es))) ∧ again (T.node (T.node T.leaf (Option.some (Value.map (Option.some (0 : Nat)))) (T.node T.leaf Option.none (T.node (T.node T.leaf (Option.some (Value.int IntKind.i64 (↑(List.length els) : Int))) T.leaf) Option.none T.leaf))) Option.none (T.node (T.node (T.node T.leaf (Option.some (Value.pointer (Option.some (Go.Addr.mk (1 : Nat) (0 : Nat) Option.none)))) T.leaf) Option.none (T.node (T.node T.leaf (Option.some (Value.func (Go.Fn.yield (2 : Nat)) (Array.mk els) (Array.mk []))) T.leaf) Option.none T.leaf)) Option.none (T.node T.leaf Option.none (T.node (T.node T.leaf (Option.some (Value.int IntKind.i64 (IntKind.wrap IntKind.i64 ((↑i : Int) + (1 : Int))))) T.leaf) Option.none T.leaf)))) (AH.mk (T.node (T.node T.leaf (Option.some (AObj.cells [Value.pointer (Option.some (Go.Addr.mk (1 : Nat) (0 : Nat) Option.none)), Value.slice Option.none (0 : Nat) (0 : Nat)] (119 : Nat))) T.leaf) (Option.some (AObj.map es c)) T.leaf) (2 : Nat))) ((ByteArray.size (mgS es (Value.string (pbAt els (↑(Int.toNat (↑i : Int)) : Int)))) ≤ (70368744177664 : Nat) ∧ ByteArray.size (mgS es (Value.string (pbAt els (↑(Int.toNat (↑i : Int)) : Int)))) * (1 : Nat) ≤ (140737488355328 : Nat)) ∧ Sp (decide ((1000000 : Int) < (↑(ByteArray.size (mgS es (Value.string (pbAt els (↑(Int.toNat (↑i : Int)) : Int))))) : Int))) (K (Value.tuple (Array.mk [Value.string (ByteArray.mk (Array.mk [])), Value.int IntKind.i64 (3 : Int)])) (AH.mk (T.node (T.node (T.node T.leaf (Option.some (AObj.cells (List.map (fun (b : UInt8) => Value.int IntKind.u8 (↑(UInt8.toNat b) : Int)) (Array.toList (ByteArray.data (mgS es (Value.string (pbAt els (↑(Int.toNat (↑i : Int)) : Int))))))) (5 : Nat))) T.leaf) (Option.some (AObj.cells [Value.pointer (Option.some (Go.Addr.mk (1 : Nat) (0 : Nat) Option.none)), Value.slice (Option.some (Go.Addr.mk (3 : Nat) (0 : Nat) Option.none)) (ByteArray.size (mgS es (Value.string (pbAt els (↑(Int.toNat (↑i : Int)) : Int))))) (18446744073709551616 : Nat)] (119 : Nat))) T.leaf) (Option.some (AObj.map es c)) (T.node T.leaf (Option.some (AObj.cells [Value.string (paAt els (↑(Int.toNat (↑i : Int)) : Int)), Value.string (pbAt els (↑(Int.toNat (↑i : Int)) : Int))] (126 : Nat))) T.leaf)) (4 : Nat))) (HF (Value.func (Go.Fn.yield (2 : Nat)) (Array.mk els) (Array.mk [])) ∧ HF (Value.agg (Array.mk (List.map (fun (x : Go.Value × Go.Value × Nat) => Prod.fst (Prod.snd x)) es))) ∧ HF (Value.agg (Array.mk (List.map (fun (b : UInt8) => Value.int IntKind.u8 (↑(UInt8.toNat b) : Int)) (Array.toList (ByteArray.data (mgS es (Value.string (pbAt els (↑(Int.toNat (↑i : Int)) : Int))))))))) ∧ again (T.node (T.node T.leaf (Option.some (Value.map (Option.some (0 : Nat)))) (T.node T.leaf Option.none (T.node (T.node T.leaf (Option.some (Value.int IntKind.i64 (↑(List.length els) : Int))) T.leaf) Option.none T.leaf))) Option.none (T.node (T.node (T.node T.leaf (Option.some (Value.pointer (Option.some (Go.Addr.mk (1 : Nat) (0 : Nat) Option.none)))) T.leaf) Option.none (T.node (T.node T.leaf (Option.some (Value.func (Go.Fn.yield (2 : Nat)) (Array.mk els) (Array.mk []))) T.leaf) Option.none T.leaf)) Option.none (T.node T.leaf Option.none (T.node (T.node T.leaf (Option.some (Value.int IntKind.i64 (IntKind.wrap IntKind.i64 ((↑i : Int) + (1 : Int))))) T.leaf) Option.none T.leaf)))) (AH.mk (T.node (T.node T.leaf (Option.some (AObj.cells [Value.pointer (Option.some (Go.Addr.mk (1 : Nat) (0 : Nat) Option.none)), Value.slice (Option.some (Go.Addr.mk (2 : Nat) (0 : Nat) Option.none)) (ByteArray.size (mgS es (Value.string (pbAt els (↑(Int.toNat (↑i : Int)) : Int))))) (18446744073709551616 : Nat)] (119 : Nat))) T.leaf) (Option.some (AObj.map es c)) (T.node T.leaf (Option.some (AObj.cells (List.map (fun (b : UInt8) => Value.int IntKind.u8 (↑(UInt8.toNat b) : Int)) (Array.toList (ByteArray.data (mgS es (Value.string (pbAt els (↑(Int.toNat (↑i : Int)) : Int))))))) (5 : Nat))) T.leaf)) (3 : Nat))))) ((ByteArray.size (paAt els (↑(Int.toNat (↑i : Int)) : Int)) ≤ (70368744177664 : Nat) ∧ ByteArray.size (paAt els (↑(Int.toNat (↑i : Int)) : Int)) * (1 : Nat) ≤ (140737488355328 : Nat)) ∧ lookE (SX.E XL) (77 : Nat) es (Value.string (pbAt els (↑(Int.toNat (↑i : Int)) : Int))) = Option.some (Value.string (mgS es (Value.string (pbAt els (↑(Int.toNat (↑i : Int)) : Int)))), mhS es (Value.string (pbAt els (↑(Int.toNat (↑i : Int)) : Int)))) ∧ Sp (Nat.beq (ByteArray.size (mgS es (Value.string (pbAt els (↑(Int.toNat (↑i : Int)) : Int))))) (0 : Nat)) (Sp (decide ((1000000 : Int) < (↑(ByteArray.size (paAt els (↑(Int.toNat (↑i : Int)) : Int))) : Int))) (K (Value.tuple (Array.mk [Value.string (ByteArray.mk (Array.mk [])), Value.int IntKind.i64 (3 : Int)])) (AH.mk (T.node (T.node (T.node T.leaf (Option.some (AObj.cells (List.map (fun (b : UInt8) => Value.int IntKind.u8 (↑(UInt8.toNat b) : Int)) (Array.toList (ByteArray.data (paAt els (↑(Int.toNat (↑i : Int)) : Int))))) (5 : Nat))) T.leaf) (Option.some (AObj.cells [Value.pointer (Option.some (Go.Addr.mk (1 : Nat) (0 : Nat) Option.none)), Value.slice (Option.some (Go.Addr.mk (3 : Nat) (0 : Nat) Option.none)) (ByteArray.size (paAt els (↑(Int.toNat (↑i : Int)) : Int))) (18446744073709551616 : Nat)] (119 : Nat))) T.leaf) (Option.some (AObj.map es c)) (T.node T.leaf (Option.some (AObj.cells [Value.string (paAt els (↑(Int.toNat (↑i : Int)) : Int)), Value.string (pbAt els (↑(Int.toNat (↑i : Int)) : Int))] (126 : Nat))) T.leaf)) (4 : Nat))) (HF (Value.func (Go.Fn.yield (2 : Nat)) (Array.mk els) (Array.mk [])) ∧ HF (Value.agg (Array.mk (List.map (fun (x : Go.Value × Go.Value × Nat) => Prod.fst (Prod.snd x)) es))) ∧ HF (Value.agg (Array.mk (List.map (fun (b : UInt8) => Value.int IntKind.u8 (↑(UInt8.toNat b) : Int)) (Array.toList (ByteArray.data (paAt els (↑(Int.toNat (↑i : Int)) : Int))))))) ∧ again (T.node (T.node T.leaf (Option.some (Value.map (Option.some (0 : Nat)))) (T.node T.leaf Option.none (T.node (T.node T.leaf (Option.some (Value.int IntKind.i64 (↑(List.length els) : Int))) T.leaf) Option.none T.leaf))) Option.none (T.node (T.node (T.node T.leaf (Option.some (Value.pointer (Option.some (Go.Addr.mk (1 : Nat) (0 : Nat) Option.none)))) T.leaf) Option.none (T.node (T.node T.leaf (Option.some (Value.func (Go.Fn.yield (2 : Nat)) (Array.mk els) (Array.mk []))) T.leaf) Option.none T.leaf)) Option.none (T.node T.leaf Option.none (T.node (T.node T.leaf (Option.some (Value.int IntKind.i64 (IntKind.wrap IntKind.i64 ((↑i : Int) + (1 : Int))))) T.leaf) Option.none T.leaf)))) (AH.mk (T.node (T.node T.leaf (Option.some (AObj.cells [Value.pointer (Option.some (Go.Addr.mk (1 : Nat) (0 : Nat) Option.none)), Value.slice (Option.some (Go.Addr.mk (2 : Nat) (0 : Nat) Option.none)) (ByteArray.size (paAt els (↑(Int.toNat (↑i : Int)) : Int))) (18446744073709551616 : Nat)] (119 : Nat))) T.leaf) (Option.some (AObj.map es c)) (T.node T.leaf (Option.some (AObj.cells (List.map (fun (b : UInt8) => Value.int IntKind.u8 (↑(UInt8.toNat b) : Int)) (Array.toList (ByteArray.data (paAt els (↑(Int.toNat (↑i : Int)) : Int))))) (5 : Nat))) T.leaf)) (3 : Nat)))) ((ByteArray.size (paAt els (↑(Int.toNat (↑i : Int)) : Int)) + ByteArray.size (mgS es (Value.string (pbAt els (↑(Int.toNat (↑i : Int)) : Int)))) ≤ (70368744177664 : Nat) ∧ (ByteArray.size (paAt els (↑(Int.toNat (↑i : Int)) : Int)) + ByteArray.size (mgS es (Value.string (pbAt els (↑(Int.toNat (↑i : Int)) : Int))))) * (1 : Nat) ≤ (140737488355328 : Nat) ∧ ByteArray.size (paAt els (↑(Int.toNat (↑i : Int)) : Int)) * (1 : Nat) ≤ List.length (List.map (fun (b : UInt8) => Value.int IntKind.u8 (↑(UInt8.toNat b) : Int)) (Array.toList (ByteArray.data (paAt els (↑(Int.toNat (↑i : Int)) : Int)))))) ∧ Sp (decide ((1000000 : Int) < (↑(ByteArray.size (paAt els (↑(Int.toNat (↑i : Int)) : Int)) + ByteArray.size (mgS es (Value.string (pbAt els (↑(Int.toNat (↑i : Int)) : Int))))) : Int))) (K (Value.tuple (Array.mk [Value.string (ByteArray.mk (Array.mk [])), Value.int IntKind.i64 (3 : Int)])) (AH.mk (T.node (T.node (T.node T.leaf (Option.some AObj.dead) T.leaf) (Option.some (AObj.cells [Value.pointer (Option.some (Go.Addr.mk (1 : Nat) (0 : Nat) Option.none)), Value.slice (Option.some (Go.Addr.mk (4 : Nat) (0 : Nat) Option.none)) (ByteArray.size (paAt els (↑(Int.toNat (↑i : Int)) : Int)) + ByteArray.size (mgS es (Value.string (pbAt els (↑(Int.toNat (↑i : Int)) : Int))))) (18446744073709551616 : Nat)] (119 : Nat))) T.leaf) (Option.some (AObj.map es c)) (T.node (T.node T.leaf (Option.some (AObj.cells (List.take (ByteArray.size (paAt els (↑(Int.toNat (↑i : Int)) : Int)) * (1 : Nat)) (List.map (fun (b : UInt8) => Value.int IntKind.u8 (↑(UInt8.toNat b) : Int)) (Array.toList (ByteArray.data (paAt els (↑(Int.toNat (↑i : Int)) : Int))))) ++ List.map (fun (b : UInt8) => Value.int IntKind.u8 (↑(UInt8.toNat b) : Int)) (Array.toList (ByteArray.data (mgS es (Value.string (pbAt els (↑(Int.toNat (↑i : Int)) : Int))))))) (5 : Nat))) T.leaf) (Option.some (AObj.cells [Value.string (paAt els (↑(Int.toNat (↑i : Int)) : Int)), Value.string (pbAt els (↑(Int.toNat (↑i : Int)) : Int))] (126 : Nat))) T.leaf)) (5 : Nat))) (HF (Value.func (Go.Fn.yield (2 : Nat)) (Array.mk els) (Array.mk [])) ∧ HF (Value.agg (Array.mk (List.map (fun (x : Go.Value × Go.Value × Nat) => Prod.fst (Prod.snd x)) es))) ∧ HF (Value.agg (Array.mk (List.take (ByteArray.size (paAt els (↑(Int.toNat (↑i : Int)) : Int)) * (1 : Nat)) (List.map (fun (b : UInt8) => Value.int IntKind.u8 (↑(UInt8.toNat b) : Int)) (Array.toList (ByteArray.data (paAt els (↑(Int.toNat (↑i : Int)) : Int))))) ++ List.map (fun (b : UInt8) => Value.int IntKind.u8 (↑(UInt8.toNat b) : Int)) (Array.toList (ByteArray.data (mgS es (Value.string (pbAt els (↑(Int.toNat (↑i : Int)) : Int))))))))) ∧ again (T.node (T.node T.leaf (Option.some (Value.map (Option.some (0 : Nat)))) (T.node T.leaf Option.none (T.node (T.node T.leaf (Option.some (Value.int IntKind.i64 (↑(List.length els) : Int))) T.leaf) Option.none T.leaf))) Option.none (T.node (T.node (T.node T.leaf (Option.some (Value.pointer (Option.some (Go.Addr.mk (1 : Nat) (0 : Nat) Option.none)))) T.leaf) Option.none (T.node (T.node T.leaf (Option.some (Value.func (Go.Fn.yield (2 : Nat)) (Array.mk els) (Array.mk []))) T.leaf) Option.none T.leaf)) Option.none (T.node T.leaf Option.none (T.node (T.node T.leaf (Option.some (Value.int IntKind.i64 (IntKind.wrap IntKind.i64 ((↑i : Int) + (1 : Int))))) T.leaf) Option.none T.leaf)))) (AH.mk (T.node (T.node T.leaf (Option.some (AObj.cells [Value.pointer (Option.some (Go.Addr.mk (1 : Nat) (0 : Nat) Option.none)), Value.slice (Option.some (Go.Addr.mk (2 : Nat) (0 : Nat) Option.none)) (ByteArray.size (paAt els (↑(Int.toNat (↑i : Int)) : Int)) + ByteArray.size (mgS es (Value.string (pbAt els (↑(Int.toNat (↑i : Int)) : Int))))) (18446744073709551616 : Nat)] (119 : Nat))) T.leaf) (Option.some (AObj.map es c)) (T.node T.leaf (Option.some (AObj.cells (List.take (ByteArray.size (paAt els (↑(Int.toNat (↑i : Int)) : Int)) * (1 : Nat)) (List.map (fun (b : UInt8) => Value.int IntKind.u8 (↑(UInt8.toNat b) : Int)) (Array.toList (ByteArray.data (paAt els (↑(Int.toNat (↑i : Int)) : Int))))) ++ List.map (fun (b : UInt8) => Value.int IntKind.u8 (↑(UInt8.toNat b) : Int)) (Array.toList (ByteArray.data (mgS es (Value.string (pbAt els (↑(Int.toNat (↑i : Int)) : Int))))))) (5 : Nat))) T.leaf)) (3 : Nat)))))) (K (Value.tuple (Array.mk [Value.string (ByteArray.mk (Array.mk [])), Value.int IntKind.i64 (0 : Int)])) (AH.mk (T.node (T.node T.leaf (Option.some (AObj.cells [Value.pointer (Option.some (Go.Addr.mk (1 : Nat) (0 : Nat) Option.none)), Value.slice Option.none (0 : Nat) (0 : Nat)] (119 : Nat))) T.leaf) (Option.some (AObj.map es c)) T.leaf) (2 : Nat)))) := by kernel_rfl
theorem jFlN_nf (K : KV) (es0 : EntsB) (c0 : Nat) (again : KF) (els : List Go.Value) (i : Nat) (es : EntsB) (c : Nat) (bs : List Go.Value) (n : Nat) : jFlN K es0 c0 again els i es c bs n = (Sp (decide ((↑i : Int) < (↑(List.length els) : Int))) (((0 : Int) ≤ (↑i : Int) ∧ (↑i : Int) < (↑(List.length els) : Int)) ∧ nth els (Int.toNat (↑(Int.toNat (↑i : Int)) : Int)) = Option.some (Value.agg (Array.mk [Value.string (paAt els (↑(Int.toNat (↑i : Int)) : Int)), Value.string (pbAt els (↑(Int.toNat (↑i : Int)) : Int))])) ∧ Sp (Nat.beq (ByteArray.size (paAt els (↑(Int.toNat (↑i : Int)) : Int))) (0 : Nat)) (lookE (SX.E XL) (77 : Nat) es (Value.string (pbAt els (↑(Int.toNat (↑i : Int)) : Int))) = Option.some (Value.string (mgS es (Value.string (pbAt els (↑(Int.toNat (↑i : Int)) : Int)))), mhS es (Value.string (pbAt els (↑(Int.toNat (↑i : Int)) : Int)))) ∧ Sp (Nat.beq (ByteArray.size (mgS es (Value.string (pbAt els (↑(Int.toNat (↑i : Int)) : Int))))) (0 : Nat)) (Sp (decide ((1000000 : Int) < (↑n : Int))) (K (Value.tuple (Array.mk [Value.string (ByteArray.mk (Array.mk [])), Value.int IntKind.i64 (3 : Int)])) (AH.mk (T.node (T.node (T.node T.leaf (Option.some (AObj.cells [Value.string (paAt els (↑(Int.toNat (↑i : Int)) : Int)), Value.string (pbAt els (↑(Int.toNat (↑i : Int)) : Int))] (126 : Nat))) T.leaf) (Option.some (AObj.cells [Value.pointer (Option.some (Go.Addr.mk (1 : Nat) (0 : Nat) Option.none)), Value.slice (Option.some (Go.Addr.mk (2 : Nat) (0 : Nat) Option.none)) n (18446744073709551616 : Nat)] (119 : Nat))) T.leaf) (Option.some (AObj.map es c)) (T.node T.leaf (Option.some (AObj.cells bs (5 : Nat))) T.leaf)) (4 : Nat))) (HF (Value.func (Go.Fn.yield (2 : Nat)) (Array.mk els) (Array.mk [])) ∧ HF (Value.agg (Array.mk (List.map (fun (x : Go.Value × Go.Value × Nat) => Prod.fst (Prod.snd x)) es))) ∧ HF (Value.agg (Array.mk bs)) ∧ again (T.node (T.node T.leaf (Option.some (Value.map (Option.some (0 : Nat)))) (T.node T.leaf Option.none (T.node (T.node T.leaf (Option.some (Value.int IntKind.i64 (↑(List.length els) : Int))) T.leaf) Option.none T.leaf))) Option.none (T.node (T.node (T.node T.leaf (Option.some (Value.pointer (Option.some (Go.Addr.mk (1 : Nat) (0 : Nat) Option.none)))) T.leaf) Option.none (T.node (T.node T.leaf (Option.some (Value.func (Go.Fn.yield (2 : Nat)) (Array.mk els) (Array.mk []))) T.leaf) Option.none T.leaf)) Option.none (T.node T.leaf Option.none (T.node (T.node T.leaf (Option.some (Value.int IntKind.i64 (IntKind.wrap IntKind.i64 ((↑i : Int) + (1 : Int))))) T.leaf) Option.none T.leaf)))) (AH.mk (T.node (T.node T.leaf (Option.some (AObj.cells [Value.pointer (Option.some (Go.Addr.mk (1 : Nat) (0 : Nat) Option.none)), Value.slice (Option.some (Go.Addr.mk (2 : Nat) (0 : Nat) Option.none)) n (18446744073709551616 : Nat)] (119 : Nat))) T.leaf) (Option.some (AObj.map es c)) (T.node T.leaf (Option.some (AObj.cells bs (5 : Nat))) T.leaf)) (3 : Nat)))) ((n + ByteArray.size (mgS es (Value.string (pbAt els (↑(Int.toNat (↑i : Int)) : Int)))) ≤ (70368744177664 : Nat) ∧ (n + ByteArray.size (mgS es (Value.string (pbAt els (↑(Int.toNat (↑i : Int)) : Int))))) * (1 : Nat) ≤ (140737488355328 : Nat) ∧ n * (1 : Nat) ≤ List.length bs) ∧ Sp (decide ((1000000 : Int) < (↑(n + ByteArray.size (mgS es (Value.string (pbAt els (↑(Int.toNat (↑i : Int)) : Int))))) : Int))) (K (Value.tuple (Array.mk [Value.string (ByteArray.mk (Array.mk [])), Value.int IntKind.i64 (3 : Int)])) (AH.mk (T.node (T.node (T.node T.leaf (Option.some (AObj.cells [Value.string (paAt els (↑(Int.toNat (↑i : Int)) : Int)), Value.string (pbAt els (↑(Int.toNat (↑i : Int)) : Int))] (126 : Nat))) T.leaf) (Option.some (AObj.cells [Value.pointer (Option.some (Go.Addr.mk (1 : Nat) (0 : Nat) Option.none)), Value.slice (Option.some (Go.Addr.mk (4 : Nat) (0 : Nat) Option.none)) (n + ByteArray.size (mgS es (Value.string (pbAt els (↑(Int.toNat (↑i : Int)) : Int))))) (18446744073709551616 : Nat)] (119 : Nat))) T.leaf) (Option.some (AObj.map es c)) (T.node (T.node T.leaf (Option.some (AObj.cells (List.take (n * (1 : Nat)) bs ++ List.map (fun (b : UInt8) => Value.int IntKind.u8 (↑(UInt8.toNat b) : Int)) (Array.toList (ByteArray.data (mgS es (Value.string (pbAt els (↑(Int.toNat (↑i : Int)) : Int))))))) (5 : Nat))) T.leaf) (Option.some AObj.dead) T.leaf)) (5 : Nat))) (HF (Value.func (Go.Fn.yield (2 : Nat)) (Array.mk els) (Array.mk [])) ∧ HF (Value.agg (Array.mk (List.map (fun (x : Go.Value × Go.Value × Nat) => Prod.fst (Prod.snd x)) es))) ∧ HF (Value.agg (Array.mk (List.take (n * (1 : Nat)) bs ++ List.map (fun (b : UInt8) => Value.int IntKind.u8 (↑(UInt8.toNat b) : Int)) (Array.toList (ByteArray.data (mgS es (Value.string (pbAt els (↑(Int.toNat (↑i : Int)) : Int))))))))) ∧ again (T.node (T.node T.leaf (Option.some (Value.map (Option.some (0 : Nat)))) (T.node T.leaf Option.none (T.node (T.node T.leaf (Option.some (Value.int IntKind.i64 (↑(List.length els) : Int))) T.leaf) Option.none T.leaf))) Option.none (T.node (T.node (T.node T.leaf (Option.some (Value.pointer (Option.some (Go.Addr.mk (1 : Nat) (0 : Nat) Option.none)))) T.leaf) Option.none (T.node (T.node T.leaf (Option.some (Value.func (Go.Fn.yield (2 : Nat)) (Array.mk els) (Array.mk []))) T.leaf) Option.none T.leaf)) Option.none (T.node T.leaf Option.none (T.node (T.node T.leaf (Option.some (Value.int IntKind.i64 (IntKind.wrap IntKind.i64 ((↑i : Int) + (1 : Int))))) T.leaf) Option.none T.leaf)))) (AH.mk (T.node (T.node T.leaf (Option.some (AObj.cells [Value.pointer (Option.some (Go.Addr.mk (1 : Nat) (0 : Nat) Option.none)), Value.slice (Option.some (Go.Addr.mk (2 : Nat) (0 : Nat) Option.none)) (n + ByteArray.size (mgS es (Value.string (pbAt els (↑(Int.toNat (↑i : Int)) : Int))))) (18446744073709551616 : Nat)] (119 : Nat))) T.leaf) (Option.some (AObj.map es c)) (T.node T.leaf (Option.some (AObj.cells (List.take (n * (1 : Nat)) bs ++ List.map (fun (b : UInt8) => Value.int IntKind.u8 (↑(UInt8.toNat b) : Int)) (Array.toList (ByteArray.data (mgS es (Value.string (pbAt els (↑(Int.toNat (↑i : Int)) : Int))))))) (5 : Nat))) T.leaf)) (3 : Nat))))) ((n + ByteArray.size (paAt els (↑(Int.toNat (↑i : Int)) : Int)) ≤ (70368744177664 : Nat) ∧ (n + ByteArray.size (paAt els (↑(Int.toNat (↑i : Int)) : Int))) * (1 : Nat) ≤ (140737488355328 : Nat) ∧ n * (1 : Nat) ≤ List.length bs) ∧ lookE (SX.E XL) (77 : Nat) es (Value.string (pbAt els (↑(Int.toNat (↑i : Int)) : Int))) = Option.some (Value.string (mgS es (Value.string (pbAt els (↑(Int.toNat (↑i : Int)) : Int)))), mhS es (Value.string (pbAt els (↑(Int.toNat (↑i : Int)) : Int)))) ∧ Sp (Nat.beq (ByteArray.size (mgS es (Value.string (pbAt els (↑(Int.toNat (↑i : Int)) : Int))))) (0 : Nat)) (Sp (decide ((1000000 : Int) < (↑(n + ByteArray.size (paAt els (↑(Int.toNat (↑i : Int)) : Int))) : Int))) (K (Value.tuple (Array.mk [Value.string (ByteArray.mk (Array.mk [])), Value.int IntKind.i64 (3 : Int)])) (AH.mk (T.node (T.node (T.node T.leaf (Option.some (AObj.cells [Value.string (paAt els (↑(Int.toNat (↑i : Int)) : Int)), Value.string (pbAt els (↑(Int.toNat (↑i : Int)) : Int))] (126 : Nat))) T.leaf) (Option.some (AObj.cells [Value.pointer (Option.some (Go.Addr.mk (1 : Nat) (0 : Nat) Option.none)), Value.slice (Option.some (Go.Addr.mk (4 : Nat) (0 : Nat) Option.none)) (n + ByteArray.size (paAt els (↑(Int.toNat (↑i : Int)) : Int))) (18446744073709551616 : Nat)] (119 : Nat))) T.leaf) (Option.some (AObj.map es c)) (T.node (T.node T.leaf (Option.some (AObj.cells (List.take (n * (1 : Nat)) bs ++ List.map (fun (b : UInt8) => Value.int IntKind.u8 (↑(UInt8.toNat b) : Int)) (Array.toList (ByteArray.data (paAt els (↑(Int.toNat (↑i : Int)) : Int))))) (5 : Nat))) T.leaf) (Option.some AObj.dead) T.leaf)) (5 : Nat))) (HF (Value.func (Go.Fn.yield (2 : Nat)) (Array.mk els) (Array.mk [])) ∧ HF (Value.agg (Array.mk (List.map (fun (x : Go.Value × Go.Value × Nat) => Prod.fst (Prod.snd x)) es))) ∧ HF (Value.agg (Array.mk (List.take (n * (1 : Nat)) bs ++ List.map (fun (b : UInt8) => Value.int IntKind.u8 (↑(UInt8.toNat b) : Int)) (Array.toList (ByteArray.data (paAt els (↑(Int.toNat (↑i : Int)) : Int))))))) ∧ again (T.node (T.node T.leaf (Option.some (Value.map (Option.some (0 : Nat)))) (T.node T.leaf Option.none (T.node (T.node T.leaf (Option.some (Value.int IntKind.i64 (↑(List.length els) : Int))) T.leaf) Option.none T.leaf))) Option.none (T.node (T.node (T.node T.leaf (Option.some (Value.pointer (Option.some (Go.Addr.mk (1 : Nat) (0 : Nat) Option.none)))) T.leaf) Option.none (T.node (T.node T.leaf (Option.some (Value.func (Go.Fn.yield (2 : Nat)) (Array.mk els) (Array.mk []))) T.leaf) Option.none T.leaf)) Option.none (T.node T.leaf Option.none (T.node (T.node T.leaf (Option.some (Value.int IntKind.i64 (IntKind.wrap IntKind.i64 ((↑i : Int) + (1 : Int))))) T.leaf) Option.none T.leaf)))) (AH.mk (T.node (T.node T.leaf (Option.some (AObj.cells [Value.pointer (Option.some (Go.Addr.mk (1 : Nat) (0 : Nat) Option.none)), Value.slice (Option.some (Go.Addr.mk (2 : Nat) (0 : Nat) Option.none)) (n + ByteArray.size (paAt els (↑(Int.toNat (↑i : Int)) : Int))) (18446744073709551616 : Nat)] (119 : Nat))) T.leaf) (Option.some (AObj.map es c)) (T.node T.leaf (Option.some (AObj.cells (List.take (n * (1 : Nat)) bs ++ List.map (fun (b : UInt8) => Value.int IntKind.u8 (↑(UInt8.toNat b) : Int)) (Array.toList (ByteArray.data (paAt els (↑(Int.toNat (↑i : Int)) : Int))))) (5 : Nat))) T.leaf)) (3 : Nat)))) ((n + ByteArray.size (paAt els (↑(Int.toNat (↑i : Int)) : Int)) + ByteArray.size (mgS es (Value.string (pbAt els (↑(Int.toNat (↑i : Int)) : Int)))) ≤ (70368744177664 : Nat) ∧ (n + ByteArray.size (paAt els (↑(Int.toNat (↑i : Int)) : Int)) + ByteArray.size (mgS es (Value.string (pbAt els (↑(Int.toNat (↑i : Int)) : Int))))) * (1 : Nat) ≤ (140737488355328 : Nat) ∧ (n + ByteArray.size (paAt els (↑(Int.toNat (↑i : Int)) : Int))) * (1 : Nat) ≤ List.length (List.take (n * (1 : Nat)) bs ++ List.map (fun (b : UInt8) => Value.int IntKind.u8 (↑(UInt8.toNat b) : Int)) (Array.toList (ByteArray.data (paAt els (↑(Int.toNat (↑i : Int)) : Int)))))) ∧ Sp (decide ((1000000 : Int) < (↑(n + ByteArray.size (paAt els (↑(Int.toNat (↑i : Int)) : Int)) + ByteArray.size (mgS es (Value.string (pbAt els (↑(Int.toNat (↑i : Int)) : Int))))) : Int))) (K (Value.tuple (Array.mk [Value.string (ByteArray.mk (Array.mk [])), Value.int IntKind.i64 (3 : Int)])) (AH.mk (T.node (T.node (T.node T.leaf (Option.some (AObj.cells [Value.string (paAt els (↑(Int.toNat (↑i : Int)) : Int)), Value.string (pbAt els (↑(Int.toNat (↑i : Int)) : Int))] (126 : Nat))) T.leaf) (Option.some (AObj.cells [Value.pointer (Option.some (Go.Addr.mk (1 : Nat) (0 : Nat) Option.none)), Value.slice (Option.some (Go.Addr.mk (5 : Nat) (0 : Nat) Option.none)) (n + ByteArray.size (paAt els (↑(Int.toNat (↑i : Int)) : Int)) + ByteArray.size (mgS es (Value.string (pbAt els (↑(Int.toNat (↑i : Int)) : Int))))) (18446744073709551616 : Nat)] (119 : Nat))) (T.node T.leaf (Option.some (AObj.cells (List.take ((n + ByteArray.size (paAt els (↑(Int.toNat (↑i : Int)) : Int))) * (1 : Nat)) (List.take (n * (1 : Nat)) bs ++ List.map (fun (b : UInt8) => Value.int IntKind.u8 (↑(UInt8.toNat b) : Int)) (Array.toList (ByteArray.data (paAt els (↑(Int.toNat (↑i : Int)) : Int))))) ++ List.map (fun (b : UInt8) => Value.int IntKind.u8 (↑(UInt8.toNat b) : Int)) (Array.toList (ByteArray.data (mgS es (Value.string (pbAt els (↑(Int.toNat (↑i : Int)) : Int))))))) (5 : Nat))) T.leaf)) (Option.some (AObj.map es c)) (T.node (T.node T.leaf (Option.some AObj.dead) T.leaf) (Option.some AObj.dead) T.leaf)) (6 : Nat))) (HF (Value.func (Go.Fn.yield (2 : Nat)) (Array.mk els) (Array.mk [])) ∧ HF (Value.agg (Array.mk (List.map (fun (x : Go.Value × Go.Value × Nat) => Prod.fst (Prod.snd x)) es))) ∧ HF (Value.agg (Array.mk (List.take ((n + ByteArray.size (paAt els (↑(Int.toNat (↑i : Int)) : Int))) * (1 : Nat)) (List.take (n * (1 : Nat)) bs ++ List.map (fun (b : UInt8) => Value.int IntKind.u8 (↑(UInt8.toNat b) : Int)) (Array.toList (ByteArray.data (paAt els (↑(Int.toNat (↑i : Int)) : Int))))) ++ List.map (fun (b : UInt8) => Value.int IntKind.u8 (↑(UInt8.toNat b) : Int)) (Array.toList (ByteArray.data (mgS es (Value.string (pbAt els (↑(Int.toNat (↑i : Int)) : Int))))))))) ∧ again (T.node (T.node T.leaf (Option.some (Value.map (Option.some (0 : Nat)))) (T.node T.leaf Option.none (T.node (T.node T.leaf (Option.some (Value.int IntKind.i64 (↑(List.length els) : Int))) T.leaf) Option.none T.leaf))) Option.none (T.node (T.node (T.node T.leaf (Option.some (Value.pointer (Option.some (Go.Addr.mk (1 : Nat) (0 : Nat) Option.none)))) T.leaf) Option.none (T.node (T.node T.leaf (Option.some (Value.func (Go.Fn.yield (2 : Nat)) (Array.mk els) (Array.mk []))) T.leaf) Option.none T.leaf)) Option.none (T.node T.leaf Option.none (T.node (T.node T.leaf (Option.some (Value.int IntKind.i64 (IntKind.wrap IntKind.i64 ((↑i : Int) + (1 : Int))))) T.leaf) Option.none T.leaf)))) (AH.mk (T.node (T.node T.leaf (Option.some (AObj.cells [Value.pointer (Option.some (Go.Addr.mk (1 : Nat) (0 : Nat) Option.none)), Value.slice (Option.some (Go.Addr.mk (2 : Nat) (0 : Nat) Option.none)) (n + ByteArray.size (paAt els (↑(Int.toNat (↑i : Int)) : Int)) + ByteArray.size (mgS es (Value.string (pbAt els (↑(Int.toNat (↑i : Int)) : Int))))) (18446744073709551616 : Nat)] (119 : Nat))) T.leaf) (Option.some (AObj.map es c)) (T.node T.leaf (Option.some (AObj.cells (List.take ((n + ByteArray.size (paAt els (↑(Int.toNat (↑i : Int)) : Int))) * (1 : Nat)) (List.take (n * (1 : Nat)) bs ++ List.map (fun (b : UInt8) => Value.int IntKind.u8 (↑(UInt8.toNat b) : Int)) (Array.toList (ByteArray.data (paAt els (↑(Int.toNat (↑i : Int)) : Int))))) ++ List.map (fun (b : UInt8) => Value.int IntKind.u8 (↑(UInt8.toNat b) : Int)) (Array.toList (ByteArray.data (mgS es (Value.string (pbAt els (↑(Int.toNat (↑i : Int)) : Int))))))) (5 : Nat))) T.leaf)) (3 : Nat)))))) ((IsB bs (0 : Nat) n ∧ (0 : Nat) < n ∧ n ≤ (9223372036854775807 : Nat)) ∧ K (Value.tuple (Array.mk [Value.string (mkBytes (u8L bs (0 : Nat) n)), Value.int IntKind.i64 (0 : Int)])) (AH.mk (T.node (T.node T.leaf (Option.some (AObj.cells [Value.pointer (Option.some (Go.Addr.mk (1 : Nat) (0 : Nat) Option.none)), Value.slice (Option.some (Go.Addr.mk (2 : Nat) (0 : Nat) Option.none)) n (18446744073709551616 : Nat)] (119 : Nat))) T.leaf) (Option.some (AObj.map es c)) (T.node T.leaf (Option.some AObj.dead) T.leaf)) (3 : Nat)))) := by kernel_rfl
def vl (m : MS) (nm : SB) : SB := (aget m nm.data.toList).getD ByteArray.empty
def nac (val : SB → SB) (acc : List UInt8) (p : SB × SB) : List UInt8 := acc ++ p.1.data.toList ++ (val p.2).data.toList
def flF (val : SB → SB) : List UInt8 → List (SB × SB) → SB × Int
  | acc, [] => (mkBytes acc, 0)
  | acc, p :: l => bif decide (1000000 < (nac val acc p).length) then (mkBytes [], 3) else flF val (nac val acc p) l
theorem flF_at {val : SB → SB} {l : List (SB × SB)} {i : Nat} (h : i < l.length) (acc : List UInt8) : flF val acc (l.drop i) = bif decide (1000000 < (nac val acc l[i]).length) then (mkBytes [], 3) else flF val (nac val acc l[i]) (l.drop (i + 1)) := by
  rw [List.drop_eq_getElem_cons h]; rfl
theorem tl_len (s : SB) : s.data.toList.length = s.size := by simp
theorem tl_nil {s : SB} (h : Nat.beq s.size 0 = true) : s.data.toList = [] := List.eq_nil_of_length_eq_zero (by rw [tl_len]; exact Nat.eq_of_beq_eq_true h)
theorem tl_ne {s : SB} (h : Nat.beq s.size 0 = false) : s.data.toList ≠ [] := fun e => by
  have := tl_len s
  rw [e] at this
  have h0 : s.size = 0 := by simpa using this.symm
  rw [h0] at h; cases h
theorem takeU (x : List UInt8) {n : Nat} (h : n = x.length) (y : List UInt8) : (u8v x).take (n * 1) ++ (y.map fun b => Value.int .u8 b.toNat) = u8v (x ++ y) := by
  rw [Nat.mul_one, List.take_of_length_le (by rw [u8_len]; omega)]; simp [u8v]
def flR (m : MS) (l : List (SB × SB)) : Value := .tuple ⟨[.string (flF (vl m) [] l).1, .int .i64 (flF (vl m) [] l).2]⟩
def LI (m : MS) (l : List (SB × SB)) (k : Nat) (F : T Value) (A : AH) : Prop := ∃ (i : Nat) (acc : List UInt8), F = frL (pv l) i ∧ i + k = l.length ∧ acc.length ≤ 1000000 ∧ flF (vl m) [] l = flF (vl m) acc (l.drop i) ∧
  ((acc = [] ∧ (A = hL0 (enS m) m.length ∨ A = hL1 (enS m) m.length)) ∨ (acc ≠ [] ∧ A = hLN (enS m) m.length (u8v acc) (u8v acc).length))
theorem L_step0 (m : MS) (l : List (SB × SB)) (hl : l.length ≤ 9223372036854775807) (hv : ∀ x, (vl m x).size ≤ 1048576) (ht : ∀ p ∈ l, p.1.size ≤ 1048576) (es0 : EntsB) (c0 i k : Nat) (hk : i + k = l.length) (hx : flF (vl m) [] l = flF (vl m) [] (l.drop i)) :
    jFl0 (fun v A => Frz A v (flR m l)) es0 c0 (fun F' A' => ∃ m', m' < k ∧ LI m l m' F' A') (pv l) i (enS m) m.length := by
  refine (jFl0_nf _ _ _ _ _ i _ _).mpr ?_
  refine Sp.intro (fun c => ?_) (fun c => ?_)
  · have hlt : i < l.length := by simpa [pv_len] using c
    have hw : IntKind.i64.wrap ((i : Int) + 1) = ((i + 1 : Nat) : Int) := by rw [i64_in (by omega) (by omega)]; rfl
    simp only [Int.toNat_natCast, pa_at hlt, pb_at hlt, hw, mgS_e]
    rw [flF_at hlt] at hx
    have evl : (aget m l[i].2.data.toList).getD ByteArray.empty = vl m l[i].2 := rfl
    simp only [evl]
    have hvs := hv l[i].2
    have hts := ht l[i] (List.getElem_mem hlt)
    have hvl := tl_len (vl m l[i].2)
    have htl := tl_len l[i].1
    have hlk : lookE XL.E 77 (enS m) (.string l[i].2) = some (.string (vl m l[i].2), mhS (enS m) (.string l[i].2)) := lookS m l[i].2
    have hnl : (nac (vl m) [] l[i]).length = ([] : List UInt8).length + l[i].1.size + (vl m l[i].2).size := by unfold nac; rw [List.length_append, List.length_append, htl, hvl]
    have hX : 1000000 < (nac (vl m) [] l[i]).length → ∀ A, Frz A (.tuple ⟨[.string (ByteArray.mk (Array.mk [])), .int .i64 3]⟩) (flR m l) := fun h A => by
      have e : flR m l = .tuple ⟨[.string (mkBytes []), .int .i64 3]⟩ := by unfold flR; rw [hx, decide_eq_true h]; rfl
      rw [e]; exact .same (.tuple (HF.cons (.scal rfl) (HF.cons (.scal rfl) HF.nil)))
    have hO : ¬ 1000000 < (nac (vl m) [] l[i]).length → flF (vl m) [] l = flF (vl m) (nac (vl m) [] l[i]) (l.drop (i + 1)) := fun h => by rw [hx, decide_eq_false h]; rfl
    have hN : ∀ bs n, ¬ 1000000 < (nac (vl m) [] l[i]).length → nac (vl m) [] l[i] ≠ [] → bs = u8v (nac (vl m) [] l[i]) → n = (nac (vl m) [] l[i]).length → HF (.agg ⟨bs⟩) ∧ ∃ m', m' < k ∧ LI m l m' (frL (pv l) (i + 1)) (hLN (enS m) m.length bs n) := fun bs n h1 h2 h3 h4 => by
      subst h3; subst h4
      exact ⟨.agg (HF_u8 _), k - 1, by omega, i + 1, nac (vl m) [] l[i], rfl, by omega, by omega, hO h1, .inr ⟨h2, by rw [u8_len]⟩⟩
    have hE : nac (vl m) [] l[i] = [] → ∃ m', m' < k ∧ LI m l m' (frL (pv l) (i + 1)) (hL1 (enS m) m.length) := fun h => by
      have e := hO (by rw [h]; simp)
      rw [h] at e
      exact ⟨k - 1, by omega, i + 1, [], rfl, by omega, by simp, e, .inl ⟨rfl, .inr rfl⟩⟩
    refine ⟨by rw [pv_len]; omega, pv_nth hlt, Sp.intro (fun c1 => ⟨hlk, Sp.intro (fun c2 => ?_) (fun c2 => ⟨by omega, ?_⟩)⟩) (fun c1 => ⟨by omega, hlk, Sp.intro (fun c2 => ?_) (fun c2 => ?_)⟩)⟩
    · exact ⟨HF_dpv l, HF_enS m, hE (by unfold nac; rw [tl_nil c1, tl_nil c2]; rfl)⟩
    · have z := Nat.eq_of_beq_eq_true c1
      refine Sp.intro (fun c3 => hX (by have := of_decide_eq_true c3; rw [hnl]; simp; omega) _) (fun c3 => ⟨HF_dpv l, HF_enS m, hN _ _ (by have := of_decide_eq_false c3; rw [hnl]; simp; omega) ?_ ?_ ?_⟩)
      · unfold nac; rw [tl_nil c1]; simpa using tl_ne c2
      · unfold nac; rw [tl_nil c1]; rfl
      · rw [hnl, z]; simp
    · have z := Nat.eq_of_beq_eq_true c2
      refine Sp.intro (fun c3 => hX (by have := of_decide_eq_true c3; rw [hnl]; simp; omega) _) (fun c3 => ⟨HF_dpv l, HF_enS m, hN _ _ (by have := of_decide_eq_false c3; rw [hnl]; simp; omega) ?_ ?_ ?_⟩)
      · unfold nac; rw [tl_nil c2]; simpa using tl_ne c1
      · unfold nac; rw [tl_nil c2, List.append_nil]; rfl
      · rw [hnl, z]; simp
    · have hlen : ((l[i].1.data.toList.map fun b => Value.int .u8 (b.toNat : Int)) : List Value).length = l[i].1.size := by rw [List.length_map]; exact htl
      refine ⟨⟨by omega, by omega, by rw [hlen]; omega⟩, Sp.intro (fun c3 => hX (by have := of_decide_eq_true c3; rw [hnl]; simp at this ⊢; omega) _) (fun c3 => ⟨HF_dpv l, HF_enS m, hN _ _ (by have := of_decide_eq_false c3; rw [hnl]; simp at this ⊢; omega) ?_ ?_ ?_⟩)⟩
      · unfold nac; simp; intro h; exact absurd h (by simpa using tl_ne c1)
      · exact takeU l[i].1.data.toList htl.symm (vl m l[i].2).data.toList
      · rw [hnl]; simp
  · have hn : l.drop i = [] := List.drop_eq_nil_of_le (by simp [pv_len] at c; omega)
    rw [hn] at hx
    have hx : flF (vl m) [] l = (mkBytes [], 0) := hx
    unfold flR; rw [hx]; exact .same (.tuple (HF.cons (.scal rfl) (HF.cons (.scal rfl) HF.nil)))
theorem L_step1 (m : MS) (l : List (SB × SB)) (hl : l.length ≤ 9223372036854775807) (hv : ∀ x, (vl m x).size ≤ 1048576) (ht : ∀ p ∈ l, p.1.size ≤ 1048576) (es0 : EntsB) (c0 i k : Nat) (hk : i + k = l.length) (hx : flF (vl m) [] l = flF (vl m) [] (l.drop i)) :
    jFl1 (fun v A => Frz A v (flR m l)) es0 c0 (fun F' A' => ∃ m', m' < k ∧ LI m l m' F' A') (pv l) i (enS m) m.length := by
  refine (jFl1_nf _ _ _ _ _ i _ _).mpr ?_
  refine Sp.intro (fun c => ?_) (fun c => ?_)
  · have hlt : i < l.length := by simpa [pv_len] using c
    have hw : IntKind.i64.wrap ((i : Int) + 1) = ((i + 1 : Nat) : Int) := by rw [i64_in (by omega) (by omega)]; rfl
    simp only [Int.toNat_natCast, pa_at hlt, pb_at hlt, hw, mgS_e]
    rw [flF_at hlt] at hx
    have evl : (aget m l[i].2.data.toList).getD ByteArray.empty = vl m l[i].2 := rfl
    simp only [evl]
    have hvs := hv l[i].2
    have hts := ht l[i] (List.getElem_mem hlt)
    have hvl := tl_len (vl m l[i].2)
    have htl := tl_len l[i].1
    have hlk : lookE XL.E 77 (enS m) (.string l[i].2) = some (.string (vl m l[i].2), mhS (enS m) (.string l[i].2)) := lookS m l[i].2
    have hnl : (nac (vl m) [] l[i]).length = ([] : List UInt8).length + l[i].1.size + (vl m l[i].2).size := by unfold nac; rw [List.length_append, List.length_append, htl, hvl]
    have hX : 1000000 < (nac (vl m) [] l[i]).length → ∀ A, Frz A (.tuple ⟨[.string (ByteArray.mk (Array.mk [])), .int .i64 3]⟩) (flR m l) := fun h A => by
      have e : flR m l = .tuple ⟨[.string (mkBytes []), .int .i64 3]⟩ := by unfold flR; rw [hx, decide_eq_true h]; rfl
      rw [e]; exact .same (.tuple (HF.cons (.scal rfl) (HF.cons (.scal rfl) HF.nil)))
    have hO : ¬ 1000000 < (nac (vl m) [] l[i]).length → flF (vl m) [] l = flF (vl m) (nac (vl m) [] l[i]) (l.drop (i + 1)) := fun h => by rw [hx, decide_eq_false h]; rfl
    have hN : ∀ bs n, ¬ 1000000 < (nac (vl m) [] l[i]).length → nac (vl m) [] l[i] ≠ [] → bs = u8v (nac (vl m) [] l[i]) → n = (nac (vl m) [] l[i]).length → HF (.agg ⟨bs⟩) ∧ ∃ m', m' < k ∧ LI m l m' (frL (pv l) (i + 1)) (hLN (enS m) m.length bs n) := fun bs n h1 h2 h3 h4 => by
      subst h3; subst h4
      exact ⟨.agg (HF_u8 _), k - 1, by omega, i + 1, nac (vl m) [] l[i], rfl, by omega, by omega, hO h1, .inr ⟨h2, by rw [u8_len]⟩⟩
    have hE : nac (vl m) [] l[i] = [] → ∃ m', m' < k ∧ LI m l m' (frL (pv l) (i + 1)) (hL1 (enS m) m.length) := fun h => by
      have e := hO (by rw [h]; simp)
      rw [h] at e
      exact ⟨k - 1, by omega, i + 1, [], rfl, by omega, by simp, e, .inl ⟨rfl, .inr rfl⟩⟩
    refine ⟨by rw [pv_len]; omega, pv_nth hlt, Sp.intro (fun c1 => ⟨hlk, Sp.intro (fun c2 => ?_) (fun c2 => ⟨by omega, ?_⟩)⟩) (fun c1 => ⟨by omega, hlk, Sp.intro (fun c2 => ?_) (fun c2 => ?_)⟩)⟩
    · exact ⟨HF_dpv l, HF_enS m, hE (by unfold nac; rw [tl_nil c1, tl_nil c2]; rfl)⟩
    · have z := Nat.eq_of_beq_eq_true c1
      refine Sp.intro (fun c3 => hX (by have := of_decide_eq_true c3; rw [hnl]; simp; omega) _) (fun c3 => ⟨HF_dpv l, HF_enS m, hN _ _ (by have := of_decide_eq_false c3; rw [hnl]; simp; omega) ?_ ?_ ?_⟩)
      · unfold nac; rw [tl_nil c1]; simpa using tl_ne c2
      · unfold nac; rw [tl_nil c1]; rfl
      · rw [hnl, z]; simp
    · have z := Nat.eq_of_beq_eq_true c2
      refine Sp.intro (fun c3 => hX (by have := of_decide_eq_true c3; rw [hnl]; simp; omega) _) (fun c3 => ⟨HF_dpv l, HF_enS m, hN _ _ (by have := of_decide_eq_false c3; rw [hnl]; simp; omega) ?_ ?_ ?_⟩)
      · unfold nac; rw [tl_nil c2]; simpa using tl_ne c1
      · unfold nac; rw [tl_nil c2, List.append_nil]; rfl
      · rw [hnl, z]; simp
    · have hlen : ((l[i].1.data.toList.map fun b => Value.int .u8 (b.toNat : Int)) : List Value).length = l[i].1.size := by rw [List.length_map]; exact htl
      refine ⟨⟨by omega, by omega, by rw [hlen]; omega⟩, Sp.intro (fun c3 => hX (by have := of_decide_eq_true c3; rw [hnl]; simp at this ⊢; omega) _) (fun c3 => ⟨HF_dpv l, HF_enS m, hN _ _ (by have := of_decide_eq_false c3; rw [hnl]; simp at this ⊢; omega) ?_ ?_ ?_⟩)⟩
      · unfold nac; simp; intro h; exact absurd h (by simpa using tl_ne c1)
      · exact takeU l[i].1.data.toList htl.symm (vl m l[i].2).data.toList
      · rw [hnl]; simp
  · have hn : l.drop i = [] := List.drop_eq_nil_of_le (by simp [pv_len] at c; omega)
    rw [hn] at hx
    have hx : flF (vl m) [] l = (mkBytes [], 0) := hx
    unfold flR; rw [hx]; exact .same (.tuple (HF.cons (.scal rfl) (HF.cons (.scal rfl) HF.nil)))
theorem L_stepN (m : MS) (l : List (SB × SB)) (hl : l.length ≤ 9223372036854775807) (hv : ∀ x, (vl m x).size ≤ 1048576) (ht : ∀ p ∈ l, p.1.size ≤ 1048576) (es0 : EntsB) (c0 i k : Nat) (acc : List UInt8) (ha : acc ≠ []) (hal : acc.length ≤ 1000000) (hk : i + k = l.length) (hx : flF (vl m) [] l = flF (vl m) acc (l.drop i)) :
    jFlN (fun v A => Frz A v (flR m l)) es0 c0 (fun F' A' => ∃ m', m' < k ∧ LI m l m' F' A') (pv l) i (enS m) m.length (u8v acc) (u8v acc).length := by
  refine (jFlN_nf _ _ _ _ _ i _ _ _ _).mpr ?_
  refine Sp.intro (fun c => ?_) (fun c => ?_)
  · have hlt : i < l.length := by simpa [pv_len] using c
    have hw : IntKind.i64.wrap ((i : Int) + 1) = ((i + 1 : Nat) : Int) := by rw [i64_in (by omega) (by omega)]; rfl
    simp only [Int.toNat_natCast, pa_at hlt, pb_at hlt, hw, mgS_e]
    rw [flF_at hlt] at hx
    have evl : (aget m l[i].2.data.toList).getD ByteArray.empty = vl m l[i].2 := rfl
    simp only [evl]
    have hvs := hv l[i].2
    have hts := ht l[i] (List.getElem_mem hlt)
    have hvl := tl_len (vl m l[i].2)
    have htl := tl_len l[i].1
    have hlk : lookE XL.E 77 (enS m) (.string l[i].2) = some (.string (vl m l[i].2), mhS (enS m) (.string l[i].2)) := lookS m l[i].2
    have hnl : (nac (vl m) acc l[i]).length = acc.length + l[i].1.size + (vl m l[i].2).size := by unfold nac; rw [List.length_append, List.length_append, htl, hvl]
    have hX : 1000000 < (nac (vl m) acc l[i]).length → ∀ A, Frz A (.tuple ⟨[.string (ByteArray.mk (Array.mk [])), .int .i64 3]⟩) (flR m l) := fun h A => by
      have e : flR m l = .tuple ⟨[.string (mkBytes []), .int .i64 3]⟩ := by unfold flR; rw [hx, decide_eq_true h]; rfl
      rw [e]; exact .same (.tuple (HF.cons (.scal rfl) (HF.cons (.scal rfl) HF.nil)))
    have hO : ¬ 1000000 < (nac (vl m) acc l[i]).length → flF (vl m) [] l = flF (vl m) (nac (vl m) acc l[i]) (l.drop (i + 1)) := fun h => by rw [hx, decide_eq_false h]; rfl
    have hN : ∀ bs n, ¬ 1000000 < (nac (vl m) acc l[i]).length → nac (vl m) acc l[i] ≠ [] → bs = u8v (nac (vl m) acc l[i]) → n = (nac (vl m) acc l[i]).length → HF (.agg ⟨bs⟩) ∧ ∃ m', m' < k ∧ LI m l m' (frL (pv l) (i + 1)) (hLN (enS m) m.length bs n) := fun bs n h1 h2 h3 h4 => by
      subst h3; subst h4
      exact ⟨.agg (HF_u8 _), k - 1, by omega, i + 1, nac (vl m) acc l[i], rfl, by omega, by omega, hO h1, .inr ⟨h2, by rw [u8_len]⟩⟩
    have hul := u8_len acc
    have hap : nac (vl m) acc l[i] ≠ [] := by unfold nac; simp [ha]
    refine ⟨by rw [pv_len]; omega, pv_nth hlt, Sp.intro (fun c1 => ⟨hlk, Sp.intro (fun c2 => ?_) (fun c2 => ⟨⟨by omega, by omega, by omega⟩, ?_⟩)⟩) (fun c1 => ⟨⟨by omega, by omega, by omega⟩, hlk, Sp.intro (fun c2 => ?_) (fun c2 => ?_)⟩)⟩
    · have z1 := Nat.eq_of_beq_eq_true c1
      have z2 := Nat.eq_of_beq_eq_true c2
      refine Sp.intro (fun c3 => absurd (of_decide_eq_true c3) (by omega)) (fun c3 => ⟨HF_dpv l, HF_enS m, hN _ _ (by rw [hnl]; omega) hap ?_ ?_⟩)
      · unfold nac; rw [tl_nil c1, tl_nil c2, List.append_nil, List.append_nil]
      · rw [hnl]; omega
    · have z := Nat.eq_of_beq_eq_true c1
      refine Sp.intro (fun c3 => hX (by have := of_decide_eq_true c3; rw [hnl]; omega) _) (fun c3 => ⟨HF_dpv l, HF_enS m, hN _ _ (by have := of_decide_eq_false c3; rw [hnl]; omega) hap ?_ ?_⟩)
      · unfold nac; rw [tl_nil c1, List.append_nil]; exact takeU acc hul (vl m l[i].2).data.toList
      · rw [hnl]; omega
    · have z := Nat.eq_of_beq_eq_true c2
      refine Sp.intro (fun c3 => hX (by have := of_decide_eq_true c3; rw [hnl]; omega) _) (fun c3 => ⟨HF_dpv l, HF_enS m, hN _ _ (by have := of_decide_eq_false c3; rw [hnl]; omega) hap ?_ ?_⟩)
      · unfold nac; rw [tl_nil c2, List.append_nil]; exact takeU acc hul l[i].1.data.toList
      · rw [hnl]; omega
    · have e1 := takeU acc hul l[i].1.data.toList
      have hlen : ((u8v acc).take ((u8v acc).length * 1) ++ (l[i].1.data.toList.map fun b => Value.int .u8 (b.toNat : Int))).length = (u8v acc).length + l[i].1.size := by rw [e1, u8_len, List.length_append, htl, hul]
      refine ⟨⟨by omega, by omega, by rw [hlen]; omega⟩, Sp.intro (fun c3 => hX (by have := of_decide_eq_true c3; rw [hnl]; omega) _) (fun c3 => ⟨HF_dpv l, HF_enS m, hN _ _ (by have := of_decide_eq_false c3; rw [hnl]; omega) hap ?_ ?_⟩)⟩
      · rw [e1]; exact takeU (acc ++ l[i].1.data.toList) (by rw [List.length_append, htl, hul]) (vl m l[i].2).data.toList
      · rw [hnl]; omega
  · have hn : l.drop i = [] := List.drop_eq_nil_of_le (by simp [pv_len] at c; omega)
    rw [hn] at hx
    have hx : flF (vl m) [] l = (mkBytes acc, 0) := hx
    have htp : 0 < acc.length := by rcases acc with _ | ⟨x, y⟩; exact absurd rfl ha; simp
    have hul := u8_len acc
    refine ⟨⟨u8_is acc, by omega, by omega⟩, ?_⟩
    unfold flR; rw [hx, u8_L]; exact .same (.tuple (HF.cons (.scal rfl) (HF.cons (.scal rfl) HF.nil)))
end
end Go.T9
set_option maxRecDepth 1000000
set_option linter.unusedVariables false
set_option linter.unusedSimpArgs false
set_option maxHeartbeats 4000000
namespace Go.T9
open Go Go.AM Go.MK
noncomputable section
theorem mkB_size (l : List UInt8) : (mkBytes l).size = l.length := by simp [mkBytes, ByteArray.size]
theorem pcs_all {s : SB} {Pd : SB × SB → Prop} (h1 : ∀ txt : List UInt8, txt.length ≤ s.size → Pd (mkBytes txt, mkBytes [])) (h2 : ∀ nm, nameB nm = true → Pd (mkBytes [], nm)) :
    ∀ (n i : Nat) (txt : List UInt8) (out : List (SB × SB)), s.size - i ≤ n → i ≤ s.size → txt.length ≤ i → (∀ p ∈ out, Pd p) → ∀ p ∈ (pcs s i txt out).1, Pd p := by
  intro n
  induction n with
  | zero =>
    intro i txt out hn hi ht ho
    rw [pcs_end (by omega)]
    intro p hp
    rcases List.mem_append.1 hp with h | h
    · exact ho p h
    · rw [List.mem_singleton.1 h]; exact h1 txt (by omega)
  | succ n ih =>
    intro i txt out hn hi ht ho
    by_cases hlt : i < s.size
    · cases hP : plB s i with
      | true =>
        rw [pcs_pl hlt hP]
        exact ih (i + 1) _ out (by omega) (by omega) (by simp; omega) ho
      | false =>
        obtain ⟨_, hb, _⟩ := plB_false hlt hP
        by_cases h36 : byteAt s ((i + 1 : Nat) : Int) = 36
        · rw [pcs_dd hlt hP h36]
          exact ih (i + 2) _ out (by omega) (by omega) (by simp; omega) ho
        · cases hbad : badN s i with
          | true => rw [pcs_bad hlt hP h36 hbad]; intro p hp; cases hp
          | false =>
            rw [pcs_nm hlt hP h36 hbad]
            unfold badN at hbad
            simp only [Bool.or_eq_false_iff, Bool.not_eq_false'] at hbad
            obtain ⟨hl1, hl2⟩ := lenN_in hlt hP h36 (of_decide_eq_false hbad.1)
            refine ih _ [] _ (by omega) (by omega) (by simp) (fun p hp => ?_)
            rcases List.mem_append.1 hp with h | h
            · exact ho p h
            · simp only [List.mem_cons, List.not_mem_nil, or_false] at h
              rcases h with rfl | rfl
              · exact h1 txt (by omega)
              · exact h2 _ hbad.2
    · rw [pcs_end hlt]
      intro p hp
      rcases List.mem_append.1 hp with h | h
      · exact ho p h
      · rw [List.mem_singleton.1 h]; exact h1 txt (by omega)
theorem pcs_len {s : SB} : ∀ (n i : Nat) (txt : List UInt8) (out : List (SB × SB)), s.size - i ≤ n → i ≤ s.size → out.length ≤ 2 * i → (pcs s i txt out).1.length ≤ 2 * s.size + 1 := by
  intro n
  induction n with
  | zero => intro i txt out hn hi ho; rw [pcs_end (by omega)]; simp; omega
  | succ n ih =>
    intro i txt out hn hi ho
    by_cases hlt : i < s.size
    · cases hP : plB s i with
      | true => rw [pcs_pl hlt hP]; exact ih (i + 1) _ out (by omega) (by omega) (by omega)
      | false =>
        obtain ⟨_, hb, _⟩ := plB_false hlt hP
        by_cases h36 : byteAt s ((i + 1 : Nat) : Int) = 36
        · rw [pcs_dd hlt hP h36]; exact ih (i + 2) _ out (by omega) (by omega) (by omega)
        · cases hbad : badN s i with
          | true => rw [pcs_bad hlt hP h36 hbad]; simp
          | false =>
            rw [pcs_nm hlt hP h36 hbad]
            unfold badN at hbad
            simp only [Bool.or_eq_false_iff, Bool.not_eq_false'] at hbad
            obtain ⟨hl1, hl2⟩ := lenN_in hlt hP h36 (of_decide_eq_false hbad.1)
            exact ih _ [] _ (by omega) (by omega) (by simp; omega)
    · rw [pcs_end hlt]; simp; omega
def pcL (s : SB) : List (SB × SB) := (pcs s 0 [] []).1
theorem pcL_len (s : SB) : (pcL s).length ≤ 2 * s.size + 1 := pcs_len s.size 0 [] [] (by omega) (by omega) (by simp)
theorem pcL_txt (s : SB) : ∀ p ∈ pcL s, p.1.size ≤ s.size := pcs_all (Pd := fun p => p.1.size ≤ s.size) (fun txt h => by rw [mkB_size]; exact h) (fun nm _ => by rw [mkB_size]; simp) s.size 0 [] [] (by omega) (by omega) (by simp) (fun p hp => by cases hp)
theorem pcL_kind (s : SB) : ∀ p ∈ pcL s, p.2 = mkBytes [] ∨ (p.1 = mkBytes [] ∧ nameB p.2 = true) := pcs_all (Pd := fun p => p.2 = mkBytes [] ∨ (p.1 = mkBytes [] ∧ nameB p.2 = true)) (fun txt h => .inl rfl) (fun nm h => .inr ⟨rfl, h⟩) s.size 0 [] [] (by omega) (by omega) (by simp) (fun p hp => by cases hp)
theorem L_loop (m : MS) (l : List (SB × SB)) (hl : l.length ≤ 9223372036854775807) (hv : ∀ x, (vl m x).size ≤ 1048576) (ht : ∀ p ∈ l, p.1.size ≤ 1048576) :
    LAtZ XL 4 ntL ⟨(hM0 (enS m) m.length).t, 0⟩ bdL [1, 1, 1, 1, 0, 1, 0] (kFinL (fun v A => Frz A v (flR m l))) (frL (pv l) 0) (hL0 (enS m) m.length) := by
  refine LAtZ.step XL_ok rfl [] [] [5] [1, 8, 20, 21, 22] (by kernel_rfl) (LI m l) ?_ (k := l.length) ⟨0, [], rfl, by simp, by simp, rfl, .inl ⟨rfl, .inl rfl⟩⟩
  rintro k F A ⟨i, acc, rfl, hk, hal, hx, h | h⟩
  · obtain ⟨rfl, rfl | rfl⟩ := h
    · exact L_step0 m l hl hv ht _ _ i k hk hx
    · exact L_step1 m l hl hv ht _ _ i k hk hx
  · obtain ⟨h0, rfl⟩ := h
    exact L_stepN m l hl hv ht _ _ i k acc h0 hal hk hx
def fiS (s : SB) (m : MS) : SB := bif decide (ixB s 36 < 0) then s else (flF (vl m) [] (pcL s)).1
def fiE (s : SB) (m : MS) : Int := bif decide (ixB s 36 < 0) then 0 else (flF (vl m) [] (pcL s)).2
theorem fi_walk (s : SB) (m : MS) (hs : s.size ≤ 1000000) (hv : ∀ x, (vl m x).size ≤ 1048576) : WalkZ envX Proofs.Tryz.f43 [.string s, .map (some 0)] (hM0 (enS m) m.length) (.tuple ⟨[.string (fiS s m), .int .i64 (fiE s m)]⟩) := by
  refine sxFnZ_walk XL_ok (d := 4) ((jFl_nf _ s _ _).mpr ?_)
  refine Sp.intro (fun c => ?_) (fun c => ⟨hs, HF_dpv _, HF_enS m, ?_⟩)
  · have e : (.tuple ⟨[.string (fiS s m), .int .i64 (fiE s m)]⟩ : Value) = .tuple ⟨[.string s, .int .i64 0]⟩ := by unfold fiS fiE; rw [c]; rfl
    rw [e]; exact .same (.tuple (HF.cons (.scal rfl) (HF.cons (.scal rfl) HF.nil)))
  · have e : (.tuple ⟨[.string (fiS s m), .int .i64 (fiE s m)]⟩ : Value) = flR m (pcL s) := by unfold fiS fiE flR; rw [c]; rfl
    rw [e]
    exact L_loop m (pcL s) (by have := pcL_len s; omega) hv (fun p hp => by have := pcL_txt s p hp; omega)
def unM (es : EntsB) : MS := inv vS vSt es
def fiR : RunF := fun args A => match args with
  | [.string s, .map (some B)] => (match A.t.get B with
    | some (.map es c) => (match T.set FU A.t B .dead with
      | some t => some (some (s.size ≤ 1000000 ∧ ∃ m, es = enS m ∧ c = m.length ∧ ∀ x, (vl m x).size ≤ 1048576), .tuple ⟨[.string (fiS s (unM es)), .int .i64 (fiE s (unM es))]⟩, ⟨t, A.next⟩)
      | none => none)
    | _ => none)
  | _ => none
theorem fi_tab : ∀ args A p v A', fiR args A = some (p, v, A') → PH p → CallAt envX 43 args A v A' := by
  intro args A p v A' hr hp
  unfold fiR at hr
  split at hr
  · rename_i s B
    split at hr
    · rename_i es c hB
      split at hr
      · rename_i t ht
        simp only [Option.some.injEq, Prod.mk.injEq] at hr
        obtain ⟨rfl, rfl, rfl⟩ := hr
        obtain ⟨hs, m, rfl, rfl, hv⟩ := hp
        have hu : unM (enS m) = m := invS m
        rw [hu]
        have hget := T.get_set ht
        have hbk : back [(0, B)] 0 = some B := rfl
        refine callAt_eat envX_ok (fn := Proofs.Tryz.f43) rfl (m := [(0, B)]) (lh := [(0, .map (enS m) m.length)]) (nx := 1) (t1 := (hM0 (enS m) m.length).t) (args1 := [.string s, .map (some 0)]) rfl rfl
          (.cons hbk hB (.map (REs_flat fun x hx => HF_agg (HF_enS m) _ (List.mem_map.2 ⟨x, hx, rfl⟩))) .nil) (.cons (.hf (.scal rfl)) (.cons (.map hbk) .nil)) (fi_walk s m hs hv) (fun x hx => ?_) (fun x hx => ?_) (fun B' h => ?_)
        · obtain rfl := List.mem_singleton.1 hx; exact ⟨_, hB, rfl⟩
        · obtain rfl := List.mem_singleton.1 hx; rw [hget, if_pos rfl]
        · rw [hget, if_neg (fun e => h (0, B) (by simp) e.symm)]
      · cases hr
    · cases hr
  · cases hr
def tabFo : Tab := [(13, pureR (fun _ => none) ctX), (42, vaR), (43, fiR)]
theorem tabFo_ok : TabOk envX tabFo := .cons ct_tab (.cons va_tab (.cons fi_tab .nil))
def XFo : SX := ⟨envX, tabFo, elA, fun _ => .unroll 3⟩
theorem XFo_ok : XFo.Ok := ⟨envX_ok, envX_sym, envX_gl, tabFo_ok⟩
def tabFe : Tab := [(13, pureR (fun _ => none) ctX), (42, pureR vePre veX), (43, fiR)]
theorem tabFe_ok : TabOk envX tabFe := .cons ct_tab (.cons ve_tab (.cons fi_tab .nil))
def XFe : SX := ⟨envX, tabFe, elA, fun _ => .unroll 3⟩
theorem XFe_ok : XFe.Ok := ⟨envX_ok, envX_sym, envX_gl, tabFe_ok⟩
def jFo (K : KV) (s : SB) (els : List Value) : Prop := sxFn XFo 3 Proofs.Tryz.f18 [.string s, dat 2 els] K
def jFe (K : KV) (s : SB) (els : List Value) : Prop := sxFn XFe 3 Proofs.Tryz.f18 [.string s, dat 2 els] K
end
end Go.T9
set_option maxRecDepth 1000000
set_option linter.unusedVariables false
set_option linter.unusedSimpArgs false
set_option maxHeartbeats 4000000
namespace Go.T9
open Go Go.AM Go.MK
noncomputable section
theorem jFo_nf (K : KV) (s : SB) (els : List Go.Value) : jFo K s els = (Sp (!decide (qE s = (0 : Int))) (Sp (!decide (qE s = (0 : Int))) (K (Value.tuple (Array.mk [Value.string (ByteArray.mk (Array.mk [])), Value.int IntKind.i64 (qE s)])) (AH.mk (T.node T.leaf (Option.some (AObj.cells [Value.string s] (9 : Nat))) T.leaf) (1 : Nat))) (GoodP els Bool.true ∧ (ByteArray.size s ≤ (1000000 : Nat) ∧ ∃ (m : MS), enS (vaF (unP els)) = enS m ∧ List.length (vaF (unP els)) = List.length m ∧ ∀ (x : SB), ByteArray.size (vl m x) ≤ (1048576 : Nat)) ∧ K (Value.tuple (Array.mk [Value.string (fiS s (unM (enS (vaF (unP els))))), Value.int IntKind.i64 (fiE s (unM (enS (vaF (unP els)))))])) (AH.mk (T.node (T.node T.leaf (Option.some AObj.dead) T.leaf) (Option.some (AObj.cells [Value.string s] (9 : Nat))) T.leaf) (2 : Nat)))) (GoodP els Bool.true ∧ (ByteArray.size s ≤ (1000000 : Nat) ∧ ∃ (m : MS), enS (vaF (unP els)) = enS m ∧ List.length (vaF (unP els)) = List.length m ∧ ∀ (x : SB), ByteArray.size (vl m x) ≤ (1048576 : Nat)) ∧ K (Value.tuple (Array.mk [Value.string (fiS s (unM (enS (vaF (unP els))))), Value.int IntKind.i64 (fiE s (unM (enS (vaF (unP els)))))])) (AH.mk (T.node (T.node T.leaf (Option.some AObj.dead) T.leaf) (Option.some (AObj.cells [Value.string s] (9 : Nat))) T.leaf) (2 : Nat)))) := by kernel_rfl
theorem jFe_nf (K : KV) (s : SB) (els : List Go.Value) : jFe K s els = (Sp (!decide (qE s = (0 : Int))) (Sp (!decide (qE s = (0 : Int))) (K (Value.tuple (Array.mk [Value.string (ByteArray.mk (Array.mk [])), Value.int IntKind.i64 (qE s)])) (AH.mk (T.node T.leaf (Option.some (AObj.cells [Value.string s] (9 : Nat))) T.leaf) (1 : Nat))) (GoodP els Bool.false ∧ K (Value.tuple (Array.mk [Value.string (ByteArray.mk (Array.mk [])), Value.int IntKind.i64 (8 : Int)])) (AH.mk (T.node T.leaf (Option.some (AObj.cells [Value.string s] (9 : Nat))) T.leaf) (1 : Nat)))) (GoodP els Bool.false ∧ K (Value.tuple (Array.mk [Value.string (ByteArray.mk (Array.mk [])), Value.int IntKind.i64 (8 : Int)])) (AH.mk (T.node T.leaf (Option.some (AObj.cells [Value.string s] (9 : Nat))) T.leaf) (1 : Nat)))) := by kernel_rfl
def fv : List (SB × SB) → List UInt8 → Option SB
  | [], _ => none
  | p :: l, x => if p.1.data.toList = x then some p.2 else fv l x
theorem vaF_get (l : List (SB × SB)) (x : List UInt8) : aget (vaF l) x = fv l x := by
  have key : ∀ (l : List (SB × SB)) (m : MS), aget (l.foldl (fun m p => bif (aget m p.1.data.toList).isSome then m else aset m p.1.data.toList p.2) m) x = (aget m x).or (fv l x) := by
    intro l
    induction l with
    | nil => intro m; simp [fv]
    | cons p l ih =>
      intro m
      rw [List.foldl_cons, ih]
      cases h : (aget m p.1.data.toList).isSome with
      | true =>
        simp only [cond_true, fv]
        by_cases e : p.1.data.toList = x
        · rw [if_pos e]; rw [e] at h
          obtain ⟨y, hy⟩ := Option.isSome_iff_exists.1 h
          rw [hy]; rfl
        · rw [if_neg e]
      | false =>
        simp only [cond_false, fv]
        rw [aset_get]
        by_cases e : p.1.data.toList = x
        · rw [if_pos e, if_pos e]; rw [e] at h
          have : aget m x = none := by cases hh : aget m x with
            | none => rfl
            | some y => rw [hh] at h; cases h
          rw [this]; rfl
        · rw [if_neg e, if_neg e]
  have h := key l []
  have e : (aget ([] : MS) x).or (fv l x) = fv l x := rfl
  rw [e] at h
  exact h
theorem fv_mem {l : List (SB × SB)} {x : List UInt8} {v : SB} (h : fv l x = some v) : ∃ p ∈ l, p.2 = v ∧ p.1.data.toList = x := by
  induction l with
  | nil => cases h
  | cons p l ih =>
    unfold fv at h
    by_cases e : p.1.data.toList = x
    · rw [if_pos e] at h; cases h; exact ⟨p, by simp, rfl, e⟩
    · rw [if_neg e] at h
      obtain ⟨q, h1, h2⟩ := ih h
      exact ⟨q, by simp [h1], h2⟩
def vv (l : List (SB × SB)) (nm : SB) : SB := (fv l nm.data.toList).getD ByteArray.empty
theorem vl_vv (l : List (SB × SB)) : vl (vaF l) = vv l := funext fun nm => by unfold vl vv; rw [vaF_get]
theorem vv_size {l : List (SB × SB)} (h : ∀ p ∈ l, p.2.size ≤ 1048576) (nm : SB) : (vv l nm).size ≤ 1048576 := by
  unfold vv
  cases hf : fv l nm.data.toList with
  | none => exact Nat.zero_le _
  | some v =>
    obtain ⟨p, hp, rfl, _⟩ := fv_mem hf
    exact h p hp
def FiS (s : SB) (l : List (SB × SB)) : SB := bif decide (qE s = 0) && vaOk l then fiS s (vaF l) else mkBytes []
def FiE (s : SB) (l : List (SB × SB)) : Int := bif decide (qE s = 0) then (bif vaOk l then fiE s (vaF l) else 8) else qE s
def SmP (l : List (SB × SB)) : Prop := l.length ≤ 1048576 ∧ ∀ p ∈ l, p.1.size ≤ 1048576 ∧ p.2.size ≤ 1048576
theorem qE_size {s : SB} (h : qE s = 0) : s.size ≤ 1000000 := by
  unfold qE at h
  cases hc : decide (1000000 < (s.size : Int)) with
  | true => rw [hc] at h; cases h
  | false => have := of_decide_eq_false hc; omega
theorem HF_t2 (a : SB) (e : Int) : HF (.tuple ⟨[.string a, .int .i64 e]⟩) := .tuple (HF.cons (.scal rfl) (HF.cons (.scal rfl) HF.nil))
theorem Fi_walk (s : SB) (l : List (SB × SB)) (hl : SmP l) : Walk envX Proofs.Tryz.f18 [.string s, dat 2 (pv l)] (.tuple ⟨[.string (FiS s l), .int .i64 (FiE s l)]⟩) := by
  have hg : ∀ b, vaOk l = b → GoodP (pv l) b := fun b h => ⟨l, rfl, by have := hl.1; omega, fun p hp => by have := (hl.2 p hp).1; omega, h⟩
  cases ho : vaOk l with
  | false =>
    refine sxFn_frz XFe_ok (d := 3) ((jFe_nf _ s _).mpr ?_)
    unfold FiS FiE
    rw [ho]
    cases h1 : decide (qE s = 0) with
    | false => exact .same (HF_t2 _ _)
    | true => exact ⟨hg _ ho, .same (HF_t2 _ _)⟩
  | true =>
    refine sxFn_frz XFo_ok (d := 3) ((jFo_nf _ s _).mpr ?_)
    rw [unP_pv]
    have hu : unM (enS (vaF l)) = vaF l := invS _
    rw [hu]
    unfold FiS FiE
    rw [ho]
    cases h1 : decide (qE s = 0) with
    | false => exact .same (HF_t2 _ _)
    | true => exact ⟨hg _ ho, ⟨qE_size (of_decide_eq_true h1), vaF l, rfl, rfl, fun x => by rw [vl_vv]; exact vv_size (fun p hp => (hl.2 p hp).2) x⟩, .same (HF_t2 _ _)⟩
def FiX : List Value → Option Value
  | [.string s, .func (.yield 2) ⟨els⟩ ⟨[]⟩] => some (.tuple ⟨[.string (FiS s (unP els)), .int .i64 (FiE s (unP els))]⟩)
  | _ => none
def FiPre : List Value → Option Prop
  | [.string s, .func (.yield 2) ⟨els⟩ ⟨[]⟩] => some (∃ l, els = pv l ∧ SmP l)
  | _ => none
theorem Fi_tab : ∀ args A p v A', pureR FiPre FiX args A = some (p, v, A') → PH p → CallAt envX 18 args A v A' := walk_tab envX_ok envX_gl (fn := Proofs.Tryz.f18) rfl fun args v h hp => by
  unfold FiX at h
  split at h
  · simp only [Option.some.injEq] at h
    subst h
    obtain ⟨l, rfl, hl⟩ := hp
    refine ⟨HF.cons (.scal rfl) (HF.cons (HF_dpv l) HF.nil), ?_⟩
    rw [unP_pv]
    exact Fi_walk _ l hl
  · cases h
def XNm : SX := ⟨envX, [], elL, fun _ => .autoN [] [] [] [1, 2, 10, 11, 12]⟩
theorem XNm_ok : XNm.Ok := ⟨envX_ok, envX_sym, envX_gl, .nil⟩
def frNa (nm : SB) (els : List Value) (i : Nat) : T Value := (.node (.node (.node .leaf none (.node .leaf (some (.int .i64 els.length)) .leaf)) (some (.string nm)) .leaf) none (.node (.node .leaf none (.node .leaf (some (.int .i64 i)) .leaf)) (some (.bool false)) (.node (.node .leaf (some (dat 2 els)) .leaf) none .leaf)))
def ntNm : Nat := Func.ntmps Proofs.Tryz.f44
def bdNm : Code := bodyOf Proofs.Tryz.f44
def kFinNm (K : KV) : KX := finK XNm.E (Proofs.Tryz.f44.results).toList K
def jNa (K : KV) (els : List Value) (nm : SB) : Prop := sxFnZ XNm 1 Proofs.Tryz.f44 [dat 2 els, .string nm, .bool false] ⟨.leaf, 0⟩ K
def jNa1 (K : KV) (again : KF) (nm : SB) (els : List Value) (i : Nat) : Prop := sxStepZ XNm 1 ntNm ⟨.leaf, 0⟩ bdNm [1, 0, 1, 0] (kFinNm K) [] [] [] [1, 2, 10, 11, 12] again (frNa nm els i) ⟨.leaf, 0⟩
end
end Go.T9

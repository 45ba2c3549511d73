/- A part of the proof. -/
import Derived.Test.YtgbjgffiejlooaaGreatDoorX9
import Derived.KernelRfl
set_option linter.unusedVariables false
set_option linter.unusedSimpArgs false
set_option maxRecDepth 1000000
set_option maxHeartbeats 1000000
namespace Go.T9
open Go Go.AM Go.MK Go.Proofs.Tryz
noncomputable section
theorem yD (m : Int) (Q : Value → Prop) (QA : KV) (r : SR) : jCk1 m Q QA r = ((∀ (x : Value), x ∈ [stpV (rk 1 r)] → HF x) ∧ Sp (!decide (Wi (↑(BitVec.toNat (BitVec.ofInt (IntKind.bits .i64) (gvR (rk 1 r)) &&& ~~~BitVec.ofInt (IntKind.bits .i64) (usI 1))) : Int) = 0)) (Q (Vi 2)) (ByteArray.size r.name < 9223372036854775808 ∧ Sp (!aJ r.name) (Q (Vi 8)) (WfS (rk 1 r) ∧ Q (Vi (akR (rk 1 r)))))) := by kernel_rfl
theorem yC (m : Int) (Q : Value → Prop) (QA : KV) (r : SR) : jCk2 m Q QA r = ((∀ (x : Value), x ∈ [stpV (rk 2 r)] → HF x) ∧ Sp (!decide (Wi (↑(BitVec.toNat (BitVec.ofInt (IntKind.bits .i64) (gvR (rk 2 r)) &&& ~~~BitVec.ofInt (IntKind.bits .i64) (usI 2))) : Int) = 0)) (Q (Vi 2)) (ByteArray.size r.name < 9223372036854775808 ∧ Sp (!aJ r.name) (Q (Vi 8)) (Sp (!decide (qE r.val = 0)) (Q (Vi (qE r.val))) (Q (Vi 0))))) := by kernel_rfl
theorem yB (m : Int) (Q : Value → Prop) (QA : KV) (r : SR) : jCk3 m Q QA r = ((∀ (x : Value), x ∈ [stpV (rk 3 r)] → HF x) ∧ Sp (!decide (Wi (↑(BitVec.toNat (BitVec.ofInt (IntKind.bits .i64) (gvR (rk 3 r)) &&& ~~~BitVec.ofInt (IntKind.bits .i64) (usI 3))) : Int) = 0)) (Q (Vi 2)) (Sp (decide (r.lo < 0)) (Q (Vi 9)) (Sp (decide (r.hi < r.lo)) (Q (Vi 9)) (Sp (decide (2000000000 < r.hi)) (Q (Vi 9)) (Q (Vi 0)))))) := by kernel_rfl
theorem yA (m : Int) (Q : Value → Prop) (QA : KV) (r : SR) : jCk4 m Q QA r = ((∀ (x : Value), x ∈ [stpV (rk 4 r)] → HF x) ∧ Sp (!decide (Wi (↑(BitVec.toNat (BitVec.ofInt (IntKind.bits .i64) (gvR (rk 4 r)) &&& ~~~BitVec.ofInt (IntKind.bits .i64) (usI 4))) : Int) = 0)) (Q (Vi 2)) (ByteArray.size r.name < 9223372036854775808 ∧ Sp (!aJ r.name) (Q (Vi 8)) (Q (Vi 0)))) := by kernel_rfl
theorem yz (m : Int) (Q : Value → Prop) (QA : KV) (r : SR) : jCk5 m Q QA r = ((∀ (x : Value), x ∈ [stpV (rk 5 r)] → HF x) ∧ Sp (!decide (Wi (↑(BitVec.toNat (BitVec.ofInt (IntKind.bits .i64) (gvR (rk 5 r)) &&& ~~~BitVec.ofInt (IntKind.bits .i64) (usI 5))) : Int) = 0)) (Q (Vi 2)) (Sp (!decide (tsE r.tr r.ta r.tb r.tx r.ty = 0)) (Q (Vi (tsE r.tr r.ta r.tb r.tx r.ty))) (Q (Vi 0)))) := by kernel_rfl
theorem yy (m : Int) (Q : Value → Prop) (QA : KV) (r : SR) : jCk6 m Q QA r = ((∀ (x : Value), x ∈ [stpV (rk 6 r)] → HF x) ∧ Sp (!decide (Wi (↑(BitVec.toNat (BitVec.ofInt (IntKind.bits .i64) (gvR (rk 6 r)) &&& ~~~BitVec.ofInt (IntKind.bits .i64) (usI 6))) : Int) = 0)) (Q (Vi 2)) (Sp (decide (r.hi < 0)) (Q (Vi 9)) (Sp (decide (100000 < r.hi)) (Q (Vi 9)) (Q (Vi 0))))) := by kernel_rfl
theorem yx (m : Int) (Q : Value → Prop) (QA : KV) (r : SR) : jCk7 m Q QA r = ((∀ (x : Value), x ∈ [stpV (rk 7 r)] → HF x) ∧ Sp (!decide (Wi (↑(BitVec.toNat (BitVec.ofInt (IntKind.bits .i64) (gvR (rk 7 r)) &&& ~~~BitVec.ofInt (IntKind.bits .i64) (usI 7))) : Int) = 0)) (Q (Vi 2)) (Sp (!decide (tsE r.tr r.ta r.tb r.tx r.ty = 0)) (Q (Vi (tsE r.tr r.ta r.tb r.tx r.ty))) (Sp (decide (r.hi < 0)) (Q (Vi 9)) (Sp (decide (100000 < r.hi)) (Q (Vi 9)) (Q (Vi 0)))))) := by kernel_rfl
theorem yw (m : Int) (Q : Value → Prop) (QA : KV) (r : SR) : jCk8 m Q QA r = ((∀ (x : Value), x ∈ [stpV (rk 8 r)] → HF x) ∧ Sp (!decide (Wi (↑(BitVec.toNat (BitVec.ofInt (IntKind.bits .i64) (gvR (rk 8 r)) &&& ~~~BitVec.ofInt (IntKind.bits .i64) (usI 8))) : Int) = 0)) (Q (Vi 2)) (((∃ (ws : List WY), r.ways = wyvs ws) ∧ ∀ (x : Value), x ∈ r.ways → HF x) ∧ Q (Vi (wsE (unW r.ways))))) := by kernel_rfl
theorem yv (m : Int) (Q : Value → Prop) (QA : KV) (r : SR) : jCk9 m Q QA r = ((∀ (x : Value), x ∈ [stpV (rk 9 r)] → HF x) ∧ Sp (!decide (Wi (↑(BitVec.toNat (BitVec.ofInt (IntKind.bits .i64) (gvR (rk 9 r)) &&& ~~~BitVec.ofInt (IntKind.bits .i64) (usI 9))) : Int) = 0)) (Q (Vi 2)) (Q (Vi 0))) := by kernel_rfl
theorem rD (m : Int) (Q : Value → Prop) (QA : KV) (r : SR) : jCk10 m Q QA r = ((∀ (x : Value), x ∈ [stpV (rk 10 r)] → HF x) ∧ Sp (!decide (Wi (↑(BitVec.toNat (BitVec.ofInt (IntKind.bits .i64) (gvR (rk 10 r)) &&& ~~~BitVec.ofInt (IntKind.bits .i64) (usI 10))) : Int) = 0)) (Q (Vi 2)) (Sp (!decide (qE r.val = 0)) (Q (Vi (qE r.val))) (Q (Vi 0)))) := by kernel_rfl
theorem oL (m : Int) (Q : Value → Prop) (QA : KV) (r : SR) : jCk0 m Q QA r = (Sp (decide (r.kind < 1)) (Q (Vi 7)) (Sp (decide (10 < SR.kind r)) (Q (Vi 7)) False)) := by kernel_rfl
theorem xo (m : Int) (Q : Value → Prop) (QA : KV) (r : SR) : jSf1 m Q QA r = ((HF (stpV (rk 1 r)) ∧ (1 : Int) ≤ (1 : Int) ∧ (1 : Int) ≤ (10 : Int)) ∧ Sp (exR (rk 1 r)) (Q (Vi 2)) (ByteArray.size r.name < 9223372036854775808 ∧ Sp (!aJ r.name) (Q (Vi 8)) (WfS (rk 1 r) ∧ Q (Vi (akR (rk 1 r)))))) := by kernel_rfl
theorem xn (m : Int) (Q : Value → Prop) (QA : KV) (r : SR) : jSf2 m Q QA r = ((HF (stpV (rk 2 r)) ∧ (1 : Int) ≤ (2 : Int) ∧ (2 : Int) ≤ (10 : Int)) ∧ Sp (exR (rk 2 r)) (Q (Vi 2)) (ByteArray.size r.name < 9223372036854775808 ∧ Sp (!aJ r.name) (Q (Vi 8)) (Q (Vi (qE r.val))))) := by kernel_rfl
theorem xm (m : Int) (Q : Value → Prop) (QA : KV) (r : SR) : jSf3 m Q QA r = ((HF (stpV (rk 3 r)) ∧ (1 : Int) ≤ (3 : Int) ∧ (3 : Int) ≤ (10 : Int)) ∧ Sp (exR (rk 3 r)) (Q (Vi 2)) (Sp (decide (r.lo < 0)) (Q (Vi 9)) (Sp (decide (r.hi < r.lo)) (Q (Vi 9)) (Sp (decide (2000000000 < r.hi)) (Q (Vi 9)) (Q (Vi 0)))))) := by kernel_rfl
theorem xl (m : Int) (Q : Value → Prop) (QA : KV) (r : SR) : jSf4 m Q QA r = ((HF (stpV (rk 4 r)) ∧ (1 : Int) ≤ (4 : Int) ∧ (4 : Int) ≤ (10 : Int)) ∧ Sp (exR (rk 4 r)) (Q (Vi 2)) (ByteArray.size r.name < 9223372036854775808 ∧ Sp (!aJ r.name) (Q (Vi 8)) (Q (Vi 0)))) := by kernel_rfl
theorem xj (m : Int) (Q : Value → Prop) (QA : KV) (r : SR) : jSf5 m Q QA r = ((HF (stpV (rk 5 r)) ∧ (1 : Int) ≤ (5 : Int) ∧ (5 : Int) ≤ (10 : Int)) ∧ Sp (exR (rk 5 r)) (Q (Vi 2)) (Sp (!decide (tsE r.tr r.ta r.tb r.tx r.ty = 0)) (Q (Vi (tsE r.tr r.ta r.tb r.tx r.ty))) (Q (Vi 0)))) := by kernel_rfl
theorem xi (m : Int) (Q : Value → Prop) (QA : KV) (r : SR) : jSf6 m Q QA r = ((HF (stpV (rk 6 r)) ∧ (1 : Int) ≤ (6 : Int) ∧ (6 : Int) ≤ (10 : Int)) ∧ Sp (exR (rk 6 r)) (Q (Vi 2)) (Sp (decide (r.hi < 0)) (Q (Vi 9)) (Sp (decide (100000 < r.hi)) (Q (Vi 9)) (Q (Vi 0))))) := by kernel_rfl
theorem xh (m : Int) (Q : Value → Prop) (QA : KV) (r : SR) : jSf7 m Q QA r = ((HF (stpV (rk 7 r)) ∧ (1 : Int) ≤ (7 : Int) ∧ (7 : Int) ≤ (10 : Int)) ∧ Sp (exR (rk 7 r)) (Q (Vi 2)) (Sp (!decide (tsE r.tr r.ta r.tb r.tx r.ty = 0)) (Q (Vi (tsE r.tr r.ta r.tb r.tx r.ty))) (Sp (decide (r.hi < 0)) (Q (Vi 9)) (Sp (decide (100000 < r.hi)) (Q (Vi 9)) (Q (Vi 0)))))) := by kernel_rfl
theorem xg (m : Int) (Q : Value → Prop) (QA : KV) (r : SR) : jSf8 m Q QA r = ((HF (stpV (rk 8 r)) ∧ (1 : Int) ≤ (8 : Int) ∧ (8 : Int) ≤ (10 : Int)) ∧ Sp (exR (rk 8 r)) (Q (Vi 2)) (((∃ (ws : List WY), r.ways = wyvs ws) ∧ ∀ (x : Value), x ∈ r.ways → HF x) ∧ Q (Vi (wsE (unW r.ways))))) := by kernel_rfl
theorem xf (m : Int) (Q : Value → Prop) (QA : KV) (r : SR) : jSf9 m Q QA r = ((HF (stpV (rk 9 r)) ∧ (1 : Int) ≤ (9 : Int) ∧ (9 : Int) ≤ (10 : Int)) ∧ Sp (exR (rk 9 r)) (Q (Vi 2)) (Q (Vi 0))) := by kernel_rfl
theorem rz (m : Int) (Q : Value → Prop) (QA : KV) (r : SR) : jSf10 m Q QA r = ((HF (stpV (rk 10 r)) ∧ (1 : Int) ≤ (10 : Int) ∧ (10 : Int) ≤ (10 : Int)) ∧ Sp (exR (rk 10 r)) (Q (Vi 2)) (Q (Vi (qE r.val)))) := by kernel_rfl
theorem oK (m : Int) (Q : Value → Prop) (QA : KV) (r : SR) : jSf0 m Q QA r = (Sp (decide (r.kind < 1)) (Q (Vi 7)) (Sp (decide (10 < SR.kind r)) (Q (Vi 7)) False)) := by kernel_rfl
def stB (r : SR) : Int :=
 bif decide (r.kind = 1) then (bif !aJ r.name then 8 else akR r) else
 bif decide (r.kind = 2) then (bif !aJ r.name then 8 else qE r.val) else
 bif decide (r.kind = 3) then (bif decide (r.lo < 0) then 9 else bif decide (r.hi < r.lo) then 9 else bif decide (2000000000 < r.hi) then 9 else 0) else
 bif decide (r.kind = 4) then (bif !aJ r.name then 8 else 0) else
 bif decide (r.kind = 5) then tsE r.tr r.ta r.tb r.tx r.ty else
 bif decide (r.kind = 6) then (bif decide (r.hi < 0) then 9 else bif decide (100000 < r.hi) then 9 else 0) else
 bif decide (r.kind = 7) then (bif !decide (tsE r.tr r.ta r.tb r.tx r.ty = 0) then tsE r.tr r.ta r.tb r.tx r.ty else bif decide (r.hi < 0) then 9 else bif decide (100000 < r.hi) then 9 else 0) else
 bif decide (r.kind = 8) then wsE (unW r.ways) else
 bif decide (r.kind = 10) then qE r.val else 0
def stE (r : SR) : Int := bif decide (r.kind < 1) then 7 else bif decide (10 < r.kind) then 7 else bif exR r then 2 else stB r
theorem zr {x : Int} (h : (!decide (x = 0)) = false) : Value.int .i64 0 = Value.int .i64 x := by
 have : x = 0 := by simpa using h
 rw [this]
theorem hf8 {r : SR} (h : HF (stpV r)) : ∀ x ∈ r.ways, HF x := tM (sz := 2) (jj h _ (by simp [stcL]))
theorem wQ {r : SR} (h1 : ¬ r.kind < 1) (h2 : ¬ 10 < r.kind) : ∃ (k : Int) (q : SR), r = rk k q ∧ (k = 1 ∨ k = 2 ∨ k = 3 ∨ k = 4 ∨ k = 5 ∨ k = 6 ∨ k = 7 ∨ k = 8 ∨ k = 9 ∨ k = 10) := ⟨r.kind, r, rfl, by omega⟩
theorem viE {x y : Int} (h : x = y) : Value.int .i64 x = Value.int .i64 y := by rw [h]
theorem stB_1 (q : SR) : stB (rk 1 q) = bif !aJ q.name then 8 else akR (rk 1 q) := by kernel_rfl
theorem stB_2 (q : SR) : stB (rk 2 q) = bif !aJ q.name then 8 else qE q.val := by kernel_rfl
theorem stB_3 (q : SR) : stB (rk 3 q) = bif decide (q.lo < 0) then 9 else bif decide (q.hi < q.lo) then 9 else bif decide (2000000000 < q.hi) then 9 else 0 := by kernel_rfl
theorem stB_4 (q : SR) : stB (rk 4 q) = bif !aJ q.name then 8 else 0 := by kernel_rfl
theorem stB_5 (q : SR) : stB (rk 5 q) = tsE q.tr q.ta q.tb q.tx q.ty := by kernel_rfl
theorem vA (q : SR) : stB (rk 6 q) = bif decide (q.hi < 0) then 9 else bif decide (100000 < q.hi) then 9 else 0 := by kernel_rfl
theorem vz (q : SR) : stB (rk 7 q) = bif !decide (tsE q.tr q.ta q.tb q.tx q.ty = 0) then tsE q.tr q.ta q.tb q.tx q.ty else bif decide (q.hi < 0) then 9 else bif decide (100000 < q.hi) then 9 else 0 := by kernel_rfl
theorem stB_8 (q : SR) : stB (rk 8 q) = wsE (unW q.ways) := by kernel_rfl
theorem stB_9 (q : SR) : stB (rk 9 q) = 0 := by kernel_rfl
theorem td (q : SR) : stB (rk 10 q) = qE q.val := by kernel_rfl
theorem zG (m : Int) (r : SR) (hw : WfS r) : bt (envM m) f39 [stpV r] ⟨.leaf, 0⟩ (.int .i64 (stE r)) := by
 by_cases h1 : r.kind < 1
 · exact ar (lV m) (d := 0) (HFi _ _) ((oL m _ _ r).mpr (Sp.intro (fun g => viE (by unfold stE; rw [g]; rfl)) (fun g => absurd h1 (odf g))))
 by_cases h2 : 10 < r.kind
 · exact ar (lV m) (d := 0) (HFi _ _) ((oL m _ _ r).mpr (Sp.intro (fun g => absurd (odt g) h1) (fun g => Sp.intro (fun g2 => viE (by unfold stE; rw [g, g2]; rfl)) (fun g => absurd h2 (odf g)))))
 have e : stE r = bif exR r then 2 else stB r := by unfold stE; rw [decide_eq_false h1, decide_eq_false h2]; rfl
 rw [e]
 obtain ⟨k, q, rfl, hk⟩ := wQ h1 h2
 clear e h1 h2
 obtain ⟨⟨ps, ts, cs, ws, h1, h2, h3, h4, h5, h6, h7, h8, h9⟩, hf⟩ := id hw
 have h8 : q.name.size ≤ 1048576 := h8
 have h4 : q.ways = wyvs ws := h4
 rcases hk with rfl | rfl | rfl | rfl | rfl | rfl | rfl | rfl | rfl | rfl
 · rw [stB_1]
   refine ar (dt m) (d := 3) (HFi _ _) ((yD m _ _ q).mpr ?_)
   have hg : decide (IntKind.i64.wrap (BitVec.toNat (BitVec.ofInt IntKind.i64.bits (gvR (rk 1 q)) &&& ~~~ BitVec.ofInt IntKind.i64.bits (usI 1))) = 0) = !exR (rk 1 q) := gx1 (fN (rk 1 q)) (fA (rk 1 q)) (fV (rk 1 q)) (fL (rk 1 q)) (fH (rk 1 q)) (fT (rk 1 q)) (fI (rk 1 q)) (fE (rk 1 q)) (fW (rk 1 q))
   refine ⟨HF.cons hf HF.nil, Sp.intro (fun h => ?_) (fun h => ?_)⟩
   · rw [hg, Bool.not_not] at h
     exact viE (by rw [h]; rfl)
   rw [hg, Bool.not_not] at h
   rw [h]
   refine ⟨by omega, Sp.intro (fun g1 => viE (by rw [g1]; rfl)) (fun g1 => ⟨hw, viE (by rw [g1]; rfl)⟩)⟩
 · rw [stB_2]
   refine ar (dt m) (d := 3) (HFi _ _) ((yC m _ _ q).mpr ?_)
   have hg : decide (IntKind.i64.wrap (BitVec.toNat (BitVec.ofInt IntKind.i64.bits (gvR (rk 2 q)) &&& ~~~ BitVec.ofInt IntKind.i64.bits (usI 2))) = 0) = !exR (rk 2 q) := gx2 (fN (rk 2 q)) (fA (rk 2 q)) (fV (rk 2 q)) (fL (rk 2 q)) (fH (rk 2 q)) (fT (rk 2 q)) (fI (rk 2 q)) (fE (rk 2 q)) (fW (rk 2 q))
   refine ⟨HF.cons hf HF.nil, Sp.intro (fun h => ?_) (fun h => ?_)⟩
   · rw [hg, Bool.not_not] at h
     exact viE (by rw [h]; rfl)
   rw [hg, Bool.not_not] at h
   rw [h]
   refine ⟨by omega, Sp.intro (fun g1 => viE (by rw [g1]; rfl)) (fun g1 => ?_)⟩
   rw [g1]
   exact Sp.intro (fun _ => rfl) (fun g2 => zr g2)
 · rw [stB_3]
   refine ar (dt m) (d := 3) (HFi _ _) ((yB m _ _ q).mpr ?_)
   have hg : decide (IntKind.i64.wrap (BitVec.toNat (BitVec.ofInt IntKind.i64.bits (gvR (rk 3 q)) &&& ~~~ BitVec.ofInt IntKind.i64.bits (usI 3))) = 0) = !exR (rk 3 q) := gx3 (fN (rk 3 q)) (fA (rk 3 q)) (fV (rk 3 q)) (fL (rk 3 q)) (fH (rk 3 q)) (fT (rk 3 q)) (fI (rk 3 q)) (fE (rk 3 q)) (fW (rk 3 q))
   refine ⟨HF.cons hf HF.nil, Sp.intro (fun h => ?_) (fun h => ?_)⟩
   · rw [hg, Bool.not_not] at h
     exact viE (by rw [h]; rfl)
   rw [hg, Bool.not_not] at h
   rw [h]
   exact Sp.intro (fun g1 => viE (by rw [g1]; rfl)) (fun g1 => Sp.intro (fun g2 => viE (by rw [g1, g2]; rfl)) (fun g2 => Sp.intro (fun g3 => viE (by rw [g1, g2, g3]; rfl)) (fun g3 => viE (by rw [g1, g2, g3]; rfl))))
 · rw [stB_4]
   refine ar (dt m) (d := 3) (HFi _ _) ((yA m _ _ q).mpr ?_)
   have hg : decide (IntKind.i64.wrap (BitVec.toNat (BitVec.ofInt IntKind.i64.bits (gvR (rk 4 q)) &&& ~~~ BitVec.ofInt IntKind.i64.bits (usI 4))) = 0) = !exR (rk 4 q) := gx4 (fN (rk 4 q)) (fA (rk 4 q)) (fV (rk 4 q)) (fL (rk 4 q)) (fH (rk 4 q)) (fT (rk 4 q)) (fI (rk 4 q)) (fE (rk 4 q)) (fW (rk 4 q))
   refine ⟨HF.cons hf HF.nil, Sp.intro (fun h => ?_) (fun h => ?_)⟩
   · rw [hg, Bool.not_not] at h
     exact viE (by rw [h]; rfl)
   rw [hg, Bool.not_not] at h
   rw [h]
   exact ⟨by omega, Sp.intro (fun g1 => viE (by rw [g1]; rfl)) (fun g1 => viE (by rw [g1]; rfl))⟩
 · rw [stB_5]
   refine ar (dt m) (d := 3) (HFi _ _) ((yz m _ _ q).mpr ?_)
   have hg : decide (IntKind.i64.wrap (BitVec.toNat (BitVec.ofInt IntKind.i64.bits (gvR (rk 5 q)) &&& ~~~ BitVec.ofInt IntKind.i64.bits (usI 5))) = 0) = !exR (rk 5 q) := gx5 (fN (rk 5 q)) (fA (rk 5 q)) (fV (rk 5 q)) (fL (rk 5 q)) (fH (rk 5 q)) (fT (rk 5 q)) (fI (rk 5 q)) (fE (rk 5 q)) (fW (rk 5 q))
   refine ⟨HF.cons hf HF.nil, Sp.intro (fun h => ?_) (fun h => ?_)⟩
   · rw [hg, Bool.not_not] at h
     exact viE (by rw [h]; rfl)
   rw [hg, Bool.not_not] at h
   rw [h]
   exact Sp.intro (fun _ => rfl) (fun g2 => zr g2)
 · rw [vA]
   refine ar (dt m) (d := 3) (HFi _ _) ((yy m _ _ q).mpr ?_)
   have hg : decide (IntKind.i64.wrap (BitVec.toNat (BitVec.ofInt IntKind.i64.bits (gvR (rk 6 q)) &&& ~~~ BitVec.ofInt IntKind.i64.bits (usI 6))) = 0) = !exR (rk 6 q) := gx6 (fN (rk 6 q)) (fA (rk 6 q)) (fV (rk 6 q)) (fL (rk 6 q)) (fH (rk 6 q)) (fT (rk 6 q)) (fI (rk 6 q)) (fE (rk 6 q)) (fW (rk 6 q))
   refine ⟨HF.cons hf HF.nil, Sp.intro (fun h => ?_) (fun h => ?_)⟩
   · rw [hg, Bool.not_not] at h
     exact viE (by rw [h]; rfl)
   rw [hg, Bool.not_not] at h
   rw [h]
   exact Sp.intro (fun g1 => viE (by rw [g1]; rfl)) (fun g1 => Sp.intro (fun g2 => viE (by rw [g1, g2]; rfl)) (fun g2 => viE (by rw [g1, g2]; rfl)))
 · rw [vz]
   refine ar (dt m) (d := 3) (HFi _ _) ((yx m _ _ q).mpr ?_)
   have hg : decide (IntKind.i64.wrap (BitVec.toNat (BitVec.ofInt IntKind.i64.bits (gvR (rk 7 q)) &&& ~~~ BitVec.ofInt IntKind.i64.bits (usI 7))) = 0) = !exR (rk 7 q) := gx7 (fN (rk 7 q)) (fA (rk 7 q)) (fV (rk 7 q)) (fL (rk 7 q)) (fH (rk 7 q)) (fT (rk 7 q)) (fI (rk 7 q)) (fE (rk 7 q)) (fW (rk 7 q))
   refine ⟨HF.cons hf HF.nil, Sp.intro (fun h => ?_) (fun h => ?_)⟩
   · rw [hg, Bool.not_not] at h
     exact viE (by rw [h]; rfl)
   rw [hg, Bool.not_not] at h
   rw [h]
   exact Sp.intro (fun g0 => viE (by rw [g0]; rfl)) (fun g0 => Sp.intro (fun g1 => viE (by rw [g0, g1]; rfl)) (fun g1 => Sp.intro (fun g2 => viE (by rw [g0, g1, g2]; rfl)) (fun g2 => viE (by rw [g0, g1, g2]; rfl))))
 · rw [stB_8]
   refine ar (dt m) (d := 3) (HFi _ _) ((yw m _ _ q).mpr ?_)
   have hg : decide (IntKind.i64.wrap (BitVec.toNat (BitVec.ofInt IntKind.i64.bits (gvR (rk 8 q)) &&& ~~~ BitVec.ofInt IntKind.i64.bits (usI 8))) = 0) = !exR (rk 8 q) := gx8 (fN (rk 8 q)) (fA (rk 8 q)) (fV (rk 8 q)) (fL (rk 8 q)) (fH (rk 8 q)) (fT (rk 8 q)) (fI (rk 8 q)) (fE (rk 8 q)) (fW (rk 8 q))
   refine ⟨HF.cons hf HF.nil, Sp.intro (fun h => ?_) (fun h => ?_)⟩
   · rw [hg, Bool.not_not] at h
     exact viE (by rw [h]; rfl)
   rw [hg, Bool.not_not] at h
   rw [h]
   exact ⟨⟨⟨ws, h4⟩, hf8 (r := rk 8 q) hf⟩, rfl⟩
 · rw [stB_9]
   refine ar (dt m) (d := 3) (HFi _ _) ((yv m _ _ q).mpr ?_)
   have hg : decide (IntKind.i64.wrap (BitVec.toNat (BitVec.ofInt IntKind.i64.bits (gvR (rk 9 q)) &&& ~~~ BitVec.ofInt IntKind.i64.bits (usI 9))) = 0) = !exR (rk 9 q) := gx9 (fN (rk 9 q)) (fA (rk 9 q)) (fV (rk 9 q)) (fL (rk 9 q)) (fH (rk 9 q)) (fT (rk 9 q)) (fI (rk 9 q)) (fE (rk 9 q)) (fW (rk 9 q))
   refine ⟨HF.cons hf HF.nil, Sp.intro (fun h => ?_) (fun h => ?_)⟩
   · rw [hg, Bool.not_not] at h
     exact viE (by rw [h]; rfl)
   rw [hg, Bool.not_not] at h
   rw [h]
   rfl
 · rw [td]
   refine ar (dt m) (d := 3) (HFi _ _) ((rD m _ _ q).mpr ?_)
   have hg : decide (IntKind.i64.wrap (BitVec.toNat (BitVec.ofInt IntKind.i64.bits (gvR (rk 10 q)) &&& ~~~ BitVec.ofInt IntKind.i64.bits (usI 10))) = 0) = !exR (rk 10 q) := gx10 (fN (rk 10 q)) (fA (rk 10 q)) (fV (rk 10 q)) (fL (rk 10 q)) (fH (rk 10 q)) (fT (rk 10 q)) (fI (rk 10 q)) (fE (rk 10 q)) (fW (rk 10 q))
   refine ⟨HF.cons hf HF.nil, Sp.intro (fun h => ?_) (fun h => ?_)⟩
   · rw [hg, Bool.not_not] at h
     exact viE (by rw [h]; rfl)
   rw [hg, Bool.not_not] at h
   rw [h]
   exact Sp.intro (fun _ => rfl) (fun g2 => zr g2)
theorem vH (m : Int) (r : SR) (hw : WfS r) : bt (envM m) f41 [stpV r] ⟨.leaf, 0⟩ (.int .i64 (stE r)) := by
 by_cases h1 : r.kind < 1
 · exact ar (lV m) (d := 0) (HFi _ _) ((oK m _ _ r).mpr (Sp.intro (fun g => viE (by unfold stE; rw [g]; rfl)) (fun g => absurd h1 (odf g))))
 by_cases h2 : 10 < r.kind
 · exact ar (lV m) (d := 0) (HFi _ _) ((oK m _ _ r).mpr (Sp.intro (fun g => absurd (odt g) h1) (fun g => Sp.intro (fun g2 => viE (by unfold stE; rw [g, g2]; rfl)) (fun g => absurd h2 (odf g)))))
 have e : stE r = bif exR r then 2 else stB r := by unfold stE; rw [decide_eq_false h1, decide_eq_false h2]; rfl
 rw [e]
 obtain ⟨k, q, rfl, hk⟩ := wQ h1 h2
 clear e h1 h2
 obtain ⟨⟨ps, ts, cs, ws, h1, h2, h3, h4, h5, h6, h7, h8, h9⟩, hf⟩ := id hw
 have h8 : q.name.size ≤ 1048576 := h8
 have h4 : q.ways = wyvs ws := h4
 rcases hk with rfl | rfl | rfl | rfl | rfl | rfl | rfl | rfl | rfl | rfl
 · rw [stB_1]
   refine ar (dr m) (d := 3) (HFi _ _) ((xo m _ _ q).mpr ?_)
   refine ⟨⟨hf, by decide, by decide⟩, Sp.intro (fun h => viE (by rw [h]; rfl)) (fun h => ?_)⟩
   rw [h]
   refine ⟨by omega, Sp.intro (fun g1 => viE (by rw [g1]; rfl)) (fun g1 => ⟨hw, viE (by rw [g1]; rfl)⟩)⟩
 · rw [stB_2]
   refine ar (dr m) (d := 3) (HFi _ _) ((xn m _ _ q).mpr ?_)
   refine ⟨⟨hf, by decide, by decide⟩, Sp.intro (fun h => viE (by rw [h]; rfl)) (fun h => ?_)⟩
   rw [h]
   refine ⟨by omega, Sp.intro (fun g1 => viE (by rw [g1]; rfl)) (fun g1 => ?_)⟩
   rw [g1]
   rfl
 · rw [stB_3]
   refine ar (dr m) (d := 3) (HFi _ _) ((xm m _ _ q).mpr ?_)
   refine ⟨⟨hf, by decide, by decide⟩, Sp.intro (fun h => viE (by rw [h]; rfl)) (fun h => ?_)⟩
   rw [h]
   exact Sp.intro (fun g1 => viE (by rw [g1]; rfl)) (fun g1 => Sp.intro (fun g2 => viE (by rw [g1, g2]; rfl)) (fun g2 => Sp.intro (fun g3 => viE (by rw [g1, g2, g3]; rfl)) (fun g3 => viE (by rw [g1, g2, g3]; rfl))))
 · rw [stB_4]
   refine ar (dr m) (d := 3) (HFi _ _) ((xl m _ _ q).mpr ?_)
   refine ⟨⟨hf, by decide, by decide⟩, Sp.intro (fun h => viE (by rw [h]; rfl)) (fun h => ?_)⟩
   rw [h]
   exact ⟨by omega, Sp.intro (fun g1 => viE (by rw [g1]; rfl)) (fun g1 => viE (by rw [g1]; rfl))⟩
 · rw [stB_5]
   refine ar (dr m) (d := 3) (HFi _ _) ((xj m _ _ q).mpr ?_)
   refine ⟨⟨hf, by decide, by decide⟩, Sp.intro (fun h => viE (by rw [h]; rfl)) (fun h => ?_)⟩
   rw [h]
   exact Sp.intro (fun _ => rfl) (fun g2 => zr g2)
 · rw [vA]
   refine ar (dr m) (d := 3) (HFi _ _) ((xi m _ _ q).mpr ?_)
   refine ⟨⟨hf, by decide, by decide⟩, Sp.intro (fun h => viE (by rw [h]; rfl)) (fun h => ?_)⟩
   rw [h]
   exact Sp.intro (fun g1 => viE (by rw [g1]; rfl)) (fun g1 => Sp.intro (fun g2 => viE (by rw [g1, g2]; rfl)) (fun g2 => viE (by rw [g1, g2]; rfl)))
 · rw [vz]
   refine ar (dr m) (d := 3) (HFi _ _) ((xh m _ _ q).mpr ?_)
   refine ⟨⟨hf, by decide, by decide⟩, Sp.intro (fun h => viE (by rw [h]; rfl)) (fun h => ?_)⟩
   rw [h]
   exact Sp.intro (fun g0 => viE (by rw [g0]; rfl)) (fun g0 => Sp.intro (fun g1 => viE (by rw [g0, g1]; rfl)) (fun g1 => Sp.intro (fun g2 => viE (by rw [g0, g1, g2]; rfl)) (fun g2 => viE (by rw [g0, g1, g2]; rfl))))
 · rw [stB_8]
   refine ar (dr m) (d := 3) (HFi _ _) ((xg m _ _ q).mpr ?_)
   refine ⟨⟨hf, by decide, by decide⟩, Sp.intro (fun h => viE (by rw [h]; rfl)) (fun h => ?_)⟩
   rw [h]
   exact ⟨⟨⟨ws, h4⟩, hf8 (r := rk 8 q) hf⟩, rfl⟩
 · rw [stB_9]
   refine ar (dr m) (d := 3) (HFi _ _) ((xf m _ _ q).mpr ?_)
   refine ⟨⟨hf, by decide, by decide⟩, Sp.intro (fun h => viE (by rw [h]; rfl)) (fun h => ?_)⟩
   rw [h]
   rfl
 · rw [td]
   refine ar (dr m) (d := 3) (HFi _ _) ((rz m _ _ q).mpr ?_)
   refine ⟨⟨hf, by decide, by decide⟩, Sp.intro (fun h => viE (by rw [h]; rfl)) (fun h => ?_)⟩
   rw [h]
   rfl
def stX : List Value → Option Value
 | [v] => (match srA v with | some r => some (.int .i64 (stE r)) | none => none)
 | _ => none
theorem ck_tab (m : Int) : ∀ args A p v A', aj ci stX args A = some (p, v, A') → PH p → an (envM m) 39 args A v A' := ai (aE m) (aF m) (fn := f39) rfl fun args v h hp => by
 unfold stX at h
 split at h
 · rename_i v0
   split at h
   · rename_i r hr
     simp only [osI] at h
     subst h
     have hp : WfS r := by simp only [ci, hr] at hp; exact hp
     rw [dm hr]
     exact ⟨HF.cons hp.2 HF.nil, zG m r hp⟩
   · cases h
 · cases h
theorem sf_tab (m : Int) : ∀ args A p v A', aj ci stX args A = some (p, v, A') → PH p → an (envM m) 41 args A v A' := ai (aE m) (aF m) (fn := f41) rfl fun args v h hp => by
 unfold stX at h
 split at h
 · rename_i v0
   split at h
   · rename_i r hr
     simp only [osI] at h
     subst h
     have hp : WfS r := by simp only [ci, hr] at hp; exact hp
     rw [dm hr]
     exact ⟨HF.cons hp.2 HF.nil, vH m r hp⟩
   · cases h
 · cases h
end
end Go.T9

/- A part of the proof. -/
import Derived.Test.YtgbjgffiejlooaaGreatDoorU2
import Derived.KernelRfl
import Derived.Test.YtgbjgffiejlooaaGreatDoorY2
set_option linter.unusedVariables false
set_option linter.unusedSimpArgs false
set_option maxRecDepth 1000000
set_option maxHeartbeats 4000000
namespace Go.T9
open Go Go.AM Go.MK Go.Proofs.Tryz
noncomputable section
theorem jFf_nf (K : KV) (n : SB) (m : Int) (cols rows : List Value) : jFf K n m cols rows = (Sp (!decide (m = 1)) (Sp (!decide (m = 2)) (K (Vi 7) (AH.mk (Sg (AObj.cells [Vs n, Vi m, Vd 1 cols, Vd 1 rows] 42)) 1)) (Sp (decide ((cols.length : Int) = 0)) (K (Vi 13) (AH.mk (Sg (AObj.cells [Vs n, Vi m, Vd 1 cols, Vd 1 rows] 42)) 1)) (Sp (decide ((rows.length : Int) = 0)) (K (Vi 13) (AH.mk (Sg (AObj.cells [Vs n, Vi m, Vd 1 cols, Vd 1 rows] 42)) 1)) (Sp (decide (20 < (cols.length : Int))) (K (Vi 3) (AH.mk (Sg (AObj.cells [Vs n, Vi m, Vd 1 cols, Vd 1 rows] 42)) 1)) (Sp (decide (10000 < (rows.length : Int))) (K (Vi 3) (AH.mk (Sg (AObj.cells [Vs n, Vi m, Vd 1 cols, Vd 1 rows] 42)) 1)) (HF (Vd 1 cols) ∧ HF (Va [Vs n, Vi m, Vd 1 cols, Vd 1 rows]) ∧ LAtZ XG 1 f24.ntmps (AH.mk Lf 0) (ac f24) [1, 1, 1, 1, 0, 1, 0] (finK (SX.E XG) f24.results.toList K) (No (Ns Lf (Value.pointer (some ⟨0, 0, none⟩)) (No (No Lf (No (Sg (Vi cols.length)) Lf)) Lf)) (No (No (No Lf (No (Sg (Vd 1 cols)) Lf)) Lf) (No (No Lf (No (Sg (Vi 0)) Lf)) Lf))) (AH.mk (Sg (AObj.cells [Vs n, Vi m, Vd 1 cols, Vd 1 rows] 42)) 1))))))) (Sp (decide ((cols.length : Int) = 0)) (K (Vi 13) (AH.mk (Sg (AObj.cells [Vs n, Vi m, Vd 1 cols, Vd 1 rows] 42)) 1)) (Sp (decide ((rows.length : Int) = 0)) (K (Vi 13) (AH.mk (Sg (AObj.cells [Vs n, Vi m, Vd 1 cols, Vd 1 rows] 42)) 1)) (Sp (decide (20 < (cols.length : Int))) (K (Vi 3) (AH.mk (Sg (AObj.cells [Vs n, Vi m, Vd 1 cols, Vd 1 rows] 42)) 1)) (Sp (decide (10000 < (rows.length : Int))) (K (Vi 3) (AH.mk (Sg (AObj.cells [Vs n, Vi m, Vd 1 cols, Vd 1 rows] 42)) 1)) (HF (Vd 1 cols) ∧ HF (Va [Vs n, Vi m, Vd 1 cols, Vd 1 rows]) ∧ LAtZ XG 1 f24.ntmps (AH.mk Lf 0) (ac f24) [1, 1, 1, 1, 0, 1, 0] (finK (SX.E XG) f24.results.toList K) (No (Ns Lf (Value.pointer (some ⟨0, 0, none⟩)) (No (No Lf (No (Sg (Vi cols.length)) Lf)) Lf)) (No (No (No Lf (No (Sg (Vd 1 cols)) Lf)) Lf) (No (No Lf (No (Sg (Vi 0)) Lf)) Lf))) (AH.mk (Sg (AObj.cells [Vs n, Vi m, Vd 1 cols, Vd 1 rows] 42)) 1))))))) := by kernel_rfl
theorem xF (K : KV) (again : KF) (n : SB) (m : Int) (cols rows : List Value) (i : Nat) : jFf1 K again n m cols rows i = (Sp (decide ((i : Int) < (cols.length : Int))) ((0 ≤ (i : Int) ∧ (i : Int) < (cols.length : Int)) ∧ nth cols (i) = some (Vs (match nth cols (i) with | some (Value.string s) => s | x => ByteArray.empty)) ∧ ByteArray.size (bk cols i) < 9223372036854775808 ∧ Sp (!az (bk cols i)) (K (Vi 8) (AH.mk (Sg (AObj.cells [Vs n, Vi m, Vd 1 cols, Vd 1 rows] 42)) 1)) ((0 ≤ (i : Int) ∧ (i : Int) ≤ (cols.length : Int)) ∧ HF (Vd 1 cols) ∧ HF (Vd 1 (List.take (Int.toNat i) cols)) ∧ HF (Va [Vs n, Vi m, Vd 1 cols, Vd 1 rows]) ∧ LAtZ XG 1 ntG (AH.mk Lf 0) (aF (subC [1, 1, 1, 1, 0, 1, 0] bdG)) [1, 1, 0, 0, 1, 1, 1, 0] (cv XG 1 ntG (AH.mk Lf 0) bdG [1, 1, 1, 1, 0, 1, 0] (iP K) [] [] [42] [1, 40, 41, 42] again) (No (Ns (No (No Lf (No Lf (Sg (Vi 0)))) Lf) (Value.pointer (some ⟨0, 0, none⟩)) (No (No Lf (No (Sg (Vi cols.length)) Lf)) (No (No Lf (Sg (Vd 1 (List.take (Int.toNat i) cols)))) Lf))) (No (Ns (No Lf (No (Sg (Vd 1 cols)) Lf)) (Vs (match nth cols (i) with | some (Value.string s) => s | x => ByteArray.empty)) Lf) (No (No Lf (No (Sg (Vi i)) Lf)) (No (No Lf (Sg (Vi (↑(List.length (List.take (Int.toNat i) cols)) : Int)))) Lf)))) (AH.mk (Sg (AObj.cells [Vs n, Vi m, Vd 1 cols, Vd 1 rows] 42)) 1))) (HF (Vd 1 rows) ∧ HF (Va [Vs n, Vi m, Vd 1 cols, Vd 1 rows]) ∧ LAtZ XG 1 ntG (AH.mk Lf 0) bdG [1, 1, 1, 1, 1, 0, 1, 0] (iP K) (No (Ns (No Lf (No (No (No (Sg (Vi 0)) Lf) Lf) Lf)) (Value.pointer (some ⟨0, 0, none⟩)) (No (No (No (No (Sg (Vd 1 rows)) Lf) Lf) Lf) Lf)) (No Lf (No (No (No (No (Sg (Vi rows.length)) Lf) Lf) Lf) Lf))) (AH.mk (Sg (AObj.cells [Vs n, Vi m, Vd 1 cols, Vd 1 rows] 42)) 1))) := by kernel_rfl
theorem xE (K : KV) (again0 : KF) (again : KF) (n : SB) (m : Int) (cols rows : List Value) (i : Nat) (c : SB) (pre : List Value) (j : Nat) : jFf2 K again0 again n m cols rows i c pre j = (Sp (decide ((j : Int) < (pre.length : Int))) ((0 ≤ (j : Int) ∧ (j : Int) < (pre.length : Int)) ∧ nth pre (j) = some (Vs (match nth pre (j) with | some (Value.string s) => s | x => ByteArray.empty)) ∧ Sp (eqL c.data.toList (bk pre j).data.toList) (K (Vi 5) (AH.mk (Sg (AObj.cells [Vs n, Vi m, Vd 1 cols, Vd 1 rows] 42)) 1)) (HF (Vd 1 cols) ∧ HF (Vd 1 pre) ∧ HF (Va [Vs n, Vi m, Vd 1 cols, Vd 1 rows]) ∧ again (No (Ns (No (No Lf (No Lf (Sg (Vi (Wi ((j : Int) + 1)))))) Lf) (Value.pointer (some ⟨0, 0, none⟩)) (No (No Lf (No (Sg (Vi cols.length)) Lf)) (No (No Lf (Sg (Vd 1 pre))) Lf))) (No (Ns (No Lf (No (Sg (Vd 1 cols)) Lf)) (Vs c) Lf) (No (No Lf (No (Sg (Vi i)) Lf)) (No (No Lf (Sg (Vi pre.length))) Lf)))) (AH.mk (Sg (AObj.cells [Vs n, Vi m, Vd 1 cols, Vd 1 rows] 42)) 1))) (HF (Vd 1 cols) ∧ HF (Va [Vs n, Vi m, Vd 1 cols, Vd 1 rows]) ∧ again0 (No (Ns Lf (Value.pointer (some ⟨0, 0, none⟩)) (No (No Lf (No (Sg (Vi cols.length)) Lf)) Lf)) (No (No (No Lf (No (Sg (Vd 1 cols)) Lf)) Lf) (No (No Lf (No (Sg (Vi (Wi ((i : Int) + 1)))) Lf)) Lf))) (AH.mk (Sg (AObj.cells [Vs n, Vi m, Vd 1 cols, Vd 1 rows] 42)) 1))) := by kernel_rfl
theorem xD (K : KV) (again : KF) (n : SB) (m : Int) (cols rows : List Value) (i : Nat) : jFf3 K again n m cols rows i = (Sp (decide ((i : Int) < (rows.length : Int))) ((0 ≤ (i : Int) ∧ (i : Int) < (rows.length : Int)) ∧ nth rows (i) = some (Vd 1 (be rows i)) ∧ Sp (!decide ((↑(List.length (be rows i)) : Int) = (cols.length : Int))) (K (Vi 2) (AH.mk (Sg (AObj.cells [Vs n, Vi m, Vd 1 cols, Vd 1 rows] 42)) 1)) (HF (Vd 1 rows) ∧ HF (Vd 1 (be rows i)) ∧ HF (Va [Vs n, Vi m, Vd 1 cols, Vd 1 rows]) ∧ LAtZ XG 1 ntG (AH.mk Lf 0) (aF (subC [1, 1, 1, 1, 1, 0, 1, 0] bdG)) [1, 1, 0, 0, 1, 1, 1, 0] (cv XG 1 ntG (AH.mk Lf 0) bdG [1, 1, 1, 1, 1, 0, 1, 0] (iP K) [] [] [42] [1, 65, 66, 67] again) (No (Ns (No (No (No Lf (No (Sg (Vi 0)) Lf)) Lf) (No (No (No (Sg (Vi i)) Lf) Lf) Lf)) (Value.pointer (some ⟨0, 0, none⟩)) (No (No (No (No (Sg (Vd 1 rows)) Lf) Lf) Lf) (No Lf (No (No (Sg (Vd 1 (be rows i))) Lf) Lf)))) (No Lf (No (No (No (No (Sg (Vi rows.length)) Lf) Lf) Lf) (No Lf (No (No (Sg (Vi (↑(List.length (be rows i)) : Int))) Lf) Lf))))) (AH.mk (Sg (AObj.cells [Vs n, Vi m, Vd 1 cols, Vd 1 rows] 42)) 1))) (K (Vi 0) (AH.mk (Sg (AObj.cells [Vs n, Vi m, Vd 1 cols, Vd 1 rows] 42)) 1))) := by kernel_rfl
theorem xC (K : KV) (again0 : KF) (again : KF) (n : SB) (m : Int) (cols rows : List Value) (i : Nat) (r : List Value) (j : Nat) : jFf4 K again0 again n m cols rows i r j = (Sp (decide ((j : Int) < (r.length : Int))) ((0 ≤ (j : Int) ∧ (j : Int) < (r.length : Int)) ∧ nth r (j) = some (Vs (match nth r (j) with | some (Value.string s) => s | x => ByteArray.empty)) ∧ Sp (decide (1000000 < (↑(ByteArray.size (bk r j)) : Int))) (K (Vi 3) (AH.mk (Sg (AObj.cells [Vs n, Vi m, Vd 1 cols, Vd 1 rows] 42)) 1)) (HF (Vd 1 rows) ∧ HF (Vd 1 r) ∧ HF (Va [Vs n, Vi m, Vd 1 cols, Vd 1 rows]) ∧ again (No (Ns (No (No (No Lf (No (Sg (Vi (Wi ((j : Int) + 1)))) Lf)) Lf) (No (No (No (Sg (Vi i)) Lf) Lf) Lf)) (Value.pointer (some ⟨0, 0, none⟩)) (No (No (No (No (Sg (Vd 1 rows)) Lf) Lf) Lf) (No Lf (No (No (Sg (Vd 1 r)) Lf) Lf)))) (No Lf (No (No (No (No (Sg (Vi rows.length)) Lf) Lf) Lf) (No Lf (No (No (Sg (Vi r.length)) Lf) Lf))))) (AH.mk (Sg (AObj.cells [Vs n, Vi m, Vd 1 cols, Vd 1 rows] 42)) 1))) (HF (Vd 1 rows) ∧ HF (Va [Vs n, Vi m, Vd 1 cols, Vd 1 rows]) ∧ again0 (No (Ns (No Lf (No (No (No (Sg (Vi (Wi ((i : Int) + 1)))) Lf) Lf) Lf)) (Value.pointer (some ⟨0, 0, none⟩)) (No (No (No (No (Sg (Vd 1 rows)) Lf) Lf) Lf) Lf)) (No Lf (No (No (No (No (Sg (Vi rows.length)) Lf) Lf) Lf) Lf))) (AH.mk (Sg (AObj.cells [Vs n, Vi m, Vd 1 cols, Vd 1 rows] 42)) 1))) := by kernel_rfl
theorem z7 {K : KV} {again0 : KF} (n : SB) (m : Int) (cs : List SB) (rs : List (List SB)) (i : Nat) (r : List SB) (hr : r.length ≤ 1000000) (hi : i ≤ 1000000)
 (hK : txF r ≠ 0 → K (.int .i64 3) (hF0 n m (sv cs) (rv rs))) (h : txF r = 0 → again0 (frG3 (rv rs) (i + 1)) (hF0 n m (sv cs) (rv rs))) :
 LAtZ XG 1 ntG ⟨.leaf, 0⟩ cG3 [1, 1, 0, 0, 1, 1, 1, 0] (kG3 K again0) (frG4 (rv rs) i (sv r) 0) (hF0 n m (sv cs) (rv rs)) := by
 refine LAtZ.step p8 rfl [] [] [42] [1, 65, 66, 67, 77, 78, 79] (by kernel_rfl) (fun k F A => ∃ j : Nat, F = frG4 (rv rs) i (sv r) j ∧ A = hF0 n m (sv cs) (rv rs) ∧ j + k = r.length ∧ txF r = txF (r.drop j)) ?_ (k := r.length) ⟨0, rfl, rfl, by simp, by simp⟩
 rintro k F A ⟨j, rfl, rfl, hk, hx⟩
 refine (xC K again0 _ n m _ _ i _ j).mpr ?_
 refine Sp.intro (fun c => ?_) (fun c => ?_)
 · have hlt : j < r.length := by simpa [aP] using c
   have hw := i64s j (by omega)
   rw [List.drop_eq_getElem_cons hlt] at hx
   simp only [Int.toNat_natCast, nO hlt, hw]
   refine ⟨by rw [aP]; omega, by rw [gP hlt], Sp.intro (fun c2 => hK ?_) (fun c2 => ⟨i4 rs, er r, cG n m cs rs, k - 1, by omega, j + 1, rfl, by first | trivial | rfl, by omega, ?_⟩)⟩
   · rw [hx]; simp only [txF, c2, cond_true]; decide
   · rw [hx]; simp only [txF, c2, cond_false]
 · have hn : r.drop j = [] := List.drop_eq_nil_of_le (by simp [aP] at c; omega)
   rw [hn] at hx
   have hw := i64s i (by omega)
   simp only [hw]
   exact ⟨i4 rs, cG n m cs rs, h hx⟩
theorem z8 {K : KV} (n : SB) (m : Int) (cs : List SB) (rs : List (List SB)) (hc : cs.length ≤ 1000000) (hr : rs.length ≤ 1000000)
 (hK : K (.int .i64 (rowF cs.length rs)) (hF0 n m (sv cs) (rv rs))) :
 LAtZ XG 1 ntG ⟨.leaf, 0⟩ bdG [1, 1, 1, 1, 1, 0, 1, 0] (iP K) (frG3 (rv rs) 0) (hF0 n m (sv cs) (rv rs)) := by
 refine LAtZ.step p8 rfl [] [] [42] [1, 65, 66, 67] (by kernel_rfl) (fun k F A => ∃ i : Nat, F = frG3 (rv rs) i ∧ A = hF0 n m (sv cs) (rv rs) ∧ i + k = rs.length ∧ rowF cs.length rs = rowF cs.length (rs.drop i)) ?_ (k := rs.length) ⟨0, rfl, rfl, by simp, by simp⟩
 rintro k F A ⟨i, rfl, rfl, hk, hx⟩
 refine (xD K _ n m _ _ i).mpr ?_
 refine Sp.intro (fun c => ?_) (fun c => ?_)
 · have hlt : i < rs.length := by simpa [bB] using c
   rw [List.drop_eq_getElem_cons hlt] at hx
   simp only [Int.toNat_natCast, rw_at hlt]
   refine ⟨by rw [bB]; omega, by rw [n4 hlt]; rfl, Sp.intro (fun c2 => ?_) (fun c2 => ?_)⟩
   · have e : rowF cs.length rs = 2 := by
      rw [hx]; unfold rowF
      have : decide (rs[i].length = cs.length) = false := by simp [aP] at c2; simp; omega
      rw [this]; rfl
     rw [e] at hK; exact hK
   · have e : decide (rs[i].length = cs.length) = true := by simp [aP] at c2; simp; omega
     have el : rs[i].length = cs.length := odt e
     refine ⟨i4 rs, er _, cG n m cs rs, z7 n m cs rs i rs[i] (by omega) (by omega) (fun h => ?_) (fun h => ?_)⟩
     · have e2 : rowF cs.length rs = 3 := by
        rw [hx]; unfold rowF; rw [e, show decide (txF rs[i] = 0) = false by simp [h]]; rfl
       rw [e2] at hK; exact hK
     · refine ⟨k - 1, by omega, i + 1, rfl, rfl, by omega, ?_⟩
       rw [hx]
       show (bif decide (rs[i].length = cs.length) then (bif decide (txF rs[i] = 0) then rowF cs.length (rs.drop (i + 1)) else 3) else 2) = _
       rw [e, show decide (txF rs[i] = 0) = true by simp [h]]; rfl
 · have hn : rs.drop i = [] := List.drop_eq_nil_of_le (by simp [bB] at c; omega)
   rw [hn] at hx
   rw [hx] at hK
   exact hK
theorem vl (cs : List SB) (i : Nat) : (sv cs).take i = sv (cs.take i) := by simp [sv, List.map_take]
def dl (l : List SB) : List (List UInt8) := l.map fun s => s.data.toList
theorem Aa {K : KV} {again0 : KF} (n : SB) (m : Int) (cs : List SB) (rs : List (List SB)) (i : Nat) (c : SB) (pre : List SB) (hr : pre.length ≤ 1000000) (hi : i ≤ 1000000)
 (hK : c.data.toList ∈ dl pre → K (.int .i64 5) (hF0 n m (sv cs) (rv rs))) (h : ¬ c.data.toList ∈ dl pre → again0 (frG1 (sv cs) (i + 1)) (hF0 n m (sv cs) (rv rs))) :
 LAtZ XG 1 ntG ⟨.leaf, 0⟩ cG1 [1, 1, 0, 0, 1, 1, 1, 0] (kG1 K again0) (frG2 (sv cs) i c (sv pre) 0) (hF0 n m (sv cs) (rv rs)) := by
 refine LAtZ.step p8 rfl [] [] [42] [1, 4, 40, 41, 42, 53, 54, 55] (by kernel_rfl) (fun k F A => ∃ j : Nat, F = frG2 (sv cs) i c (sv pre) j ∧ A = hF0 n m (sv cs) (rv rs) ∧ j + k = pre.length ∧ (c.data.toList ∈ dl pre ↔ c.data.toList ∈ dl (pre.drop j))) ?_ (k := pre.length) ⟨0, rfl, rfl, by simp, by simp⟩
 rintro k F A ⟨j, rfl, rfl, hk, hx⟩
 refine (xE K again0 _ n m _ _ i _ _ j).mpr ?_
 refine Sp.intro (fun c1 => ?_) (fun c1 => ?_)
 · have hlt : j < pre.length := by simpa [aP] using c1
   have hw := i64s j (by omega)
   rw [List.drop_eq_getElem_cons hlt] at hx
   simp only [dl, List.map_cons, List.mem_cons] at hx
   simp only [Int.toNat_natCast, nO hlt, hw]
   refine ⟨by rw [aP]; omega, by rw [gP hlt], Sp.intro (fun c2 => hK (hx.2 (.inl ((bD _ _).1 c2)))) (fun c2 => ⟨er cs, er pre, cG n m cs rs, k - 1, by omega, j + 1, rfl, by first | trivial | rfl, by omega, ?_⟩)⟩
   have hne : ¬ c.data.toList = pre[j].data.toList := fun e => by rw [(bD _ _).2 e] at c2; cases c2
   exact hx.trans ⟨fun q => q.resolve_left hne, .inr⟩
 · have hn : pre.drop j = [] := List.drop_eq_nil_of_le (by simp [aP] at c1; omega)
   rw [hn] at hx
   have hw := i64s i (by omega)
   simp only [hw]
   exact ⟨er cs, cG n m cs rs, h (fun q => by have := hx.1 q; simp [dl] at this)⟩
theorem Ab {K : KV} (n : SB) (m : Int) (cs : List SB) (rs : List (List SB)) (hc : cs.length ≤ 1000000) (hr : rs.length ≤ 1000000) (hb : ∀ s ∈ cs, s.size < 9223372036854775808)
 (hK0 : colF [] cs ≠ 0 → K (.int .i64 (colF [] cs)) (hF0 n m (sv cs) (rv rs))) (hK1 : colF [] cs = 0 → K (.int .i64 (rowF cs.length rs)) (hF0 n m (sv cs) (rv rs))) :
 LAtZ XG 1 ntG ⟨.leaf, 0⟩ bdG [1, 1, 1, 1, 0, 1, 0] (iP K) (frG1 (sv cs) 0) (hF0 n m (sv cs) (rv rs)) := by
 refine LAtZ.step p8 rfl [] [] [42] [1, 40, 41, 42] (by kernel_rfl) (fun k F A => ∃ i : Nat, F = frG1 (sv cs) i ∧ A = hF0 n m (sv cs) (rv rs) ∧ i + k = cs.length ∧ colF [] cs = colF (seenF cs i) (cs.drop i)) ?_ (k := cs.length) ⟨0, rfl, rfl, by simp, by simp [seenF]⟩
 rintro k F A ⟨i, rfl, rfl, hk, hx⟩
 refine (xF K _ n m _ _ i).mpr ?_
 refine Sp.intro (fun c => ?_) (fun c => ?_)
 · have hlt : i < cs.length := by simpa [aP] using c
   rw [jU hlt] at hx
   simp only [Int.toNat_natCast, nO hlt, gP hlt, vl]
   refine ⟨by rw [aP]; omega, by first | trivial | rfl, hb _ (List.getElem_mem hlt), Sp.intro (fun c2 => ?_) (fun c2 => ⟨by rw [aP]; omega, er cs, er (cs.take i), cG n m cs rs, ?_⟩)⟩
   · have e : az cs[i] = false := by simpa using c2
     rw [e] at hx
     have e2 : colF [] cs = 8 := hx
     have := hK0 (by rw [e2]; decide)
     rw [e2] at this; exact this
   · have e : az cs[i] = true := by simpa using c2
     rw [e] at hx
     refine Aa n m cs rs i cs[i] (cs.take i) (by rw [List.length_take]; omega) (by omega) (fun q => ?_) (fun q => ⟨k - 1, by omega, i + 1, rfl, rfl, by omega, ?_⟩)
     · have q : cs[i].data.toList ∈ seenF cs i := q
       have e2 : colF [] cs = 5 := by rw [hx, decide_eq_true q]; rfl
       have := hK0 (by rw [e2]; decide)
       rw [e2] at this; exact this
     · have q : ¬ cs[i].data.toList ∈ seenF cs i := q
       rw [hx, decide_eq_false q]; rfl
 · have hn : cs.drop i = [] := List.drop_eq_nil_of_le (by simp [aP] at c; omega)
   rw [hn] at hx
   have hx : colF [] cs = 0 := hx.trans (by cases seenF cs i <;> rfl)
   exact ⟨i4 rs, cG n m cs rs, z8 n m cs rs hc hr (hK1 hx)⟩
theorem yT (n : SB) (m : Int) (cs : List SB) (rs : List (List SB)) (hb : ∀ s ∈ cs, s.size < 9223372036854775808) : bx env f24 [fdv n m (sv cs) (rv rs)] ⟨.leaf, 0⟩ (.int .i64 (fdF m cs rs)) := by
 refine av p8 (d := 1) ((jFf_nf _ n m _ _).mpr ?_)
 refine Sp.intro (fun c1 => Sp.intro (fun c2 => ?_) (fun c2 => ?_)) (fun c1 => ?_)
 · have e : fdF m cs rs = 7 := by
    simp at c1 c2
    unfold fdF; simp [c1, c2]
   rw [e]; exact Frz.same (HFi _ _)
 all_goals
  have hm : (decide (m = 1) || decide (m = 2)) = true := by first | (simp at c2; simp [c2]) | (simp at c1; simp [c1])
  refine Sp.intro (fun c3 => ?_) (fun c3 => Sp.intro (fun c4 => ?_) (fun c4 => Sp.intro (fun c5 => ?_) (fun c5 => Sp.intro (fun c6 => ?_) (fun c6 => ?_))))
  · have e : fdF m cs rs = 13 := by
     simp [aP] at c3
     unfold fdF; rw [hm]; simp [c3]
    rw [e]; exact Frz.same (HFi _ _)
  · have e : fdF m cs rs = 13 := by
     simp [bB] at c4
     unfold fdF; rw [hm]; simp [c4]
    rw [e]; exact Frz.same (HFi _ _)
  · have e : fdF m cs rs = 3 := by
     have h1 : 20 < cs.length := by simp [aP] at c5; omega
     have h3 : decide (cs.length = 0) = false := by simp; intro h; simp [h] at h1
     have h4 : decide (rs.length = 0) = false := by simp [bB] at c4; simp [c4]
     unfold fdF; rw [hm, h3, h4]; simp [h1]
    rw [e]; exact Frz.same (HFi _ _)
  · have e : fdF m cs rs = 3 := by
     have h1 : 10000 < rs.length := by simp [bB] at c6; omega
     have h3 : decide (cs.length = 0) = false := by simp [aP] at c3; simp [c3]
     have h4 : decide (rs.length = 0) = false := by simp [bB] at c4; simp [c4]
     unfold fdF; rw [hm, h3, h4]; simp [h1]
    rw [e]; exact Frz.same (HFi _ _)
  · have h1 : cs.length ≤ 20 := by simp [aP] at c5; omega
    have h2 : rs.length ≤ 10000 := by simp [bB] at c6; omega
    have h3 : decide (cs.length = 0) = false := by simp [aP] at c3; simp [c3]
    have h4 : decide (rs.length = 0) = false := by simp [bB] at c4; simp [c4]
    have e : fdF m cs rs = bif decide (colF [] cs = 0) then rowF cs.length rs else colF [] cs := by
     unfold fdF; rw [hm, h3, h4, show decide (20 < cs.length) = false by simp; omega, show decide (10000 < rs.length) = false by simp; omega]; rfl
    refine ⟨er cs, cG n m cs rs, Ab n m cs rs (by omega) (by omega) hb (fun h => ?_) (fun h => ?_)⟩
    · rw [e, show decide (colF [] cs = 0) = false by simp [h]]; exact Frz.same (HFi _ _)
    · rw [e, show decide (colF [] cs = 0) = true by simp [h]]; exact Frz.same (HFi _ _)
theorem ff_tab : ∀ args A p v A', ai sC cfX args A = some (p, v, A') → PH p → ap env 24 args A v A' := aj env_ok bw (fn := f24) rfl fun args v h hp => by
 unfold cfX at h
 split at h
 · simp only [osI] at h
   subst h
   obtain ⟨cs, rs, rfl, rfl, hb⟩ := hp
   refine ⟨HF.cons (cG _ _ cs rs) HF.nil, ?_⟩
   rw [gN, i5]
   exact yT _ _ cs rs hb
 · cases h
set_option maxHeartbeats 1000000
def tabCh (n : Nat) : Tab := [(16, ai (cz (lsP n)) (vMs n)), (17, ai (cz (lsP n)) (vCe n))]
theorem qV (m : Int) (n : Nat) : TabOk (envM m) (tabCh n) := .cons (toM (uF n)) (.cons (uJ m n) .nil)
def XCh (m : Int) (n : Nat) : SX := ⟨envM m, tabCh n, noEl, fun _ => .unroll 0⟩
theorem XCh_ok (m : Int) (n : Nat) : (XCh m n).Ok := ⟨aI m, rfl, aJ m, qV m n⟩
def tabRc (n : Nat) : Tab := [(18, ai (cz (lsP n)) (vCn n)), (19, ai (cz (lsP n)) (vLv n)), (20, ai (cz (lsP n)) (vSv n))]
theorem qy (m : Int) (n : Nat) : TabOk (envM m) (tabRc n) := .cons (toM (uI n)) (.cons (toM (uG n)) (.cons (uE m n) .nil))
def XRc (m : Int) (n : Nat) : SX := ⟨envM m, tabRc n, noEl, fun _ => .unroll 0⟩
theorem XRc_ok (m : Int) (n : Nat) : (XRc m n).Ok := ⟨aI m, rfl, aJ m, qy m n⟩
def jC6 (m : Int) (n : Nat) (Q : Value → Prop) (QA : KV) (l : List Value) : Prop := aG (XCh m n) 1 f6 [dat 19 l] ⟨.leaf, 0⟩ (ar Q QA)
def jRc (m : Int) (n : Nat) (Q : Value → Prop) (QA : KV) (l : List Value) : Prop := aG (XRc m n) 1 f7 [dat 19 l] ⟨.leaf, 0⟩ (ar Q QA)
def feN (els : List Value) (i : Int) : SB := match nth els i.toNat with | some (.agg ⟨[.string n, _, _, _]⟩) => n | _ => ByteArray.empty
def feM (els : List Value) (i : Int) : Int := match nth els i.toNat with | some (.agg ⟨[_, .int _ m, _, _]⟩) => m | _ => 0
def feC (els : List Value) (i : Int) : List Value := match nth els i.toNat with | some (.agg ⟨[_, _, .func _ ⟨l⟩ _, _]⟩) => l | _ => []
def feR (els : List Value) (i : Int) : List Value := match nth els i.toNat with | some (.agg ⟨[_, _, _, .func _ ⟨l⟩ _]⟩) => l | _ => []
def elFd : El := { El.of (fun sz t els i => some (.agg ⟨[.string (feN els i), .int .i64 (feM els i), dat 1 (feC els i), dat 1 (feR els i)]⟩)) with ml := fun _ es k => some (.bool (mgB es k), mhB es k), mu := fun _ es _ k v => some (msB es k v, mnB es k v) }
def tabFs : Tab := [(21, ai aW nmX), (22, ai sC cfX)]
theorem qS : TabOk env tabFs := .cons ju (.cons cf_tab .nil)
def XFs : SX := ⟨env, tabFs, elFd, fun _ => .autoN [] [] [] [3, 11, 12, 13]⟩
theorem uA : XFs.Ok := ⟨env_ok, cC, bw, qS⟩
def frFs (l : List Value) (i : Nat) : T Value := (Nd (Nd (Nd Lf (some (.map (some 0))) (Nd Lf (some (dat 4 l)) Lf)) none (Nd Lf none (Nd Lf (some (.int .i64 i)) Lf))) none (Nd (Nd Lf none (Nd Lf (some (.int .i64 l.length)) Lf)) none Lf))
def hFs (es : fm) (c : Nat) : AH := ⟨Nd Lf (some (.map es c)) Lf, 1⟩
def jFs (K : KV) (l : List Value) : Prop := aG XFs 1 f8 [dat 4 l] ⟨.leaf, 0⟩ K
def jFs1 (K : KV) (again : KF) (l : List Value) (i : Nat) (es : fm) (c : Nat) : Prop := au XFs 1 (Func.ntmps f8) ⟨.leaf, 0⟩ (ac f8) [1, 1, 1, 0, 1, 0] (finK XFs.E (f8.results).toList K) [] [] [] [3, 11, 12, 13] again (frFs l i) (hFs es c)
def tabGs : Tab := [(23, ai aW nmX), (24, ai sC cfX)]
theorem qP : TabOk env tabGs := .cons jF (.cons ff_tab .nil)
def XGs : SX := ⟨env, tabGs, elFd, fun k => bif Nat.beq k 4 then .autoN [] [] [42] [0, 11, 12, 13] else .autoN [] [] [42] [0, 4, 11, 12, 13, 24, 25, 26]⟩
theorem p7 : XGs.Ok := ⟨env_ok, cC, bw, qP⟩
def frGs (l : List Value) (i : Nat) : T Value := (Nd (Nd (Nd Lf none (Nd Lf (some (dat 4 l)) Lf)) none (Nd Lf none (Nd Lf (some (.int .i64 i)) Lf))) (some (dat 4 l)) (Nd (Nd Lf none (Nd Lf (some (.int .i64 l.length)) Lf)) none Lf))
def jGs (K : KV) (l : List Value) : Prop := aG XGs 1 f9 [dat 4 l] ⟨.leaf, 0⟩ K
def jGs1 (K : KV) (again : KF) (l : List Value) (i : Nat) : Prop := au XGs 1 (Func.ntmps f9) ⟨.leaf, 0⟩ (ac f9) [1, 1, 0, 1, 0] (finK XGs.E (f9.results).toList K) [] [] [42] [0, 11, 12, 13] again (frGs l i) ⟨.leaf, 0⟩
def se (l : List Value) (i : Nat) (pre : List Value) (j : Nat) : T Value := (Nd (Nd (Nd Lf none (Nd Lf (some (dat 4 l)) Lf)) none (Nd (Nd Lf none (Nd Lf (some (.int .i64 pre.length)) Lf)) none (Nd Lf (some (.int .i64 i)) Lf))) (some (dat 4 l)) (Nd (Nd (Nd Lf none (Nd Lf (some (dat 4 pre)) Lf)) (some (.pointer (some ⟨0, 0, none⟩))) (Nd Lf (some (.int .i64 l.length)) Lf)) none (Nd (Nd Lf none (Nd Lf (some (.int .i64 j)) Lf)) none Lf)))
def kFinGs (K : KV) : KX := finK XGs.E (f9.results).toList K
def cIGs : Code := aF (subC [1, 1, 0, 1, 0] (ac f9))
def kIGs (K : KV) (again : KF) : KX := cv XGs 1 (Func.ntmps f9) ⟨.leaf, 0⟩ (ac f9) [1, 1, 0, 1, 0] (kFinGs K) [] [] [42] [0, 11, 12, 13] again
def jGs2 (K : KV) (again0 again : KF) (l : List Value) (i : Nat) (n : SB) (m : Int) (cols rows pre : List Value) (j : Nat) : Prop := au XGs 1 (Func.ntmps f9) ⟨.leaf, 0⟩ cIGs [1, 1, 0, 0, 1, 1, 0, 1, 0] (kIGs K again0) [] [] [42] [0, 4, 11, 12, 13, 24, 25, 26] again (se l i pre j) (hF0 n m cols rows)
theorem jRc_nf (m : Int) (n : Nat) (Q : Value → Prop) (QA : KV) (l : List Value) : jRc m n Q QA l = (lsP n l ∧ Sp (decide (1000 < (↑(cN n l) : Int))) (Q (Vi 3)) (lsP n l ∧ Sp (decide (20 < mD n l)) (Q (Vi 3)) (lsP n l ∧ Q (Vi (cE n l))))) := by kernel_rfl
theorem jFs_nf (K : KV) (l : List Value) : jFs K l = (Sp (decide (20 < (l.length : Int))) (K (Vi 3) (AH.mk Lf 0)) (HF (Vd 4 l) ∧ HF (Va []) ∧ LAtZ XFs 1 f8.ntmps (AH.mk Lf 0) (ac f8) [1, 1, 1, 0, 1, 0] (finK (SX.E XFs) f8.results.toList K) (No (No (Ns Lf (Value.map (some 0)) (Sg (Vd 4 l))) (No Lf (Sg (Vi 0)))) (No (No Lf (Sg (Vi l.length))) Lf)) (AH.mk (Sg (AObj.map [] 0)) 1))) := by kernel_rfl
theorem xB (K : KV) (again : KF) (l : List Value) (i : Nat) (es : fm) (c : Nat) : jFs1 K again l i es c = (Sp (decide ((i : Int) < (l.length : Int))) ((0 ≤ (i : Int) ∧ (i : Int) < (l.length : Int)) ∧ nth l (i) = some (Va [Vs (feN l i), Vi (feM l i), Vd 1 (feC l i), Vd 1 (feR l i)]) ∧ ByteArray.size (feN l i) < 9223372036854775808 ∧ Sp (!az (feN l i)) (K (Vi 8) (AH.mk (Ns (Sg (AObj.cells [Vs (feN l i), Vi (feM l i), Vd 1 (feC l i), Vd 1 (feR l i)] 42)) (AObj.map es c) Lf) 2)) (iN (SX.E XFs) 39 es (Vs (feN l i)) = some (Value.bool (mgB es (Vs (feN l i))), mhB es (Vs (feN l i))) ∧ Sp (mgB es (Vs (feN l i))) (K (Vi 5) (AH.mk (Ns (Sg (AObj.cells [Vs (feN l i), Vi (feM l i), Vd 1 (feC l i), Vd 1 (feR l i)] 42)) (AObj.map es c) Lf) 2)) (cA (SX.E XFs) 39 es c (Vs (feN l i)) (Vb true) = some (msB es (Vs (feN l i)) (Vb true), mnB es (Vs (feN l i)) (Vb true)) ∧ (∃ (cs : List SB), ∃ (rs : List (List SB)), feC l (i : Int) = sv cs ∧ feR l (i : Int) = rv rs ∧ ∀ (s : SB), s ∈ cs → s.size < 9223372036854775808) ∧ Sp (!decide (fdF (feM l i) (unS (feC l i)) (unR (feR l i)) = 0)) (K (Vi (fdF (feM l i) (unS (feC l i)) (unR (feR l i)))) (AH.mk (Ns (Sg (AObj.cells [Vs (feN l i), Vi (feM l i), Vd 1 (feC l i), Vd 1 (feR l i)] 42)) (AObj.map (msB es (Vs (feN l i)) (Vb true)) (mnB es (Vs (feN l i)) (Vb true))) Lf) 2)) (HF (Vd 4 l) ∧ HF (Va (List.map (fun (x : Value × Value × Nat) => Prod.fst (Prod.snd x)) (msB es (Vs (feN l i)) (Vb true)))) ∧ again (No (No (Ns Lf (Value.map (some 0)) (Sg (Vd 4 l))) (No Lf (Sg (Vi (Wi ((i : Int) + 1)))))) (No (No Lf (Sg (Vi l.length))) Lf)) (AH.mk (Sg (AObj.map (msB es (Vs (feN l i)) (Vb true)) (mnB es (Vs (feN l i)) (Vb true)))) 1))))) (K (Vi 0) (AH.mk (Sg (AObj.map es c)) 1))) := by kernel_rfl
theorem jGs_nf (K : KV) (l : List Value) : jGs K l = (Sp (decide (20 < (l.length : Int))) (K (Vi 3) (AH.mk Lf 0)) (HF (Vd 4 l) ∧ HF (Vd 4 l) ∧ LAtZ XGs 1 f9.ntmps (AH.mk Lf 0) (ac f9) [1, 1, 0, 1, 0] (finK (SX.E XGs) f9.results.toList K) (Ns (No (No Lf (Sg (Vd 4 l))) (No Lf (Sg (Vi 0)))) (Vd 4 l) (No (No Lf (Sg (Vi l.length))) Lf)) (AH.mk Lf 0))) := by kernel_rfl
theorem xA (K : KV) (again : KF) (l : List Value) (i : Nat) : jGs1 K again l i = (Sp (decide ((i : Int) < (l.length : Int))) ((0 ≤ (i : Int) ∧ (i : Int) < (l.length : Int)) ∧ nth l (i) = some (Va [Vs (feN l i), Vi (feM l i), Vd 1 (feC l i), Vd 1 (feR l i)]) ∧ ByteArray.size (feN l i) < 9223372036854775808 ∧ Sp (!az (feN l i)) (K (Vi 8) (AH.mk (Sg (AObj.cells [Vs (feN l i), Vi (feM l i), Vd 1 (feC l i), Vd 1 (feR l i)] 42)) 1)) ((0 ≤ (i : Int) ∧ (i : Int) ≤ (l.length : Int)) ∧ HF (Vd 4 l) ∧ HF (Vd 4 l) ∧ HF (Vd 4 (List.take (Int.toNat i) l)) ∧ HF (Va [Vs (feN l i), Vi (feM l i), Vd 1 (feC l i), Vd 1 (feR l i)]) ∧ LAtZ XGs 1 f9.ntmps (AH.mk Lf 0) (aF (subC [1, 1, 0, 1, 0] (ac f9))) [1, 1, 0, 0, 1, 1, 0, 1, 0] (cv XGs 1 f9.ntmps (AH.mk Lf 0) (ac f9) [1, 1, 0, 1, 0] (finK (SX.E XGs) f9.results.toList K) [] [] [42] [0, 11, 12, 13] again) (Ns (No (No Lf (Sg (Vd 4 l))) (No (No Lf (Sg (Vi (↑(List.length (List.take (Int.toNat i) l)) : Int)))) (Sg (Vi i)))) (Vd 4 l) (No (Ns (No Lf (Sg (Vd 4 (List.take (Int.toNat i) l)))) (Value.pointer (some ⟨0, 0, none⟩)) (Sg (Vi l.length))) (No (No Lf (Sg (Vi 0))) Lf))) (AH.mk (Sg (AObj.cells [Vs (feN l i), Vi (feM l i), Vd 1 (feC l i), Vd 1 (feR l i)] 42)) 1))) (K (Vi 0) (AH.mk Lf 0))) := by kernel_rfl
theorem jC6_nf (m : Int) (n : Nat) (Q : Value → Prop) (QA : KV) (l : List Value) : jC6 m n Q QA l = (lsP n l ∧ Sp (decide (1000 < (↑(mT n l) : Int))) (Q (Vi 3)) (Sp (decide (20 < mD n l)) (Q (Vi 3)) (lsP n l ∧ Q (Vi (cE n l))))) := by kernel_rfl
theorem xz (K : KV) (again0 : KF) (again : KF) (l : List Value) (i : Nat) (n : SB) (m : Int) (cols rows pre : List Value) (j : Nat) : jGs2 K again0 again l i n m cols rows pre j = (Sp (decide ((j : Int) < (pre.length : Int))) ((0 ≤ (j : Int) ∧ (j : Int) < (pre.length : Int)) ∧ nth pre (j) = some (Va [Vs (feN pre j), Vi (feM pre j), Vd 1 (feC pre j), Vd 1 (feR pre j)]) ∧ Sp (eqL (feN pre j).data.toList n.data.toList) (K (Vi 5) (AH.mk (Ns (Sg (AObj.cells [Vs (feN pre j), Vi (feM pre j), Vd 1 (feC pre j), Vd 1 (feR pre j)] 42)) (AObj.cells [Vs n, Vi m, Vd 1 cols, Vd 1 rows] 42) Lf) 2)) (HF (Vd 4 l) ∧ HF (Vd 4 l) ∧ HF (Vd 4 pre) ∧ HF (Va [Vs n, Vi m, Vd 1 cols, Vd 1 rows]) ∧ again (Ns (No (No Lf (Sg (Vd 4 l))) (No (No Lf (Sg (Vi pre.length))) (Sg (Vi i)))) (Vd 4 l) (No (Ns (No Lf (Sg (Vd 4 pre))) (Value.pointer (some ⟨0, 0, none⟩)) (Sg (Vi l.length))) (No (No Lf (Sg (Vi (Wi ((j : Int) + 1))))) Lf))) (AH.mk (Sg (AObj.cells [Vs n, Vi m, Vd 1 cols, Vd 1 rows] 42)) 1))) ((∃ (cs : List SB), ∃ (rs : List (List SB)), cols = sv cs ∧ rows = rv rs ∧ ∀ (s : SB), s ∈ cs → s.size < 9223372036854775808) ∧ Sp (!decide (fdF m (unS cols) (unR rows) = 0)) (K (Vi (fdF m (unS cols) (unR rows))) (AH.mk (Sg (AObj.cells [Vs n, Vi m, Vd 1 cols, Vd 1 rows] 42)) 1)) (HF (Vd 4 l) ∧ HF (Vd 4 l) ∧ again0 (Ns (No (No Lf (Sg (Vd 4 l))) (No Lf (Sg (Vi (Wi ((i : Int) + 1)))))) (Vd 4 l) (No (No Lf (Sg (Vi l.length))) Lf)) (AH.mk Lf 0)))) := by kernel_rfl
def chE (n : Nat) (l : List Value) : Int := bif decide ((1000 : Int) < (mT n l : Int)) then 3 else bif decide (20 < mD n l) then 3 else cE n l
theorem zc (m : Int) (n : Nat) (l : List Value) (h : lsP n l) : bx (envM m) f6 [dat 19 l] ⟨.leaf, 0⟩ (.int .i64 (chE n l)) := by
 refine aq (XCh_ok m n) (d := 1) (HFi _ _) ((jC6_nf m n _ _ l).mpr ⟨h, Sp.intro (fun c => ?_) (fun c => Sp.intro (fun c2 => ?_) (fun c2 => ⟨h, ?_⟩))⟩)
 · show Value.int _ _ = Value.int _ _
   unfold chE; rw [c]; rfl
 · show Value.int _ _ = Value.int _ _
   unfold chE; rw [c, c2]; rfl
 · show Value.int _ _ = Value.int _ _
   unfold chE; rw [c, c2]; rfl
theorem vM (m : Int) (n : Nat) (l : List Value) (h : lsP n l) : bx (envM m) f7 [dat 19 l] ⟨.leaf, 0⟩ (.int .i64 (chE n l)) := by
 refine aq (XRc_ok m n) (d := 1) (HFi _ _) ((jRc_nf m n _ _ l).mpr ⟨h, Sp.intro (fun c => ?_) (fun c => ⟨h, Sp.intro (fun c2 => ?_) (fun c2 => ⟨h, ?_⟩)⟩)⟩)
 · rw [kP] at c
   show Value.int _ _ = Value.int _ _
   unfold chE; rw [c]; rfl
 · rw [kP] at c
   show Value.int _ _ = Value.int _ _
   unfold chE; rw [c, c2]; rfl
 · rw [kP] at c
   show Value.int _ _ = Value.int _ _
   unfold chE; rw [c, c2]; rfl
theorem zY {n : Nat} {l : List Value} (h : lsP n l) : HF (dat 19 l) := by
 cases n with
 | zero => exact h.elim
 | succ n => exact dp h
def vCh (n : Nat) : List Value → Option Value := cK fun l => .int .i64 (chE n l)
theorem ch_tab (m : Int) (n : Nat) : ∀ args A p v A', ai (cz (lsP n)) (vCh n) args A = some (p, v, A') → PH p → ap (envM m) 6 args A v A' := aj (aI m) (aJ m) (fn := f6) rfl fun args v h hp => by
 unfold vCh cK at h
 split at h
 · simp only [osI] at h
   subst h
   exact ⟨HF.cons (zY hp) HF.nil, zc m n _ hp⟩
 · cases h
theorem rc_tab (m : Int) (n : Nat) : ∀ args A p v A', ai (cz (lsP n)) (vCh n) args A = some (p, v, A') → PH p → ap (envM m) 7 args A v A' := aj (aI m) (aJ m) (fn := f7) rfl fun args v h hp => by
 unfold vCh cK at h
 split at h
 · simp only [osI] at h
   subst h
   exact ⟨HF.cons (zY hp) HF.nil, vM m n _ hp⟩
 · cases h
abbrev FD := SB × Int × List SB × List (List SB)
def fev (f : FD) : Value := fdv f.1 f.2.1 (sv f.2.2.1) (rv f.2.2.2)
def fevs (l : List FD) : List Value := l.map fev
theorem dY (l : List FD) : (fevs l).length = l.length := by simp [fevs]
theorem pw (l : List FD) (i : Nat) : (fevs l).take i = fevs (l.take i) := by simp [fevs, List.map_take]
theorem gv {l : List FD} {i : Nat} (h : i < l.length) : nth (fevs l) i = some (.agg ⟨[.string l[i].1, .int .i64 l[i].2.1, .func (.yield 1) ⟨sv l[i].2.2.1⟩ ⟨[]⟩, .func (.yield 1) ⟨rv l[i].2.2.2⟩ ⟨[]⟩]⟩) := by
 rw [aD]; simp [fevs, fev, fdv, dat, List.getElem?_eq_getElem h]
theorem py {l : List FD} {i : Nat} (h : i < l.length) : feN (fevs l) (i : Int) = l[i].1 := by simp only [feN, Int.toNat_natCast, gv h]
theorem pz {l : List FD} {i : Nat} (h : i < l.length) : feM (fevs l) (i : Int) = l[i].2.1 := by simp only [feM, Int.toNat_natCast, gv h]
theorem pA {l : List FD} {i : Nat} (h : i < l.length) : feC (fevs l) (i : Int) = sv l[i].2.2.1 := by simp only [feC, Int.toNat_natCast, gv h]
theorem px {l : List FD} {i : Nat} (h : i < l.length) : feR (fevs l) (i : Int) = rv l[i].2.2.2 := by simp only [feR, Int.toNat_natCast, gv h]
theorem bp (l : List FD) : ∀ x ∈ fevs l, HF x := fun x hx => by obtain ⟨p, _, rfl⟩ := List.mem_map.1 hx; exact cG _ _ _ _
def FdP (l : List FD) : Prop := ∀ f ∈ l, f.1.size < 9223372036854775808 ∧ ∀ s ∈ f.2.2.1, s.size < 9223372036854775808
def fsF : List (List UInt8) → List FD → Int
 | _, [] => 0
 | seen, f :: l => bif az f.1 then (bif decide (f.1.data.toList ∈ seen) then 5 else bif !decide (fdF f.2.1 f.2.2.1 f.2.2.2 = 0) then fdF f.2.1 f.2.2.1 f.2.2.2 else fsF (seen ++ [f.1.data.toList]) l) else 8
def fsE (l : List FD) : Int := bif decide (20 < (l.length : Int)) then 3 else fsF [] l
def bI (l : List FD) (i : Nat) : List (List UInt8) := (l.take i).map fun f => f.1.data.toList
theorem gT {l : List FD} {i : Nat} (h : i < l.length) : bI l (i + 1) = bI l i ++ [l[i].1.data.toList] := by
 unfold bI; rw [List.take_succ_eq_append_getElem h, List.map_append]; rfl
theorem lQ {l : List FD} {i : Nat} (h : i < l.length) : fsF (bI l i) (l.drop i) = bif az l[i].1 then (bif decide (l[i].1.data.toList ∈ bI l i) then 5 else bif !decide (fdF l[i].2.1 l[i].2.2.1 l[i].2.2.2 = 0) then fdF l[i].2.1 l[i].2.2.1 l[i].2.2.2 else fsF (bI l (i + 1)) (l.drop (i + 1))) else 8 := by
 rw [List.drop_eq_getElem_cons h, gT h]; rfl
theorem pi (s : List (List UInt8)) : fsF s [] = 0 := by cases s <;> rfl
theorem Ad {K : KV} (l : List FD) (hl : l.length ≤ 20) (hP : FdP l) (hK : ∀ A, K (.int .i64 (fsF [] l)) A) :
 LAtZ XFs 1 (Func.ntmps f8) ⟨.leaf, 0⟩ (ac f8) [1, 1, 1, 0, 1, 0] (finK XFs.E (f8.results).toList K) (frFs (fevs l) 0) (hFs (enB []) 0) := by
 have hlen := dY l
 refine LAtZ.step uA rfl [] [] [] [3, 11, 12, 13] (by kernel_rfl) (fun k F A => ∃ (i : Nat) (mm : MB), F = frFs (fevs l) i ∧ A = hFs (enB mm) mm.length ∧ i + k = l.length ∧ (∀ x, aget mm x = if x ∈ bI l i then some true else none) ∧ fsF (bI l i) (l.drop i) = fsF [] l) ?_ (k := l.length) ⟨0, [], rfl, rfl, by omega, by simp [aget, bI], by simp [bI]⟩
 rintro k F A ⟨i, mm, rfl, rfl, hk, hm, hx⟩
 refine (xB K _ _ i _ _).mpr ?_
 rw [hlen]
 refine Sp.intro (fun c => ?_) (fun c => ?_)
 · have hi : i < l.length := by have := odt c; omega
   have hw := i64s i (by omega)
   obtain ⟨hp1, hp2⟩ := hP _ (List.getElem_mem hi)
   rw [lQ hi] at hx
   simp only [Int.toNat_natCast, py hi, pz hi, pA hi, px hi, gv hi, hw, mgB_e, msB_e, mnB_e, gN, i5]
   refine ⟨by omega, by first | trivial | rfl, hp1, Sp.intro (fun c2 => ?_) (fun c2 => ⟨lookB mm _, Sp.intro (fun c3 => ?_) (fun c3 => ⟨updB mm _, ⟨_, _, rfl, rfl, hp2⟩, Sp.intro (fun c4 => ?_) (fun c4 => ⟨.dat (bp l), uH _, k - 1, by omega, i + 1, _, by rw [← hlen]; rfl, by first | trivial | rfl, by omega, fun x => ?_, ?_⟩)⟩)⟩)⟩
   · have e : az l[i].1 = false := by simpa using c2
     rw [e] at hx
     have e2 : (8 : Int) = fsF [] l := hx
     rw [e2]; exact hK _
   · have e : az l[i].1 = true := by simpa using c2
     rw [hm] at c3
     have e3 : l[i].1.data.toList ∈ bI l i := by
      by_cases h : l[i].1.data.toList ∈ bI l i
      · exact h
      · rw [if_neg h] at c3; cases c3
     rw [e, decide_eq_true e3] at hx
     have e2 : (5 : Int) = fsF [] l := hx
     rw [e2]; exact hK _
   · have e : az l[i].1 = true := by simpa using c2
     rw [hm] at c3
     have e3 : ¬ l[i].1.data.toList ∈ bI l i := fun h => by rw [if_pos h] at c3; cases c3
     rw [e, decide_eq_false e3, c4] at hx
     have e2 : fdF l[i].2.1 l[i].2.2.1 l[i].2.2.2 = fsF [] l := hx
     rw [e2]; exact hK _
   · rw [mi, gT hi, hm x]
     by_cases h : l[i].1.data.toList = x
     · subst h; simp
     · rw [if_neg h]
       have : (x ∈ bI l i ++ [l[i].1.data.toList]) ↔ x ∈ bI l i := by rw [List.mem_append, List.mem_singleton]; exact ⟨fun q => q.elim id (fun q => absurd q.symm h), .inl⟩
       simp only [this]
   · have e : az l[i].1 = true := by simpa using c2
     rw [hm] at c3
     have e3 : ¬ l[i].1.data.toList ∈ bI l i := fun h => by rw [if_pos h] at c3; cases c3
     rw [e, decide_eq_false e3, c4] at hx
     exact hx
 · have hn : l.drop i = [] := List.drop_eq_nil_of_le (by have := odf c; omega)
   rw [hn, pi] at hx
   rw [hx]; exact hK _
theorem yD (l : List FD) (hP : FdP l) : bx env f8 [dat 4 (fevs l)] ⟨.leaf, 0⟩ (.int .i64 (fsE l)) := by
 have hlen := dY l
 refine av uA (d := 1) ((jFs_nf _ _).mpr ?_)
 rw [hlen]
 refine Sp.intro (fun c => ?_) (fun c => ⟨.dat (bp l), .agg HF.nil, ?_⟩)
 · have e : fsE l = 3 := by unfold fsE; rw [c]; rfl
   rw [e]; exact .same (HFi _ _)
 · have e : fsE l = fsF [] l := by unfold fsE; rw [c]; rfl
   rw [e]
   have h := Ad l (by have := odf c; omega) hP (K := fun v A => Frz A v (.int .i64 (fsF [] l))) (fun A => .same (HFi _ _))
   unfold frFs at h
   rw [hlen] at h
   exact h
theorem sN {K : KV} {again0 : KF} (l : List FD) (hl : l.length ≤ 20) (i : Nat) (hi : i < l.length) (hp : ∀ s ∈ l[i].2.2.1, s.size < 9223372036854775808)
 (hK5 : l[i].1.data.toList ∈ bI l i → ∀ A, K (.int .i64 5) A) (hKf : ¬ l[i].1.data.toList ∈ bI l i → (!decide (fdF l[i].2.1 l[i].2.2.1 l[i].2.2.2 = 0)) = true → ∀ A, K (.int .i64 (fdF l[i].2.1 l[i].2.2.1 l[i].2.2.2)) A)
 (h : ¬ l[i].1.data.toList ∈ bI l i → (!decide (fdF l[i].2.1 l[i].2.2.1 l[i].2.2.2 = 0)) = false → again0 (frGs (fevs l) (i + 1)) ⟨.leaf, 0⟩) :
 LAtZ XGs 1 (Func.ntmps f9) ⟨.leaf, 0⟩ cIGs [1, 1, 0, 0, 1, 1, 0, 1, 0] (kIGs K again0) (se (fevs l) i (fevs (l.take i)) 0) (hF0 l[i].1 l[i].2.1 (sv l[i].2.2.1) (rv l[i].2.2.2)) := by
 have hlen := dY (l.take i)
 have htl : (l.take i).length = i := by rw [List.length_take]; omega
 have hd : ∀ L : List FD, (L.map fun f => f.1.data.toList) = bI L L.length := fun L => by unfold bI; rw [List.take_length]
 refine LAtZ.step p7 rfl [] [] [42] [0, 4, 11, 12, 13, 24, 25, 26] (by kernel_rfl) (fun k F A => ∃ j : Nat, F = se (fevs l) i (fevs (l.take i)) j ∧ A = hF0 l[i].1 l[i].2.1 (sv l[i].2.2.1) (rv l[i].2.2.2) ∧ j + k = i ∧ (l[i].1.data.toList ∈ bI l i ↔ l[i].1.data.toList ∈ ((l.take i).drop j).map fun f => f.1.data.toList)) ?_ (k := i) ⟨0, rfl, rfl, by omega, by rw [List.drop_zero]; exact Iff.rfl⟩
 rintro k F A ⟨j, rfl, rfl, hk, hx⟩
 refine (xz K again0 _ _ i _ _ _ _ _ j).mpr ?_
 rw [hlen]
 refine Sp.intro (fun c => ?_) (fun c => ?_)
 · have hj : j < (l.take i).length := by have := odt c; omega
   have hw := i64s j (by omega)
   rw [List.drop_eq_getElem_cons hj, List.map_cons, List.mem_cons] at hx
   simp only [Int.toNat_natCast, py hj, pz hj, pA hj, px hj, gv hj, hw]
   refine ⟨by omega, by first | trivial | rfl, Sp.intro (fun c2 => ?_) (fun c2 => ⟨.dat (bp l), .dat (bp l), .dat (bp _), cG _ _ _ _, k - 1, by omega, j + 1, by rw [← hlen]; rfl, by first | trivial | rfl, by omega, ?_⟩)⟩
   · exact hK5 (hx.2 (.inl ((bD _ _).1 c2).symm)) _
   · have hne : ¬ l[i].1.data.toList = (l.take i)[j].1.data.toList := fun e => by rw [(bD _ _).2 e.symm] at c2; cases c2
     exact hx.trans ⟨fun q => q.resolve_left hne, .inr⟩
 · have hn : (l.take i).drop j = [] := List.drop_eq_nil_of_le (by have := odf c; omega)
   have hw := i64s i (by omega)
   rw [hn] at hx
   have hns : ¬ l[i].1.data.toList ∈ bI l i := fun q => by have := hx.1 q; simp at this
   simp only [hw, gN, i5]
   exact ⟨⟨_, _, rfl, rfl, hp⟩, Sp.intro (fun c2 => hKf hns c2 _) (fun c2 => ⟨.dat (bp l), .dat (bp l), h hns c2⟩)⟩
theorem z6 {K : KV} (l : List FD) (hl : l.length ≤ 20) (hP : FdP l) (hK : ∀ A, K (.int .i64 (fsF [] l)) A) :
 LAtZ XGs 1 (Func.ntmps f9) ⟨.leaf, 0⟩ (ac f9) [1, 1, 0, 1, 0] (finK XGs.E (f9.results).toList K) (frGs (fevs l) 0) ⟨.leaf, 0⟩ := by
 have hlen := dY l
 refine LAtZ.step p7 rfl [] [] [42] [0, 11, 12, 13] (by kernel_rfl) (fun k F A => ∃ (i : Nat), F = frGs (fevs l) i ∧ A = ⟨.leaf, 0⟩ ∧ i + k = l.length ∧ fsF (bI l i) (l.drop i) = fsF [] l) ?_ (k := l.length) ⟨0, rfl, rfl, by omega, by simp [bI]⟩
 rintro k F A ⟨i, rfl, rfl, hk, hx⟩
 refine (xA K _ _ i).mpr ?_
 rw [hlen]
 refine Sp.intro (fun c => ?_) (fun c => ?_)
 · have hi : i < l.length := by have := odt c; omega
   obtain ⟨hp1, hp2⟩ := hP _ (List.getElem_mem hi)
   rw [lQ hi] at hx
   simp only [Int.toNat_natCast, py hi, pz hi, pA hi, px hi, gv hi, pw]
   refine ⟨by omega, by first | trivial | rfl, hp1, Sp.intro (fun c2 => ?_) (fun c2 => ⟨by omega, .dat (bp l), .dat (bp l), .dat (bp _), cG _ _ _ _, ?_⟩)⟩
   · have e : az l[i].1 = false := by simpa using c2
     rw [e] at hx
     have e2 : (8 : Int) = fsF [] l := hx
     rw [e2]; exact hK _
   · have e : az l[i].1 = true := by simpa using c2
     rw [e] at hx
     have h2 : ∀ {again0 : KF}, (¬ l[i].1.data.toList ∈ bI l i → (!decide (fdF l[i].2.1 l[i].2.2.1 l[i].2.2.2 = 0)) = false → again0 (frGs (fevs l) (i + 1)) ⟨.leaf, 0⟩) → _ := fun {again0} hh => sN (K := K) (again0 := again0) l hl i hi hp2 (fun q A => by
      rw [decide_eq_true q] at hx
      have e2 : (5 : Int) = fsF [] l := hx
      rw [e2]; exact hK _) (fun q q2 A => by
      rw [decide_eq_false q, q2] at hx
      have e2 : fdF l[i].2.1 l[i].2.2.1 l[i].2.2.2 = fsF [] l := hx
      rw [e2]; exact hK _) hh
     unfold se at h2
     rw [hlen] at h2
     exact h2 (fun q q2 => ⟨k - 1, by omega, i + 1, by unfold frGs; rw [hlen], rfl, by omega, by
      rw [decide_eq_false q, q2] at hx
      exact hx⟩)
 · have hn : l.drop i = [] := List.drop_eq_nil_of_le (by have := odf c; omega)
   rw [hn, pi] at hx
   rw [hx]; exact hK _
theorem yu (l : List FD) (hP : FdP l) : bx env f9 [dat 4 (fevs l)] ⟨.leaf, 0⟩ (.int .i64 (fsE l)) := by
 have hlen := dY l
 refine av p7 (d := 1) ((jGs_nf _ _).mpr ?_)
 rw [hlen]
 refine Sp.intro (fun c => ?_) (fun c => ⟨.dat (bp l), .dat (bp l), ?_⟩)
 · have e : fsE l = 3 := by unfold fsE; rw [c]; rfl
   rw [e]; exact .same (HFi _ _)
 · have e : fsE l = fsF [] l := by unfold fsE; rw [c]; rfl
   rw [e]
   have h := z6 l (by have := odf c; omega) hP (K := fun v A => Frz A v (.int .i64 (fsF [] l))) (fun A => .same (HFi _ _))
   unfold frGs at h
   rw [hlen] at h
   exact h
def unF (l : List Value) : List FD := l.map fun v => match v with | .agg ⟨[.string n, .int _ m, .func _ ⟨a⟩ _, .func _ ⟨b⟩ _]⟩ => (n, m, unS a, unR b) | _ => (ByteArray.empty, 0, [], [])
theorem s8 (l : List FD) : unF (fevs l) = l := by
 unfold unF fevs
 rw [List.map_map]
 refine (List.map_congr_left fun x _ => ?_).trans (List.map_id _)
 show (x.1, x.2.1, unS (sv x.2.2.1), unR (rv x.2.2.2)) = x
 rw [gN, i5]
def fsX : List Value → Option Value
 | [.func (.yield 4) ⟨l⟩ ⟨[]⟩] => some (.int .i64 (fsE (unF l)))
 | _ => none
def r9 : List Value → Option Prop
 | [.func (.yield 4) ⟨l⟩ ⟨[]⟩] => some (∃ L, l = fevs L ∧ FdP L)
 | _ => none
theorem fs_tab : ∀ args A p v A', ai r9 fsX args A = some (p, v, A') → PH p → ap env 8 args A v A' := aj env_ok bw (fn := f8) rfl fun args v h hp => by
 unfold fsX at h
 split at h
 · simp only [osI] at h
   subst h
   obtain ⟨L, rfl, hP⟩ := hp
   rw [s8]
   exact ⟨HF.cons (.dat (bp L)) HF.nil, yD L hP⟩
 · cases h
theorem gs_tab : ∀ args A p v A', ai r9 fsX args A = some (p, v, A') → PH p → ap env 9 args A v A' := aj env_ok bw (fn := f9) rfl fun args v h hp => by
 unfold fsX at h
 split at h
 · simp only [osI] at h
   subst h
   obtain ⟨L, rfl, hP⟩ := hp
   rw [s8]
   exact ⟨HF.cons (.dat (bp L)) HF.nil, yu L hP⟩
 · cases h
def tabLC (n : Nat) : Tab := [(6, ai (cz (lsP n)) (vCh n)), (7, ai (cz (lsP n)) (vCh n)), (8, ai r9 fsX), (9, ai r9 fsX), (10, ai (fun _ => none) uM)]
theorem qG (m : Int) (n : Nat) : TabOk (envM m) (tabLC n) := .cons (ch_tab m n) (.cons (rc_tab m n) (.cons (toM (toX fs_tab)) (.cons (toM (toX gs_tab)) (.cons (toM (toX (dK nw))) .nil))))
def XLC (m : Int) (n : Nat) : SX := ⟨envM m, tabLC n, noEl, fun _ => .unroll 0⟩
theorem XLC_ok (m : Int) (n : Nat) : (XLC m n).Ok := ⟨aI m, rfl, aJ m, qG m n⟩
def jLC (m : Int) (n : Nat) (Q : Value → Prop) (QA : KV) (l f : List Value) : Prop := sxFn (XLC m n) 1 f3 [dat 19 l, dat 4 f] (ar Q QA)
end
end Go.T9

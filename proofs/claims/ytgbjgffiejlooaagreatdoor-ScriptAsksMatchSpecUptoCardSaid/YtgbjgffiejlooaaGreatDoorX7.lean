/- A part of the proof. -/
import Derived.Test.YtgbjgffiejlooaaGreatDoorX6
import Derived.KernelRfl
set_option linter.unusedVariables false
set_option linter.unusedSimpArgs false
set_option maxRecDepth 1000000
set_option maxHeartbeats 400000
namespace Go.T9
open Go Go.AM Go.MK Go.Proofs.Tryz
noncomputable section
theorem jPa_nf (K : KV) (s : SB) : jPa K s = (Sp (eqL s.data.toList (ByteArray.mk #[]).data.toList) (K (Vt [Value.slice none 0 0, Vi 0]) (AH.mk Lf 0)) (((0 : Int) ≤ (0 : Int) ∧ 0 < (s.size : Int)) ∧ Sp (!decide (ac s (0 : Int) = (47 : Int))) (K (Vt [Value.slice none 0 0, Vi 6]) (AH.mk Lf 0)) (HF (Va []) ∧ LAtZ XPa 1 f175.ntmps (AH.mk Lf 0) (ae f175) [1, 1, 1, 1, 1, 0, 1, 0] (finK (SX.E XPa) f175.results.toList K) (Ns (No Lf (Sg (Value.slice none 0 0))) (Vs s) (No (Sg (Value.slice (some ⟨0, 0, none⟩) 0 18446744073709551620)) (Sg (Vi 1)))) (AH.mk (Sg (AObj.gro [] [] 9)) 1)))) := by kernel_rfl
theorem xV (K : KV) (again : KF) (s : SB) (i n : Nat) (els : List Value) : jPaE K again s i n els = (Sp (decide ((i : Int) < (s.size : Int))) ((0 ≤ (i : Int) ∧ (i : Int) < (s.size : Int)) ∧ Sp (decide (ac s (i : Int) = 47)) ((List.all [Vs (ByteArray.mk ⟨[]⟩)] cellv = true ∧ n + 0 = List.length els ∧ n + (1 : Nat) ≤ (70368744177664 : Nat) ∧ (n + 1) * (16 : Nat) ≤ (140737488355328 : Nat)) ∧ HF (Va (els ++ [Vs (ByteArray.mk ⟨[]⟩)])) ∧ again (Ns (No Lf (Sg (Value.slice none 0 0))) (Vs s) (No (Sg (Value.slice (some ⟨0, 0, none⟩) (n + 1) 18446744073709551620)) (Sg (Vi (Wi ((i : Int) + 1)))))) (AH.mk (Sg (AObj.gro (els ++ [Vs (ByteArray.mk ⟨[]⟩)]) [] 9)) 1)) (Sp (decide (ac s (i : Int) = 126)) (Sp (decide ((s.size : Int) ≤ Wi ((i : Int) + 1))) (K (Vt [Value.slice none 0 0, Vi 6]) (AH.mk (Sg (AObj.gro els [] 9)) 1)) ((0 ≤ Wi ((i : Int) + 1) ∧ Wi ((i : Int) + 1) < (s.size : Int)) ∧ Sp (!decide (ac s (Wi ((i : Int) + 1)) = 48)) ((0 ≤ Wi ((i : Int) + 1) ∧ Wi ((i : Int) + 1) < (s.size : Int)) ∧ Sp (!decide (ac s (Wi ((i : Int) + 1)) = 49)) (K (Vt [Value.slice none 0 0, Vi 6]) (AH.mk (Sg (AObj.gro els [] 9)) 1)) ((0 ≤ Wi ((i : Int) + 1) ∧ Wi ((i : Int) + 1) < (s.size : Int)) ∧ Sp (decide (ac s (Wi ((i : Int) + 1)) = 48)) (HF (Va els) ∧ HF (Va [Value.int .u8 126]) ∧ again (Ns (No Lf (Sg (Value.slice (some ⟨1, 0, none⟩) 1 18446744073709551616))) (Vs s) (No (Sg (Value.slice (some ⟨0, 0, none⟩) n 18446744073709551620)) (Sg (Vi (Wi (Wi ((i : Int) + 1) + 1)))))) (AH.mk (Ns (Sg (AObj.cells [Value.int .u8 126] 5)) (AObj.gro els [] 9) Lf) 2)) (HF (Va els) ∧ HF (Va [Value.int .u8 47]) ∧ again (Ns (No Lf (Sg (Value.slice (some ⟨1, 0, none⟩) 1 18446744073709551616))) (Vs s) (No (Sg (Value.slice (some ⟨0, 0, none⟩) n 18446744073709551620)) (Sg (Vi (Wi (Wi ((i : Int) + 1) + 1)))))) (AH.mk (Ns (Sg (AObj.cells [Value.int .u8 47] 5)) (AObj.gro els [] 9) Lf) 2)))) ((0 ≤ Wi ((i : Int) + 1) ∧ Wi ((i : Int) + 1) < (s.size : Int)) ∧ Sp (decide (ac s (Wi ((i : Int) + 1)) = 48)) (HF (Va els) ∧ HF (Va [Value.int .u8 126]) ∧ again (Ns (No Lf (Sg (Value.slice (some ⟨1, 0, none⟩) 1 18446744073709551616))) (Vs s) (No (Sg (Value.slice (some ⟨0, 0, none⟩) n 18446744073709551620)) (Sg (Vi (Wi (Wi ((i : Int) + 1) + 1)))))) (AH.mk (Ns (Sg (AObj.cells [Value.int .u8 126] 5)) (AObj.gro els [] 9) Lf) 2)) (HF (Va els) ∧ HF (Va [Value.int .u8 47]) ∧ again (Ns (No Lf (Sg (Value.slice (some ⟨1, 0, none⟩) 1 18446744073709551616))) (Vs s) (No (Sg (Value.slice (some ⟨0, 0, none⟩) n 18446744073709551620)) (Sg (Vi (Wi (Wi ((i : Int) + 1) + 1)))))) (AH.mk (Ns (Sg (AObj.cells [Value.int .u8 47] 5)) (AObj.gro els [] 9) Lf) 2))))) ((0 ≤ (i : Int) ∧ (i : Int) < (s.size : Int)) ∧ HF (Va els) ∧ HF (Va [Value.int .u8 (ac s i)]) ∧ again (Ns (No Lf (Sg (Value.slice (some ⟨1, 0, none⟩) 1 18446744073709551616))) (Vs s) (No (Sg (Value.slice (some ⟨0, 0, none⟩) n 18446744073709551620)) (Sg (Vi (Wi ((i : Int) + 1)))))) (AH.mk (Ns (Sg (AObj.cells [Value.int .u8 (ac s i)] 5)) (AObj.gro els [] 9) Lf) 2)))) ((List.all [Vs (ByteArray.mk ⟨[]⟩)] cellv = true ∧ n + 0 = List.length els ∧ n + (1 : Nat) ≤ (70368744177664 : Nat) ∧ (n + 1) * (16 : Nat) ≤ (140737488355328 : Nat)) ∧ (∃ (ks : List (List UInt8)), els ++ [Vs (ByteArray.mk ⟨[]⟩)] = List.map (fun (k : List UInt8) => Vs (aa k)) ks ∧ n + 1 = List.length ks ∧ (fun (x : List (List UInt8)) => True) ks) ∧ Sp (!decide (csE (unL (els ++ [Vs (ByteArray.mk ⟨[]⟩)])) = 0)) (K (Vt [Value.slice none 0 0, Vi (csE (unL (els ++ [Vs (ByteArray.mk ⟨[]⟩)])))]) (AH.mk (Ns (Sg (AObj.cells [Vs (ByteArray.mk ⟨[]⟩)] 9)) AObj.dead (Sg (AObj.gro els [Vs (ByteArray.mk ⟨[]⟩)] 9))) 3)) (K (Vt [Value.slice (some ⟨2, 0, none⟩) (n + 1) 18446744073709551620, Vi 0]) (AH.mk (Ns (Sg (AObj.cells [Vs (ByteArray.mk ⟨[]⟩)] 9)) AObj.dead (Sg (AObj.gro els [Vs (ByteArray.mk ⟨[]⟩)] 9))) 3)))) := by kernel_rfl
theorem xU (K : KV) (again : KF) (s : SB) (i n : Nat) (els bs : List Value) : jPaN K again s i n els bs = (Sp (decide ((i : Int) < (s.size : Int))) ((0 ≤ (i : Int) ∧ (i : Int) < (s.size : Int)) ∧ Sp (decide (ac s (i : Int) = 47)) (IsB bs 0 bs.length ∧ (List.all [Vs (aa (u8L bs 0 bs.length))] cellv = true ∧ n + 0 = List.length els ∧ n + (1 : Nat) ≤ (70368744177664 : Nat) ∧ (n + 1) * (16 : Nat) ≤ (140737488355328 : Nat)) ∧ HF (Va (els ++ [Vs (aa (u8L bs 0 bs.length))])) ∧ again (Ns (No Lf (Sg (Value.slice none 0 0))) (Vs s) (No (Sg (Value.slice (some ⟨0, 0, none⟩) (n + 1) 18446744073709551620)) (Sg (Vi (Wi ((i : Int) + 1)))))) (AH.mk (Sg (AObj.gro (els ++ [Vs (aa (u8L bs 0 bs.length))]) [] 9)) 1)) (Sp (decide (ac s (i : Int) = 126)) (Sp (decide ((s.size : Int) ≤ Wi ((i : Int) + 1))) (K (Vt [Value.slice none 0 0, Vi 6]) (AH.mk (Ns (Sg (AObj.cells bs 5)) (AObj.gro els [] 9) Lf) 2)) ((0 ≤ Wi ((i : Int) + 1) ∧ Wi ((i : Int) + 1) < (s.size : Int)) ∧ Sp (!decide (ac s (Wi ((i : Int) + 1)) = 48)) ((0 ≤ Wi ((i : Int) + 1) ∧ Wi ((i : Int) + 1) < (s.size : Int)) ∧ Sp (!decide (ac s (Wi ((i : Int) + 1)) = 49)) (K (Vt [Value.slice none 0 0, Vi 6]) (AH.mk (Ns (Sg (AObj.cells bs 5)) (AObj.gro els [] 9) Lf) 2)) ((0 ≤ Wi ((i : Int) + 1) ∧ Wi ((i : Int) + 1) < (s.size : Int)) ∧ Sp (decide (ac s (Wi ((i : Int) + 1)) = 48)) ((List.length bs + (1 : Nat) ≤ (70368744177664 : Nat) ∧ (List.length bs + 1) * (1 : Nat) ≤ (140737488355328 : Nat) ∧ List.length bs * 1 ≤ List.length bs) ∧ HF (Va els) ∧ HF (Va (List.take (List.length bs * 1) bs ++ [Value.int .u8 126])) ∧ again (Ns (No Lf (Sg (Value.slice (some ⟨1, 0, none⟩) (List.length bs + 1) 18446744073709551616))) (Vs s) (No (Sg (Value.slice (some ⟨0, 0, none⟩) n 18446744073709551620)) (Sg (Vi (Wi (Wi ((i : Int) + 1) + 1)))))) (AH.mk (Ns (Sg (AObj.cells (List.take (List.length bs * 1) bs ++ [Value.int .u8 126]) 5)) (AObj.gro els [] 9) Lf) 2)) ((List.length bs + (1 : Nat) ≤ (70368744177664 : Nat) ∧ (List.length bs + 1) * (1 : Nat) ≤ (140737488355328 : Nat) ∧ List.length bs * 1 ≤ List.length bs) ∧ HF (Va els) ∧ HF (Va (List.take (List.length bs * 1) bs ++ [Value.int .u8 47])) ∧ again (Ns (No Lf (Sg (Value.slice (some ⟨1, 0, none⟩) (List.length bs + 1) 18446744073709551616))) (Vs s) (No (Sg (Value.slice (some ⟨0, 0, none⟩) n 18446744073709551620)) (Sg (Vi (Wi (Wi ((i : Int) + 1) + 1)))))) (AH.mk (Ns (Sg (AObj.cells (List.take (List.length bs * 1) bs ++ [Value.int .u8 47]) 5)) (AObj.gro els [] 9) Lf) 2)))) ((0 ≤ Wi ((i : Int) + 1) ∧ Wi ((i : Int) + 1) < (s.size : Int)) ∧ Sp (decide (ac s (Wi ((i : Int) + 1)) = 48)) ((List.length bs + (1 : Nat) ≤ (70368744177664 : Nat) ∧ (List.length bs + 1) * (1 : Nat) ≤ (140737488355328 : Nat) ∧ List.length bs * 1 ≤ List.length bs) ∧ HF (Va els) ∧ HF (Va (List.take (List.length bs * 1) bs ++ [Value.int .u8 126])) ∧ again (Ns (No Lf (Sg (Value.slice (some ⟨1, 0, none⟩) (List.length bs + 1) 18446744073709551616))) (Vs s) (No (Sg (Value.slice (some ⟨0, 0, none⟩) n 18446744073709551620)) (Sg (Vi (Wi (Wi ((i : Int) + 1) + 1)))))) (AH.mk (Ns (Sg (AObj.cells (List.take (List.length bs * 1) bs ++ [Value.int .u8 126]) 5)) (AObj.gro els [] 9) Lf) 2)) ((List.length bs + (1 : Nat) ≤ (70368744177664 : Nat) ∧ (List.length bs + 1) * (1 : Nat) ≤ (140737488355328 : Nat) ∧ List.length bs * 1 ≤ List.length bs) ∧ HF (Va els) ∧ HF (Va (List.take (List.length bs * 1) bs ++ [Value.int .u8 47])) ∧ again (Ns (No Lf (Sg (Value.slice (some ⟨1, 0, none⟩) (List.length bs + 1) 18446744073709551616))) (Vs s) (No (Sg (Value.slice (some ⟨0, 0, none⟩) n 18446744073709551620)) (Sg (Vi (Wi (Wi ((i : Int) + 1) + 1)))))) (AH.mk (Ns (Sg (AObj.cells (List.take (List.length bs * 1) bs ++ [Value.int .u8 47]) 5)) (AObj.gro els [] 9) Lf) 2))))) ((0 ≤ (i : Int) ∧ (i : Int) < (s.size : Int)) ∧ (List.length bs + (1 : Nat) ≤ (70368744177664 : Nat) ∧ (List.length bs + 1) * (1 : Nat) ≤ (140737488355328 : Nat) ∧ List.length bs * 1 ≤ List.length bs) ∧ HF (Va els) ∧ HF (Va (List.take (List.length bs * 1) bs ++ [Value.int .u8 (ac s i)])) ∧ again (Ns (No Lf (Sg (Value.slice (some ⟨1, 0, none⟩) (List.length bs + 1) 18446744073709551616))) (Vs s) (No (Sg (Value.slice (some ⟨0, 0, none⟩) n 18446744073709551620)) (Sg (Vi (Wi ((i : Int) + 1)))))) (AH.mk (Ns (Sg (AObj.cells (List.take (List.length bs * 1) bs ++ [Value.int .u8 (ac s i)]) 5)) (AObj.gro els [] 9) Lf) 2)))) (IsB bs 0 bs.length ∧ (List.all [Vs (aa (u8L bs 0 bs.length))] cellv = true ∧ n + 0 = List.length els ∧ n + (1 : Nat) ≤ (70368744177664 : Nat) ∧ (n + 1) * (16 : Nat) ≤ (140737488355328 : Nat)) ∧ (∃ (ks : List (List UInt8)), els ++ [Vs (aa (u8L bs 0 bs.length))] = List.map (fun (k : List UInt8) => Vs (aa k)) ks ∧ n + 1 = List.length ks ∧ (fun (x : List (List UInt8)) => True) ks) ∧ Sp (!decide (csE (unL (els ++ [Vs (aa (u8L bs 0 bs.length))])) = 0)) (K (Vt [Value.slice none 0 0, Vi (csE (unL (els ++ [Vs (aa (u8L bs 0 bs.length))])))]) (AH.mk (Ns (Ns (Sg (AObj.gro els [Vs (aa (u8L bs 0 bs.length))] 9)) (AObj.cells bs 5) Lf) AObj.dead (Sg (AObj.cells [Vs (aa (u8L bs 0 bs.length))] 9))) 4)) (K (Vt [Value.slice (some ⟨3, 0, none⟩) (n + 1) 18446744073709551620, Vi 0]) (AH.mk (Ns (Ns (Sg (AObj.gro els [Vs (aa (u8L bs 0 bs.length))] 9)) (AObj.cells bs 5) Lf) AObj.dead (Sg (AObj.cells [Vs (aa (u8L bs 0 bs.length))] 9))) 4)))) := by kernel_rfl
def jnL (acc : List UInt8) : LB → LB
 | [] => [acc]
 | p :: ps => (acc ++ p) :: ps
def pcsL (l : List UInt8) : LB := (splF l).map decL
theorem n5 (l : List UInt8) : ∃ p ps, splF l = p :: ps := by
 cases h : splF l with
 | nil => exact absurd h (jM l)
 | cons p ps => exact ⟨p, ps, rfl⟩
theorem tJ (l : List UInt8) : jnL [] (pcsL l) = pcsL l := by
 obtain ⟨p, ps, h⟩ := n5 l
 unfold pcsL; rw [h]; rfl
theorem rv (acc l : List UInt8) : jnL acc (pcsL (47 :: l)) = acc :: pcsL l := by
 unfold pcsL; rw [splF, if_pos rfl]
 show (acc ++ []) :: _ = _
 rw [List.append_nil]
theorem wT (acc : List UInt8) {x : UInt8} (l : List UInt8) (h1 : x ≠ 47) (h2 : x ≠ 126) : jnL acc (pcsL (x :: l)) = jnL (acc ++ [x]) (pcsL l) := by
 obtain ⟨p, ps, h⟩ := n5 l
 unfold pcsL; rw [splF, if_neg h1, h]
 show (acc ++ decL (x :: p)) :: _ = (acc ++ [x] ++ decL p) :: _
 rw [lN h2, List.append_assoc]; rfl
theorem jn_til (acc : List UInt8) {y : UInt8} (l : List UInt8) (hy : y = 48 ∨ y = 49) : jnL acc (pcsL (126 :: y :: l)) = jnL (acc ++ [if y = 48 then 126 else 47]) (pcsL l) := by
 obtain ⟨p, ps, h⟩ := n5 l
 have h47 : y ≠ 47 := by rcases hy with rfl | rfl <;> decide
 have e : splF (126 :: y :: l) = (126 :: y :: p) :: ps := by rw [splF, if_neg (by decide), splF, if_neg h47, h]
 unfold pcsL; rw [e, h]
 show (acc ++ decL (126 :: y :: p)) :: _ = (acc ++ [if y = 48 then 126 else 47] ++ decL p) :: _
 rcases hy with rfl | rfl
 · rw [decL, if_pos ⟨rfl, rfl⟩, List.append_assoc]; rfl
 · rw [decL, if_neg (by decide), if_pos ⟨rfl, rfl⟩, List.append_assoc]; rfl
theorem fh {x : UInt8} (l : List UInt8) (h : x ≠ 126) : aC (x :: l) = aC l := by
 cases l with
 | nil => show (!decide (x = 126)) = true; rw [decide_eq_false h]; rfl
 | cons y l => rw [aC, decide_eq_false h]; simp
theorem uV {y : UInt8} (l : List UInt8) (hy : y = 48 ∨ y = 49) : aC (126 :: y :: l) = aC l := by
 have h : y ≠ 126 := by rcases hy with rfl | rfl <;> decide
 rw [aC, fh l h]
 rcases hy with rfl | rfl <;> simp
theorem ni {y : UInt8} (l : List UInt8) (h1 : y ≠ 48) (h2 : y ≠ 49) : aC (126 :: y :: l) = false := by
 rw [aC, decide_eq_false h1, decide_eq_false h2]; simp
def hPs (out : LB) (acc : List UInt8) (s : SB) (i : Nat) (F : T Value) (A : AH) : Prop :=
 (acc = [] ∧ F = zd s out.length i ∧ A = hN (stv out)) ∨ (acc ≠ [] ∧ F = jp s out.length (u8v acc).length i ∧ A = hPa (stv out) (u8v acc))
def PaI (s : SB) (k : Nat) (F : T Value) (A : AH) : Prop :=
 ∃ (i : Nat) (out : LB) (acc : List UInt8), i + k = s.size ∧ out.length ≤ i ∧ acc.length ≤ i ∧ aC s.data.toList = aC (s.data.toList.drop i) ∧ (aC s.data.toList = true → pthL s = out ++ jnL acc (pcsL (s.data.toList.drop i))) ∧ hPs out acc s i F A
theorem ma {s : SB} {i k : Nat} {out : LB} {acc : List UInt8} (hl : i < s.data.toList.length) (hk : i + k = s.size) (ho : out.length ≤ i) (hx : s.data.toList[i] = 47)
 (ht : aC s.data.toList = aC (s.data.toList.drop i)) (hp : aC s.data.toList = true → pthL s = out ++ jnL acc (pcsL (s.data.toList.drop i))) : ∃ k', k' < k ∧ PaI s k' (zd s (out ++ [acc]).length (i + 1)) (hN (stv (out ++ [acc]))) := by
 have hd := List.drop_eq_getElem_cons hl
 rw [hx] at hd
 have hls := aR s
 refine ⟨k - 1, by omega, i + 1, out ++ [acc], [], by omega, by simp; omega, by simp, ?_, fun h => ?_, .inl ⟨rfl, rfl, rfl⟩⟩
 · rw [ht, hd, fh _ (by decide)]
 · rw [hp h, hd, rv, tJ, List.append_assoc]; rfl
theorem pP {s : SB} {i k : Nat} {out : LB} {acc : List UInt8} (hl : i < s.data.toList.length) (hk : i + k = s.size) (ho : out.length ≤ i) (ha : acc.length ≤ i) (hx : s.data.toList[i] ≠ 47) (hx2 : s.data.toList[i] ≠ 126)
 (ht : aC s.data.toList = aC (s.data.toList.drop i)) (hp : aC s.data.toList = true → pthL s = out ++ jnL acc (pcsL (s.data.toList.drop i))) : ∃ k', k' < k ∧ PaI s k' (jp s out.length (u8v (acc ++ [s.data.toList[i]])).length (i + 1)) (hPa (stv out) (u8v (acc ++ [s.data.toList[i]]))) := by
 have hd := List.drop_eq_getElem_cons hl
 have hls := aR s
 refine ⟨k - 1, by omega, i + 1, out, acc ++ [s.data.toList[i]], by omega, by omega, by simp; omega, ?_, fun h => ?_, .inr ⟨by simp, rfl, rfl⟩⟩
 · rw [ht, hd, fh _ hx2]
 · rw [hp h, hd, wT _ _ hx hx2]
theorem lZ {s : SB} {i k : Nat} {out : LB} {acc : List UInt8} (hl : i + 1 < s.data.toList.length) (hk : i + k = s.size) (ho : out.length ≤ i) (ha : acc.length ≤ i) (hx : s.data.toList[i] = 126) (hy : s.data.toList[i + 1] = 48 ∨ s.data.toList[i + 1] = 49)
 (ht : aC s.data.toList = aC (s.data.toList.drop i)) (hp : aC s.data.toList = true → pthL s = out ++ jnL acc (pcsL (s.data.toList.drop i))) (d : UInt8) (hd0 : d = if s.data.toList[i + 1] = 48 then 126 else 47) : ∃ k', k' < k ∧ PaI s k' (jp s out.length (u8v (acc ++ [d])).length (i + 2)) (hPa (stv out) (u8v (acc ++ [d]))) := by
 have hd := List.drop_eq_getElem_cons (show i < s.data.toList.length by omega)
 have hd2 := List.drop_eq_getElem_cons hl
 rw [hx, hd2] at hd
 have hls := aR s
 refine ⟨k - 2, by omega, i + 2, out, acc ++ [d], by omega, by omega, by simp; omega, ?_, fun h => ?_, .inr ⟨by simp, rfl, rfl⟩⟩
 · rw [ht, hd, uV _ hy]
 · rw [hp h, hd, jn_til _ _ hy, hd0]
theorem mb (s : SB) (h0 : eqL s.data.toList [] = false) (h1 : decide (ac s 0 = 47) = true) (ht : aC s.data.toList = false) (A : AH) : Frz A (.tuple ⟨[.slice none 0 0, .int .i64 6]⟩) (pthR s) := by
 have e1 : pthV s = [] := by unfold pthV; rw [h0, h1, ht]; rfl
 have e2 : pthE s = 6 := by unfold pthE; rw [h0, h1, ht]; rfl
 unfold pthR; rw [e1, e2]
 exact .tuple (.cons (.nils 1) (.cons (.same (HFi _ _)) .nil))
theorem pO (s : SB) (h0 : eqL s.data.toList [] = false) (h1 : decide (ac s 0 = 47) = true) (ht : aC s.data.toList = true) (h : csE (pthL s) ≠ 0) (A : AH) : Frz A (.tuple ⟨[.slice none 0 0, .int .i64 (csE (pthL s))]⟩) (pthR s) := by
 have e1 : pthV s = [] := by unfold pthV; rw [h0, h1, ht, decide_eq_false h]; rfl
 have e2 : pthE s = csE (pthL s) := by unfold pthE; rw [h0, h1, ht]; rfl
 unfold pthR; rw [e1, e2]
 exact .tuple (.cons (.nils 1) (.cons (.same (HFi _ _)) .nil))
theorem pN (s : SB) (h0 : eqL s.data.toList [] = false) (h1 : decide (ac s 0 = 47) = true) (ht : aC s.data.toList = true) (h : csE (pthL s) = 0) {A : AH} {B : Nat} {els tl : List Value} {e : TypeId} (hg : A.t.get B = some (.gro els tl e)) (hE : els ++ tl = stv (pthL s)) {n : Nat} (hn : n = (pthL s).length) : Frz A (.tuple ⟨[.slice (some ⟨B, 0, none⟩) n (unk + 3 + 1), .int .i64 0]⟩) (pthR s) := by
 have e1 : pthV s = pthL s := by unfold pthV; rw [h0, h1, ht, decide_eq_true h]; rfl
 have e2 : pthE s = 0 := by unfold pthE; rw [h0, h1, ht]; exact h
 have e : pthR s = .tuple ⟨[dat 1 (stv ((pthL s).take n)), .int .i64 0]⟩ := by
  unfold pthR; rw [e1, e2, List.take_of_length_le (by omega)]
 rw [e]
 exact .tuple (.cons (tP hg hE (by omega)) (.cons (.same (HFi _ _)) .nil))
theorem nw (a : LB) (k : List UInt8) : stv a ++ [Value.string (aa k)] = stv (a ++ [k]) := by unfold stv; rw [List.map_append]; rfl
theorem sr (s : SB) (hs : s.size ≤ 1048576) (h0 : eqL s.data.toList [] = false) (h1 : decide (ac s 0 = 47) = true) {i k : Nat} {out : LB} (hk : i + k = s.size) (ho : out.length ≤ i)
 (ht : aC s.data.toList = aC (s.data.toList.drop i)) (hp : aC s.data.toList = true → pthL s = out ++ jnL [] (pcsL (s.data.toList.drop i))) :
 jPaE (fun v A => Frz A v (pthR s)) (fun F1 A1 => ∃ k', k' < k ∧ PaI s k' F1 A1) s i out.length (stv out) := by
 refine (xV _ _ s i _ _).mpr ?_
 have hls := aR s
 have hsl := bv out
 have e00 : (0 : Nat) ≤ i := Nat.zero_le _
 have happ : stv out ++ [Value.string (ByteArray.mk (Array.mk []))] = stv (out ++ [[]]) := nw out []
 refine Sp.intro (fun c => ?_) (fun c => ?_)
 · have hl : i < s.data.toList.length := by have := odt c; omega
   have hw := i64s i (by omega)
   have hw2 : IntKind.i64.wrap (((i + 1 : Nat) : Int) + 1) = ((i + 2 : Nat) : Int) := by rw [aB (by omega) (by omega)]; omega
   have e47 : decide ((s.data.toList[i].toNat : Int) = 47) = decide (s.data.toList[i] = 47) := u8i (n := 47) (by decide)
   have e126 : decide ((s.data.toList[i].toNat : Int) = 126) = decide (s.data.toList[i] = 126) := u8i (n := 126) (by decide)
   simp only [aK hl, hw, hw2, e47, e126]
   refine ⟨by omega, Sp.intro (fun c1 => ?_) (fun c1 => Sp.intro (fun c2 => Sp.intro (fun c3 => ?_) (fun c3 => ?_)) (fun c2 => ⟨by omega, .agg (eI _), .agg (aV [s.data.toList[i]]), ?_⟩))⟩
   · refine ⟨⟨rfl, by omega, by omega, by omega⟩, ?_⟩
     rw [happ]
     have := ma hl hk ho (odt c1) ht hp
     rw [List.length_append] at this
     exact ⟨.agg (eI _), this⟩
   · have hn : s.data.toList.drop (i + 1) = [] := List.drop_eq_nil_of_le (by have := odt c3; omega)
     refine mb s h0 h1 ?_ _
     rw [ht, List.drop_eq_getElem_cons hl, hn, odt c2]; rfl
   · have hl2 : i + 1 < s.data.toList.length := by have := odf c3; omega
     have e48 : decide ((s.data.toList[i + 1].toNat : Int) = 48) = decide (s.data.toList[i + 1] = 48) := u8i (n := 48) (by decide)
     have e49 : decide ((s.data.toList[i + 1].toNat : Int) = 49) = decide (s.data.toList[i + 1] = 49) := u8i (n := 49) (by decide)
     have hx := odt c2
     simp only [aK hl2, e48, e49]
     have g1 : (s.data.toList[i + 1] = 48 ∨ s.data.toList[i + 1] = 49) → s.data.toList[i + 1] = 48 → ∃ k', k' < k ∧ PaI s k' (jp s out.length 1 (i + 2)) (hPa (stv out) [.int .u8 126]) := fun hy h => lZ (acc := []) hl2 hk ho (Nat.zero_le _) hx hy ht hp 126 (by rw [if_pos h])
     have g2 : (s.data.toList[i + 1] = 48 ∨ s.data.toList[i + 1] = 49) → ¬ s.data.toList[i + 1] = 48 → ∃ k', k' < k ∧ PaI s k' (jp s out.length 1 (i + 2)) (hPa (stv out) [.int .u8 47]) := fun hy h => lZ (acc := []) hl2 hk ho (Nat.zero_le _) hx hy ht hp 47 (by rw [if_neg h])
     refine ⟨by omega, Sp.intro (fun c4 => ⟨by omega, Sp.intro (fun c5 => ?_) (fun c5 => ⟨by omega, Sp.intro (fun c6 => ⟨.agg (eI _), .agg (aV [126]), ?_⟩) (fun c6 => ⟨.agg (eI _), .agg (aV [47]), ?_⟩)⟩)⟩) (fun c4 => ⟨by omega, Sp.intro (fun c6 => ⟨.agg (eI _), .agg (aV [126]), ?_⟩) (fun c6 => ⟨.agg (eI _), .agg (aV [47]), ?_⟩)⟩)⟩
     · refine mb s h0 h1 ?_ _
       rw [ht, List.drop_eq_getElem_cons hl, List.drop_eq_getElem_cons hl2, hx]
       exact ni _ (by simpa only [Bool.not_eq_true', decide_eq_false_iff_not] using c4) (by simpa only [Bool.not_eq_true', decide_eq_false_iff_not] using c5)
     · have c5 : s.data.toList[i + 1] = 49 := by simpa only [Bool.not_eq_false', decide_eq_true_eq] using c5
       exact g1 (.inr c5) (odt c6)
     · have c5 : s.data.toList[i + 1] = 49 := by simpa only [Bool.not_eq_false', decide_eq_true_eq] using c5
       exact g2 (.inr c5) (odf c6)
     · exact g1 (.inl (odt c6)) (odt c6)
     · have c4 : s.data.toList[i + 1] = 48 := by simpa only [Bool.not_eq_false', decide_eq_true_eq] using c4
       exact absurd c4 (odf c6)
   · exact pP (acc := []) hl hk ho (Nat.zero_le _) (odf c1) (odf c2) ht hp
 · have hn : s.data.toList.drop i = [] := List.drop_eq_nil_of_le (by have := odf c; omega)
   rw [hn] at ht hp
   have ht : aC s.data.toList = true := ht
   have hp : pthL s = out ++ [[]] := hp ht
   have hul : unL (stv (out ++ [[]])) = out ++ [[]] := iQ _
   rw [happ, hul, ← hp]
   refine ⟨⟨rfl, by omega, by omega, by omega⟩, ⟨pthL s, rfl, by rw [hp]; simp, trivial⟩, Sp.intro (fun c1 => ?_) (fun c1 => ?_)⟩
   · exact pO s h0 h1 ht (by simpa using c1) _
   · exact pN s h0 h1 ht (by simpa using c1) (B := 2) rfl (by rw [hp]; exact happ) (by rw [hp]; simp)
theorem sq (s : SB) (hs : s.size ≤ 1048576) (h0 : eqL s.data.toList [] = false) (h1 : decide (ac s 0 = 47) = true) {i k : Nat} {out : LB} {acc : List UInt8} (hk : i + k = s.size) (ho : out.length ≤ i) (ha : acc.length ≤ i)
 (ht : aC s.data.toList = aC (s.data.toList.drop i)) (hp : aC s.data.toList = true → pthL s = out ++ jnL acc (pcsL (s.data.toList.drop i))) :
 jPaN (fun v A => Frz A v (pthR s)) (fun F1 A1 => ∃ k', k' < k ∧ PaI s k' F1 A1) s i out.length (stv out) (u8v acc) := by
 refine (xU _ _ s i _ _ _).mpr ?_
 have hls := aR s
 have hsl := bv out
 have hul := aY acc
 have hL := u8_L acc
 have happ : stv out ++ [Value.string (aa acc)] = stv (out ++ [acc]) := nw out acc
 have hB : ∀ d : UInt8, (u8v acc).take ((u8v acc).length * 1) ++ [Value.int .u8 (d.toNat : Int)] = u8v (acc ++ [d]) := fun d => eN acc d
 have hB2 : ∀ d : UInt8, (u8v acc).length + 1 = (u8v (acc ++ [d])).length := fun d => fC acc d
 have h126 : (u8v acc).take ((u8v acc).length * 1) ++ [Value.int .u8 126] = u8v (acc ++ [126]) := eN acc 126
 have h47 : (u8v acc).take ((u8v acc).length * 1) ++ [Value.int .u8 47] = u8v (acc ++ [47]) := eN acc 47
 have hcap : (u8v acc).length + 1 ≤ 70368744177664 ∧ ((u8v acc).length + 1) * 1 ≤ 140737488355328 ∧ (u8v acc).length * 1 ≤ (u8v acc).length := ⟨by omega, by omega, by omega⟩
 refine Sp.intro (fun c => ?_) (fun c => ?_)
 · have hl : i < s.data.toList.length := by have := odt c; omega
   have hw := i64s i (by omega)
   have hw2 : IntKind.i64.wrap (((i + 1 : Nat) : Int) + 1) = ((i + 2 : Nat) : Int) := by rw [aB (by omega) (by omega)]; omega
   have e47 : decide ((s.data.toList[i].toNat : Int) = 47) = decide (s.data.toList[i] = 47) := u8i (n := 47) (by decide)
   have e126 : decide ((s.data.toList[i].toNat : Int) = 126) = decide (s.data.toList[i] = 126) := u8i (n := 126) (by decide)
   simp only [aK hl, hw, hw2, e47, e126]
   refine ⟨by omega, Sp.intro (fun c1 => ?_) (fun c1 => Sp.intro (fun c2 => Sp.intro (fun c3 => ?_) (fun c3 => ?_)) (fun c2 => ?_))⟩
   · refine ⟨dL acc, ⟨rfl, by omega, by omega, by omega⟩, ?_⟩
     rw [hL, happ]
     have := ma hl hk ho (odt c1) ht hp
     rw [List.length_append] at this
     exact ⟨.agg (eI _), this⟩
   · have hn : s.data.toList.drop (i + 1) = [] := List.drop_eq_nil_of_le (by have := odt c3; omega)
     refine mb s h0 h1 ?_ _
     rw [ht, List.drop_eq_getElem_cons hl, hn, odt c2]; rfl
   · have hl2 : i + 1 < s.data.toList.length := by have := odf c3; omega
     have e48 : decide ((s.data.toList[i + 1].toNat : Int) = 48) = decide (s.data.toList[i + 1] = 48) := u8i (n := 48) (by decide)
     have e49 : decide ((s.data.toList[i + 1].toNat : Int) = 49) = decide (s.data.toList[i + 1] = 49) := u8i (n := 49) (by decide)
     have hx := odt c2
     simp only [aK hl2, e48, e49]
     have g1 : (s.data.toList[i + 1] = 48 ∨ s.data.toList[i + 1] = 49) → s.data.toList[i + 1] = 48 → ((u8v acc).length + 1 ≤ 70368744177664 ∧ ((u8v acc).length + 1) * 1 ≤ 140737488355328 ∧ (u8v acc).length * 1 ≤ (u8v acc).length) ∧ HF (.agg ⟨stv out⟩) ∧ HF (.agg ⟨(u8v acc).take ((u8v acc).length * 1) ++ [Value.int .u8 126]⟩) ∧ ∃ k', k' < k ∧ PaI s k' (jp s out.length ((u8v acc).length + 1) (i + 2)) (hPa (stv out) ((u8v acc).take ((u8v acc).length * 1) ++ [Value.int .u8 126])) := fun hy h => by
      rw [h126, hB2 126]
      exact ⟨by rw [← hB2 126]; exact hcap, .agg (eI _), .agg (aV _), lZ hl2 hk ho ha hx hy ht hp 126 (by rw [if_pos h])⟩
     have g2 : (s.data.toList[i + 1] = 48 ∨ s.data.toList[i + 1] = 49) → ¬ s.data.toList[i + 1] = 48 → ((u8v acc).length + 1 ≤ 70368744177664 ∧ ((u8v acc).length + 1) * 1 ≤ 140737488355328 ∧ (u8v acc).length * 1 ≤ (u8v acc).length) ∧ HF (.agg ⟨stv out⟩) ∧ HF (.agg ⟨(u8v acc).take ((u8v acc).length * 1) ++ [Value.int .u8 47]⟩) ∧ ∃ k', k' < k ∧ PaI s k' (jp s out.length ((u8v acc).length + 1) (i + 2)) (hPa (stv out) ((u8v acc).take ((u8v acc).length * 1) ++ [Value.int .u8 47])) := fun hy h => by
      rw [h47, hB2 47]
      exact ⟨by rw [← hB2 47]; exact hcap, .agg (eI _), .agg (aV _), lZ hl2 hk ho ha hx hy ht hp 47 (by rw [if_neg h])⟩
     refine ⟨by omega, Sp.intro (fun c4 => ⟨by omega, Sp.intro (fun c5 => ?_) (fun c5 => ⟨by omega, Sp.intro (fun c6 => ?_) (fun c6 => ?_)⟩)⟩) (fun c4 => ⟨by omega, Sp.intro (fun c6 => ?_) (fun c6 => ?_)⟩)⟩
     · refine mb s h0 h1 ?_ _
       rw [ht, List.drop_eq_getElem_cons hl, List.drop_eq_getElem_cons hl2, hx]
       exact ni _ (by simpa only [Bool.not_eq_true', decide_eq_false_iff_not] using c4) (by simpa only [Bool.not_eq_true', decide_eq_false_iff_not] using c5)
     · have c5 : s.data.toList[i + 1] = 49 := by simpa only [Bool.not_eq_false', decide_eq_true_eq] using c5
       exact g1 (.inr c5) (odt c6)
     · have c5 : s.data.toList[i + 1] = 49 := by simpa only [Bool.not_eq_false', decide_eq_true_eq] using c5
       exact g2 (.inr c5) (odf c6)
     · exact g1 (.inl (odt c6)) (odt c6)
     · have c4 : s.data.toList[i + 1] = 48 := by simpa only [Bool.not_eq_false', decide_eq_true_eq] using c4
       exact absurd c4 (odf c6)
   · rw [hB, hB2 s.data.toList[i]]
     exact ⟨by omega, by rw [← hB2]; exact hcap, .agg (eI _), .agg (aV _), pP hl hk ho ha (odf c1) (odf c2) ht hp⟩
 · have hn : s.data.toList.drop i = [] := List.drop_eq_nil_of_le (by have := odf c; omega)
   rw [hn] at ht hp
   have ht : aC s.data.toList = true := ht
   have hp : pthL s = out ++ [acc] := by
    have := hp ht
    rw [this]
    show out ++ [acc ++ []] = _
    rw [List.append_nil]
   have hu : unL (stv (out ++ [acc])) = out ++ [acc] := iQ _
   rw [hL, happ, hu, ← hp]
   refine ⟨dL acc, ⟨rfl, by omega, by omega, by omega⟩, ⟨pthL s, rfl, by rw [hp]; simp, trivial⟩, Sp.intro (fun c1 => ?_) (fun c1 => ?_)⟩
   · exact pO s h0 h1 ht (by simpa using c1) _
   · exact pN s h0 h1 ht (by simpa using c1) (B := 3) rfl (by rw [hp]; exact happ) (by rw [hp]; simp)
theorem wg (s : SB) (hs : s.size ≤ 1048576) : bt envX f175 [.string s] ⟨.leaf, 0⟩ (pthR s) := by
 refine al ul (d := 1) ((jPa_nf _ s).mpr ?_)
 have e0 : (ByteArray.mk #[]).data.toList = [] := rfl
 have hls := aR s
 have hbad : ∀ e : Int, pthV s = [] → pthE s = e → ∀ A, Frz A (.tuple ⟨[.slice none 0 0, .int .i64 e]⟩) (pthR s) := fun e h1 h2 A => by
  unfold pthR; rw [h1, h2]
  exact .tuple (.cons (.nils 1) (.cons (.same (HFi _ _)) .nil))
 rw [e0]
 refine Sp.intro (fun c => hbad 0 ?_ ?_ _) (fun c => ⟨?_, Sp.intro (fun c1 => hbad 6 ?_ ?_ _) (fun c1 => ⟨.agg HF.nil, ?_⟩)⟩)
 · unfold pthV; rw [c]; rfl
 · unfold pthE; rw [c]; rfl
 · rw [gj, aR] at c
   have := odf c; omega
 · unfold pthV; rw [c, c1]; rfl
 · unfold pthE; rw [c, c1]; rfl
 · have c1 : decide (ac s 0 = 47) = true := by simpa only [Bool.not_eq_false'] using c1
   have hne : 0 < s.data.toList.length := by
    rw [gj] at c
    have := odf c; omega
   have hb : ac s 0 = (s.data.toList[0].toNat : Int) := aK hne
   have hx : s.data.toList[0] = 47 := by
    rw [hb] at c1
    have := u8i (x := s.data.toList[0]) (n := 47) (by decide)
    rw [show decide ((s.data.toList[0].toNat : Int) = ((47 : Nat) : Int)) = true from c1] at this
    exact odt this.symm
   have hd : s.data.toList.drop 0 = s.data.toList[0] :: s.data.toList.drop 1 := List.drop_eq_getElem_cons hne
   rw [List.drop_zero] at hd
   refine LAtZ.step ul rfl [(.slot 4, 9, 1)] [] [5] [0, 4, 5, 6] (by kernel_rfl) (PaI s) ?_ (k := s.size - 1) ⟨1, [], [], by omega, by simp, by simp, ?_, fun h => ?_, .inl ⟨rfl, rfl, rfl⟩⟩
   · rintro k F A ⟨i, out, acc, hk, ho, ha, ht, hp, h | h⟩
     · obtain ⟨rfl, rfl, rfl⟩ := h
       exact sr s hs c c1 hk ho ht hp
     · obtain ⟨_, rfl, rfl⟩ := h
       exact sq s hs c c1 hk ho ha ht hp
   · conv => lhs; rw [hd, hx]
     exact fh _ (by decide)
   · rw [tJ]; rfl
def paPre : List Value → Option Prop
 | [.string s] => some (s.size ≤ 1048576)
 | _ => none
theorem pa_tab : ∀ args A p v A', aj paPre vpX args A = some (p, v, A') → PH p → an envX 175 args A v A' := ai ag ah (fn := f175) rfl fun args v h hp => by
 unfold vpX at h
 split at h
 · simp only [osI] at h
   subst h
   exact ⟨HF.cons (.scal rfl) HF.nil, wg _ hp⟩
 · cases h
def tkv (k : Int) (n a b : SB) : Value := .agg ⟨[.int .i64 k, .string n, .string a, .string b]⟩
def tabTk : Tab := [(21, aj bg nmX), (116, aj bg trX), (171, aj vpPre vpX), (23, aj bg nmX), (121, aj bg trX), (175, aj paPre vpX)]
theorem qc (m : Int) : TabOk (envM m) tabTk := .cons (toM (toX oc)) (.cons (toM tL) (.cons (vp_tab m) (.cons (toM (toX oO)) (.cons (toM tK) (.cons (toM pa_tab) .nil)))))
def XTk (m : Int) : SX := ⟨envM m, tabTk, noEl, fun _ => .unroll 0⟩
theorem ud (m : Int) : (XTk m).Ok := ⟨aE m, rfl, aF m, qc m⟩
def jTa (m : Int) (K : KV) (k : Int) (n a b : SB) : Prop := ay (XTk m) 2 f118 [tkv k n a b] ⟨.leaf, 0⟩ K
def jTq2 (m : Int) (K : KV) (k : Int) (n a b : SB) : Prop := ay (XTk m) 2 f123 [tkv k n a b] ⟨.leaf, 0⟩ K
set_option maxHeartbeats 1000000
theorem jTa_nf (m : Int) (K : KV) (k : Int) (n a b : SB) : jTa m K k n a b = (Sp (decide (k < 1)) (K (Vi 7) (AH.mk (Sg (AObj.cells [Vi k, Vs n, Vs a, Vs b] 179)) 1)) (Sp (decide (4 < k)) (K (Vi 7) (AH.mk (Sg (AObj.cells [Vi k, Vs n, Vs a, Vs b] 179)) 1)) (n.size < 9223372036854775808 ∧ Sp (!aJ n) (K (Vi 8) (AH.mk (Sg (AObj.cells [Vi k, Vs n, Vs a, Vs b] 179)) 1)) (Sp (decide (k = 1)) (Sp (!eqL a.data.toList (ByteArray.mk #[]).data.toList) (K (Vi 2) (AH.mk (Sg (AObj.cells [Vi k, Vs n, Vs a, Vs b] 179)) 1)) (Sp (decide (k = 2)) (a.size < 9223372036854775808 ∧ Sp (!tokS a) (K (Vi 8) (AH.mk (Sg (AObj.cells [Vi k, Vs n, Vs a, Vs b] 179)) 1)) (Sp (decide (k = 4)) (Sp (eqL a.data.toList (ByteArray.mk #[]).data.toList) (K (Vi 2) (AH.mk (Sg (AObj.cells [Vi k, Vs n, Vs a, Vs b] 179)) 1)) (Sp (eqL b.data.toList (ByteArray.mk #[]).data.toList) (K (Vi 2) (AH.mk (Sg (AObj.cells [Vi k, Vs n, Vs a, Vs b] 179)) 1)) (Sp (decide (k = 4)) (Sp (decide (1000000 < (a.size : Int))) (K (Vi 3) (AH.mk (Sg (AObj.cells [Vi k, Vs n, Vs a, Vs b] 179)) 1)) (Sp (decide (1000000 < (b.size : Int))) (K (Vi 3) (AH.mk (Sg (AObj.cells [Vi k, Vs n, Vs a, Vs b] 179)) 1)) (Sp (decide (k = 3)) (a.size < 4294967281 ∧ Sp (!decide (pthE a = 0)) (K (Vi (pthE a)) (AH.mk (Sg (AObj.cells [Vi k, Vs n, Vs a, Vs b] 179)) 1)) (Sp (!decide (k = 4)) (Sp (!eqL b.data.toList (ByteArray.mk #[]).data.toList) (K (Vi 2) (AH.mk (Sg (AObj.cells [Vi k, Vs n, Vs a, Vs b] 179)) 1)) (K (Vi 0) (AH.mk (Sg (AObj.cells [Vi k, Vs n, Vs a, Vs b] 179)) 1))) (K (Vi 0) (AH.mk (Sg (AObj.cells [Vi k, Vs n, Vs a, Vs b] 179)) 1)))) (Sp (!decide (k = 4)) (Sp (!eqL b.data.toList (ByteArray.mk #[]).data.toList) (K (Vi 2) (AH.mk (Sg (AObj.cells [Vi k, Vs n, Vs a, Vs b] 179)) 1)) (K (Vi 0) (AH.mk (Sg (AObj.cells [Vi k, Vs n, Vs a, Vs b] 179)) 1))) (K (Vi 0) (AH.mk (Sg (AObj.cells [Vi k, Vs n, Vs a, Vs b] 179)) 1)))))) (Sp (decide (k = 3)) (a.size < 4294967281 ∧ Sp (!decide (pthE a = 0)) (K (Vi (pthE a)) (AH.mk (Sg (AObj.cells [Vi k, Vs n, Vs a, Vs b] 179)) 1)) (Sp (!decide (k = 4)) (Sp (!eqL b.data.toList (ByteArray.mk #[]).data.toList) (K (Vi 2) (AH.mk (Sg (AObj.cells [Vi k, Vs n, Vs a, Vs b] 179)) 1)) (K (Vi 0) (AH.mk (Sg (AObj.cells [Vi k, Vs n, Vs a, Vs b] 179)) 1))) (K (Vi 0) (AH.mk (Sg (AObj.cells [Vi k, Vs n, Vs a, Vs b] 179)) 1)))) (Sp (!decide (k = 4)) (Sp (!eqL b.data.toList (ByteArray.mk #[]).data.toList) (K (Vi 2) (AH.mk (Sg (AObj.cells [Vi k, Vs n, Vs a, Vs b] 179)) 1)) (K (Vi 0) (AH.mk (Sg (AObj.cells [Vi k, Vs n, Vs a, Vs b] 179)) 1))) (K (Vi 0) (AH.mk (Sg (AObj.cells [Vi k, Vs n, Vs a, Vs b] 179)) 1))))))) (Sp (decide (k = 4)) (Sp (decide (1000000 < (a.size : Int))) (K (Vi 3) (AH.mk (Sg (AObj.cells [Vi k, Vs n, Vs a, Vs b] 179)) 1)) (Sp (decide (1000000 < (b.size : Int))) (K (Vi 3) (AH.mk (Sg (AObj.cells [Vi k, Vs n, Vs a, Vs b] 179)) 1)) (Sp (decide (k = 3)) (a.size < 4294967281 ∧ Sp (!decide (pthE a = 0)) (K (Vi (pthE a)) (AH.mk (Sg (AObj.cells [Vi k, Vs n, Vs a, Vs b] 179)) 1)) (Sp (!decide (k = 4)) (Sp (!eqL b.data.toList (ByteArray.mk #[]).data.toList) (K (Vi 2) (AH.mk (Sg (AObj.cells [Vi k, Vs n, Vs a, Vs b] 179)) 1)) (K (Vi 0) (AH.mk (Sg (AObj.cells [Vi k, Vs n, Vs a, Vs b] 179)) 1))) (K (Vi 0) (AH.mk (Sg (AObj.cells [Vi k, Vs n, Vs a, Vs b] 179)) 1)))) (Sp (!decide (k = 4)) (Sp (!eqL b.data.toList (ByteArray.mk #[]).data.toList) (K (Vi 2) (AH.mk (Sg (AObj.cells [Vi k, Vs n, Vs a, Vs b] 179)) 1)) (K (Vi 0) (AH.mk (Sg (AObj.cells [Vi k, Vs n, Vs a, Vs b] 179)) 1))) (K (Vi 0) (AH.mk (Sg (AObj.cells [Vi k, Vs n, Vs a, Vs b] 179)) 1)))))) (Sp (decide (k = 3)) (a.size < 4294967281 ∧ Sp (!decide (pthE a = 0)) (K (Vi (pthE a)) (AH.mk (Sg (AObj.cells [Vi k, Vs n, Vs a, Vs b] 179)) 1)) (Sp (!decide (k = 4)) (Sp (!eqL b.data.toList (ByteArray.mk #[]).data.toList) (K (Vi 2) (AH.mk (Sg (AObj.cells [Vi k, Vs n, Vs a, Vs b] 179)) 1)) (K (Vi 0) (AH.mk (Sg (AObj.cells [Vi k, Vs n, Vs a, Vs b] 179)) 1))) (K (Vi 0) (AH.mk (Sg (AObj.cells [Vi k, Vs n, Vs a, Vs b] 179)) 1)))) (Sp (!decide (k = 4)) (Sp (!eqL b.data.toList (ByteArray.mk #[]).data.toList) (K (Vi 2) (AH.mk (Sg (AObj.cells [Vi k, Vs n, Vs a, Vs b] 179)) 1)) (K (Vi 0) (AH.mk (Sg (AObj.cells [Vi k, Vs n, Vs a, Vs b] 179)) 1))) (K (Vi 0) (AH.mk (Sg (AObj.cells [Vi k, Vs n, Vs a, Vs b] 179)) 1))))))) (Sp (decide (k = 4)) (Sp (eqL a.data.toList (ByteArray.mk #[]).data.toList) (K (Vi 2) (AH.mk (Sg (AObj.cells [Vi k, Vs n, Vs a, Vs b] 179)) 1)) (Sp (eqL b.data.toList (ByteArray.mk #[]).data.toList) (K (Vi 2) (AH.mk (Sg (AObj.cells [Vi k, Vs n, Vs a, Vs b] 179)) 1)) (Sp (decide (k = 4)) (Sp (decide (1000000 < (a.size : Int))) (K (Vi 3) (AH.mk (Sg (AObj.cells [Vi k, Vs n, Vs a, Vs b] 179)) 1)) (Sp (decide (1000000 < (b.size : Int))) (K (Vi 3) (AH.mk (Sg (AObj.cells [Vi k, Vs n, Vs a, Vs b] 179)) 1)) (Sp (decide (k = 3)) (a.size < 4294967281 ∧ Sp (!decide (pthE a = 0)) (K (Vi (pthE a)) (AH.mk (Sg (AObj.cells [Vi k, Vs n, Vs a, Vs b] 179)) 1)) (Sp (!decide (k = 4)) (Sp (!eqL b.data.toList (ByteArray.mk #[]).data.toList) (K (Vi 2) (AH.mk (Sg (AObj.cells [Vi k, Vs n, Vs a, Vs b] 179)) 1)) (K (Vi 0) (AH.mk (Sg (AObj.cells [Vi k, Vs n, Vs a, Vs b] 179)) 1))) (K (Vi 0) (AH.mk (Sg (AObj.cells [Vi k, Vs n, Vs a, Vs b] 179)) 1)))) (Sp (!decide (k = 4)) (Sp (!eqL b.data.toList (ByteArray.mk #[]).data.toList) (K (Vi 2) (AH.mk (Sg (AObj.cells [Vi k, Vs n, Vs a, Vs b] 179)) 1)) (K (Vi 0) (AH.mk (Sg (AObj.cells [Vi k, Vs n, Vs a, Vs b] 179)) 1))) (K (Vi 0) (AH.mk (Sg (AObj.cells [Vi k, Vs n, Vs a, Vs b] 179)) 1)))))) (Sp (decide (k = 3)) (a.size < 4294967281 ∧ Sp (!decide (pthE a = 0)) (K (Vi (pthE a)) (AH.mk (Sg (AObj.cells [Vi k, Vs n, Vs a, Vs b] 179)) 1)) (Sp (!decide (k = 4)) (Sp (!eqL b.data.toList (ByteArray.mk #[]).data.toList) (K (Vi 2) (AH.mk (Sg (AObj.cells [Vi k, Vs n, Vs a, Vs b] 179)) 1)) (K (Vi 0) (AH.mk (Sg (AObj.cells [Vi k, Vs n, Vs a, Vs b] 179)) 1))) (K (Vi 0) (AH.mk (Sg (AObj.cells [Vi k, Vs n, Vs a, Vs b] 179)) 1)))) (Sp (!decide (k = 4)) (Sp (!eqL b.data.toList (ByteArray.mk #[]).data.toList) (K (Vi 2) (AH.mk (Sg (AObj.cells [Vi k, Vs n, Vs a, Vs b] 179)) 1)) (K (Vi 0) (AH.mk (Sg (AObj.cells [Vi k, Vs n, Vs a, Vs b] 179)) 1))) (K (Vi 0) (AH.mk (Sg (AObj.cells [Vi k, Vs n, Vs a, Vs b] 179)) 1))))))) (Sp (decide (k = 4)) (Sp (decide (1000000 < (a.size : Int))) (K (Vi 3) (AH.mk (Sg (AObj.cells [Vi k, Vs n, Vs a, Vs b] 179)) 1)) (Sp (decide (1000000 < (b.size : Int))) (K (Vi 3) (AH.mk (Sg (AObj.cells [Vi k, Vs n, Vs a, Vs b] 179)) 1)) (Sp (decide (k = 3)) (a.size < 4294967281 ∧ Sp (!decide (pthE a = 0)) (K (Vi (pthE a)) (AH.mk (Sg (AObj.cells [Vi k, Vs n, Vs a, Vs b] 179)) 1)) (Sp (!decide (k = 4)) (Sp (!eqL b.data.toList (ByteArray.mk #[]).data.toList) (K (Vi 2) (AH.mk (Sg (AObj.cells [Vi k, Vs n, Vs a, Vs b] 179)) 1)) (K (Vi 0) (AH.mk (Sg (AObj.cells [Vi k, Vs n, Vs a, Vs b] 179)) 1))) (K (Vi 0) (AH.mk (Sg (AObj.cells [Vi k, Vs n, Vs a, Vs b] 179)) 1)))) (Sp (!decide (k = 4)) (Sp (!eqL b.data.toList (ByteArray.mk #[]).data.toList) (K (Vi 2) (AH.mk (Sg (AObj.cells [Vi k, Vs n, Vs a, Vs b] 179)) 1)) (K (Vi 0) (AH.mk (Sg (AObj.cells [Vi k, Vs n, Vs a, Vs b] 179)) 1))) (K (Vi 0) (AH.mk (Sg (AObj.cells [Vi k, Vs n, Vs a, Vs b] 179)) 1)))))) (Sp (decide (k = 3)) (a.size < 4294967281 ∧ Sp (!decide (pthE a = 0)) (K (Vi (pthE a)) (AH.mk (Sg (AObj.cells [Vi k, Vs n, Vs a, Vs b] 179)) 1)) (Sp (!decide (k = 4)) (Sp (!eqL b.data.toList (ByteArray.mk #[]).data.toList) (K (Vi 2) (AH.mk (Sg (AObj.cells [Vi k, Vs n, Vs a, Vs b] 179)) 1)) (K (Vi 0) (AH.mk (Sg (AObj.cells [Vi k, Vs n, Vs a, Vs b] 179)) 1))) (K (Vi 0) (AH.mk (Sg (AObj.cells [Vi k, Vs n, Vs a, Vs b] 179)) 1)))) (Sp (!decide (k = 4)) (Sp (!eqL b.data.toList (ByteArray.mk #[]).data.toList) (K (Vi 2) (AH.mk (Sg (AObj.cells [Vi k, Vs n, Vs a, Vs b] 179)) 1)) (K (Vi 0) (AH.mk (Sg (AObj.cells [Vi k, Vs n, Vs a, Vs b] 179)) 1))) (K (Vi 0) (AH.mk (Sg (AObj.cells [Vi k, Vs n, Vs a, Vs b] 179)) 1)))))))) (Sp (decide (k = 2)) (a.size < 9223372036854775808 ∧ Sp (!tokS a) (K (Vi 8) (AH.mk (Sg (AObj.cells [Vi k, Vs n, Vs a, Vs b] 179)) 1)) (Sp (decide (k = 4)) (Sp (eqL a.data.toList (ByteArray.mk #[]).data.toList) (K (Vi 2) (AH.mk (Sg (AObj.cells [Vi k, Vs n, Vs a, Vs b] 179)) 1)) (Sp (eqL b.data.toList (ByteArray.mk #[]).data.toList) (K (Vi 2) (AH.mk (Sg (AObj.cells [Vi k, Vs n, Vs a, Vs b] 179)) 1)) (Sp (decide (k = 4)) (Sp (decide (1000000 < (a.size : Int))) (K (Vi 3) (AH.mk (Sg (AObj.cells [Vi k, Vs n, Vs a, Vs b] 179)) 1)) (Sp (decide (1000000 < (b.size : Int))) (K (Vi 3) (AH.mk (Sg (AObj.cells [Vi k, Vs n, Vs a, Vs b] 179)) 1)) (Sp (decide (k = 3)) (a.size < 4294967281 ∧ Sp (!decide (pthE a = 0)) (K (Vi (pthE a)) (AH.mk (Sg (AObj.cells [Vi k, Vs n, Vs a, Vs b] 179)) 1)) (Sp (!decide (k = 4)) (Sp (!eqL b.data.toList (ByteArray.mk #[]).data.toList) (K (Vi 2) (AH.mk (Sg (AObj.cells [Vi k, Vs n, Vs a, Vs b] 179)) 1)) (K (Vi 0) (AH.mk (Sg (AObj.cells [Vi k, Vs n, Vs a, Vs b] 179)) 1))) (K (Vi 0) (AH.mk (Sg (AObj.cells [Vi k, Vs n, Vs a, Vs b] 179)) 1)))) (Sp (!decide (k = 4)) (Sp (!eqL b.data.toList (ByteArray.mk #[]).data.toList) (K (Vi 2) (AH.mk (Sg (AObj.cells [Vi k, Vs n, Vs a, Vs b] 179)) 1)) (K (Vi 0) (AH.mk (Sg (AObj.cells [Vi k, Vs n, Vs a, Vs b] 179)) 1))) (K (Vi 0) (AH.mk (Sg (AObj.cells [Vi k, Vs n, Vs a, Vs b] 179)) 1)))))) (Sp (decide (k = 3)) (a.size < 4294967281 ∧ Sp (!decide (pthE a = 0)) (K (Vi (pthE a)) (AH.mk (Sg (AObj.cells [Vi k, Vs n, Vs a, Vs b] 179)) 1)) (Sp (!decide (k = 4)) (Sp (!eqL b.data.toList (ByteArray.mk #[]).data.toList) (K (Vi 2) (AH.mk (Sg (AObj.cells [Vi k, Vs n, Vs a, Vs b] 179)) 1)) (K (Vi 0) (AH.mk (Sg (AObj.cells [Vi k, Vs n, Vs a, Vs b] 179)) 1))) (K (Vi 0) (AH.mk (Sg (AObj.cells [Vi k, Vs n, Vs a, Vs b] 179)) 1)))) (Sp (!decide (k = 4)) (Sp (!eqL b.data.toList (ByteArray.mk #[]).data.toList) (K (Vi 2) (AH.mk (Sg (AObj.cells [Vi k, Vs n, Vs a, Vs b] 179)) 1)) (K (Vi 0) (AH.mk (Sg (AObj.cells [Vi k, Vs n, Vs a, Vs b] 179)) 1))) (K (Vi 0) (AH.mk (Sg (AObj.cells [Vi k, Vs n, Vs a, Vs b] 179)) 1))))))) (Sp (decide (k = 4)) (Sp (decide (1000000 < (a.size : Int))) (K (Vi 3) (AH.mk (Sg (AObj.cells [Vi k, Vs n, Vs a, Vs b] 179)) 1)) (Sp (decide (1000000 < (b.size : Int))) (K (Vi 3) (AH.mk (Sg (AObj.cells [Vi k, Vs n, Vs a, Vs b] 179)) 1)) (Sp (decide (k = 3)) (a.size < 4294967281 ∧ Sp (!decide (pthE a = 0)) (K (Vi (pthE a)) (AH.mk (Sg (AObj.cells [Vi k, Vs n, Vs a, Vs b] 179)) 1)) (Sp (!decide (k = 4)) (Sp (!eqL b.data.toList (ByteArray.mk #[]).data.toList) (K (Vi 2) (AH.mk (Sg (AObj.cells [Vi k, Vs n, Vs a, Vs b] 179)) 1)) (K (Vi 0) (AH.mk (Sg (AObj.cells [Vi k, Vs n, Vs a, Vs b] 179)) 1))) (K (Vi 0) (AH.mk (Sg (AObj.cells [Vi k, Vs n, Vs a, Vs b] 179)) 1)))) (Sp (!decide (k = 4)) (Sp (!eqL b.data.toList (ByteArray.mk #[]).data.toList) (K (Vi 2) (AH.mk (Sg (AObj.cells [Vi k, Vs n, Vs a, Vs b] 179)) 1)) (K (Vi 0) (AH.mk (Sg (AObj.cells [Vi k, Vs n, Vs a, Vs b] 179)) 1))) (K (Vi 0) (AH.mk (Sg (AObj.cells [Vi k, Vs n, Vs a, Vs b] 179)) 1)))))) (Sp (decide (k = 3)) (a.size < 4294967281 ∧ Sp (!decide (pthE a = 0)) (K (Vi (pthE a)) (AH.mk (Sg (AObj.cells [Vi k, Vs n, Vs a, Vs b] 179)) 1)) (Sp (!decide (k = 4)) (Sp (!eqL b.data.toList (ByteArray.mk #[]).data.toList) (K (Vi 2) (AH.mk (Sg (AObj.cells [Vi k, Vs n, Vs a, Vs b] 179)) 1)) (K (Vi 0) (AH.mk (Sg (AObj.cells [Vi k, Vs n, Vs a, Vs b] 179)) 1))) (K (Vi 0) (AH.mk (Sg (AObj.cells [Vi k, Vs n, Vs a, Vs b] 179)) 1)))) (Sp (!decide (k = 4)) (Sp (!eqL b.data.toList (ByteArray.mk #[]).data.toList) (K (Vi 2) (AH.mk (Sg (AObj.cells [Vi k, Vs n, Vs a, Vs b] 179)) 1)) (K (Vi 0) (AH.mk (Sg (AObj.cells [Vi k, Vs n, Vs a, Vs b] 179)) 1))) (K (Vi 0) (AH.mk (Sg (AObj.cells [Vi k, Vs n, Vs a, Vs b] 179)) 1))))))) (Sp (decide (k = 4)) (Sp (eqL a.data.toList (ByteArray.mk #[]).data.toList) (K (Vi 2) (AH.mk (Sg (AObj.cells [Vi k, Vs n, Vs a, Vs b] 179)) 1)) (Sp (eqL b.data.toList (ByteArray.mk #[]).data.toList) (K (Vi 2) (AH.mk (Sg (AObj.cells [Vi k, Vs n, Vs a, Vs b] 179)) 1)) (Sp (decide (k = 4)) (Sp (decide (1000000 < (a.size : Int))) (K (Vi 3) (AH.mk (Sg (AObj.cells [Vi k, Vs n, Vs a, Vs b] 179)) 1)) (Sp (decide (1000000 < (b.size : Int))) (K (Vi 3) (AH.mk (Sg (AObj.cells [Vi k, Vs n, Vs a, Vs b] 179)) 1)) (Sp (decide (k = 3)) (a.size < 4294967281 ∧ Sp (!decide (pthE a = 0)) (K (Vi (pthE a)) (AH.mk (Sg (AObj.cells [Vi k, Vs n, Vs a, Vs b] 179)) 1)) (Sp (!decide (k = 4)) (Sp (!eqL b.data.toList (ByteArray.mk #[]).data.toList) (K (Vi 2) (AH.mk (Sg (AObj.cells [Vi k, Vs n, Vs a, Vs b] 179)) 1)) (K (Vi 0) (AH.mk (Sg (AObj.cells [Vi k, Vs n, Vs a, Vs b] 179)) 1))) (K (Vi 0) (AH.mk (Sg (AObj.cells [Vi k, Vs n, Vs a, Vs b] 179)) 1)))) (Sp (!decide (k = 4)) (Sp (!eqL b.data.toList (ByteArray.mk #[]).data.toList) (K (Vi 2) (AH.mk (Sg (AObj.cells [Vi k, Vs n, Vs a, Vs b] 179)) 1)) (K (Vi 0) (AH.mk (Sg (AObj.cells [Vi k, Vs n, Vs a, Vs b] 179)) 1))) (K (Vi 0) (AH.mk (Sg (AObj.cells [Vi k, Vs n, Vs a, Vs b] 179)) 1)))))) (Sp (decide (k = 3)) (a.size < 4294967281 ∧ Sp (!decide (pthE a = 0)) (K (Vi (pthE a)) (AH.mk (Sg (AObj.cells [Vi k, Vs n, Vs a, Vs b] 179)) 1)) (Sp (!decide (k = 4)) (Sp (!eqL b.data.toList (ByteArray.mk #[]).data.toList) (K (Vi 2) (AH.mk (Sg (AObj.cells [Vi k, Vs n, Vs a, Vs b] 179)) 1)) (K (Vi 0) (AH.mk (Sg (AObj.cells [Vi k, Vs n, Vs a, Vs b] 179)) 1))) (K (Vi 0) (AH.mk (Sg (AObj.cells [Vi k, Vs n, Vs a, Vs b] 179)) 1)))) (Sp (!decide (k = 4)) (Sp (!eqL b.data.toList (ByteArray.mk #[]).data.toList) (K (Vi 2) (AH.mk (Sg (AObj.cells [Vi k, Vs n, Vs a, Vs b] 179)) 1)) (K (Vi 0) (AH.mk (Sg (AObj.cells [Vi k, Vs n, Vs a, Vs b] 179)) 1))) (K (Vi 0) (AH.mk (Sg (AObj.cells [Vi k, Vs n, Vs a, Vs b] 179)) 1))))))) (Sp (decide (k = 4)) (Sp (decide (1000000 < (a.size : Int))) (K (Vi 3) (AH.mk (Sg (AObj.cells [Vi k, Vs n, Vs a, Vs b] 179)) 1)) (Sp (decide (1000000 < (b.size : Int))) (K (Vi 3) (AH.mk (Sg (AObj.cells [Vi k, Vs n, Vs a, Vs b] 179)) 1)) (Sp (decide (k = 3)) (a.size < 4294967281 ∧ Sp (!decide (pthE a = 0)) (K (Vi (pthE a)) (AH.mk (Sg (AObj.cells [Vi k, Vs n, Vs a, Vs b] 179)) 1)) (Sp (!decide (k = 4)) (Sp (!eqL b.data.toList (ByteArray.mk #[]).data.toList) (K (Vi 2) (AH.mk (Sg (AObj.cells [Vi k, Vs n, Vs a, Vs b] 179)) 1)) (K (Vi 0) (AH.mk (Sg (AObj.cells [Vi k, Vs n, Vs a, Vs b] 179)) 1))) (K (Vi 0) (AH.mk (Sg (AObj.cells [Vi k, Vs n, Vs a, Vs b] 179)) 1)))) (Sp (!decide (k = 4)) (Sp (!eqL b.data.toList (ByteArray.mk #[]).data.toList) (K (Vi 2) (AH.mk (Sg (AObj.cells [Vi k, Vs n, Vs a, Vs b] 179)) 1)) (K (Vi 0) (AH.mk (Sg (AObj.cells [Vi k, Vs n, Vs a, Vs b] 179)) 1))) (K (Vi 0) (AH.mk (Sg (AObj.cells [Vi k, Vs n, Vs a, Vs b] 179)) 1)))))) (Sp (decide (k = 3)) (a.size < 4294967281 ∧ Sp (!decide (pthE a = 0)) (K (Vi (pthE a)) (AH.mk (Sg (AObj.cells [Vi k, Vs n, Vs a, Vs b] 179)) 1)) (Sp (!decide (k = 4)) (Sp (!eqL b.data.toList (ByteArray.mk #[]).data.toList) (K (Vi 2) (AH.mk (Sg (AObj.cells [Vi k, Vs n, Vs a, Vs b] 179)) 1)) (K (Vi 0) (AH.mk (Sg (AObj.cells [Vi k, Vs n, Vs a, Vs b] 179)) 1))) (K (Vi 0) (AH.mk (Sg (AObj.cells [Vi k, Vs n, Vs a, Vs b] 179)) 1)))) (Sp (!decide (k = 4)) (Sp (!eqL b.data.toList (ByteArray.mk #[]).data.toList) (K (Vi 2) (AH.mk (Sg (AObj.cells [Vi k, Vs n, Vs a, Vs b] 179)) 1)) (K (Vi 0) (AH.mk (Sg (AObj.cells [Vi k, Vs n, Vs a, Vs b] 179)) 1))) (K (Vi 0) (AH.mk (Sg (AObj.cells [Vi k, Vs n, Vs a, Vs b] 179)) 1))))))))))) := by kernel_rfl
theorem wY (m : Int) (K : KV) (k : Int) (n a b : SB) : jTq2 m K k n a b = (Sp (decide (k < 1)) (K (Vi 7) (AH.mk (Sg (AObj.cells [Vi k, Vs n, Vs a, Vs b] 179)) 1)) (Sp (decide (4 < k)) (K (Vi 7) (AH.mk (Sg (AObj.cells [Vi k, Vs n, Vs a, Vs b] 179)) 1)) (n.size < 9223372036854775808 ∧ Sp (!aJ n) (K (Vi 8) (AH.mk (Sg (AObj.cells [Vi k, Vs n, Vs a, Vs b] 179)) 1)) (Sp (decide (k = 1)) (Sp (!eqL a.data.toList (ByteArray.mk #[]).data.toList) (K (Vi 2) (AH.mk (Sg (AObj.cells [Vi k, Vs n, Vs a, Vs b] 179)) 1)) (Sp (!eqL b.data.toList (ByteArray.mk #[]).data.toList) (K (Vi 2) (AH.mk (Sg (AObj.cells [Vi k, Vs n, Vs a, Vs b] 179)) 1)) (K (Vi 0) (AH.mk (Sg (AObj.cells [Vi k, Vs n, Vs a, Vs b] 179)) 1)))) (Sp (decide (k = 2)) (a.size < 9223372036854775808 ∧ Sp (!tokS a) (K (Vi 8) (AH.mk (Sg (AObj.cells [Vi k, Vs n, Vs a, Vs b] 179)) 1)) (Sp (!eqL b.data.toList (ByteArray.mk #[]).data.toList) (K (Vi 2) (AH.mk (Sg (AObj.cells [Vi k, Vs n, Vs a, Vs b] 179)) 1)) (K (Vi 0) (AH.mk (Sg (AObj.cells [Vi k, Vs n, Vs a, Vs b] 179)) 1)))) (Sp (decide (k = 3)) (a.size ≤ 1048576 ∧ Sp (!decide (pthE a = 0)) (K (Vi (pthE a)) (AH.mk (Sg (AObj.cells [Vi k, Vs n, Vs a, Vs b] 179)) 1)) (Sp (!eqL b.data.toList (ByteArray.mk #[]).data.toList) (K (Vi 2) (AH.mk (Sg (AObj.cells [Vi k, Vs n, Vs a, Vs b] 179)) 1)) (K (Vi 0) (AH.mk (Sg (AObj.cells [Vi k, Vs n, Vs a, Vs b] 179)) 1)))) (Sp (decide (k = 4)) (Sp (eqL a.data.toList (ByteArray.mk #[]).data.toList) (K (Vi 2) (AH.mk (Sg (AObj.cells [Vi k, Vs n, Vs a, Vs b] 179)) 1)) (Sp (eqL b.data.toList (ByteArray.mk #[]).data.toList) (K (Vi 2) (AH.mk (Sg (AObj.cells [Vi k, Vs n, Vs a, Vs b] 179)) 1)) (Sp (decide (1000000 < (a.size : Int))) (K (Vi 3) (AH.mk (Sg (AObj.cells [Vi k, Vs n, Vs a, Vs b] 179)) 1)) (Sp (decide (1000000 < (b.size : Int))) (K (Vi 3) (AH.mk (Sg (AObj.cells [Vi k, Vs n, Vs a, Vs b] 179)) 1)) (K (Vi 0) (AH.mk (Sg (AObj.cells [Vi k, Vs n, Vs a, Vs b] 179)) 1)))))) (Sp (!eqL b.data.toList (ByteArray.mk #[]).data.toList) (K (Vi 2) (AH.mk (Sg (AObj.cells [Vi k, Vs n, Vs a, Vs b] 179)) 1)) (K (Vi 0) (AH.mk (Sg (AObj.cells [Vi k, Vs n, Vs a, Vs b] 179)) 1)))))))))) := by kernel_rfl
def tkE (k : Int) (n a b : SB) : Int :=
 bif decide (k < 1) then 7 else bif decide (4 < k) then 7 else bif !aJ n then 8 else
 bif decide (k = 1) then (bif !eqL a.data.toList [] then 2 else bif !eqL b.data.toList [] then 2 else 0) else
 bif decide (k = 2) then (bif !tokS a then 8 else bif !eqL b.data.toList [] then 2 else 0) else
 bif decide (k = 3) then (bif !decide (pthE a = 0) then pthE a else bif !eqL b.data.toList [] then 2 else 0) else
 (bif eqL a.data.toList [] then 2 else bif eqL b.data.toList [] then 2 else bif decide (1000000 < (a.size : Int)) then 3 else bif decide (1000000 < (b.size : Int)) then 3 else 0)
theorem d11 : decide ((1 : Int) = 1) = true := rfl
theorem d12 : decide ((1 : Int) = 2) = false := rfl
theorem d13 : decide ((1 : Int) = 3) = false := rfl
theorem d14 : decide ((1 : Int) = 4) = false := rfl
theorem d21 : decide ((2 : Int) = 1) = false := rfl
theorem d22 : decide ((2 : Int) = 2) = true := rfl
theorem d23 : decide ((2 : Int) = 3) = false := rfl
theorem d24 : decide ((2 : Int) = 4) = false := rfl
theorem d31 : decide ((3 : Int) = 1) = false := rfl
theorem d32 : decide ((3 : Int) = 2) = false := rfl
theorem d33 : decide ((3 : Int) = 3) = true := rfl
theorem d34 : decide ((3 : Int) = 4) = false := rfl
theorem d41 : decide ((4 : Int) = 1) = false := rfl
theorem d42 : decide ((4 : Int) = 2) = false := rfl
theorem d43 : decide ((4 : Int) = 3) = false := rfl
theorem d44 : decide ((4 : Int) = 4) = true := rfl
theorem lk11 : decide ((1 : Int) < 1) = false := rfl
theorem lk21 : decide ((2 : Int) < 1) = false := rfl
theorem lk31 : decide ((3 : Int) < 1) = false := rfl
theorem lk41 : decide ((4 : Int) < 1) = false := rfl
theorem g41 : decide ((4 : Int) < 1) = false := rfl
theorem g42 : decide ((4 : Int) < 2) = false := rfl
theorem g43 : decide ((4 : Int) < 3) = false := rfl
theorem g44 : decide ((4 : Int) < 4) = false := rfl
theorem vd (m k : Int) (n a b : SB) (hn : n.size ≤ 1048576) (ha : a.size ≤ 1048576) : bt (envM m) f118 [tkv k n a b] ⟨.leaf, 0⟩ (.int .i64 (tkE k n a b)) := by
 refine al (ud m) (d := 2) ((jTa_nf m _ k n a b).mpr ?_)
 have e0 : (ByteArray.mk #[]).data.toList = [] := rfl
 simp only [e0]
 by_cases h1 : k < 1
 · unfold tkE; rw [decide_eq_true h1]; exact .same (HFi _ _)
 by_cases h4 : 4 < k
 · unfold tkE; rw [decide_eq_false h1, decide_eq_true h4]; exact .same (HFi _ _)
 obtain rfl | rfl | rfl | rfl : k = 1 ∨ k = 2 ∨ k = 3 ∨ k = 4 := by omega
 · unfold tkE
   simp only [d11, d12, d13, d14, lk11, g41, SpTr, SpFa, Bool.not_true, Bool.not_false, cond_true, cond_false]
   refine ⟨by omega, ?_⟩
   cases aJ n
   case false => exact .same (HFi _ _)
   cases eqL a.data.toList []
   case false => exact .same (HFi _ _)
   cases eqL b.data.toList []
   case false => exact .same (HFi _ _)
   exact .same (HFi _ _)
 · unfold tkE
   simp only [d21, d22, d23, d24, lk21, g42, SpTr, SpFa, Bool.not_true, Bool.not_false, cond_true, cond_false]
   refine ⟨by omega, ?_⟩
   cases aJ n
   case false => exact .same (HFi _ _)
   refine ⟨by omega, ?_⟩
   cases tokS a
   case false => exact .same (HFi _ _)
   cases eqL b.data.toList []
   case false => exact .same (HFi _ _)
   exact .same (HFi _ _)
 · unfold tkE
   simp only [d31, d32, d33, d34, lk31, g43, SpTr, SpFa, Bool.not_true, Bool.not_false, cond_true, cond_false]
   refine ⟨by omega, ?_⟩
   cases aJ n
   case false => exact .same (HFi _ _)
   refine ⟨by omega, ?_⟩
   cases decide (pthE a = 0)
   case false => exact .same (HFi _ _)
   cases eqL b.data.toList []
   case false => exact .same (HFi _ _)
   exact .same (HFi _ _)
 · unfold tkE
   simp only [d41, d42, d43, d44, lk41, g44, SpTr, SpFa, Bool.not_true, Bool.not_false, cond_true, cond_false]
   refine ⟨by omega, ?_⟩
   cases aJ n
   case false => exact .same (HFi _ _)
   cases eqL a.data.toList []
   case true => exact .same (HFi _ _)
   cases eqL b.data.toList []
   case true => exact .same (HFi _ _)
   cases decide (1000000 < (a.size : Int))
   case true => exact .same (HFi _ _)
   cases decide (1000000 < (b.size : Int))
   case true => exact .same (HFi _ _)
   exact .same (HFi _ _)
theorem p4 (m k : Int) (n a b : SB) (hn : n.size ≤ 1048576) (ha : a.size ≤ 1048576) : bt (envM m) f123 [tkv k n a b] ⟨.leaf, 0⟩ (.int .i64 (tkE k n a b)) := by
 refine al (ud m) (d := 2) ((wY m _ k n a b).mpr ?_)
 have e0 : (ByteArray.mk #[]).data.toList = [] := rfl
 simp only [e0]
 by_cases h1 : k < 1
 · unfold tkE; rw [decide_eq_true h1]; exact .same (HFi _ _)
 by_cases h4 : 4 < k
 · unfold tkE; rw [decide_eq_false h1, decide_eq_true h4]; exact .same (HFi _ _)
 obtain rfl | rfl | rfl | rfl : k = 1 ∨ k = 2 ∨ k = 3 ∨ k = 4 := by omega
 · unfold tkE
   simp only [d11, d12, d13, d14, lk11, g41, SpTr, SpFa, Bool.not_true, Bool.not_false, cond_true, cond_false]
   refine ⟨by omega, ?_⟩
   cases aJ n
   case false => exact .same (HFi _ _)
   cases eqL a.data.toList []
   case false => exact .same (HFi _ _)
   cases eqL b.data.toList []
   case false => exact .same (HFi _ _)
   exact .same (HFi _ _)
 · unfold tkE
   simp only [d21, d22, d23, d24, lk21, g42, SpTr, SpFa, Bool.not_true, Bool.not_false, cond_true, cond_false]
   refine ⟨by omega, ?_⟩
   cases aJ n
   case false => exact .same (HFi _ _)
   refine ⟨by omega, ?_⟩
   cases tokS a
   case false => exact .same (HFi _ _)
   cases eqL b.data.toList []
   case false => exact .same (HFi _ _)
   exact .same (HFi _ _)
 · unfold tkE
   simp only [d31, d32, d33, d34, lk31, g43, SpTr, SpFa, Bool.not_true, Bool.not_false, cond_true, cond_false]
   refine ⟨by omega, ?_⟩
   cases aJ n
   case false => exact .same (HFi _ _)
   refine ⟨by omega, ?_⟩
   cases decide (pthE a = 0)
   case false => exact .same (HFi _ _)
   cases eqL b.data.toList []
   case false => exact .same (HFi _ _)
   exact .same (HFi _ _)
 · unfold tkE
   simp only [d41, d42, d43, d44, lk41, g44, SpTr, SpFa, Bool.not_true, Bool.not_false, cond_true, cond_false]
   refine ⟨by omega, ?_⟩
   cases aJ n
   case false => exact .same (HFi _ _)
   cases eqL a.data.toList []
   case true => exact .same (HFi _ _)
   cases eqL b.data.toList []
   case true => exact .same (HFi _ _)
   cases decide (1000000 < (a.size : Int))
   case true => exact .same (HFi _ _)
   cases decide (1000000 < (b.size : Int))
   case true => exact .same (HFi _ _)
   exact .same (HFi _ _)
theorem AP (k : Int) (n a b : SB) : HF (tkv k n a b) := .agg (HF.cons (HFi _ _) (HF.cons (.scal rfl) (HF.cons (.scal rfl) (HF.cons (.scal rfl) HF.nil))))
def taX : List Value → Option Value
 | [.agg ⟨[.int .i64 k, .string n, .string a, .string b]⟩] => some (.int .i64 (tkE k n a b))
 | _ => none
def qG : List Value → Option Prop
 | [.agg ⟨[.int .i64 k, .string n, .string a, .string b]⟩] => some (n.size ≤ 1048576 ∧ a.size ≤ 1048576)
 | _ => none
theorem ta_tab (m : Int) : ∀ args A p v A', aj qG taX args A = some (p, v, A') → PH p → an (envM m) 118 args A v A' := ai (aE m) (aF m) (fn := f118) rfl fun args v h hp => by
 unfold taX at h
 split at h
 · simp only [osI] at h
   subst h
   exact ⟨HF.cons (AP _ _ _ _) HF.nil, vd m _ _ _ _ hp.1 hp.2⟩
 · cases h
theorem uP (m : Int) : ∀ args A p v A', aj qG taX args A = some (p, v, A') → PH p → an (envM m) 123 args A v A' := ai (aE m) (aF m) (fn := f123) rfl fun args v h hp => by
 unfold taX at h
 split at h
 · simp only [osI] at h
   subst h
   exact ⟨HF.cons (AP _ _ _ _) HF.nil, p4 m _ _ _ _ hp.1 hp.2⟩
 · cases h
end
end Go.T9

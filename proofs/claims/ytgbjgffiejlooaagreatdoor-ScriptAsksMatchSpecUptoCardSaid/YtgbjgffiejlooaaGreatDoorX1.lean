/- A part of the proof. -/
import Derived.Test.YtgbjgffiejlooaaGreatDoorU1
import Derived.Test.YtgbjgffiejlooaaGreatDoorV
import Derived.Test.YtgbjgffiejlooaaGreatDoorF
import Derived.KernelRfl
import Derived.Test.YtgbjgffiejlooaaGreatDoorR
set_option linter.unusedVariables false
set_option linter.unusedSimpArgs false
set_option maxRecDepth 1000000
set_option maxHeartbeats 4000000
namespace Go.T9
open Go Go.AM Go.MK
noncomputable section
def plB (s : SB) (i : Nat) : Bool := !decide (ac s (i : Int) = 36) || (decide (i + 1 = s.size) || (!decide (ac s ((i + 1 : Nat) : Int) = 36) && !decide (ac s ((i + 1 : Nat) : Int) = 123)))
def lenN (s : SB) (i : Nat) : Int := ixB (subB s (i : Int) (s.size : Int)) 125
def namN (s : SB) (i : Nat) : SB := subB s ((i + 2 : Nat) : Int) ((i + (lenN s i).toNat : Nat) : Int)
def badN (s : SB) (i : Nat) : Bool := decide (lenN s i < 0) || !aJ (namN s i)
def pcs (s : SB) (i : Nat) (txt : List UInt8) (out : List (SB × SB)) : List (SB × SB) × Int :=
 if h : i < s.size then
  bif plB s i then pcs s (i + 1) (txt ++ [bAt s i]) out
  else bif decide (ac s ((i + 1 : Nat) : Int) = 36) then pcs s (i + 2) (txt ++ [36]) out
  else bif badN s i then ([], (i : Int))
  else pcs s (i + (lenN s i).toNat + 1) [] (out ++ [(aa txt, aa []), (aa [], namN s i)])
 else (out ++ [(aa txt, aa [])], -1)
 termination_by s.size - i
 decreasing_by all_goals omega
theorem la {s : SB} {i : Nat} (h : i < s.size) (h1 : plB s i = true) (txt : List UInt8) (out : List (SB × SB)) : pcs s i txt out = pcs s (i + 1) (txt ++ [bAt s i]) out := by
 conv => lhs; unfold pcs
 rw [dif_pos h, h1]; rfl
theorem lc {s : SB} {i : Nat} (h : i < s.size) (h1 : plB s i = false) (h2 : ac s ((i + 1 : Nat) : Int) = 36) (txt : List UInt8) (out : List (SB × SB)) : pcs s i txt out = pcs s (i + 2) (txt ++ [36]) out := by
 conv => lhs; unfold pcs
 rw [dif_pos h, h1, decide_eq_true h2]; rfl
theorem cO {s : SB} {i : Nat} (h : i < s.size) (h1 : plB s i = false) (h2 : ¬ ac s ((i + 1 : Nat) : Int) = 36) (h3 : badN s i = true) (txt : List UInt8) (out : List (SB × SB)) : pcs s i txt out = ([], (i : Int)) := by
 conv => lhs; unfold pcs
 rw [dif_pos h, h1, decide_eq_false h2, h3]; rfl
theorem lb {s : SB} {i : Nat} (h : i < s.size) (h1 : plB s i = false) (h2 : ¬ ac s ((i + 1 : Nat) : Int) = 36) (h3 : badN s i = false) (txt : List UInt8) (out : List (SB × SB)) : pcs s i txt out = pcs s (i + (lenN s i).toNat + 1) [] (out ++ [(aa txt, aa []), (aa [], namN s i)]) := by
 conv => lhs; unfold pcs
 rw [dif_pos h, h1, decide_eq_false h2, h3]; rfl
theorem iq {s : SB} {i : Nat} (h : ¬ i < s.size) (txt : List UInt8) (out : List (SB × SB)) : pcs s i txt out = (out ++ [(aa txt, aa [])], -1) := by
 conv => lhs; unfold pcs
 rw [dif_neg h]
theorem cM {s : SB} {i : Nat} (h : i < s.size) (h1 : plB s i = false) : ac s (i : Int) = 36 ∧ i + 1 < s.size ∧ (ac s ((i + 1 : Nat) : Int) = 36 ∨ ac s ((i + 1 : Nat) : Int) = 123) := by
 unfold plB at h1
 simp only [Bool.or_eq_false_iff, Bool.not_eq_false', decide_eq_true_eq, decide_eq_false_iff_not, Bool.and_eq_false_iff] at h1
 exact ⟨h1.1, by omega, h1.2.2⟩
theorem iC {s : SB} {i : Nat} (h : i < s.size) (h1 : plB s i = false) (h2 : ¬ ac s ((i + 1 : Nat) : Int) = 36) (h3 : ¬ lenN s i < 0) : 2 ≤ lenN s i ∧ (i : Int) + lenN s i < s.size := by
 obtain ⟨a, b, c⟩ := cM h h1
 have c : ac s ((i + 1 : Nat) : Int) = 123 := c.resolve_left h2
 unfold lenN at h3 ⊢
 obtain ⟨g1, g2⟩ := ixB_in (c := 125) (by decide) (by decide) h3
 have hsz : (subB s (i : Int) (s.size : Int)).size = s.size - i := bD (by omega) (Nat.le_refl _)
 rw [hsz] at g1
 refine ⟨?_, by omega⟩
 rcases Nat.lt_or_ge (ixB (subB s (i : Int) (s.size : Int)) 125).toNat 2 with hl | hl
 · exfalso
   generalize hn : ixB (subB s (i : Int) (s.size : Int)) 125 = n at *
   have h01 : n = ((0 : Nat) : Int) ∨ n = ((1 : Nat) : Int) := by omega
   rcases h01 with rfl | rfl
   · rw [gY (by omega) (Nat.le_refl _)] at g2
     rw [Nat.add_zero, a] at g2; exact absurd g2 (by decide)
   · rw [gY (by omega) (Nat.le_refl _)] at g2
     rw [c] at g2; exact absurd g2 (by decide)
 · omega
end
end Go.T9
namespace Go.T9
open Go Go.AM Go.Shelf Go.Proofs
noncomputable section
def ren169 : Ren := ⟨fun x => match x with | 169 => 126 | n => n, fun x => match x with | 0 => 0 | 3 => 3 | 5 => 5 | 9 => 9 | 37 => 188 | 70 => 187 | 72 => 190 | 127 => 256 | n => n, fun x => x⟩
theorem wK : Proofs.Lays.n169 env.P ren169 where
 mixed := env_ok.mixed
 f169 := env_ok.fn 126 (Proofs.Body.n169 ren169) (by kernel_rfl)
 t0 := ap env_ok (t := 0) (by kernel_rfl)
 a0 := fun w => am env_ok (t := 0) (d := (TypeDesc.tuple #[])) (by kernel_rfl) w
 z0 := fun w => ab env_ok (t := 0) (i := Tryz.t0) (by kernel_rfl) w
 v0 := fun w => ak env_ok (t := 0) (i := Tryz.t0) (by kernel_rfl) (by kernel_rfl) w
 t3 := ap env_ok (t := 3) (by kernel_rfl)
 a3 := fun w => am env_ok (t := 3) (d := (TypeDesc.int IntKind.i64)) (by kernel_rfl) w
 z3 := fun w => ab env_ok (t := 3) (i := Tryz.t3) (by kernel_rfl) w
 v3 := fun w => ak env_ok (t := 3) (i := Tryz.t3) (by kernel_rfl) (by kernel_rfl) w
 t9 := ap env_ok (t := 9) (by kernel_rfl)
 a9 := fun w => am env_ok (t := 9) (d := (TypeDesc.string)) (by kernel_rfl) w
 z9 := fun w => ab env_ok (t := 9) (i := Tryz.t9) (by kernel_rfl) w
 v9 := fun w => ak env_ok (t := 9) (i := Tryz.t9) (by kernel_rfl) (by kernel_rfl) w
 t37 := ap env_ok (t := 188) (by kernel_rfl)
 a37 := fun w => am env_ok (t := 188) (d := (TypeDesc.slice (ren169.t 5))) (by kernel_rfl) w
 z37 := fun w => ab env_ok (t := 188) (i := Tryz.t188) (by kernel_rfl) w
 v37 := fun w => ak env_ok (t := 188) (i := Tryz.t188) (by kernel_rfl) (by kernel_rfl) w
 t70 := ap env_ok (t := 187) (by kernel_rfl)
 a70 := fun w => am env_ok (t := 187) (d := (TypeDesc.pointer (ren169.t 72))) (by kernel_rfl) w
 z70 := fun w => ab env_ok (t := 187) (i := Tryz.t187) (by kernel_rfl) w
 v70 := fun w => ak env_ok (t := 187) (i := Tryz.t187) (by kernel_rfl) (by kernel_rfl) w
 t72 := ap env_ok (t := 190) (by kernel_rfl)
 a72 := fun w => am env_ok (t := 190) (d := (TypeDesc.struct #[{ name := "addr", type := ren169.t 70, offset := 0, embedded := false, tag := "", pkgPath := "strings", byteOffset := 0 }, { name := "buf", type := ren169.t 37, offset := 1, embedded := false, tag := "", pkgPath := "strings", byteOffset := 8 }])) (by kernel_rfl) w
 z72 := fun w => ab env_ok (t := 190) (i := Tryz.t190) (by kernel_rfl) w
 v72 := fun w => ak env_ok (t := 190) (i := Tryz.t190) (by kernel_rfl) (by kernel_rfl) w
 t127 := ap env_ok (t := 256) (by kernel_rfl)
 a127 := fun w => am env_ok (t := 256) (d := (TypeDesc.pointer (ren169.t 5))) (by kernel_rfl) w
 z127 := fun w => ab env_ok (t := 256) (i := Tryz.t256) (by kernel_rfl) w
 v127 := fun w => ak env_ok (t := 256) (i := Tryz.t256) (by kernel_rfl) (by kernel_rfl) w
end
end Go.T9
namespace Go.T9
open Go Go.AM Go.MK Go.Proofs.Tryz
noncomputable section
def zm : List (FuncId × ExtF) := [(214, xIdx), (215, pW)]
def envX : Env := jx Proofs.Tryz.prog gJ eT tiT fnT (fun _ => none) zm true
theorem hX5 : ExtsOk Proofs.Tryz.prog zm := .cons (uE x2) (.cons (kC x3) .nil)
theorem ag : envX.Ok := fw h1 h2 h3 h4 hX5
theorem ah : GlOk envX := fun _ => rfl
theorem aw : envX.sym = true := rfl
theorem toX {f : FuncId} {x : RunF} (h : ∀ args A p v A', x args A = some (p, v, A') → PH p → an env f args A v A') : ∀ args A p v A', x args A = some (p, v, A') → PH p → an envX f args A v A' :=
 fun args A p v A' h1 h2 σ w args' R hg ha => h args A p v A' h1 h2 σ w args' R hg ha
theorem vq : ∀ args A p v A', strR 5 args A = some (p, v, A') → PH p → an envX 126 args A v A' := vr wK rfl rfl (by kernel_rfl)
def tabP : Tab := [(21, aj bg nmX), (126, strR 5)]
theorem vc : TabOk envX tabP := .cons (toX oc) (.cons vq .nil)
def elA : El := { El.of (fun _ _ _ _ => none) with app := true }
def XP : SX := ⟨envX, tabP, elA, fun _ => .autoN [(.slot 4, 278, 2)] [] [5] [0, 4, 5, 6]⟩
theorem XP_ok : XP.Ok := ⟨ag, aw, ah, vc⟩
def frP (s : SB) (i n : Nat) : T Value := (Nd (Nd Lf none (Nd Lf (some (.pointer (some ⟨1, 0, none⟩))) Lf)) (some (.string s)) (Nd (Nd Lf (some (.slice (some ⟨0, 0, none⟩) n (unk + 3 + 2))) Lf) none (Nd Lf (some (.int .i64 i)) Lf)))
def hPE (els : List Value) : AH := ⟨Nd (Nd Lf (some (.cells [.pointer none, .slice none 0 0] 190)) Lf) (some (.gro els [] 278)) Lf, 2⟩
def hPN (els bs : List Value) : AH := ⟨Nd (Nd Lf (some (.cells [.pointer (some ⟨1, 0, none⟩), .slice (some ⟨2, 0, none⟩) bs.length unk] 190)) Lf) (some (.gro els [] 278)) (Nd Lf (some (.cells bs 5)) Lf), 3⟩
def ntP : Nat := Func.ntmps f172
def bdP : Code := ae f172
def wS (K : KV) : KX := finK XP.E (f172.results).toList K
def jPc (K : KV) (s : SB) : Prop := ay XP 4 f172 [.string s] ⟨.leaf, 0⟩ K
def jPcE (K : KV) (again : KF) (s : SB) (i n : Nat) (els : List Value) : Prop := ax XP 4 ntP ⟨.leaf, 0⟩ bdP [1, 1, 1, 0, 1, 0] (wS K) [(.slot 4, 278, 2)] [] [5] [0, 4, 5, 6] again (frP s i n) (hPE els)
def jPcN (K : KV) (again : KF) (s : SB) (i n : Nat) (els bs : List Value) : Prop := ax XP 4 ntP ⟨.leaf, 0⟩ bdP [1, 1, 1, 0, 1, 0] (wS K) [(.slot 4, 278, 2)] [] [5] [0, 4, 5, 6] again (frP s i n) (hPN els bs)
theorem jPc_nf (K : KV) (s : SB) : jPc K s = (HF (Va []) ∧ LAtZ XP 4 f172.ntmps (AH.mk Lf 0) (ae f172) [1, 1, 1, 0, 1, 0] (finK (SX.E XP) f172.results.toList K) (Ns (No Lf (Sg (Value.pointer (some ⟨1, 0, none⟩)))) (Vs s) (No (Sg (Value.slice (some ⟨0, 0, none⟩) 0 18446744073709551621)) (Sg (Vi 0)))) (AH.mk (Ns (Sg (AObj.cells [Value.pointer none, Value.slice none 0 0] 190)) (AObj.gro [] [] 278) Lf) 2)) := by kernel_rfl
theorem xT (K : KV) (again : KF) (s : SB) (i n : Nat) (els : List Value) : jPcE K again s i n els = (Sp (decide ((i : Int) < (s.size : Int))) ((0 ≤ (i : Int) ∧ (i : Int) < (s.size : Int)) ∧ Sp (!decide (ac s (i : Int) = 36)) ((0 ≤ (i : Int) ∧ (i : Int) < (s.size : Int)) ∧ HF (Va els) ∧ HF (Va [Value.int .u8 (ac s i)]) ∧ again (Ns (No Lf (Sg (Value.pointer (some ⟨1, 0, none⟩)))) (Vs s) (No (Sg (Value.slice (some ⟨0, 0, none⟩) n 18446744073709551621)) (Sg (Vi (Wi ((i : Int) + 1)))))) (AH.mk (Ns (Sg (AObj.cells [Value.pointer (some ⟨1, 0, none⟩), Value.slice (some ⟨2, 0, none⟩) 1 18446744073709551616] 190)) (AObj.gro els [] 278) (Sg (AObj.cells [Value.int .u8 (ac s i)] 5))) 3)) (Sp (decide (Wi ((i : Int) + 1) = (s.size : Int))) ((0 ≤ (i : Int) ∧ (i : Int) < (s.size : Int)) ∧ HF (Va els) ∧ HF (Va [Value.int .u8 (ac s i)]) ∧ again (Ns (No Lf (Sg (Value.pointer (some ⟨1, 0, none⟩)))) (Vs s) (No (Sg (Value.slice (some ⟨0, 0, none⟩) n 18446744073709551621)) (Sg (Vi (Wi ((i : Int) + 1)))))) (AH.mk (Ns (Sg (AObj.cells [Value.pointer (some ⟨1, 0, none⟩), Value.slice (some ⟨2, 0, none⟩) 1 18446744073709551616] 190)) (AObj.gro els [] 278) (Sg (AObj.cells [Value.int .u8 (ac s i)] 5))) 3)) ((0 ≤ Wi ((i : Int) + 1) ∧ Wi ((i : Int) + 1) < (s.size : Int)) ∧ Sp (!decide (ac s (Wi ((i : Int) + 1)) = 36)) ((0 ≤ Wi ((i : Int) + 1) ∧ Wi ((i : Int) + 1) < (s.size : Int)) ∧ Sp (!decide (ac s (Wi ((i : Int) + 1)) = 123)) ((0 ≤ (i : Int) ∧ (i : Int) < (s.size : Int)) ∧ HF (Va els) ∧ HF (Va [Value.int .u8 (ac s i)]) ∧ again (Ns (No Lf (Sg (Value.pointer (some ⟨1, 0, none⟩)))) (Vs s) (No (Sg (Value.slice (some ⟨0, 0, none⟩) n 18446744073709551621)) (Sg (Vi (Wi ((i : Int) + 1)))))) (AH.mk (Ns (Sg (AObj.cells [Value.pointer (some ⟨1, 0, none⟩), Value.slice (some ⟨2, 0, none⟩) 1 18446744073709551616] 190)) (AObj.gro els [] 278) (Sg (AObj.cells [Value.int .u8 (ac s i)] 5))) 3)) ((0 ≤ Wi ((i : Int) + 1) ∧ Wi ((i : Int) + 1) < (s.size : Int)) ∧ Sp (decide (ac s (Wi ((i : Int) + 1)) = 36)) (HF (Va els) ∧ HF (Va [Value.int .u8 36]) ∧ again (Ns (No Lf (Sg (Value.pointer (some ⟨1, 0, none⟩)))) (Vs s) (No (Sg (Value.slice (some ⟨0, 0, none⟩) n 18446744073709551621)) (Sg (Vi (Wi (Wi ((i : Int) + 1) + 1)))))) (AH.mk (Ns (Sg (AObj.cells [Value.pointer (some ⟨1, 0, none⟩), Value.slice (some ⟨2, 0, none⟩) 1 18446744073709551616] 190)) (AObj.gro els [] 278) (Sg (AObj.cells [Value.int .u8 36] 5))) 3)) ((0 ≤ (i : Int) ∧ (i : Int) ≤ (s.size : Int)) ∧ Sp (decide (ixB (subB s i s.size) (125 : Int) < (0 : Int))) (K (Vt [Value.slice none 0 0, Vi i]) (AH.mk (Ns (Sg (AObj.cells [Value.pointer none, Value.slice none 0 0] 190)) (AObj.gro els [] 278) Lf) 2)) ((0 ≤ Wi ((i : Int) + 2) ∧ Wi ((i : Int) + 2) ≤ Wi ((i : Int) + ixB (subB s i s.size) 125) ∧ Wi ((i : Int) + ixB (subB s i s.size) 125) ≤ (s.size : Int)) ∧ ByteArray.size (subB s (Wi ((i : Int) + 2)) (Wi ((i : Int) + ixB (subB s i s.size) 125))) < 9223372036854775808 ∧ Sp (!aJ (subB s (Wi ((i : Int) + 2)) (Wi ((i : Int) + ixB (subB s i s.size) 125)))) (K (Vt [Value.slice none 0 0, Vi i]) (AH.mk (Ns (Sg (AObj.cells [Value.pointer none, Value.slice none 0 0] 190)) (AObj.gro els [] 278) Lf) 2)) ((0 ≤ Wi ((i : Int) + 2) ∧ Wi ((i : Int) + 2) ≤ Wi ((i : Int) + ixB (subB s i s.size) 125) ∧ Wi ((i : Int) + ixB (subB s i s.size) 125) ≤ (s.size : Int)) ∧ (List.all [Vs (ByteArray.mk ⟨[]⟩), Vs (ByteArray.mk ⟨[]⟩), Vs (ByteArray.mk ⟨[]⟩), Vs (subB s (Wi ((i : Int) + 2)) (Wi ((i : Int) + ixB (subB s i s.size) 125)))] cellv = true ∧ n + 0 = List.length els ∧ n + (2 : Nat) ≤ (70368744177664 : Nat) ∧ (n + 2) * (32 : Nat) ≤ (140737488355328 : Nat)) ∧ HF (Va (els ++ [Va [Vs (ByteArray.mk ⟨[]⟩), Vs (ByteArray.mk ⟨[]⟩)], Va [Vs (ByteArray.mk ⟨[]⟩), Vs (subB s (Wi ((i : Int) + 2)) (Wi ((i : Int) + ixB (subB s i s.size) 125)))]])) ∧ again (Ns (No Lf (Sg (Value.pointer (some ⟨1, 0, none⟩)))) (Vs s) (No (Sg (Value.slice (some ⟨0, 0, none⟩) (n + 2) 18446744073709551621)) (Sg (Vi (Wi (Wi ((i : Int) + ixB (subB s i s.size) 125) + 1)))))) (AH.mk (Ns (Sg (AObj.cells [Value.pointer none, Value.slice none 0 0] 190)) (AObj.gro (els ++ [Va [Vs (ByteArray.mk ⟨[]⟩), Vs (ByteArray.mk ⟨[]⟩)], Va [Vs (ByteArray.mk ⟨[]⟩), Vs (subB s (Wi ((i : Int) + 2)) (Wi ((i : Int) + ixB (subB s i s.size) 125)))]]) [] 278) Lf) 2)))))) ((0 ≤ Wi ((i : Int) + 1) ∧ Wi ((i : Int) + 1) < (s.size : Int)) ∧ Sp (decide (ac s (Wi ((i : Int) + 1)) = 36)) (HF (Va els) ∧ HF (Va [Value.int .u8 36]) ∧ again (Ns (No Lf (Sg (Value.pointer (some ⟨1, 0, none⟩)))) (Vs s) (No (Sg (Value.slice (some ⟨0, 0, none⟩) n 18446744073709551621)) (Sg (Vi (Wi (Wi ((i : Int) + 1) + 1)))))) (AH.mk (Ns (Sg (AObj.cells [Value.pointer (some ⟨1, 0, none⟩), Value.slice (some ⟨2, 0, none⟩) 1 18446744073709551616] 190)) (AObj.gro els [] 278) (Sg (AObj.cells [Value.int .u8 36] 5))) 3)) ((0 ≤ (i : Int) ∧ (i : Int) ≤ (s.size : Int)) ∧ Sp (decide (ixB (subB s i s.size) (125 : Int) < (0 : Int))) (K (Vt [Value.slice none 0 0, Vi i]) (AH.mk (Ns (Sg (AObj.cells [Value.pointer none, Value.slice none 0 0] 190)) (AObj.gro els [] 278) Lf) 2)) ((0 ≤ Wi ((i : Int) + 2) ∧ Wi ((i : Int) + 2) ≤ Wi ((i : Int) + ixB (subB s i s.size) 125) ∧ Wi ((i : Int) + ixB (subB s i s.size) 125) ≤ (s.size : Int)) ∧ ByteArray.size (subB s (Wi ((i : Int) + 2)) (Wi ((i : Int) + ixB (subB s i s.size) 125))) < 9223372036854775808 ∧ Sp (!aJ (subB s (Wi ((i : Int) + 2)) (Wi ((i : Int) + ixB (subB s i s.size) 125)))) (K (Vt [Value.slice none 0 0, Vi i]) (AH.mk (Ns (Sg (AObj.cells [Value.pointer none, Value.slice none 0 0] 190)) (AObj.gro els [] 278) Lf) 2)) ((0 ≤ Wi ((i : Int) + 2) ∧ Wi ((i : Int) + 2) ≤ Wi ((i : Int) + ixB (subB s i s.size) 125) ∧ Wi ((i : Int) + ixB (subB s i s.size) 125) ≤ (s.size : Int)) ∧ (List.all [Vs (ByteArray.mk ⟨[]⟩), Vs (ByteArray.mk ⟨[]⟩), Vs (ByteArray.mk ⟨[]⟩), Vs (subB s (Wi ((i : Int) + 2)) (Wi ((i : Int) + ixB (subB s i s.size) 125)))] cellv = true ∧ n + 0 = List.length els ∧ n + (2 : Nat) ≤ (70368744177664 : Nat) ∧ (n + 2) * (32 : Nat) ≤ (140737488355328 : Nat)) ∧ HF (Va (els ++ [Va [Vs (ByteArray.mk ⟨[]⟩), Vs (ByteArray.mk ⟨[]⟩)], Va [Vs (ByteArray.mk ⟨[]⟩), Vs (subB s (Wi ((i : Int) + 2)) (Wi ((i : Int) + ixB (subB s i s.size) 125)))]])) ∧ again (Ns (No Lf (Sg (Value.pointer (some ⟨1, 0, none⟩)))) (Vs s) (No (Sg (Value.slice (some ⟨0, 0, none⟩) (n + 2) 18446744073709551621)) (Sg (Vi (Wi (Wi ((i : Int) + ixB (subB s i s.size) 125) + 1)))))) (AH.mk (Ns (Sg (AObj.cells [Value.pointer none, Value.slice none 0 0] 190)) (AObj.gro (els ++ [Va [Vs (ByteArray.mk ⟨[]⟩), Vs (ByteArray.mk ⟨[]⟩)], Va [Vs (ByteArray.mk ⟨[]⟩), Vs (subB s (Wi ((i : Int) + 2)) (Wi ((i : Int) + ixB (subB s i s.size) 125)))]]) [] 278) Lf) 2)))))))) ((List.all [Vs (ByteArray.mk ⟨[]⟩), Vs (ByteArray.mk ⟨[]⟩)] cellv = true ∧ n + 0 = List.length els ∧ n + (1 : Nat) ≤ (70368744177664 : Nat) ∧ (n + 1) * (32 : Nat) ≤ (140737488355328 : Nat)) ∧ K (Vt [Value.slice (some ⟨3, 0, none⟩) (n + 1) 18446744073709551621, Vi (-1 : Int)]) (AH.mk (Ns (Ns (Sg (AObj.gro els [Va [Vs (ByteArray.mk ⟨[]⟩), Vs (ByteArray.mk ⟨[]⟩)]] 278)) (AObj.cells [Value.pointer none, Value.slice none 0 0] 190) Lf) AObj.dead (Sg (AObj.cells [Vs (ByteArray.mk ⟨[]⟩), Vs (ByteArray.mk ⟨[]⟩)] 278))) 4))) := by kernel_rfl
theorem xS (K : KV) (again : KF) (s : SB) (i n : Nat) (els bs : List Value) : jPcN K again s i n els bs = (Sp (decide ((i : Int) < (s.size : Int))) ((0 ≤ (i : Int) ∧ (i : Int) < (s.size : Int)) ∧ Sp (!decide (ac s (i : Int) = 36)) ((0 ≤ (i : Int) ∧ (i : Int) < (s.size : Int)) ∧ (List.length bs + (1 : Nat) ≤ (70368744177664 : Nat) ∧ (List.length bs + 1) * (1 : Nat) ≤ (140737488355328 : Nat) ∧ List.length bs * 1 ≤ List.length bs) ∧ HF (Va els) ∧ HF (Va (List.take (List.length bs * 1) bs ++ [Value.int .u8 (ac s i)])) ∧ again (Ns (No Lf (Sg (Value.pointer (some ⟨1, 0, none⟩)))) (Vs s) (No (Sg (Value.slice (some ⟨0, 0, none⟩) n 18446744073709551621)) (Sg (Vi (Wi ((i : Int) + 1)))))) (AH.mk (Ns (Sg (AObj.cells [Value.pointer (some ⟨1, 0, none⟩), Value.slice (some ⟨2, 0, none⟩) (List.length bs + 1) 18446744073709551616] 190)) (AObj.gro els [] 278) (Sg (AObj.cells (List.take (List.length bs * 1) bs ++ [Value.int .u8 (ac s i)]) 5))) 3)) (Sp (decide (Wi ((i : Int) + 1) = (s.size : Int))) ((0 ≤ (i : Int) ∧ (i : Int) < (s.size : Int)) ∧ (List.length bs + (1 : Nat) ≤ (70368744177664 : Nat) ∧ (List.length bs + 1) * (1 : Nat) ≤ (140737488355328 : Nat) ∧ List.length bs * 1 ≤ List.length bs) ∧ HF (Va els) ∧ HF (Va (List.take (List.length bs * 1) bs ++ [Value.int .u8 (ac s i)])) ∧ again (Ns (No Lf (Sg (Value.pointer (some ⟨1, 0, none⟩)))) (Vs s) (No (Sg (Value.slice (some ⟨0, 0, none⟩) n 18446744073709551621)) (Sg (Vi (Wi ((i : Int) + 1)))))) (AH.mk (Ns (Sg (AObj.cells [Value.pointer (some ⟨1, 0, none⟩), Value.slice (some ⟨2, 0, none⟩) (List.length bs + 1) 18446744073709551616] 190)) (AObj.gro els [] 278) (Sg (AObj.cells (List.take (List.length bs * 1) bs ++ [Value.int .u8 (ac s i)]) 5))) 3)) ((0 ≤ Wi ((i : Int) + 1) ∧ Wi ((i : Int) + 1) < (s.size : Int)) ∧ Sp (!decide (ac s (Wi ((i : Int) + 1)) = 36)) ((0 ≤ Wi ((i : Int) + 1) ∧ Wi ((i : Int) + 1) < (s.size : Int)) ∧ Sp (!decide (ac s (Wi ((i : Int) + 1)) = 123)) ((0 ≤ (i : Int) ∧ (i : Int) < (s.size : Int)) ∧ (List.length bs + (1 : Nat) ≤ (70368744177664 : Nat) ∧ (List.length bs + 1) * (1 : Nat) ≤ (140737488355328 : Nat) ∧ List.length bs * 1 ≤ List.length bs) ∧ HF (Va els) ∧ HF (Va (List.take (List.length bs * 1) bs ++ [Value.int .u8 (ac s i)])) ∧ again (Ns (No Lf (Sg (Value.pointer (some ⟨1, 0, none⟩)))) (Vs s) (No (Sg (Value.slice (some ⟨0, 0, none⟩) n 18446744073709551621)) (Sg (Vi (Wi ((i : Int) + 1)))))) (AH.mk (Ns (Sg (AObj.cells [Value.pointer (some ⟨1, 0, none⟩), Value.slice (some ⟨2, 0, none⟩) (List.length bs + 1) 18446744073709551616] 190)) (AObj.gro els [] 278) (Sg (AObj.cells (List.take (List.length bs * 1) bs ++ [Value.int .u8 (ac s i)]) 5))) 3)) ((0 ≤ Wi ((i : Int) + 1) ∧ Wi ((i : Int) + 1) < (s.size : Int)) ∧ Sp (decide (ac s (Wi ((i : Int) + 1)) = 36)) ((List.length bs + (1 : Nat) ≤ (70368744177664 : Nat) ∧ (List.length bs + 1) * (1 : Nat) ≤ (140737488355328 : Nat) ∧ List.length bs * 1 ≤ List.length bs) ∧ HF (Va els) ∧ HF (Va (List.take (List.length bs * 1) bs ++ [Value.int .u8 36])) ∧ again (Ns (No Lf (Sg (Value.pointer (some ⟨1, 0, none⟩)))) (Vs s) (No (Sg (Value.slice (some ⟨0, 0, none⟩) n 18446744073709551621)) (Sg (Vi (Wi (Wi ((i : Int) + 1) + 1)))))) (AH.mk (Ns (Sg (AObj.cells [Value.pointer (some ⟨1, 0, none⟩), Value.slice (some ⟨2, 0, none⟩) (List.length bs + 1) 18446744073709551616] 190)) (AObj.gro els [] 278) (Sg (AObj.cells (List.take (List.length bs * 1) bs ++ [Value.int .u8 36]) 5))) 3)) ((0 ≤ (i : Int) ∧ (i : Int) ≤ (s.size : Int)) ∧ Sp (decide (ixB (subB s i s.size) (125 : Int) < (0 : Int))) (K (Vt [Value.slice none 0 0, Vi i]) (AH.mk (Ns (Sg (AObj.cells [Value.pointer (some ⟨1, 0, none⟩), Value.slice (some ⟨2, 0, none⟩) bs.length 18446744073709551616] 190)) (AObj.gro els [] 278) (Sg (AObj.cells bs 5))) 3)) ((0 ≤ Wi ((i : Int) + 2) ∧ Wi ((i : Int) + 2) ≤ Wi ((i : Int) + ixB (subB s i s.size) 125) ∧ Wi ((i : Int) + ixB (subB s i s.size) 125) ≤ (s.size : Int)) ∧ ByteArray.size (subB s (Wi ((i : Int) + 2)) (Wi ((i : Int) + ixB (subB s i s.size) 125))) < 9223372036854775808 ∧ Sp (!aJ (subB s (Wi ((i : Int) + 2)) (Wi ((i : Int) + ixB (subB s i s.size) 125)))) (K (Vt [Value.slice none 0 0, Vi i]) (AH.mk (Ns (Sg (AObj.cells [Value.pointer (some ⟨1, 0, none⟩), Value.slice (some ⟨2, 0, none⟩) bs.length 18446744073709551616] 190)) (AObj.gro els [] 278) (Sg (AObj.cells bs 5))) 3)) ((IsB bs 0 bs.length ∧ 0 < List.length bs ∧ List.length bs ≤ 9223372036854775807) ∧ (0 ≤ Wi ((i : Int) + 2) ∧ Wi ((i : Int) + 2) ≤ Wi ((i : Int) + ixB (subB s i s.size) 125) ∧ Wi ((i : Int) + ixB (subB s i s.size) 125) ≤ (s.size : Int)) ∧ (List.all [Vs (aa (u8L bs 0 bs.length)), Vs (ByteArray.mk ⟨[]⟩), Vs (ByteArray.mk ⟨[]⟩), Vs (subB s (Wi ((i : Int) + 2)) (Wi ((i : Int) + ixB (subB s i s.size) 125)))] cellv = true ∧ n + 0 = List.length els ∧ n + (2 : Nat) ≤ (70368744177664 : Nat) ∧ (n + 2) * (32 : Nat) ≤ (140737488355328 : Nat)) ∧ HF (Va (els ++ [Va [Vs (aa (u8L bs 0 bs.length)), Vs (ByteArray.mk ⟨[]⟩)], Va [Vs (ByteArray.mk ⟨[]⟩), Vs (subB s (Wi ((i : Int) + 2)) (Wi ((i : Int) + ixB (subB s i s.size) 125)))]])) ∧ again (Ns (No Lf (Sg (Value.pointer (some ⟨1, 0, none⟩)))) (Vs s) (No (Sg (Value.slice (some ⟨0, 0, none⟩) (n + 2) 18446744073709551621)) (Sg (Vi (Wi (Wi ((i : Int) + ixB (subB s i s.size) 125) + 1)))))) (AH.mk (Ns (Sg (AObj.cells [Value.pointer none, Value.slice none 0 0] 190)) (AObj.gro (els ++ [Va [Vs (aa (u8L bs 0 bs.length)), Vs (ByteArray.mk ⟨[]⟩)], Va [Vs (ByteArray.mk ⟨[]⟩), Vs (subB s (Wi ((i : Int) + 2)) (Wi ((i : Int) + ixB (subB s i s.size) 125)))]]) [] 278) Lf) 2)))))) ((0 ≤ Wi ((i : Int) + 1) ∧ Wi ((i : Int) + 1) < (s.size : Int)) ∧ Sp (decide (ac s (Wi ((i : Int) + 1)) = 36)) ((List.length bs + (1 : Nat) ≤ (70368744177664 : Nat) ∧ (List.length bs + 1) * (1 : Nat) ≤ (140737488355328 : Nat) ∧ List.length bs * 1 ≤ List.length bs) ∧ HF (Va els) ∧ HF (Va (List.take (List.length bs * 1) bs ++ [Value.int .u8 36])) ∧ again (Ns (No Lf (Sg (Value.pointer (some ⟨1, 0, none⟩)))) (Vs s) (No (Sg (Value.slice (some ⟨0, 0, none⟩) n 18446744073709551621)) (Sg (Vi (Wi (Wi ((i : Int) + 1) + 1)))))) (AH.mk (Ns (Sg (AObj.cells [Value.pointer (some ⟨1, 0, none⟩), Value.slice (some ⟨2, 0, none⟩) (List.length bs + 1) 18446744073709551616] 190)) (AObj.gro els [] 278) (Sg (AObj.cells (List.take (List.length bs * 1) bs ++ [Value.int .u8 36]) 5))) 3)) ((0 ≤ (i : Int) ∧ (i : Int) ≤ (s.size : Int)) ∧ Sp (decide (ixB (subB s i s.size) (125 : Int) < (0 : Int))) (K (Vt [Value.slice none 0 0, Vi i]) (AH.mk (Ns (Sg (AObj.cells [Value.pointer (some ⟨1, 0, none⟩), Value.slice (some ⟨2, 0, none⟩) bs.length 18446744073709551616] 190)) (AObj.gro els [] 278) (Sg (AObj.cells bs 5))) 3)) ((0 ≤ Wi ((i : Int) + 2) ∧ Wi ((i : Int) + 2) ≤ Wi ((i : Int) + ixB (subB s i s.size) 125) ∧ Wi ((i : Int) + ixB (subB s i s.size) 125) ≤ (s.size : Int)) ∧ ByteArray.size (subB s (Wi ((i : Int) + 2)) (Wi ((i : Int) + ixB (subB s i s.size) 125))) < 9223372036854775808 ∧ Sp (!aJ (subB s (Wi ((i : Int) + 2)) (Wi ((i : Int) + ixB (subB s i s.size) 125)))) (K (Vt [Value.slice none 0 0, Vi i]) (AH.mk (Ns (Sg (AObj.cells [Value.pointer (some ⟨1, 0, none⟩), Value.slice (some ⟨2, 0, none⟩) bs.length 18446744073709551616] 190)) (AObj.gro els [] 278) (Sg (AObj.cells bs 5))) 3)) ((IsB bs 0 bs.length ∧ 0 < List.length bs ∧ List.length bs ≤ 9223372036854775807) ∧ (0 ≤ Wi ((i : Int) + 2) ∧ Wi ((i : Int) + 2) ≤ Wi ((i : Int) + ixB (subB s i s.size) 125) ∧ Wi ((i : Int) + ixB (subB s i s.size) 125) ≤ (s.size : Int)) ∧ (List.all [Vs (aa (u8L bs 0 bs.length)), Vs (ByteArray.mk ⟨[]⟩), Vs (ByteArray.mk ⟨[]⟩), Vs (subB s (Wi ((i : Int) + 2)) (Wi ((i : Int) + ixB (subB s i s.size) 125)))] cellv = true ∧ n + 0 = List.length els ∧ n + (2 : Nat) ≤ (70368744177664 : Nat) ∧ (n + 2) * (32 : Nat) ≤ (140737488355328 : Nat)) ∧ HF (Va (els ++ [Va [Vs (aa (u8L bs 0 bs.length)), Vs (ByteArray.mk ⟨[]⟩)], Va [Vs (ByteArray.mk ⟨[]⟩), Vs (subB s (Wi ((i : Int) + 2)) (Wi ((i : Int) + ixB (subB s i s.size) 125)))]])) ∧ again (Ns (No Lf (Sg (Value.pointer (some ⟨1, 0, none⟩)))) (Vs s) (No (Sg (Value.slice (some ⟨0, 0, none⟩) (n + 2) 18446744073709551621)) (Sg (Vi (Wi (Wi ((i : Int) + ixB (subB s i s.size) 125) + 1)))))) (AH.mk (Ns (Sg (AObj.cells [Value.pointer none, Value.slice none 0 0] 190)) (AObj.gro (els ++ [Va [Vs (aa (u8L bs 0 bs.length)), Vs (ByteArray.mk ⟨[]⟩)], Va [Vs (ByteArray.mk ⟨[]⟩), Vs (subB s (Wi ((i : Int) + 2)) (Wi ((i : Int) + ixB (subB s i s.size) 125)))]]) [] 278) Lf) 2)))))))) ((IsB bs 0 bs.length ∧ 0 < List.length bs ∧ List.length bs ≤ 9223372036854775807) ∧ (List.all [Vs (aa (u8L bs 0 bs.length)), Vs (ByteArray.mk ⟨[]⟩)] cellv = true ∧ n + 0 = List.length els ∧ n + (1 : Nat) ≤ (70368744177664 : Nat) ∧ (n + 1) * (32 : Nat) ≤ (140737488355328 : Nat)) ∧ K (Vt [Value.slice (some ⟨4, 0, none⟩) (n + 1) 18446744073709551621, Vi (-1 : Int)]) (AH.mk (Ns (Ns (Sg (AObj.cells [Vs (aa (u8L bs 0 bs.length)), Vs (ByteArray.mk ⟨[]⟩)] 278)) (AObj.cells [Value.pointer (some ⟨1, 0, none⟩), Value.slice (some ⟨2, 0, none⟩) bs.length 18446744073709551616] 190) Lf) AObj.dead (Ns (Sg (AObj.gro els [Va [Vs (aa (u8L bs 0 bs.length)), Vs (ByteArray.mk ⟨[]⟩)]] 278)) AObj.dead Lf)) 5))) := by kernel_rfl
def pcv (p : SB × SB) : Value := .agg ⟨[.string p.1, .string p.2]⟩
def pv (l : List (SB × SB)) : List Value := l.map pcv
def u8v (l : List UInt8) : List Value := l.map fun b => Value.int .u8 b.toNat
theorem HF_pcv (p : SB × SB) : HF (pcv p) := .agg (HF.cons (.scal rfl) (HF.cons (.scal rfl) HF.nil))
theorem eK (l : List (SB × SB)) : ∀ x ∈ pv l, HF x := fun x hx => by obtain ⟨p, _, rfl⟩ := List.mem_map.1 hx; exact HF_pcv p
theorem aV (l : List UInt8) : ∀ x ∈ u8v l, HF x := fun x hx => by obtain ⟨p, _, rfl⟩ := List.mem_map.1 hx; exact .scal rfl
theorem bE (l : List (SB × SB)) : (pv l).length = l.length := by simp [pv]
theorem aY (l : List UInt8) : (u8v l).length = l.length := by simp [u8v]
theorem dL (l : List UInt8) : IsB (u8v l) 0 (u8v l).length := ⟨l, by rw [List.drop_zero, List.take_length]; rfl, (aY l).symm⟩
theorem u8_L (l : List UInt8) : u8L (u8v l) 0 (u8v l).length = l := by
 unfold u8L; rw [List.drop_zero, List.take_length]; exact sK l
theorem eN (l : List UInt8) (b : UInt8) : (u8v l).take ((u8v l).length * 1) ++ [Value.int .u8 b.toNat] = u8v (l ++ [b]) := by
 rw [Nat.mul_one, List.take_length]; simp [u8v]
theorem eO (l m : List (SB × SB)) : pv l ++ pv m = pv (l ++ m) := by simp [pv]
theorem lA {A : AH} {B n : Nat} {els tl : List Value} {e : TypeId} {l : List (SB × SB)} (hg : A.t.get B = some (.gro els tl e)) (h0 : els ++ tl = pv l) (hn : n = l.length) : Frz A (.slice (some ⟨B, 0, none⟩) n (unk + 3 + 2)) (.func (.yield 2) ⟨pv l⟩ ⟨[]⟩) := by
 have hsz : ∀ x ∈ pv l, x.cells.size = 2 := fun x hx => by obtain ⟨p, _, rfl⟩ := List.mem_map.1 hx; rfl
 have ht : ((pv l).drop 0).take n = pv l := by rw [List.drop_zero, List.take_of_length_le (by rw [bE]; omega)]
 refine .gsl (lo := 0) (els0 := pv l) (c2 := ao (pv l)) hg h0 (by kernel_rfl) (by kernel_rfl) (by decide) rfl hsz (by rw [bE]; omega) ?_ rfl hsz (by rw [bE]; omega)
 rw [ht]
 refine FrzL.same fun x hx => ?_
 obtain ⟨y, hy, hxy⟩ := List.mem_flatMap.1 hx
 obtain ⟨p, _, rfl⟩ := List.mem_map.1 hy
 have : x = .string p.1 ∨ x = .string p.2 := by simpa [pcv, Value.cells] using hxy
 rcases this with rfl | rfl <;> exact .scal rfl
def pcR (s : SB) : Value := .tuple ⟨[dat 2 (pv (pcs s 0 [] []).1), .int .i64 (pcs s 0 [] []).2]⟩
def PI (s : SB) (k : Nat) (F : T Value) (A : AH) : Prop := ∃ (i : Nat) (out : List (SB × SB)), F = frP s i out.length ∧ i + k = s.size ∧ out.length ≤ 2 * i ∧
 ((A = hPE (pv out) ∧ pcs s 0 [] [] = pcs s i [] out) ∨ ∃ txt, txt ≠ [] ∧ txt.length ≤ i ∧ A = hPN (pv out) (u8v txt) ∧ pcs s 0 [] [] = pcs s i txt out)
theorem AC (s : SB) (hs : s.size ≤ 1000000) (i k : Nat) (out : List (SB × SB)) (hk : i + k = s.size) (hn : out.length ≤ 2 * i) (hx : pcs s 0 [] [] = pcs s i [] out) :
 jPcE (fun v A => Frz A v (pcR s)) (fun F' A' => ∃ m', m' < k ∧ PI s m' F' A') s i out.length (pv out) := by
 refine (xT _ _ s i _ _).mpr ?_
 refine Sp.intro (fun c => ?_) (fun c => ?_)
 · have hlt : i < s.size := by simpa using c
   have hw := i64s i (by omega)
   have hw2 : IntKind.i64.wrap ((i : Int) + 2) = ((i + 2 : Nat) : Int) := by rw [aB (by omega) (by omega)]; rfl
   have hw3 : IntKind.i64.wrap (((i + 1 : Nat) : Int) + 1) = ((i + 2 : Nat) : Int) := by rw [aB (by omega) (by omega)]; omega
   have HP : HF (.agg ⟨pv out⟩) := .agg (eK out)
   have hpl : plB s i = true → ∃ m', m' < k ∧ PI s m' (frP s (i + 1) out.length) (hPN (pv out) [Value.int .u8 (ac s i)]) := fun h => by
    rw [bk hlt]
    exact ⟨k - 1, by omega, i + 1, out, rfl, by omega, by omega, .inr ⟨[bAt s i], by simp, by simp, rfl, by rw [hx, la hlt h]; rfl⟩⟩
   have hdd : plB s i = false → ac s ((i + 1 : Nat) : Int) = 36 → ∃ m', m' < k ∧ PI s m' (frP s (i + 2) out.length) (hPN (pv out) [Value.int .u8 36]) := fun h h2 => by
    have hb := (cM hlt h).2.1
    exact ⟨k - 2, by omega, i + 2, out, rfl, by omega, by omega, .inr ⟨[36], by simp, by simp, rfl, by rw [hx, lc hlt h h2]; rfl⟩⟩
   have HB : HF (.agg ⟨[Value.int .u8 (ac s i)]⟩) := .agg (HF.cons (.scal rfl) HF.nil)
   have HD : HF (.agg ⟨[Value.int .u8 36]⟩) := .agg (HF.cons (.scal rfl) HF.nil)
   simp only [hw, hw2, hw3]
   refine ⟨⟨by omega, by omega⟩, Sp.intro (fun c0 => ⟨⟨by omega, by omega⟩, HP, HB, hpl (by unfold plB; rw [c0]; rfl)⟩) (fun c0 => Sp.intro (fun c1 => ⟨⟨by omega, by omega⟩, HP, HB, hpl ?_⟩) (fun c1 => ?_))⟩
   · unfold plB; rw [show decide (i + 1 = s.size) = true by (have := odt c1; simp; omega)]; simp
   · have hi1 : i + 1 < s.size := by
      have : ¬ ((i : Int) + 1 = s.size) := by simpa using c1
      omega
     have hne : decide (i + 1 = s.size) = false := by simp; omega
     refine ⟨⟨by omega, by omega⟩, Sp.intro (fun c2 => ⟨⟨by omega, by omega⟩, Sp.intro (fun c3 => ⟨⟨by omega, by omega⟩, HP, HB, hpl ?_⟩) (fun c3 => ⟨⟨by omega, by omega⟩, Sp.intro (fun c4 => ⟨HP, HD, hdd ?_ (odt c4)⟩) (fun c4 => ?_)⟩)⟩) (fun c2 => ⟨⟨by omega, by omega⟩, Sp.intro (fun c4 => ⟨HP, HD, hdd ?_ (odt c4)⟩) (fun c4 => ?_)⟩)⟩
     · unfold plB; rw [c0, hne, c2, c3]; rfl
     · unfold plB; rw [c0, hne, c2, c3]; rfl
     rotate_left
     · unfold plB; rw [c0, hne, c2]; rfl
     all_goals
      have hP : plB s i = false := by
       unfold plB
       first
        | (rw [c0, hne, c2, c3]; rfl)
        | (rw [c0, hne, c2]; rfl)
      have h36 : ¬ ac s ((i + 1 : Nat) : Int) = 36 := odf c4
      refine ⟨⟨by omega, by omega⟩, Sp.intro (fun c5 => ?_) (fun c5 => ?_)⟩
      · have hb : badN s i = true := by unfold badN lenN; rw [c5]; rfl
        have e := hx.trans (cO hlt hP h36 hb _ _)
        unfold pcR; rw [e]
        exact .tuple (.cons (.nils 2) (.cons (.same (HFi _ _)) .nil))
      · have h5 : ¬ lenN s i < 0 := odf c5
        obtain ⟨hl1, hl2⟩ := iC hlt hP h36 h5
        have hwL : IntKind.i64.wrap ((i : Int) + ixB (subB s (i : Int) (s.size : Int)) 125) = ((i + (lenN s i).toNat : Nat) : Int) := by
         show IntKind.i64.wrap ((i : Int) + lenN s i) = _
         rw [aB (by omega) (by omega)]; omega
        have hwM : IntKind.i64.wrap (((i + (lenN s i).toNat : Nat) : Int) + 1) = ((i + (lenN s i).toNat + 1 : Nat) : Int) := by rw [aB (by omega) (by omega)]; omega
        simp only [hwL, hwM]
        have hsz : (subB s ((i + 2 : Nat) : Int) ((i + (lenN s i).toNat : Nat) : Int)).size < 9223372036854775808 := by
         rw [bD (by omega) (by omega)]; omega
        refine ⟨⟨by omega, by omega, by omega⟩, hsz, Sp.intro (fun c6 => ?_) (fun c6 => ⟨⟨by omega, by omega, by omega⟩, ⟨by rfl, by rw [bE]; rfl, by omega, by omega⟩, ?_⟩)⟩
        · have hb : badN s i = true := by unfold badN namN; rw [c6]; simp
          have e := hx.trans (cO hlt hP h36 hb _ _)
          unfold pcR; rw [e]
          exact .tuple (.cons (.nils 2) (.cons (.same (HFi _ _)) .nil))
        · have hb : badN s i = false := by
           unfold badN namN; rw [c6, decide_eq_false h5]; rfl
          have e := hx.trans (lb hlt hP h36 hb _ _)
          have epv : pv out ++ [Value.agg ⟨[Value.string ⟨⟨[]⟩⟩, Value.string ⟨⟨[]⟩⟩]⟩, Value.agg ⟨[Value.string ⟨⟨[]⟩⟩, Value.string (subB s ((i + 2 : Nat) : Int) ((i + (lenN s i).toNat : Nat) : Int))]⟩] = pv (out ++ [(aa [], aa []), (aa [], namN s i)]) := eO out [(aa [], aa []), (aa [], namN s i)]
          rw [epv]
          exact ⟨.agg (eK _), k - ((lenN s i).toNat + 1), by omega, i + (lenN s i).toNat + 1, out ++ [(aa [], aa []), (aa [], namN s i)], by rw [List.length_append]; rfl, by omega, by simp; omega, .inl ⟨rfl, e⟩⟩
 · have hge : ¬ i < s.size := by simp at c; omega
   have e := hx.trans (iq hge _ _)
   refine ⟨⟨by rfl, by rw [bE]; rfl, by omega, by omega⟩, ?_⟩
   unfold pcR; rw [e]
   exact .tuple (.cons (lA rfl (eO out [(aa [], aa [])]) (by simp)) (.cons (.same (HFi _ _)) .nil))
def hPM (els bs : List Value) (n : Nat) : AH := ⟨Nd (Nd Lf (some (.cells [.pointer (some ⟨1, 0, none⟩), .slice (some ⟨2, 0, none⟩) n unk] 190)) Lf) (some (.gro els [] 278)) (Nd Lf (some (.cells bs 5)) Lf), 3⟩
theorem fC (l : List UInt8) (b : UInt8) : (u8v l).length + 1 = (u8v (l ++ [b])).length := by simp [u8v]
theorem ff (l : List UInt8) : (u8v l).take ((u8v l).length * 1) ++ [Value.int .u8 36] = u8v (l ++ [36]) := eN l 36
theorem AB (s : SB) (hs : s.size ≤ 1000000) (i k : Nat) (out : List (SB × SB)) (txt : List UInt8) (ht0 : txt ≠ []) (ht : txt.length ≤ i) (hk : i + k = s.size) (hn : out.length ≤ 2 * i) (hx : pcs s 0 [] [] = pcs s i txt out) :
 jPcN (fun v A => Frz A v (pcR s)) (fun F' A' => ∃ m', m' < k ∧ PI s m' F' A') s i out.length (pv out) (u8v txt) := by
 have htl : 0 < txt.length := by rcases txt with _ | ⟨x, l⟩; exact absurd rfl ht0; simp
 have hul : (u8v txt).length = txt.length := aY txt
 refine (xS _ _ s i _ _ _).mpr ?_
 refine Sp.intro (fun c => ?_) (fun c => ?_)
 · have hlt : i < s.size := by simpa using c
   have hw := i64s i (by omega)
   have hw2 : IntKind.i64.wrap ((i : Int) + 2) = ((i + 2 : Nat) : Int) := by rw [aB (by omega) (by omega)]; rfl
   have hw3 : IntKind.i64.wrap (((i + 1 : Nat) : Int) + 1) = ((i + 2 : Nat) : Int) := by rw [aB (by omega) (by omega)]; omega
   have HP : HF (.agg ⟨pv out⟩) := .agg (eK out)
   have hpl : plB s i = true → ∃ m', m' < k ∧ PI s m' (frP s (i + 1) out.length) (hPM (pv out) ((u8v txt).take ((u8v txt).length * 1) ++ [Value.int .u8 (ac s i)]) ((u8v txt).length + 1)) := fun h => by
    rw [bk hlt, eN, fC txt (bAt s i)]
    exact ⟨k - 1, by omega, i + 1, out, rfl, by omega, by omega, .inr ⟨txt ++ [bAt s i], by simp, by simp; omega, rfl, by rw [hx, la hlt h]⟩⟩
   have hdd : plB s i = false → ac s ((i + 1 : Nat) : Int) = 36 → ∃ m', m' < k ∧ PI s m' (frP s (i + 2) out.length) (hPM (pv out) ((u8v txt).take ((u8v txt).length * 1) ++ [Value.int .u8 36]) ((u8v txt).length + 1)) := fun h h2 => by
    have hb := (cM hlt h).2.1
    rw [ff, fC txt 36]
    exact ⟨k - 2, by omega, i + 2, out, rfl, by omega, by omega, .inr ⟨txt ++ [36], by simp, by simp; omega, rfl, by rw [hx, lc hlt h h2]⟩⟩
   have HB : HF (.agg ⟨(u8v txt).take ((u8v txt).length * 1) ++ [Value.int .u8 (ac s i)]⟩) := by rw [bk hlt, eN]; exact .agg (aV _)
   have HD : HF (.agg ⟨(u8v txt).take ((u8v txt).length * 1) ++ [Value.int .u8 36]⟩) := by rw [ff]; exact .agg (aV _)
   have HC : (u8v txt).length + 1 ≤ 70368744177664 ∧ ((u8v txt).length + 1) * 1 ≤ 140737488355328 ∧ (u8v txt).length * 1 ≤ (u8v txt).length := ⟨by omega, by omega, by omega⟩
   simp only [hw, hw2, hw3]
   refine ⟨⟨by omega, by omega⟩, Sp.intro (fun c0 => ⟨⟨by omega, by omega⟩, HC, HP, HB, hpl (by unfold plB; rw [c0]; rfl)⟩) (fun c0 => Sp.intro (fun c1 => ⟨⟨by omega, by omega⟩, HC, HP, HB, hpl ?_⟩) (fun c1 => ?_))⟩
   · unfold plB; rw [show decide (i + 1 = s.size) = true by (have := odt c1; simp; omega)]; simp
   · have hi1 : i + 1 < s.size := by
      have : ¬ ((i : Int) + 1 = s.size) := by simpa using c1
      omega
     have hne : decide (i + 1 = s.size) = false := by simp; omega
     refine ⟨⟨by omega, by omega⟩, Sp.intro (fun c2 => ⟨⟨by omega, by omega⟩, Sp.intro (fun c3 => ⟨⟨by omega, by omega⟩, HC, HP, HB, hpl ?_⟩) (fun c3 => ⟨⟨by omega, by omega⟩, Sp.intro (fun c4 => ⟨HC, HP, HD, hdd ?_ (odt c4)⟩) (fun c4 => ?_)⟩)⟩) (fun c2 => ⟨⟨by omega, by omega⟩, Sp.intro (fun c4 => ⟨HC, HP, HD, hdd ?_ (odt c4)⟩) (fun c4 => ?_)⟩)⟩
     · unfold plB; rw [c0, hne, c2, c3]; rfl
     · unfold plB; rw [c0, hne, c2, c3]; rfl
     rotate_left
     · unfold plB; rw [c0, hne, c2]; rfl
     all_goals
      have hP : plB s i = false := by
       unfold plB
       first
        | (rw [c0, hne, c2, c3]; rfl)
        | (rw [c0, hne, c2]; rfl)
      have h36 : ¬ ac s ((i + 1 : Nat) : Int) = 36 := odf c4
      refine ⟨⟨by omega, by omega⟩, Sp.intro (fun c5 => ?_) (fun c5 => ?_)⟩
      · have hb : badN s i = true := by unfold badN lenN; rw [c5]; rfl
        have e := hx.trans (cO hlt hP h36 hb _ _)
        unfold pcR; rw [e]
        exact .tuple (.cons (.nils 2) (.cons (.same (HFi _ _)) .nil))
      · have h5 : ¬ lenN s i < 0 := odf c5
        obtain ⟨hl1, hl2⟩ := iC hlt hP h36 h5
        have hwL : IntKind.i64.wrap ((i : Int) + ixB (subB s (i : Int) (s.size : Int)) 125) = ((i + (lenN s i).toNat : Nat) : Int) := by
         show IntKind.i64.wrap ((i : Int) + lenN s i) = _
         rw [aB (by omega) (by omega)]; omega
        have hwM : IntKind.i64.wrap (((i + (lenN s i).toNat : Nat) : Int) + 1) = ((i + (lenN s i).toNat + 1 : Nat) : Int) := by rw [aB (by omega) (by omega)]; omega
        simp only [hwL, hwM]
        have hsz : (subB s ((i + 2 : Nat) : Int) ((i + (lenN s i).toNat : Nat) : Int)).size < 9223372036854775808 := by
         rw [bD (by omega) (by omega)]; omega
        refine ⟨⟨by omega, by omega, by omega⟩, hsz, Sp.intro (fun c6 => ?_) (fun c6 => ⟨⟨dL txt, by omega, by omega⟩, ⟨by omega, by omega, by omega⟩, ⟨by rfl, by rw [bE]; rfl, by omega, by omega⟩, ?_⟩)⟩
        · have hb : badN s i = true := by unfold badN namN; rw [c6]; simp
          have e := hx.trans (cO hlt hP h36 hb _ _)
          unfold pcR; rw [e]
          exact .tuple (.cons (.nils 2) (.cons (.same (HFi _ _)) .nil))
        · have hb : badN s i = false := by
           unfold badN namN; rw [c6, decide_eq_false h5]; rfl
          have e := hx.trans (lb hlt hP h36 hb _ _)
          have epv : pv out ++ [Value.agg ⟨[Value.string (aa txt), Value.string ⟨⟨[]⟩⟩]⟩, Value.agg ⟨[Value.string ⟨⟨[]⟩⟩, Value.string (subB s ((i + 2 : Nat) : Int) ((i + (lenN s i).toNat : Nat) : Int))]⟩] = pv (out ++ [(aa txt, aa []), (aa [], namN s i)]) := eO out [(aa txt, aa []), (aa [], namN s i)]
          rw [u8_L, epv]
          exact ⟨.agg (eK _), k - ((lenN s i).toNat + 1), by omega, i + (lenN s i).toNat + 1, out ++ [(aa txt, aa []), (aa [], namN s i)], by rw [List.length_append]; rfl, by omega, by simp; omega, .inl ⟨rfl, e⟩⟩
 · have hge : ¬ i < s.size := by simp at c; omega
   have e := hx.trans (iq hge _ _)
   refine ⟨⟨dL txt, by omega, by omega⟩, ⟨by rfl, by rw [bE]; rfl, by omega, by omega⟩, ?_⟩
   unfold pcR; rw [e, u8_L]
   exact .tuple (.cons (lA rfl (eO out [(aa txt, aa [])]) (by simp)) (.cons (.same (HFi _ _)) .nil))
theorem P_loop (s : SB) (hs : s.size ≤ 1000000) : LAtZ XP 4 ntP ⟨.leaf, 0⟩ bdP [1, 1, 1, 0, 1, 0] (wS (fun v A => Frz A v (pcR s))) (frP s 0 0) (hPE []) := by
 refine LAtZ.step XP_ok rfl [(.slot 4, 278, 2)] [] [5] [0, 4, 5, 6] (by kernel_rfl) (PI s) ?_ (k := s.size) ⟨0, [], rfl, by simp, by simp, .inl ⟨rfl, rfl⟩⟩
 rintro k F A ⟨i, out, rfl, hk, hn, h | ⟨txt, h0, h1, h⟩⟩
 · obtain ⟨rfl, hx⟩ := h
   exact AC s hs i k out hk hn hx
 · obtain ⟨rfl, hx⟩ := h
   exact AB s hs i k out txt h0 h1 hk hn hx
theorem wd (s : SB) (hs : s.size ≤ 1000000) : bt envX f172 [.string s] ⟨.leaf, 0⟩ (pcR s) := by
 refine al XP_ok (d := 4) ((jPc_nf _ s).mpr ⟨.agg HF.nil, ?_⟩)
 exact P_loop s hs
def pcX : List Value → Option Value
 | [.string s] => some (.tuple ⟨[.func (.yield 2) ⟨pv (pcs s 0 [] []).1⟩ ⟨[]⟩, .int .i64 (pcs s 0 [] []).2]⟩)
 | _ => none
def pcPre : List Value → Option Prop
 | [.string s] => some (s.size ≤ 1000000)
 | _ => none
theorem pc_tab : ∀ args A p v A', aj pcPre pcX args A = some (p, v, A') → PH p → an envX 172 args A v A' := ai ag ah (fn := f172) rfl fun args v h hp => by
 unfold pcX at h
 split at h
 · simp only [osI] at h
   subst h
   exact ⟨HF.cons (.scal rfl) HF.nil, wd _ hp⟩
 · cases h
end
end Go.T9

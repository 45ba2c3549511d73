/- A part of the proof. -/
import Derived.Test.YtgbjgffiejlooaaGreatDoorR
import Derived.Test.YtgbjgffiejlooaaGreatDoorV
import Derived.KernelRfl
import Derived.Test.YtgbjgffiejlooaaGreatDoorX4
set_option linter.unusedVariables false
set_option linter.unusedSimpArgs false
set_option maxRecDepth 1000000
namespace Go.T9
open Go Go.AM Go.Shelf Go.Proofs
noncomputable section
def ren164 : Ren := ⟨fun x => match x with | 164 => 170 | 197 => 181 | 239 => 203 | 260 => 216 | 274 => 233 | 275 => 234 | n => n, fun x => match x with | 0 => 0 | 3 => 3 | 4 => 4 | 5 => 5 | 9 => 9 | 21 => 21 | 46 => 119 | 49 => 305 | 51 => 170 | 105 => 257 | 119 => 317 | 138 => 319 | 139 => 320 | 156 => 306 | 157 => 307 | 159 => 309 | 160 => 310 | 162 => 312 | 206 => 343 | 208 => 345 | n => n, fun x => match x with | 3 => 4 | 4 => 5 | 11 => 0 | 12 => 1 | 13 => 2 | n => n⟩
theorem wL : Proofs.Lays.n164 env.P ren164 where
 mixed := env_ok.mixed
 f164 := env_ok.fn 170 (Proofs.Body.n164 ren164) (by kernel_rfl)
 f197 := env_ok.fn 181 (Proofs.Body.n197 ren164) (by kernel_rfl)
 f239 := env_ok.fn 203 (Proofs.Body.n239 ren164) (by kernel_rfl)
 f260 := env_ok.fn 216 (Proofs.Body.n260 ren164) (by kernel_rfl)
 f274 := env_ok.fn 233 (Proofs.Body.n274 ren164) (by kernel_rfl)
 f275 := env_ok.fn 234 (Proofs.Body.n275 ren164) (by kernel_rfl)
 t0 := ap env_ok (t := 0) (by kernel_rfl)
 a0 := fun w => am env_ok (t := 0) (d := (TypeDesc.tuple #[])) (by kernel_rfl) w
 z0 := fun w => ab env_ok (t := 0) (i := Tryz.t0) (by kernel_rfl) w
 v0 := fun w => ak env_ok (t := 0) (i := Tryz.t0) (by kernel_rfl) (by kernel_rfl) w
 t3 := ap env_ok (t := 3) (by kernel_rfl)
 a3 := fun w => am env_ok (t := 3) (d := (TypeDesc.int IntKind.i64)) (by kernel_rfl) w
 z3 := fun w => ab env_ok (t := 3) (i := Tryz.t3) (by kernel_rfl) w
 v3 := fun w => ak env_ok (t := 3) (i := Tryz.t3) (by kernel_rfl) (by kernel_rfl) w
 t4 := ap env_ok (t := 4) (by kernel_rfl)
 a4 := fun w => am env_ok (t := 4) (d := (TypeDesc.bool)) (by kernel_rfl) w
 z4 := fun w => ab env_ok (t := 4) (i := Tryz.t4) (by kernel_rfl) w
 v4 := fun w => ak env_ok (t := 4) (i := Tryz.t4) (by kernel_rfl) (by kernel_rfl) w
 t5 := ap env_ok (t := 5) (by kernel_rfl)
 a5 := fun w => am env_ok (t := 5) (d := (TypeDesc.int IntKind.u8)) (by kernel_rfl) w
 z5 := fun w => ab env_ok (t := 5) (i := Tryz.t5) (by kernel_rfl) w
 v5 := fun w => ak env_ok (t := 5) (i := Tryz.t5) (by kernel_rfl) (by kernel_rfl) w
 t9 := ap env_ok (t := 9) (by kernel_rfl)
 a9 := fun w => am env_ok (t := 9) (d := (TypeDesc.string)) (by kernel_rfl) w
 z9 := fun w => ab env_ok (t := 9) (i := Tryz.t9) (by kernel_rfl) w
 v9 := fun w => ak env_ok (t := 9) (i := Tryz.t9) (by kernel_rfl) (by kernel_rfl) w
 t21 := ap env_ok (t := 21) (by kernel_rfl)
 a21 := fun w => am env_ok (t := 21) (d := (TypeDesc.int IntKind.i32)) (by kernel_rfl) w
 z21 := fun w => ab env_ok (t := 21) (i := Tryz.t21) (by kernel_rfl) w
 v21 := fun w => ak env_ok (t := 21) (i := Tryz.t21) (by kernel_rfl) (by kernel_rfl) w
 t46 := ap env_ok (t := 119) (by kernel_rfl)
 a46 := fun w => am env_ok (t := 119) (d := (TypeDesc.int IntKind.u64)) (by kernel_rfl) w
 z46 := fun w => ab env_ok (t := 119) (i := Tryz.t119) (by kernel_rfl) w
 v46 := fun w => ak env_ok (t := 119) (i := Tryz.t119) (by kernel_rfl) (by kernel_rfl) w
 t49 := ap env_ok (t := 305) (by kernel_rfl)
 a49 := fun w => am env_ok (t := 305) (d := (TypeDesc.int IntKind.u16)) (by kernel_rfl) w
 z49 := fun w => ab env_ok (t := 305) (i := Tryz.t305) (by kernel_rfl) w
 v49 := fun w => ak env_ok (t := 305) (i := Tryz.t305) (by kernel_rfl) (by kernel_rfl) w
 t51 := ap env_ok (t := 170) (by kernel_rfl)
 a51 := fun w => am env_ok (t := 170) (d := (TypeDesc.int IntKind.u32)) (by kernel_rfl) w
 z51 := fun w => ab env_ok (t := 170) (i := Tryz.t170) (by kernel_rfl) w
 v51 := fun w => ak env_ok (t := 170) (i := Tryz.t170) (by kernel_rfl) (by kernel_rfl) w
 t105 := ap env_ok (t := 257) (by kernel_rfl)
 a105 := fun w => am env_ok (t := 257) (d := (TypeDesc.tuple #[ren164.t 21, ren164.t 3])) (by kernel_rfl) w
 z105 := fun w => ab env_ok (t := 257) (i := Tryz.t257) (by kernel_rfl) w
 v105 := fun w => ak env_ok (t := 257) (i := Tryz.t257) (by kernel_rfl) (by kernel_rfl) w
 t119 := ap env_ok (t := 317) (by kernel_rfl)
 a119 := fun w => am env_ok (t := 317) (d := (TypeDesc.array 256 (ren164.t 5))) (by kernel_rfl) w
 z119 := fun w => ab env_ok (t := 317) (i := Tryz.t317) (by kernel_rfl) w
 t138 := ap env_ok (t := 319) (by kernel_rfl)
 a138 := fun w => am env_ok (t := 319) (d := (TypeDesc.struct #[{ name := "lo", type := ren164.t 5, offset := 0, embedded := false, tag := "", pkgPath := "unicode/utf8", byteOffset := 0 }, { name := "hi", type := ren164.t 5, offset := 1, embedded := false, tag := "", pkgPath := "unicode/utf8", byteOffset := 1 }])) (by kernel_rfl) w
 z138 := fun w => ab env_ok (t := 319) (i := Tryz.t319) (by kernel_rfl) w
 v138 := fun w => ak env_ok (t := 319) (i := Tryz.t319) (by kernel_rfl) (by kernel_rfl) w
 t139 := ap env_ok (t := 320) (by kernel_rfl)
 a139 := fun w => am env_ok (t := 320) (d := (TypeDesc.array 16 (ren164.t 138))) (by kernel_rfl) w
 z139 := fun w => ab env_ok (t := 320) (i := Tryz.t320) (by kernel_rfl) w
 v139 := fun w => ak env_ok (t := 320) (i := Tryz.t320) (by kernel_rfl) (by kernel_rfl) w
 t156 := ap env_ok (t := 306) (by kernel_rfl)
 a156 := fun w => am env_ok (t := 306) (d := (TypeDesc.array 128 (ren164.t 49))) (by kernel_rfl) w
 z156 := fun w => ab env_ok (t := 306) (i := Tryz.t306) (by kernel_rfl) w
 t157 := ap env_ok (t := 307) (by kernel_rfl)
 a157 := fun w => am env_ok (t := 307) (d := (TypeDesc.slice (ren164.t 159))) (by kernel_rfl) w
 z157 := fun w => ab env_ok (t := 307) (i := Tryz.t307) (by kernel_rfl) w
 v157 := fun w => ak env_ok (t := 307) (i := Tryz.t307) (by kernel_rfl) (by kernel_rfl) w
 t159 := ap env_ok (t := 309) (by kernel_rfl)
 a159 := fun w => am env_ok (t := 309) (d := (TypeDesc.struct #[{ name := "From", type := ren164.t 49, offset := 0, embedded := false, tag := "", pkgPath := "", byteOffset := 0 }, { name := "To", type := ren164.t 49, offset := 1, embedded := false, tag := "", pkgPath := "", byteOffset := 2 }])) (by kernel_rfl) w
 z159 := fun w => ab env_ok (t := 309) (i := Tryz.t309) (by kernel_rfl) w
 v159 := fun w => ak env_ok (t := 309) (i := Tryz.t309) (by kernel_rfl) (by kernel_rfl) w
 t160 := ap env_ok (t := 310) (by kernel_rfl)
 a160 := fun w => am env_ok (t := 310) (d := (TypeDesc.pointer (ren164.t 208))) (by kernel_rfl) w
 z160 := fun w => ab env_ok (t := 310) (i := Tryz.t310) (by kernel_rfl) w
 v160 := fun w => ak env_ok (t := 310) (i := Tryz.t310) (by kernel_rfl) (by kernel_rfl) w
 t162 := ap env_ok (t := 312) (by kernel_rfl)
 a162 := fun w => am env_ok (t := 312) (d := (TypeDesc.slice (ren164.t 208))) (by kernel_rfl) w
 z162 := fun w => ab env_ok (t := 312) (i := Tryz.t312) (by kernel_rfl) w
 v162 := fun w => ak env_ok (t := 312) (i := Tryz.t312) (by kernel_rfl) (by kernel_rfl) w
 t206 := ap env_ok (t := 343) (by kernel_rfl)
 a206 := fun w => am env_ok (t := 343) (d := (TypeDesc.array 3 (ren164.t 21))) (by kernel_rfl) w
 z206 := fun w => ab env_ok (t := 343) (i := Tryz.t343) (by kernel_rfl) w
 v206 := fun w => ak env_ok (t := 343) (i := Tryz.t343) (by kernel_rfl) (by kernel_rfl) w
 t208 := ap env_ok (t := 345) (by kernel_rfl)
 a208 := fun w => am env_ok (t := 345) (d := (TypeDesc.struct #[{ name := "Lo", type := ren164.t 51, offset := 0, embedded := false, tag := "", pkgPath := "", byteOffset := 0 }, { name := "Hi", type := ren164.t 51, offset := 1, embedded := false, tag := "", pkgPath := "", byteOffset := 4 }, { name := "Delta", type := ren164.t 206, offset := 2, embedded := false, tag := "", pkgPath := "", byteOffset := 8 }])) (by kernel_rfl) w
 z208 := fun w => ab env_ok (t := 345) (i := Tryz.t345) (by kernel_rfl) w
 v208 := fun w => ak env_ok (t := 345) (i := Tryz.t345) (by kernel_rfl) (by kernel_rfl) w
 g3 := by kernel_rfl
 g4 := by kernel_rfl
 g11 := by kernel_rfl
 g12 := by kernel_rfl
 g13 := by kernel_rfl
end
end Go.T9
set_option maxHeartbeats 4000000
namespace Go.T9
open Go Go.AM Go.MK Go.Proofs.Tryz
noncomputable section
theorem jHn_nf (K : KV) (s : SB) : jHn K s = (s.size < 9223372036854775808 ∧ K (Vb (decide ((bif tokS s then (0 : Int) else 8) = 0))) (AH.mk Lf 0)) := by kernel_rfl
theorem jIt_nf (K : KV) (s : SB) : jIt K s = (s.size < 9223372036854775808 ∧ K (Vb (decide ((bif tokS s then (0 : Int) else 8) = 0))) (AH.mk Lf 0)) := by kernel_rfl
theorem oT (s : SB) : decide ((bif tokS s then (0 : Int) else 8) = 0) = tokS s := by cases tokS s <;> rfl
theorem yW (s : SB) (hs : s.size < 9223372036854775808) : Walk envX f116 [.string s] (.bool (tokS s)) := by
 refine be ur (d := 2) ((jHn_nf _ s).mpr ⟨hs, ?_⟩)
 rw [oT]; exact .same (HFb _)
theorem yO (s : SB) (hs : s.size < 9223372036854775808) : Walk envX f121 [.string s] (.bool (tokS s)) := by
 refine be ur (d := 2) ((jIt_nf _ s).mpr ⟨hs, ?_⟩)
 rw [oT]; exact .same (HFb _)
theorem tL : ∀ args A p v A', aj bg trX args A = some (p, v, A') → PH p → an envX 116 args A v A' := ai ag ah (fn := f116) rfl fun args v h hp => by
 unfold trX at h
 split at h
 · simp only [osI] at h
   subst h
   exact ⟨HF.cons (.scal rfl) HF.nil, yW _ hp⟩
 · cases h
theorem tK : ∀ args A p v A', aj bg trX args A = some (p, v, A') → PH p → an envX 121 args A v A' := ai ag ah (fn := f121) rfl fun args v h hp => by
 unfold trX at h
 split at h
 · simp only [osI] at h
   subst h
   exact ⟨HF.cons (.scal rfl) HF.nil, yO _ hp⟩
 · cases h
theorem fo_tab : ∀ args A p v A', aj ka rR args A = some (p, v, A') → PH p → an envX 170 args A v A' := toX (zi wL rfl)
def tabFm : Tab := [(170, aj ka rR), (174, aj bg smX)]
theorem qu : TabOk envX tabFm := .cons fo_tab (.cons st_tab .nil)
def XFm : SX := ⟨envX, tabFm, noEl, fun _ => .unroll 0⟩
theorem ut : XFm.Ok := ⟨ag, aw, ah, qu⟩
def jFm (K : KV) (s : SB) : Prop := sxFn XFm 2 f117 [.string s] K
def jFr (K : KV) (s : SB) : Prop := sxFn XFm 2 f122 [.string s] K
theorem rQ (x y : UInt8) : Lib.foldEq x y = decide (lowB x = lowB y) := by
 unfold Lib.foldEq
 refine decide_eq_decide.2 ?_
 rw [← UInt8.toNat_inj]
 have hx := iS x
 have hy := iS y
 have e : ∀ n, n < 256 → (UInt8.ofNat n).toNat = n := fun n h => by have := cZ h; omega
 unfold lowB
 split <;> split
 · rw [e _ (by omega), e _ (by omega)]; omega
 · rw [e _ (by omega)]; omega
 · rw [e _ (by omega)]; omega
 · omega
theorem j9 : ∀ (a b : List UInt8), Lib.equalFold a b = eqL (a.map lowB) (b.map lowB)
 | [], [] => rfl
 | [], y :: b => rfl
 | x :: a, [] => rfl
 | x :: a, y :: b => by
   show (Lib.foldEq x y && Lib.equalFold a b) = eqL (lowB x :: a.map lowB) (lowB y :: b.map lowB)
   rw [rQ, j9 a b, kf, kf]
   by_cases h : lowB x = lowB y
   · simp [h]
   · simp [h]
theorem jFm_nf (K : KV) (s : SB) : jFm K s = ((s.size < 4294967281 ∧ (∀ (b : UInt8), b ∈ s.data.toList → UInt8.toNat b < 128) ∧ ∀ (b : UInt8), b ∈ [(67 : UInt8), (111 : UInt8), (110 : UInt8), (116 : UInt8), (101 : UInt8), (110 : UInt8), (116 : UInt8), (45 : UInt8), (76 : UInt8), (101 : UInt8), (110 : UInt8), (103 : UInt8), (116 : UInt8), (104 : UInt8)] → UInt8.toNat b < 128) ∧ Sp (Go.Lib.equalFold s.data.toList [(67 : UInt8), (111 : UInt8), (110 : UInt8), (116 : UInt8), (101 : UInt8), (110 : UInt8), (116 : UInt8), (45 : UInt8), (76 : UInt8), (101 : UInt8), (110 : UInt8), (103 : UInt8), (116 : UInt8), (104 : UInt8)]) (K (Vb true) (AH.mk Lf 0)) ((s.size < 4294967281 ∧ (∀ (b : UInt8), b ∈ s.data.toList → UInt8.toNat b < 128) ∧ ∀ (b : UInt8), b ∈ [(84 : UInt8), (114 : UInt8), (97 : UInt8), (110 : UInt8), (115 : UInt8), (102 : UInt8), (101 : UInt8), (114 : UInt8), (45 : UInt8), (69 : UInt8), (110 : UInt8), (99 : UInt8), (111 : UInt8), (100 : UInt8), (105 : UInt8), (110 : UInt8), (103 : UInt8)] → UInt8.toNat b < 128) ∧ K (Vb (Go.Lib.equalFold s.data.toList [(84 : UInt8), (114 : UInt8), (97 : UInt8), (110 : UInt8), (115 : UInt8), (102 : UInt8), (101 : UInt8), (114 : UInt8), (45 : UInt8), (69 : UInt8), (110 : UInt8), (99 : UInt8), (111 : UInt8), (100 : UInt8), (105 : UInt8), (110 : UInt8), (103 : UInt8)])) (AH.mk Lf 0))) := by kernel_rfl
theorem jFr_nf (K : KV) (s : SB) : jFr K s = (s.size < 9223372036854775808 ∧ Sp (eqL (smS s).data.toList (ByteArray.mk #[(99 : UInt8), (111 : UInt8), (110 : UInt8), (116 : UInt8), (101 : UInt8), (110 : UInt8), (116 : UInt8), (45 : UInt8), (108 : UInt8), (101 : UInt8), (110 : UInt8), (103 : UInt8), (116 : UInt8), (104 : UInt8)]).data.toList) (K (Vb true) (AH.mk Lf 0)) (K (Vb (eqL (smS s).data.toList (ByteArray.mk #[(116 : UInt8), (114 : UInt8), (97 : UInt8), (110 : UInt8), (115 : UInt8), (102 : UInt8), (101 : UInt8), (114 : UInt8), (45 : UInt8), (101 : UInt8), (110 : UInt8), (99 : UInt8), (111 : UInt8), (100 : UInt8), (105 : UInt8), (110 : UInt8), (103 : UInt8)]).data.toList)) (AH.mk Lf 0))) := by kernel_rfl
def clL : List UInt8 := [99, 111, 110, 116, 101, 110, 116, 45, 108, 101, 110, 103, 116, 104]
def teL : List UInt8 := [116, 114, 97, 110, 115, 102, 101, 114, 45, 101, 110, 99, 111, 100, 105, 110, 103]
def frmB (s : SB) : Bool := eqL (s.data.toList.map lowB) clL || eqL (s.data.toList.map lowB) teL
theorem fm_cl (s : SB) : Lib.equalFold s.data.toList [67, 111, 110, 116, 101, 110, 116, 45, 76, 101, 110, 103, 116, 104] = eqL (s.data.toList.map lowB) clL := by
 rw [j9]; rfl
theorem fm_te (s : SB) : Lib.equalFold s.data.toList [84, 114, 97, 110, 115, 102, 101, 114, 45, 69, 110, 99, 111, 100, 105, 110, 103] = eqL (s.data.toList.map lowB) teL := by
 rw [j9]; rfl
theorem zk (s : SB) (hs : s.size < 4294967281) (ha : ∀ b ∈ s.data.toList, b.toNat < 128) : Walk envX f117 [.string s] (.bool (frmB s)) := by
 refine be ut (d := 2) ((jFm_nf _ s).mpr ⟨⟨hs, ha, by decide⟩, ?_⟩)
 rw [fm_cl, fm_te]
 unfold frmB
 cases eqL (s.data.toList.map lowB) clL with
 | true => exact .same (HFb _)
 | false => exact ⟨⟨hs, ha, by decide⟩, .same (HFb _)⟩
theorem za (s : SB) (hs : s.size < 9223372036854775808) : Walk envX f122 [.string s] (.bool (frmB s)) := by
 refine be ut (d := 2) ((jFr_nf _ s).mpr ⟨hs, ?_⟩)
 have e : (smS s).data.toList = s.data.toList.map lowB := iz _
 rw [e]
 show Sp (eqL (s.data.toList.map lowB) clL) _ (Frz _ (.bool (eqL (s.data.toList.map lowB) teL)) _)
 unfold frmB
 cases eqL (s.data.toList.map lowB) clL with
 | true => exact .same (HFb _)
 | false => exact .same (HFb _)
def fmX : List Value → Option Value
 | [.string s] => some (.bool (frmB s))
 | _ => none
def fmPre : List Value → Option Prop
 | [.string s] => some (s.size < 4294967281 ∧ ∀ b ∈ s.data.toList, b.toNat < 128)
 | _ => none
theorem fm_tab : ∀ args A p v A', aj fmPre fmX args A = some (p, v, A') → PH p → an envX 117 args A v A' := ai ag ah (fn := f117) rfl fun args v h hp => by
 unfold fmX at h
 split at h
 · simp only [osI] at h
   subst h
   exact ⟨HF.cons (.scal rfl) HF.nil, zk _ hp.1 hp.2⟩
 · cases h
theorem fr_tab : ∀ args A p v A', aj bg fmX args A = some (p, v, A') → PH p → an envX 122 args A v A' := ai ag ah (fn := f122) rfl fun args v h hp => by
 unfold fmX at h
 split at h
 · simp only [osI] at h
   subst h
   exact ⟨HF.cons (.scal rfl) HF.nil, za _ hp⟩
 · cases h
theorem mj : ∀ b ∈ setB.data.toList, b.toNat < 128 := by decide
theorem nh {s : SB} (h : tokS s = true) : ∀ b ∈ s.data.toList, b.toNat < 128 := by
 intro b hb
 have h1 : tkL s = true := by
  cases hq : tkL s with
  | true => rfl
  | false => rw [kH hq] at h; cases h
 have h2 := List.all_eq_true.1 h1 b hb
 unfold tkB lB dB at h2
 simp only [Bool.or_eq_true, Bool.and_eq_true, decide_eq_true_eq] at h2
 rcases h2 with (((⟨_, h2⟩ | ⟨_, h2⟩) | ⟨_, h2⟩) | h2)
 · omega
 · omega
 · omega
 · unfold anyB at h2
   obtain ⟨c, hc, he⟩ := List.any_eq_true.1 h2
   have := mj c hc
   have := odt he
   omega
def tabTe : Tab := [(119, aj (fun _ => none) ctX), (71, aj (fun _ => none) ctX)]
theorem qe : TabOk envX tabTe := .cons po (.cons nI .nil)
def XTe : SX := ⟨envX, tabTe, noEl, fun _ => .unroll 3⟩
theorem ue : XTe.Ok := ⟨ag, aw, ah, qe⟩
def tsv (r : Int) (a b : SB) (x y : Int) : Value := .agg ⟨[.int .i64 r, .string a, .string b, .int .i64 x, .int .i64 y]⟩
def jTs (K : KV) (r : Int) (a b : SB) (x y : Int) : Prop := ay XTe 3 f68 [tsv r a b x y] ⟨.leaf, 0⟩ K
def jTq (K : KV) (r : Int) (a b : SB) (x y : Int) : Prop := ay XTe 3 f72 [tsv r a b x y] ⟨.leaf, 0⟩ K
theorem jTs_nf (K : KV) (r : Int) (a b : SB) (x y : Int) : jTs K r a b x y = (Sp (decide (r < 1)) (K (Vi 7) (AH.mk (Sg (AObj.cells [Vi r, Vs a, Vs b, Vi x, Vi y] 85)) 1)) (Sp (decide (5 < r)) (K (Vi 7) (AH.mk (Sg (AObj.cells [Vi r, Vs a, Vs b, Vi x, Vi y] 85)) 1)) (Sp (!decide (r = 5)) (Sp (!decide (qE a = 0)) (Sp (!decide (qE a = 0)) (K (Vi (qE a)) (AH.mk (Ns (Sg (AObj.cells [Vs a, Vs b] 9)) (AObj.cells [Vi r, Vs a, Vs b, Vi x, Vi y] 85) Lf) 2)) (Sp (!decide (x = 0)) (K (Vi 2) (AH.mk (Ns (Sg (AObj.cells [Vs a, Vs b] 9)) (AObj.cells [Vi r, Vs a, Vs b, Vi x, Vi y] 85) Lf) 2)) (Sp (!decide (y = 0)) (K (Vi 2) (AH.mk (Ns (Sg (AObj.cells [Vs a, Vs b] 9)) (AObj.cells [Vi r, Vs a, Vs b, Vi x, Vi y] 85) Lf) 2)) (K (Vi 0) (AH.mk (Ns (Sg (AObj.cells [Vs a, Vs b] 9)) (AObj.cells [Vi r, Vs a, Vs b, Vi x, Vi y] 85) Lf) 2))))) (Sp (!decide (qE b = 0)) (Sp (!decide (qE b = 0)) (K (Vi (qE b)) (AH.mk (Ns (Sg (AObj.cells [Vs a, Vs b] 9)) (AObj.cells [Vi r, Vs a, Vs b, Vi x, Vi y] 85) Lf) 2)) (Sp (!decide (x = 0)) (K (Vi 2) (AH.mk (Ns (Sg (AObj.cells [Vs a, Vs b] 9)) (AObj.cells [Vi r, Vs a, Vs b, Vi x, Vi y] 85) Lf) 2)) (Sp (!decide (y = 0)) (K (Vi 2) (AH.mk (Ns (Sg (AObj.cells [Vs a, Vs b] 9)) (AObj.cells [Vi r, Vs a, Vs b, Vi x, Vi y] 85) Lf) 2)) (K (Vi 0) (AH.mk (Ns (Sg (AObj.cells [Vs a, Vs b] 9)) (AObj.cells [Vi r, Vs a, Vs b, Vi x, Vi y] 85) Lf) 2))))) (Sp (!decide (x = 0)) (K (Vi 2) (AH.mk (Ns (Sg (AObj.cells [Vs a, Vs b] 9)) (AObj.cells [Vi r, Vs a, Vs b, Vi x, Vi y] 85) Lf) 2)) (Sp (!decide (y = 0)) (K (Vi 2) (AH.mk (Ns (Sg (AObj.cells [Vs a, Vs b] 9)) (AObj.cells [Vi r, Vs a, Vs b, Vi x, Vi y] 85) Lf) 2)) (K (Vi 0) (AH.mk (Ns (Sg (AObj.cells [Vs a, Vs b] 9)) (AObj.cells [Vi r, Vs a, Vs b, Vi x, Vi y] 85) Lf) 2)))))) (Sp (!eqL a.data.toList (ByteArray.mk #[]).data.toList) (K (Vi 2) (AH.mk (Sg (AObj.cells [Vi r, Vs a, Vs b, Vi x, Vi y] 85)) 1)) (Sp (!eqL b.data.toList (ByteArray.mk #[]).data.toList) (K (Vi 2) (AH.mk (Sg (AObj.cells [Vi r, Vs a, Vs b, Vi x, Vi y] 85)) 1)) (Sp (decide (x < 0)) (K (Vi 9) (AH.mk (Sg (AObj.cells [Vi r, Vs a, Vs b, Vi x, Vi y] 85)) 1)) (Sp (decide (y < x)) (K (Vi 9) (AH.mk (Sg (AObj.cells [Vi r, Vs a, Vs b, Vi x, Vi y] 85)) 1)) (Sp (decide (599 < y)) (K (Vi 9) (AH.mk (Sg (AObj.cells [Vi r, Vs a, Vs b, Vi x, Vi y] 85)) 1)) (K (Vi 0) (AH.mk (Sg (AObj.cells [Vi r, Vs a, Vs b, Vi x, Vi y] 85)) 1)))))))))) := by kernel_rfl
theorem jTq_nf (K : KV) (r : Int) (a b : SB) (x y : Int) : jTq K r a b x y = (Sp (decide (r < 1)) (K (Vi 7) (AH.mk (Sg (AObj.cells [Vi r, Vs a, Vs b, Vi x, Vi y] 85)) 1)) (Sp (decide (5 < r)) (K (Vi 7) (AH.mk (Sg (AObj.cells [Vi r, Vs a, Vs b, Vi x, Vi y] 85)) 1)) (Sp (!decide (r = 5)) (Sp (!decide (qE a = 0)) (K (Vi (qE a)) (AH.mk (Ns (Sg (AObj.cells [Vs a, Vs b] 9)) (AObj.cells [Vi r, Vs a, Vs b, Vi x, Vi y] 85) Lf) 2)) (Sp (!decide (qE b = 0)) (K (Vi (qE b)) (AH.mk (Ns (Sg (AObj.cells [Vs a, Vs b] 9)) (AObj.cells [Vi r, Vs a, Vs b, Vi x, Vi y] 85) Lf) 2)) (Sp (!decide (x = 0)) (K (Vi 2) (AH.mk (Ns (Sg (AObj.cells [Vs a, Vs b] 9)) (AObj.cells [Vi r, Vs a, Vs b, Vi x, Vi y] 85) Lf) 2)) (Sp (!decide (y = 0)) (K (Vi 2) (AH.mk (Ns (Sg (AObj.cells [Vs a, Vs b] 9)) (AObj.cells [Vi r, Vs a, Vs b, Vi x, Vi y] 85) Lf) 2)) (K (Vi 0) (AH.mk (Ns (Sg (AObj.cells [Vs a, Vs b] 9)) (AObj.cells [Vi r, Vs a, Vs b, Vi x, Vi y] 85) Lf) 2)))))) (Sp (!eqL a.data.toList (ByteArray.mk #[]).data.toList) (K (Vi 2) (AH.mk (Sg (AObj.cells [Vi r, Vs a, Vs b, Vi x, Vi y] 85)) 1)) (Sp (!eqL b.data.toList (ByteArray.mk #[]).data.toList) (K (Vi 2) (AH.mk (Sg (AObj.cells [Vi r, Vs a, Vs b, Vi x, Vi y] 85)) 1)) (Sp (decide (x < 0)) (K (Vi 9) (AH.mk (Sg (AObj.cells [Vi r, Vs a, Vs b, Vi x, Vi y] 85)) 1)) (Sp (decide (y < x)) (K (Vi 9) (AH.mk (Sg (AObj.cells [Vi r, Vs a, Vs b, Vi x, Vi y] 85)) 1)) (Sp (decide (599 < y)) (K (Vi 9) (AH.mk (Sg (AObj.cells [Vi r, Vs a, Vs b, Vi x, Vi y] 85)) 1)) (K (Vi 0) (AH.mk (Sg (AObj.cells [Vi r, Vs a, Vs b, Vi x, Vi y] 85)) 1)))))))))) := by kernel_rfl
def tsE (r : Int) (a b : SB) (x y : Int) : Int :=
 bif decide (r < 1) then 7 else bif decide (5 < r) then 7 else bif !decide (r = 5) then
  (bif !decide (qE a = 0) then qE a else bif !decide (qE b = 0) then qE b else bif !decide (x = 0) then 2 else bif !decide (y = 0) then 2 else 0)
 else bif !eqL a.data.toList [] then 2 else bif !eqL b.data.toList [] then 2 else bif decide (x < 0) then 9 else bif decide (y < x) then 9 else bif decide (599 < y) then 9 else 0
theorem uM (r : Int) (a b : SB) (x y : Int) : bt envX f68 [tsv r a b x y] ⟨.leaf, 0⟩ (.int .i64 (tsE r a b x y)) := by
 refine al ue (d := 3) ((jTs_nf _ r a b x y).mpr ?_)
 have e0 : (ByteArray.mk #[]).data.toList = [] := rfl
 simp only [e0]
 unfold tsE
 cases decide (r < 1)
 case true => exact .same (HFi _ _)
 cases decide (5 < r)
 case true => exact .same (HFi _ _)
 cases decide (r = 5)
 case false =>
  cases decide (qE a = 0)
  case false => exact .same (HFi _ _)
  cases decide (qE b = 0)
  case false => exact .same (HFi _ _)
  cases decide (x = 0)
  case false => exact .same (HFi _ _)
  cases decide (y = 0)
  case false => exact .same (HFi _ _)
  exact .same (HFi _ _)
 cases eqL a.data.toList []
 case false => exact .same (HFi _ _)
 cases eqL b.data.toList []
 case false => exact .same (HFi _ _)
 cases decide (x < 0)
 case true => exact .same (HFi _ _)
 cases decide (y < x)
 case true => exact .same (HFi _ _)
 cases decide (599 < y)
 case true => exact .same (HFi _ _)
 exact .same (HFi _ _)
theorem uQ (r : Int) (a b : SB) (x y : Int) : bt envX f72 [tsv r a b x y] ⟨.leaf, 0⟩ (.int .i64 (tsE r a b x y)) := by
 refine al ue (d := 3) ((jTq_nf _ r a b x y).mpr ?_)
 have e0 : (ByteArray.mk #[]).data.toList = [] := rfl
 simp only [e0]
 unfold tsE
 cases decide (r < 1)
 case true => exact .same (HFi _ _)
 cases decide (5 < r)
 case true => exact .same (HFi _ _)
 cases decide (r = 5)
 case false =>
  cases decide (qE a = 0)
  case false => exact .same (HFi _ _)
  cases decide (qE b = 0)
  case false => exact .same (HFi _ _)
  cases decide (x = 0)
  case false => exact .same (HFi _ _)
  cases decide (y = 0)
  case false => exact .same (HFi _ _)
  exact .same (HFi _ _)
 cases eqL a.data.toList []
 case false => exact .same (HFi _ _)
 cases eqL b.data.toList []
 case false => exact .same (HFi _ _)
 cases decide (x < 0)
 case true => exact .same (HFi _ _)
 cases decide (y < x)
 case true => exact .same (HFi _ _)
 cases decide (599 < y)
 case true => exact .same (HFi _ _)
 exact .same (HFi _ _)
def tsX : List Value → Option Value
 | [.agg ⟨[.int .i64 r, .string a, .string b, .int .i64 x, .int .i64 y]⟩] => some (.int .i64 (tsE r a b x y))
 | _ => none
theorem AO (r : Int) (a b : SB) (x y : Int) : HF (tsv r a b x y) := .agg (HF.cons (HFi _ _) (HF.cons (.scal rfl) (HF.cons (.scal rfl) (HF.cons (HFi _ _) (HF.cons (HFi _ _) HF.nil)))))
theorem sM : ∀ args A p v A', aj (fun _ => none) tsX args A = some (p, v, A') → PH p → an envX 68 args A v A' := ai ag ah (fn := f68) rfl fun args v h hp => by
 unfold tsX at h
 split at h
 · simp only [osI] at h
   subst h
   exact ⟨HF.cons (AO _ _ _ _ _) HF.nil, uM _ _ _ _ _⟩
 · cases h
theorem sU : ∀ args A p v A', aj (fun _ => none) tsX args A = some (p, v, A') → PH p → an envX 72 args A v A' := ai ag ah (fn := f72) rfl fun args v h hp => by
 unfold tsX at h
 split at h
 · simp only [osI] at h
   subst h
   exact ⟨HF.cons (AO _ _ _ _ _) HF.nil, uQ _ _ _ _ _⟩
 · cases h
def XTl : SX := ⟨envX, [], noEl, fun _ => .auto [] [0, 5, 6]⟩
theorem uc : XTl.Ok := ⟨ag, aw, ah, .nil⟩
def jTl (Q : Value → Prop) (QA : KV) (s : SB) : Prop := sxFn XTl 1 f204 [.string s] (au Q QA)
def jTl1 (Q : Value → Prop) (QA : KV) (again : KF) (s : SB) (i : Nat) : Prop := bJ XTl 1 f204 [1, 0, 1, 0] (au Q QA) [] [0, 5, 6] again (frMf s i) ⟨.leaf, 0⟩
end
end Go.T9

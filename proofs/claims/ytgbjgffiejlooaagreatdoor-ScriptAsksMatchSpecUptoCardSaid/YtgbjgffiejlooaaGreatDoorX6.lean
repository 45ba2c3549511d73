/- A part of the proof. -/
import Derived.Test.YtgbjgffiejlooaaGreatDoorR
import Derived.Test.YtgbjgffiejlooaaGreatDoorV
import Derived.KernelRfl
import Derived.Test.YtgbjgffiejlooaaGreatDoorX5
set_option linter.unusedVariables false
set_option linter.unusedSimpArgs false
set_option maxRecDepth 1000000
namespace Go.T9
open Go Go.AM Go.Shelf Go.Proofs
noncomputable section
def ren146 : Ren := ⟨fun x => match x with | 138 => 269 | 143 => 228 | 146 => 205 | 195 => 291 | 197 => 181 | 217 => 177 | 218 => 292 | 219 => 256 | 221 => 235 | 224 => 242 | 225 => 243 | 260 => 216 | 266 => 214 | 267 => 279 | 268 => 268 | 314 => 297 | n => n, fun x => match x with | 0 => 0 | 3 => 3 | 4 => 4 | 5 => 5 | 9 => 9 | 21 => 21 | 31 => 32 | 46 => 119 | 51 => 170 | 105 => 257 | 119 => 317 | 138 => 319 | 139 => 320 | 146 => 364 | n => n, fun x => match x with | 1 => 3 | 3 => 4 | 4 => 5 | n => n⟩
theorem wN : Proofs.Lays.n146 env.P ren146 where
 mixed := env_ok.mixed
 f138 := env_ok.fn 269 (Proofs.Body.n138 ren146) (by kernel_rfl)
 f143 := env_ok.fn 228 (Proofs.Body.n143 ren146) (by kernel_rfl)
 f146 := env_ok.fn 205 (Proofs.Body.n146 ren146) (by kernel_rfl)
 f195 := env_ok.fn 291 (Proofs.Body.n195 ren146) (by kernel_rfl)
 f197 := env_ok.fn 181 (Proofs.Body.n197 ren146) (by kernel_rfl)
 f217 := env_ok.fn 177 (Proofs.Body.n217 ren146) (by kernel_rfl)
 f218 := by kernel_rfl
 f219 := env_ok.fn 256 (Proofs.Body.n219 ren146) (by kernel_rfl)
 f221 := env_ok.fn 235 (Proofs.Body.n221 ren146) (by kernel_rfl)
 f224 := env_ok.fn 242 (Proofs.Body.n224 ren146) (by kernel_rfl)
 f225 := by kernel_rfl
 f260 := env_ok.fn 216 (Proofs.Body.n260 ren146) (by kernel_rfl)
 f266 := by kernel_rfl
 f267 := env_ok.fn 279 (Proofs.Body.n267 ren146) (by kernel_rfl)
 f268 := env_ok.fn 268 (Proofs.Body.n268 ren146) (by kernel_rfl)
 f314 := env_ok.fn 297 (Proofs.Body.n314 ren146) (by kernel_rfl)
 t0 := ap env_ok (t := 0) (by kernel_rfl)
 a0 := fun w => am env_ok (t := 0) (d := (TypeDesc.tuple #[])) (by kernel_rfl) w
 z0 := fun w => ab env_ok (t := 0) (i := Tryz.t0) (by kernel_rfl) w
 v0 := fun w => ak env_ok (t := 0) (i := Tryz.t0) (by kernel_rfl) (by kernel_rfl) w
 t3 := ap env_ok (t := 3) (by kernel_rfl)
 a3 := fun w => am env_ok (t := 3) (d := (TypeDesc.int IntKind.i64)) (by kernel_rfl) w
 z3 := fun w => ab env_ok (t := 3) (i := Tryz.t3) (by kernel_rfl) w
 v3 := fun w => ak env_ok (t := 3) (i := Tryz.t3) (by kernel_rfl) (by kernel_rfl) w
 t4 := ap env_ok (t := 4) (by kernel_rfl)
 a4 := fun w => am env_ok (t := 4) (d := (TypeDesc.bool)) (by kernel_rfl) w
 z4 := fun w => ab env_ok (t := 4) (i := Tryz.t4) (by kernel_rfl) w
 v4 := fun w => ak env_ok (t := 4) (i := Tryz.t4) (by kernel_rfl) (by kernel_rfl) w
 t5 := ap env_ok (t := 5) (by kernel_rfl)
 a5 := fun w => am env_ok (t := 5) (d := (TypeDesc.int IntKind.u8)) (by kernel_rfl) w
 z5 := fun w => ab env_ok (t := 5) (i := Tryz.t5) (by kernel_rfl) w
 v5 := fun w => ak env_ok (t := 5) (i := Tryz.t5) (by kernel_rfl) (by kernel_rfl) w
 t9 := ap env_ok (t := 9) (by kernel_rfl)
 a9 := fun w => am env_ok (t := 9) (d := (TypeDesc.string)) (by kernel_rfl) w
 z9 := fun w => ab env_ok (t := 9) (i := Tryz.t9) (by kernel_rfl) w
 v9 := fun w => ak env_ok (t := 9) (i := Tryz.t9) (by kernel_rfl) (by kernel_rfl) w
 t21 := ap env_ok (t := 21) (by kernel_rfl)
 a21 := fun w => am env_ok (t := 21) (d := (TypeDesc.int IntKind.i32)) (by kernel_rfl) w
 z21 := fun w => ab env_ok (t := 21) (i := Tryz.t21) (by kernel_rfl) w
 v21 := fun w => ak env_ok (t := 21) (i := Tryz.t21) (by kernel_rfl) (by kernel_rfl) w
 t31 := ap env_ok (t := 32) (by kernel_rfl)
 a31 := fun w => am env_ok (t := 32) (d := (TypeDesc.slice (ren146.t 9))) (by kernel_rfl) w
 z31 := fun w => ab env_ok (t := 32) (i := Tryz.t32) (by kernel_rfl) w
 v31 := fun w => ak env_ok (t := 32) (i := Tryz.t32) (by kernel_rfl) (by kernel_rfl) w
 t46 := ap env_ok (t := 119) (by kernel_rfl)
 a46 := fun w => am env_ok (t := 119) (d := (TypeDesc.int IntKind.u64)) (by kernel_rfl) w
 z46 := fun w => ab env_ok (t := 119) (i := Tryz.t119) (by kernel_rfl) w
 v46 := fun w => ak env_ok (t := 119) (i := Tryz.t119) (by kernel_rfl) (by kernel_rfl) w
 t51 := ap env_ok (t := 170) (by kernel_rfl)
 a51 := fun w => am env_ok (t := 170) (d := (TypeDesc.int IntKind.u32)) (by kernel_rfl) w
 z51 := fun w => ab env_ok (t := 170) (i := Tryz.t170) (by kernel_rfl) w
 v51 := fun w => ak env_ok (t := 170) (i := Tryz.t170) (by kernel_rfl) (by kernel_rfl) w
 t105 := ap env_ok (t := 257) (by kernel_rfl)
 a105 := fun w => am env_ok (t := 257) (d := (TypeDesc.tuple #[ren146.t 21, ren146.t 3])) (by kernel_rfl) w
 z105 := fun w => ab env_ok (t := 257) (i := Tryz.t257) (by kernel_rfl) w
 v105 := fun w => ak env_ok (t := 257) (i := Tryz.t257) (by kernel_rfl) (by kernel_rfl) w
 t119 := ap env_ok (t := 317) (by kernel_rfl)
 a119 := fun w => am env_ok (t := 317) (d := (TypeDesc.array 256 (ren146.t 5))) (by kernel_rfl) w
 z119 := fun w => ab env_ok (t := 317) (i := Tryz.t317) (by kernel_rfl) w
 t138 := ap env_ok (t := 319) (by kernel_rfl)
 a138 := fun w => am env_ok (t := 319) (d := (TypeDesc.struct #[{ name := "lo", type := ren146.t 5, offset := 0, embedded := false, tag := "", pkgPath := "unicode/utf8", byteOffset := 0 }, { name := "hi", type := ren146.t 5, offset := 1, embedded := false, tag := "", pkgPath := "unicode/utf8", byteOffset := 1 }])) (by kernel_rfl) w
 z138 := fun w => ab env_ok (t := 319) (i := Tryz.t319) (by kernel_rfl) w
 v138 := fun w => ak env_ok (t := 319) (i := Tryz.t319) (by kernel_rfl) (by kernel_rfl) w
 t139 := ap env_ok (t := 320) (by kernel_rfl)
 a139 := fun w => am env_ok (t := 320) (d := (TypeDesc.array 16 (ren146.t 138))) (by kernel_rfl) w
 z139 := fun w => ab env_ok (t := 320) (i := Tryz.t320) (by kernel_rfl) w
 v139 := fun w => ak env_ok (t := 320) (i := Tryz.t320) (by kernel_rfl) (by kernel_rfl) w
 t146 := ap env_ok (t := 364) (by kernel_rfl)
 a146 := fun w => am env_ok (t := 364) (d := (TypeDesc.tuple #[ren146.t 51, ren146.t 51])) (by kernel_rfl) w
 z146 := fun w => ab env_ok (t := 364) (i := Tryz.t364) (by kernel_rfl) w
 v146 := fun w => ak env_ok (t := 364) (i := Tryz.t364) (by kernel_rfl) (by kernel_rfl) w
 g1 := by kernel_rfl
 g3 := by kernel_rfl
 g4 := by kernel_rfl
def ren155 : Ren := ⟨fun x => match x with | 138 => 269 | 143 => 228 | 154 => 236 | 155 => 206 | 165 => 270 | 166 => 193 | 169 => 126 | 195 => 291 | 197 => 181 | 217 => 177 | 218 => 292 | 219 => 256 | 224 => 242 | 225 => 243 | 240 => 179 | 241 => 293 | 260 => 216 | 266 => 214 | 267 => 279 | 276 => 215 | 277 => 308 | 314 => 297 | n => n, fun x => match x with | 0 => 0 | 3 => 3 | 4 => 4 | 5 => 5 | 9 => 9 | 20 => 20 | 21 => 21 | 37 => 188 | 46 => 119 | 51 => 170 | 70 => 187 | 72 => 190 | 75 => 195 | 76 => 265 | 80 => 191 | 105 => 257 | 119 => 317 | 127 => 256 | 138 => 319 | 139 => 320 | 146 => 364 | 164 => 287 | n => n, fun x => match x with | 1 => 3 | 3 => 4 | 4 => 5 | n => n⟩
theorem wM : Proofs.Lays.n155 env.P ren155 where
 mixed := env_ok.mixed
 f138 := env_ok.fn 269 (Proofs.Body.n138 ren155) (by kernel_rfl)
 f143 := env_ok.fn 228 (Proofs.Body.n143 ren155) (by kernel_rfl)
 f154 := env_ok.fn 236 (Proofs.Body.n154 ren155) (by kernel_rfl)
 f155 := env_ok.fn 206 (Proofs.Body.n155 ren155) (by kernel_rfl)
 f165 := env_ok.fn 270 (Proofs.Body.n165 ren155) (by kernel_rfl)
 f166 := env_ok.fn 193 (Proofs.Body.n166 ren155) (by kernel_rfl)
 f169 := env_ok.fn 126 (Proofs.Body.n169 ren155) (by kernel_rfl)
 f195 := env_ok.fn 291 (Proofs.Body.n195 ren155) (by kernel_rfl)
 f197 := env_ok.fn 181 (Proofs.Body.n197 ren155) (by kernel_rfl)
 f217 := env_ok.fn 177 (Proofs.Body.n217 ren155) (by kernel_rfl)
 f218 := by kernel_rfl
 f219 := env_ok.fn 256 (Proofs.Body.n219 ren155) (by kernel_rfl)
 f224 := env_ok.fn 242 (Proofs.Body.n224 ren155) (by kernel_rfl)
 f225 := by kernel_rfl
 f240 := env_ok.fn 179 (Proofs.Body.n240 ren155) (by kernel_rfl)
 f241 := env_ok.fn 293 (Proofs.Body.n241 ren155) (by kernel_rfl)
 f260 := env_ok.fn 216 (Proofs.Body.n260 ren155) (by kernel_rfl)
 f266 := by kernel_rfl
 f267 := env_ok.fn 279 (Proofs.Body.n267 ren155) (by kernel_rfl)
 f276 := by kernel_rfl
 f277 := by kernel_rfl
 f314 := env_ok.fn 297 (Proofs.Body.n314 ren155) (by kernel_rfl)
 t0 := ap env_ok (t := 0) (by kernel_rfl)
 a0 := fun w => am env_ok (t := 0) (d := (TypeDesc.tuple #[])) (by kernel_rfl) w
 z0 := fun w => ab env_ok (t := 0) (i := Tryz.t0) (by kernel_rfl) w
 v0 := fun w => ak env_ok (t := 0) (i := Tryz.t0) (by kernel_rfl) (by kernel_rfl) w
 t3 := ap env_ok (t := 3) (by kernel_rfl)
 a3 := fun w => am env_ok (t := 3) (d := (TypeDesc.int IntKind.i64)) (by kernel_rfl) w
 z3 := fun w => ab env_ok (t := 3) (i := Tryz.t3) (by kernel_rfl) w
 v3 := fun w => ak env_ok (t := 3) (i := Tryz.t3) (by kernel_rfl) (by kernel_rfl) w
 t4 := ap env_ok (t := 4) (by kernel_rfl)
 a4 := fun w => am env_ok (t := 4) (d := (TypeDesc.bool)) (by kernel_rfl) w
 z4 := fun w => ab env_ok (t := 4) (i := Tryz.t4) (by kernel_rfl) w
 v4 := fun w => ak env_ok (t := 4) (i := Tryz.t4) (by kernel_rfl) (by kernel_rfl) w
 t5 := ap env_ok (t := 5) (by kernel_rfl)
 a5 := fun w => am env_ok (t := 5) (d := (TypeDesc.int IntKind.u8)) (by kernel_rfl) w
 z5 := fun w => ab env_ok (t := 5) (i := Tryz.t5) (by kernel_rfl) w
 v5 := fun w => ak env_ok (t := 5) (i := Tryz.t5) (by kernel_rfl) (by kernel_rfl) w
 t9 := ap env_ok (t := 9) (by kernel_rfl)
 a9 := fun w => am env_ok (t := 9) (d := (TypeDesc.string)) (by kernel_rfl) w
 z9 := fun w => ab env_ok (t := 9) (i := Tryz.t9) (by kernel_rfl) w
 v9 := fun w => ak env_ok (t := 9) (i := Tryz.t9) (by kernel_rfl) (by kernel_rfl) w
 t20 := ap env_ok (t := 20) (by kernel_rfl)
 a20 := fun w => am env_ok (t := 20) (d := (TypeDesc.interface #[])) (by kernel_rfl) w
 z20 := fun w => ab env_ok (t := 20) (i := Tryz.t20) (by kernel_rfl) w
 v20 := fun w => ak env_ok (t := 20) (i := Tryz.t20) (by kernel_rfl) (by kernel_rfl) w
 t21 := ap env_ok (t := 21) (by kernel_rfl)
 a21 := fun w => am env_ok (t := 21) (d := (TypeDesc.int IntKind.i32)) (by kernel_rfl) w
 z21 := fun w => ab env_ok (t := 21) (i := Tryz.t21) (by kernel_rfl) w
 v21 := fun w => ak env_ok (t := 21) (i := Tryz.t21) (by kernel_rfl) (by kernel_rfl) w
 t37 := ap env_ok (t := 188) (by kernel_rfl)
 a37 := fun w => am env_ok (t := 188) (d := (TypeDesc.slice (ren155.t 5))) (by kernel_rfl) w
 z37 := fun w => ab env_ok (t := 188) (i := Tryz.t188) (by kernel_rfl) w
 v37 := fun w => ak env_ok (t := 188) (i := Tryz.t188) (by kernel_rfl) (by kernel_rfl) w
 t46 := ap env_ok (t := 119) (by kernel_rfl)
 a46 := fun w => am env_ok (t := 119) (d := (TypeDesc.int IntKind.u64)) (by kernel_rfl) w
 z46 := fun w => ab env_ok (t := 119) (i := Tryz.t119) (by kernel_rfl) w
 v46 := fun w => ak env_ok (t := 119) (i := Tryz.t119) (by kernel_rfl) (by kernel_rfl) w
 t51 := ap env_ok (t := 170) (by kernel_rfl)
 a51 := fun w => am env_ok (t := 170) (d := (TypeDesc.int IntKind.u32)) (by kernel_rfl) w
 z51 := fun w => ab env_ok (t := 170) (i := Tryz.t170) (by kernel_rfl) w
 v51 := fun w => ak env_ok (t := 170) (i := Tryz.t170) (by kernel_rfl) (by kernel_rfl) w
 t70 := ap env_ok (t := 187) (by kernel_rfl)
 a70 := fun w => am env_ok (t := 187) (d := (TypeDesc.pointer (ren155.t 72))) (by kernel_rfl) w
 z70 := fun w => ab env_ok (t := 187) (i := Tryz.t187) (by kernel_rfl) w
 v70 := fun w => ak env_ok (t := 187) (i := Tryz.t187) (by kernel_rfl) (by kernel_rfl) w
 t72 := ap env_ok (t := 190) (by kernel_rfl)
 a72 := fun w => am env_ok (t := 190) (d := (TypeDesc.struct #[{ name := "addr", type := ren155.t 70, offset := 0, embedded := false, tag := "", pkgPath := "strings", byteOffset := 0 }, { name := "buf", type := ren155.t 37, offset := 1, embedded := false, tag := "", pkgPath := "strings", byteOffset := 8 }])) (by kernel_rfl) w
 z72 := fun w => ab env_ok (t := 190) (i := Tryz.t190) (by kernel_rfl) w
 v72 := fun w => ak env_ok (t := 190) (i := Tryz.t190) (by kernel_rfl) (by kernel_rfl) w
 t75 := ap env_ok (t := 195) (by kernel_rfl)
 a75 := fun w => am env_ok (t := 195) (d := (TypeDesc.interface #[("Error", ren155.t 80)])) (by kernel_rfl) w
 z75 := fun w => ab env_ok (t := 195) (i := Tryz.t195) (by kernel_rfl) w
 v75 := fun w => ak env_ok (t := 195) (i := Tryz.t195) (by kernel_rfl) (by kernel_rfl) w
 t76 := ap env_ok (t := 265) (by kernel_rfl)
 a76 := fun w => am env_ok (t := 265) (d := (TypeDesc.tuple #[ren155.t 3, ren155.t 75])) (by kernel_rfl) w
 z76 := fun w => ab env_ok (t := 265) (i := Tryz.t265) (by kernel_rfl) w
 v76 := fun w => ak env_ok (t := 265) (i := Tryz.t265) (by kernel_rfl) (by kernel_rfl) w
 t105 := ap env_ok (t := 257) (by kernel_rfl)
 a105 := fun w => am env_ok (t := 257) (d := (TypeDesc.tuple #[ren155.t 21, ren155.t 3])) (by kernel_rfl) w
 z105 := fun w => ab env_ok (t := 257) (i := Tryz.t257) (by kernel_rfl) w
 v105 := fun w => ak env_ok (t := 257) (i := Tryz.t257) (by kernel_rfl) (by kernel_rfl) w
 t119 := ap env_ok (t := 317) (by kernel_rfl)
 a119 := fun w => am env_ok (t := 317) (d := (TypeDesc.array 256 (ren155.t 5))) (by kernel_rfl) w
 z119 := fun w => ab env_ok (t := 317) (i := Tryz.t317) (by kernel_rfl) w
 t127 := ap env_ok (t := 256) (by kernel_rfl)
 a127 := fun w => am env_ok (t := 256) (d := (TypeDesc.pointer (ren155.t 5))) (by kernel_rfl) w
 z127 := fun w => ab env_ok (t := 256) (i := Tryz.t256) (by kernel_rfl) w
 v127 := fun w => ak env_ok (t := 256) (i := Tryz.t256) (by kernel_rfl) (by kernel_rfl) w
 t138 := ap env_ok (t := 319) (by kernel_rfl)
 a138 := fun w => am env_ok (t := 319) (d := (TypeDesc.struct #[{ name := "lo", type := ren155.t 5, offset := 0, embedded := false, tag := "", pkgPath := "unicode/utf8", byteOffset := 0 }, { name := "hi", type := ren155.t 5, offset := 1, embedded := false, tag := "", pkgPath := "unicode/utf8", byteOffset := 1 }])) (by kernel_rfl) w
 z138 := fun w => ab env_ok (t := 319) (i := Tryz.t319) (by kernel_rfl) w
 v138 := fun w => ak env_ok (t := 319) (i := Tryz.t319) (by kernel_rfl) (by kernel_rfl) w
 t139 := ap env_ok (t := 320) (by kernel_rfl)
 a139 := fun w => am env_ok (t := 320) (d := (TypeDesc.array 16 (ren155.t 138))) (by kernel_rfl) w
 z139 := fun w => ab env_ok (t := 320) (i := Tryz.t320) (by kernel_rfl) w
 v139 := fun w => ak env_ok (t := 320) (i := Tryz.t320) (by kernel_rfl) (by kernel_rfl) w
 t146 := ap env_ok (t := 364) (by kernel_rfl)
 a146 := fun w => am env_ok (t := 364) (d := (TypeDesc.tuple #[ren155.t 51, ren155.t 51])) (by kernel_rfl) w
 z146 := fun w => ab env_ok (t := 364) (i := Tryz.t364) (by kernel_rfl) w
 v146 := fun w => ak env_ok (t := 364) (i := Tryz.t364) (by kernel_rfl) (by kernel_rfl) w
 t164 := ap env_ok (t := 287) (by kernel_rfl)
 a164 := fun w => am env_ok (t := 287) (d := (TypeDesc.unsafePointer)) (by kernel_rfl) w
 z164 := fun w => ab env_ok (t := 287) (i := Tryz.t287) (by kernel_rfl) w
 v164 := fun w => ak env_ok (t := 287) (i := Tryz.t287) (by kernel_rfl) (by kernel_rfl) w
 g1 := by kernel_rfl
 g3 := by kernel_rfl
 g4 := by kernel_rfl
end
end Go.T9
set_option maxHeartbeats 4000000
namespace Go.T9
open Go Go.AM Go.MK
noncomputable section
def repL (c d : UInt8) : List UInt8 → List UInt8
 | [] => []
 | [x] => [x]
 | x :: y :: l => if x = 126 ∧ y = c then d :: repL c d l else x :: repL c d (y :: l)
theorem occ_0 {c : UInt8} {l : List UInt8} (h : Lib.occAt l [126, c] 0 = true) : ∃ l', l = 126 :: c :: l' := by
 unfold Lib.occAt at h
 rw [List.drop_zero] at h
 cases l with
 | nil => simp at h
 | cons x t =>
   cases t with
   | nil => simp at h
   | cons y t =>
     simp at h
     exact ⟨t, by rw [h.1, h.2]⟩
theorem jX {sub : List UInt8} {x : UInt8} {l : List UInt8} {i : Nat} : Lib.occAt (x :: l) sub (i + 1) = Lib.occAt l sub i := by unfold Lib.occAt; rw [List.drop_succ_cons]
theorem kW {c d : UInt8} : ∀ {l : List UInt8}, (∀ j, j ≤ l.length → Lib.occAt l [126, c] j = false) → repL c d l = l
 | [], _ => rfl
 | [x], _ => rfl
 | x :: y :: l, h => by
   unfold repL
   rw [if_neg, kW (l := y :: l) fun j hj => by have := h (j + 1) (by simpa using hj); rwa [jX] at this]
   rintro ⟨rfl, rfl⟩
   have := h 0 (Nat.zero_le _)
   simp [Lib.occAt] at this
theorem th {c d : UInt8} : ∀ {i : Nat} {l : List UInt8}, (∀ j, j < i → Lib.occAt l [126, c] j = false) → Lib.occAt l [126, c] i = true → repL c d l = l.take i ++ d :: repL c d (l.drop (i + 2))
 | 0, l, _, h => by
   obtain ⟨l', rfl⟩ := occ_0 h
   rw [repL, if_pos ⟨rfl, rfl⟩]; rfl
 | i + 1, [], _, h => by simp [Lib.occAt] at h
 | i + 1, [x], _, h => by rw [jX] at h; simp [Lib.occAt] at h
 | i + 1, x :: y :: l, hn, h => by
   rw [jX] at h
   have h0 := hn 0 (by omega)
   have := th (c := c) (d := d) (i := i) (l := y :: l) (fun j hj => by have := hn (j + 1) (by omega); rwa [jX] at this) h
   rw [repL, if_neg, this]
   · rfl
   · rintro ⟨rfl, rfl⟩
     simp [Lib.occAt] at h0
theorem nL {c d : UInt8} (hc : c ≠ 126) : ∀ (n : Nat) (l : List UInt8), l.length ≤ n → ∀ k, Lib.count l [126, c] ≤ k → Lib.replaceK [126, c] [d] k l = repL c d l
 | n, l, hn, k, hk => by
   rcases Lib.index_spec l [126, c] with ⟨h1, h2⟩ | ⟨i, h1, h2, h3, h4⟩
   · rw [kW h2]
     cases k with
     | zero => rfl
     | succ k => unfold Lib.replaceK; rw [h1]; rfl
   · have hcnt := Lib.count_hit (by simp : [126, c] ≠ []) h1
     have hroom := Lib.index_room l [126, c] (by omega)
     rw [h1] at hroom
     simp only [List.length_cons, List.length_nil] at hroom
     cases k with
     | zero => omega
     | succ k =>
       rw [Lib.replaceK_hit _ _ _ _ _ h1, th (fun j hj => h4 j hj) h3]
       cases n with
       | zero => omega
       | succ n =>
         have := nL (d := d) hc n (l.drop (i + 2)) (by rw [List.length_drop]; omega) k (by
          have e : l.drop (i + [126, c].length) = l.drop (i + 2) := rfl
          rw [e] at hcnt; omega)
         show l.take i ++ [d] ++ Lib.replaceK [126, c] [d] k (l.drop (i + 2)) = _
         rw [this, List.append_assoc]; rfl
theorem i1 {c d : UInt8} (hc : c ≠ 126) (hd : [126, c] ≠ [d]) (l : List UInt8) : Lib.replaceAll l [126, c] [d] = repL c d l := by
 unfold Lib.replaceAll Lib.replace
 rw [if_neg (by simp)]
 refine nL hc l.length l (Nat.le_refl _) _ ?_
 unfold Lib.replaceNum
 rw [if_pos (.inl (by decide))]
 exact Nat.le_refl _
def aC : List UInt8 → Bool
 | [] => true
 | [x] => !decide (x = 126)
 | x :: y :: l => (!decide (x = 126) || (decide (y = 48) || decide (y = 49))) && aC (y :: l)
def decL : List UInt8 → List UInt8
 | [] => []
 | [x] => [x]
 | x :: y :: l => if x = 126 ∧ y = 48 then 126 :: decL l else if x = 126 ∧ y = 49 then 47 :: decL l else x :: decL (y :: l)
theorem dN {x : UInt8} {l : List UInt8} (h : aC (x :: l) = true) : aC l = true := by
 cases l with
 | nil => rfl
 | cons y l => unfold aC at h; exact (Bool.and_eq_true _ _ ▸ h).2
theorem fj {c d x : UInt8} {l : List UInt8} (h : x ≠ 126) : repL c d (x :: l) = x :: repL c d l := by
 cases l with
 | nil => rfl
 | cons y l => rw [repL, if_neg (fun q => h q.1)]
theorem lN {x : UInt8} {l : List UInt8} (h : x ≠ 126) : decL (x :: l) = x :: decL l := by
 cases l with
 | nil => rfl
 | cons y l => rw [decL, if_neg (fun q => h q.1), if_neg (fun q => h q.1)]
theorem lM : ∀ (n : Nat) {l : List UInt8}, l.length ≤ n → aC l = true → repL 48 126 (repL 49 47 l) = decL l
 | n, [], _, _ => rfl
 | n, [x], _, _ => rfl
 | 0, x :: y :: l, hn, _ => by simp at hn
 | n + 1, x :: y :: l, hn, h => by
   have ht := dN h
   simp only [List.length_cons] at hn
   by_cases hx : x = 126
   · subst hx
     unfold aC at h
     simp only [decide_true, Bool.not_true, Bool.false_or, Bool.and_eq_true, Bool.or_eq_true, decide_eq_true_eq] at h
     rcases h.1 with rfl | rfl
     · have e1 : repL 49 47 (126 :: 48 :: l) = 126 :: 48 :: repL 49 47 l := by rw [repL, if_neg (by decide), fj (by decide)]
       rw [e1, repL, if_pos ⟨rfl, rfl⟩, decL, if_pos ⟨rfl, rfl⟩, lM n (by omega) (dN ht)]
     · have e1 : repL 49 47 (126 :: 49 :: l) = 47 :: repL 49 47 l := by rw [repL, if_pos ⟨rfl, rfl⟩]
       rw [e1, fj (by decide), decL, if_neg (by decide), if_pos ⟨rfl, rfl⟩, lM n (by omega) (dN ht)]
   · rw [fj hx, fj hx, lN hx, lM n (by simp; omega) ht]
def splF : List UInt8 → List (List UInt8)
 | [] => [[]]
 | x :: l => if x = 47 then [] :: splF l else (match splF l with
   | [] => [[x]]
   | p :: ps => (x :: p) :: ps)
theorem jM (l : List UInt8) : splF l ≠ [] := by
 cases l with
 | nil => simp [splF]
 | cons x l =>
   unfold splF
   split
   · simp
   · split <;> simp
theorem occ1_0 {l : List UInt8} : Lib.occAt l [47] 0 = true ↔ ∃ l', l = 47 :: l' := by
 unfold Lib.occAt
 rw [List.drop_zero]
 cases l with
 | nil => simp
 | cons x t => simp; exact ⟨fun h => h.symm, fun h => h.symm⟩
theorem kR : ∀ {l : List UInt8}, (∀ j, j ≤ l.length → Lib.occAt l [47] j = false) → splF l = [l]
 | [], _ => rfl
 | x :: l, h => by
   have hx : x ≠ 47 := fun e => by
    have h0 := h 0 (Nat.zero_le _)
    rw [occ1_0.2 ⟨l, by rw [e]⟩] at h0; cases h0
   rw [splF, if_neg hx, kR fun j hj => by have := h (j + 1) (by simpa using hj); rwa [jX] at this]
theorem te : ∀ {i : Nat} {l : List UInt8}, (∀ j, j < i → Lib.occAt l [47] j = false) → Lib.occAt l [47] i = true → splF l = l.take i :: splF (l.drop (i + 1))
 | 0, l, _, h => by
   obtain ⟨l', rfl⟩ := occ1_0.1 h
   rw [splF, if_pos rfl]; rfl
 | i + 1, [], _, h => by simp [Lib.occAt] at h
 | i + 1, x :: l, hn, h => by
   rw [jX] at h
   have hx : x ≠ 47 := fun e => by
    have h0 := hn 0 (by omega)
    rw [occ1_0.2 ⟨l, by rw [e]⟩] at h0; cases h0
   rw [splF, if_neg hx, te (fun j hj => by have := hn (j + 1) (by omega); rwa [jX] at this) h]
   rfl
theorem nD : ∀ (n : Nat) (l : List UInt8), l.length ≤ n → ∀ k, Lib.count l [47] ≤ k → Lib.splitK [47] 0 k l = splF l
 | n, l, hn, k, hk => by
   rcases Lib.index_spec l [47] with ⟨h1, h2⟩ | ⟨i, h1, h2, h3, h4⟩
   · rw [kR h2]
     cases k with
     | zero => rfl
     | succ k => unfold Lib.splitK; rw [h1]; rfl
   · have hcnt := Lib.count_hit (by simp : [(47 : UInt8)] ≠ []) h1
     have hroom := Lib.index_room l [47] (by omega)
     rw [h1] at hroom
     simp only [List.length_cons, List.length_nil] at hroom
     cases k with
     | zero => omega
     | succ k =>
       cases n with
       | zero => omega
       | succ n =>
         have := nD n (l.drop (i + 1)) (by rw [List.length_drop]; omega) k (by
          have e : l.drop (i + [(47 : UInt8)].length) = l.drop (i + 1) := rfl
          rw [e] at hcnt; omega)
         rw [te (fun j hj => h4 j hj) h3, ← this]
         unfold Lib.splitK
         have hne : (Lib.index l [47] == -1) = false := by rw [h1, beq_eq_false_iff_ne]; omega
         rw [hne, h1]
         cases k <;> rfl
theorem vE (s : SB) : splX s ⟨#[47]⟩ = splF s.data.toList := by
 unfold splX
 rw [Lib.splitB_data]
 exact nD s.data.toList.length _ (Nat.le_refl _) _ (Nat.le_refl _)
theorem nB : ∀ {l : List UInt8}, aC l = true → ∀ p ∈ splF l, aC p = true
 | [], _, p, hp => by simp [splF] at hp; rw [hp]; rfl
 | x :: l, h, p, hp => by
   have ih := nB (dN h)
   rw [splF] at hp
   split at hp
   · rcases List.mem_cons.1 hp with rfl | hp
     · rfl
     · exact ih p hp
   · split at hp
     · rename_i he; exact absurd he (jM l)
     · rename_i q qs he
       rcases List.mem_cons.1 hp with rfl | hp
       · have hq := ih q (by rw [he]; simp)
         cases l with
         | nil =>
           simp [splF] at he
           obtain ⟨rfl, _⟩ := he
           exact h
         | cons y l =>
           rw [splF] at he
           split at he
           · rename_i hy
             simp only [List.cons.injEq] at he
             obtain ⟨rfl, _⟩ := he
             unfold aC at h ⊢
             simp only [Bool.and_eq_true, Bool.or_eq_true, Bool.not_eq_true', decide_eq_false_iff_not, decide_eq_true_eq] at h ⊢
             rcases h.1 with h | h | h
             · simpa using h
             · rw [hy] at h; exact absurd h (by decide)
             · rw [hy] at h; exact absurd h (by decide)
           · split at he
             · simp only [List.cons.injEq] at he
               obtain ⟨rfl, _⟩ := he
               unfold aC at h ⊢
               simp only [Bool.and_eq_true] at h ⊢
               exact ⟨h.1, hq⟩
             · simp only [List.cons.injEq] at he
               obtain ⟨rfl, _⟩ := he
               unfold aC at h ⊢
               simp only [Bool.and_eq_true] at h ⊢
               exact ⟨h.1, hq⟩
       · exact ih p (by rw [he]; exact List.mem_cons_of_mem _ hp)
end
end Go.T9
namespace Go.T9
open Go Go.AM Go.MK Go.Proofs.Tryz
noncomputable section
theorem jTl_nf (Q : Value → Prop) (QA : KV) (s : SB) : jTl Q QA s = (LAt XTl 1 f204.ntmps (ae f204) [1, 0, 1, 0] (finK (SX.E XTl) f204.results.toList (au Q QA)) (Ns (No Lf (Sg (Vi s.size))) (Vs s) (No Lf (Sg (Vi 0)))) (AH.mk Lf 0)) := by kernel_rfl
theorem w4 (Q : Value → Prop) (QA : KV) (again : KF) (s : SB) (i : Nat) : jTl1 Q QA again s i = (Sp (decide ((i : Int) < (s.size : Int))) ((0 ≤ (i : Int) ∧ (i : Int) < (s.size : Int)) ∧ Sp (decide (ac s (i : Int) = 126)) (Sp (decide (Wi ((i : Int) + 1) = (s.size : Int))) (Q (Vb false)) ((0 ≤ Wi ((i : Int) + 1) ∧ Wi ((i : Int) + 1) < (s.size : Int)) ∧ Sp (!decide (ac s (Wi ((i : Int) + 1)) = 48)) ((0 ≤ Wi ((i : Int) + 1) ∧ Wi ((i : Int) + 1) < (s.size : Int)) ∧ Sp (!decide (ac s (Wi ((i : Int) + 1)) = 49)) (Q (Vb false)) (again (Ns (No Lf (Sg (Vi s.size))) (Vs s) (No Lf (Sg (Vi (Wi ((i : Int) + 1)))))) (AH.mk Lf 0))) (again (Ns (No Lf (Sg (Vi s.size))) (Vs s) (No Lf (Sg (Vi (Wi ((i : Int) + 1)))))) (AH.mk Lf 0)))) (again (Ns (No Lf (Sg (Vi s.size))) (Vs s) (No Lf (Sg (Vi (Wi ((i : Int) + 1)))))) (AH.mk Lf 0))) (Q (Vb true))) := by kernel_rfl
theorem u8i {x : UInt8} {n : Nat} (hn : n < 256) : decide ((x.toNat : Int) = (n : Int)) = decide (x = UInt8.ofNat n) := by
 refine decide_eq_decide.2 ?_
 rw [← UInt8.toNat_inj]
 have := cZ hn
 omega
theorem Ak (Q : Value → Prop) (QA : KV) (s : SB) (hs : s.size < 9223372036854775807) (hQ : Q (.bool (aC s.data.toList))) :
 LAt XTl 1 (Func.ntmps f204) (ae f204) [1, 0, 1, 0] (finK XTl.E (f204.results).toList (au Q QA)) (frMf s 0) ⟨.leaf, 0⟩ := by
 have hsz := aR s
 refine LAt.stepA uc [] [0, 5, 6] (by kernel_rfl) (fun k F A => ∃ i : Nat, F = frMf s i ∧ A = ⟨.leaf, 0⟩ ∧ i + k = s.size ∧ aC s.data.toList = aC (s.data.toList.drop i)) ?_ (k := s.size) ⟨0, rfl, rfl, by omega, by rw [List.drop_zero]⟩
 rintro k F A ⟨i, rfl, rfl, hk, hall⟩
 refine (w4 _ _ _ s i).mpr ?_
 refine Sp.intro (fun c => ?_) (fun c => ?_)
 · have hl : i < s.data.toList.length := by have := odt c; omega
   have hw := i64s i (by omega)
   rw [List.drop_eq_getElem_cons hl] at hall
   have e126 : decide ((s.data.toList[i].toNat : Int) = 126) = decide (s.data.toList[i] = 126) := u8i (n := 126) (by decide)
   simp only [aK hl, hw, e126]
   have hagain : aC s.data.toList = aC (s.data.toList.drop (i + 1)) → ∃ k', k' < k ∧ ∃ i2 : Nat, frMf s (i + 1) = frMf s i2 ∧ True ∧ i2 + k' = s.size ∧ aC s.data.toList = aC (s.data.toList.drop i2) := fun h => ⟨k - 1, by omega, i + 1, rfl, trivial, by omega, h⟩
   refine ⟨by omega, Sp.intro (fun h => Sp.intro (fun h2 => ?_) (fun h2 => ?_)) (fun h => hagain ?_)⟩
   · have h := odt h
     have h2 := odt h2
     have hn : s.data.toList.drop (i + 1) = [] := List.drop_eq_nil_of_le (by omega)
     rw [hn, h] at hall
     have : aC s.data.toList = false := hall
     rw [this] at hQ; exact hQ
   · have h := odt h
     have h2 := odf h2
     have hl2 : i + 1 < s.data.toList.length := by omega
     have ex : s.data.toList.drop (i + 1) = s.data.toList[i + 1] :: s.data.toList.drop (i + 2) := List.drop_eq_getElem_cons hl2
     have e48 : decide ((s.data.toList[i + 1].toNat : Int) = 48) = decide (s.data.toList[i + 1] = 48) := u8i (n := 48) (by decide)
     have e49 : decide ((s.data.toList[i + 1].toNat : Int) = 49) = decide (s.data.toList[i + 1] = 49) := u8i (n := 49) (by decide)
     rw [h, ex] at hall
     have hall : aC s.data.toList = ((decide (s.data.toList[i + 1] = 48) || decide (s.data.toList[i + 1] = 49)) && aC (s.data.toList[i + 1] :: s.data.toList.drop (i + 2))) := by
      rw [hall, aC]; simp
     rw [← ex] at hall
     simp only [aK hl2, e48, e49]
     refine ⟨by omega, Sp.intro (fun h3 => ⟨by omega, Sp.intro (fun h4 => ?_) (fun h4 => hagain ?_)⟩) (fun h3 => hagain ?_)⟩
     · have h3 : decide (s.data.toList[i + 1] = 48) = false := by simpa using h3
       have h4 : decide (s.data.toList[i + 1] = 49) = false := by simpa using h4
       rw [h3, h4] at hall
       rw [hall] at hQ; exact hQ
     · have h4 : decide (s.data.toList[i + 1] = 49) = true := by simpa using h4
       rw [h4, Bool.or_true, Bool.true_and] at hall; exact hall
     · have h3 : decide (s.data.toList[i + 1] = 48) = true := by simpa using h3
       rw [h3, Bool.true_or, Bool.true_and] at hall; exact hall
   · have h := odf h
     cases hd : s.data.toList.drop (i + 1) with
     | nil => rw [hd] at hall; exact hall.trans (by show (!decide (s.data.toList[i] = 126)) = true; rw [decide_eq_false h]; rfl)
     | cons y l => rw [hd] at hall; rw [hall, aC, decide_eq_false h]; simp only [Bool.not_false, Bool.true_or, Bool.true_and]
 · have hn : s.data.toList.drop i = [] := List.drop_eq_nil_of_le (by have := odf c; omega)
   rw [hn] at hall
   have hall : aC s.data.toList = true := hall
   rw [hall] at hQ; exact hQ
theorem uT (s : SB) (hs : s.size < 9223372036854775807) : Walk envX f204 [.string s] (.bool (aC s.data.toList)) := by
 refine av uc (d := 1) (HFb _) ((jTl_nf _ _ s).mpr ?_)
 exact Ak _ _ s hs rfl
def tlX : List Value → Option Value
 | [.string s] => some (.bool (aC s.data.toList))
 | _ => none
def tlPre : List Value → Option Prop
 | [.string s] => some (s.size < 9223372036854775807)
 | _ => none
theorem tl_tab : ∀ args A p v A', aj tlPre tlX args A = some (p, v, A') → PH p → an envX 204 args A v A' := ai ag ah (fn := f204) rfl fun args v h hp => by
 unfold tlX at h
 split at h
 · simp only [osI] at h
   subst h
   exact ⟨HF.cons (.scal rfl) HF.nil, uT _ hp⟩
 · cases h
def elS : El := El.of (fun sz t els i => some (.string (bX els i)))
def XCs : SX := ⟨envX, [], elS, fun _ => .auto [] [9, 10, 11]⟩
theorem uv : XCs.Ok := ⟨ag, aw, ah, .nil⟩
def frCs (els : List Value) (i : Nat) : T Value := (Nd (Nd (Nd Lf none (Nd Lf (some (.int .i64 i)) Lf)) none (Nd (Nd Lf (some (dat 1 els)) Lf) none Lf)) none (Nd Lf none (Nd (Nd Lf (some (.int .i64 els.length)) Lf) none Lf)))
def jCs (Q : Value → Prop) (QA : KV) (els : List Value) : Prop := sxFn XCs 2 f207 [dat 1 els] (au Q QA)
def jCs1 (Q : Value → Prop) (QA : KV) (again : KF) (els : List Value) (i : Nat) : Prop := bJ XCs 2 f207 [1, 1, 0, 1, 0] (au Q QA) [] [9, 10, 11] again (frCs els i) ⟨.leaf, 0⟩
set_option maxHeartbeats 400000
theorem jCs_nf (Q : Value → Prop) (QA : KV) (els : List Value) : jCs Q QA els = (Sp (decide (60 < (els.length : Int))) (Q (Vi 3)) (HF (Vd 1 els) ∧ LAt XCs 2 f207.ntmps (ae f207) [1, 1, 0, 1, 0] (finK (SX.E XCs) f207.results.toList (au Q QA)) (No (No (No Lf (Sg (Vi 0))) (No (Sg (Vd 1 els)) Lf)) (No Lf (No (Sg (Vi els.length)) Lf))) (AH.mk Lf 0))) := by kernel_rfl
theorem yq (Q : Value → Prop) (QA : KV) (again : KF) (els : List Value) (i : Nat) : jCs1 Q QA again els i = (Sp (decide ((i : Int) < (els.length : Int))) ((0 ≤ (i : Int) ∧ (i : Int) < (els.length : Int)) ∧ nth els (i) = some (Vs (match nth els (i) with | some (Value.string s) => s | x => ByteArray.empty)) ∧ Sp (decide ((10000 : Int) < (↑(ByteArray.size (match nth els (i) with | some (Value.string s) => s | x => ByteArray.empty)) : Int))) (Q (Vi 3)) (HF (Vd 1 els) ∧ again (No (No (No Lf (Sg (Vi (Wi ((i : Int) + 1))))) (No (Sg (Vd 1 els)) Lf)) (No Lf (No (Sg (Vi els.length)) Lf))) (AH.mk Lf 0))) (Q (Vi 0))) := by kernel_rfl
def csE (ks : LB) : Int := bif decide (60 < (ks.length : Int)) then 3 else bif ks.any (fun k => decide (10000 < (k.length : Int))) then 3 else 0
theorem AT (Q : Value → Prop) (QA : KV) (ks : LB) (h60 : ks.length ≤ 60) (hQ : Q (.int .i64 (bif ks.any (fun k => decide (10000 < (k.length : Int))) then 3 else 0))) :
 LAt XCs 2 (Func.ntmps f207) (ae f207) [1, 1, 0, 1, 0] (finK XCs.E (f207.results).toList (au Q QA)) (frCs (stv ks) 0) ⟨.leaf, 0⟩ := by
 refine LAt.stepA uv [] [9, 10, 11] (by kernel_rfl) (fun k F A => ∃ i : Nat, F = frCs (stv ks) i ∧ A = ⟨.leaf, 0⟩ ∧ i + k = ks.length ∧ ks.any (fun k => decide (10000 < (k.length : Int))) = (ks.drop i).any fun k => decide (10000 < (k.length : Int))) ?_ (k := ks.length) ⟨0, rfl, rfl, by omega, by rw [List.drop_zero]⟩
 rintro k F A ⟨i, rfl, rfl, hk, hall⟩
 refine (yq _ _ _ _ i).mpr ?_
 refine Sp.intro (fun c => ?_) (fun c => ?_)
 · have hlt : i < ks.length := by have := odt c; rw [bv] at this; omega
   have hw := i64s i (by omega)
   have hn := fG hlt
   rw [List.drop_eq_getElem_cons hlt, List.any_cons] at hall
   simp only [Int.toNat_natCast, hn, hw, dR]
   refine ⟨⟨by omega, by rw [bv]; omega⟩, trivial, Sp.intro (fun h => ?_) (fun h => ⟨gy ks, k - 1, by omega, i + 1, rfl, by first | trivial | rfl, by omega, ?_⟩)⟩
   · rw [h, Bool.true_or] at hall
     rw [hall] at hQ; exact hQ
   · rw [h, Bool.false_or] at hall; exact hall
 · have hnil : ks.drop i = [] := List.drop_eq_nil_of_le (by have := odf c; rw [bv] at this; omega)
   rw [hnil] at hall
   rw [hall] at hQ; exact hQ
theorem zD (ks : LB) : Walk envX f207 [dat 1 (stv ks)] (.int .i64 (csE ks)) := by
 refine av uv (d := 2) (HFi _ _) ((jCs_nf _ _ _).mpr ?_)
 refine Sp.intro (fun c => ?_) (fun c => ⟨gy ks, ?_⟩)
 · rw [bv] at c
   show Value.int .i64 3 = .int .i64 (csE ks)
   unfold csE; rw [c]; rfl
 · rw [bv] at c
   have e : csE ks = bif ks.any (fun k => decide (10000 < (k.length : Int))) then 3 else 0 := by unfold csE; rw [c]; rfl
   rw [e]
   exact AT _ _ ks (by have := odf c; omega) rfl
def csX (els : List Value) : Option Value := some (.int .i64 (csE (unL els)))
theorem cs_tab : ∀ args A p v A', mp 9 (fun _ => True) csX args A = some (p, v, A') → PH p → an envX 207 args A v A' := kX (by kernel_rfl) ju fun ks v _ h => by
 unfold csX at h
 simp only [osI] at h
 subst h
 refine ⟨fun σ' σ v' hv => by cases hv; exact .int _ _, ?_⟩
 have e : unL (stV ks) = ks := iQ ks
 rw [e]
 exact iJ ag ah (fn := f207) rfl (HF.cons (gy ks) HF.nil) (zD ks)
def envM (m : Int) : Env := jx Proofs.Tryz.prog gJ eT tiT fnT (fun g => bif Nat.beq g 3 then some [.int .i64 m] else none) zm true
theorem aE (m : Int) : (envM m).Ok := fw h1 h2 h3 h4 hX5
theorem aF (m : Int) : GlOk (envM m) := fun _ => rfl
theorem toM {m : Int} {f : FuncId} {x : RunF} (h : ∀ args A p v A', x args A = some (p, v, A') → PH p → an envX f args A v A') : ∀ args A p v A', x args A = some (p, v, A') → PH p → an (envM m) f args A v A' :=
 fun args A p v A' h1 h2 σ w args' R hg ha => h args A p v A' h1 h2 σ w args' R (fun g cs q => by cases q) ha
theorem sp_tab : ∀ args A p v A', splR 9 args A = some (p, v, A') → PH p → an envX 205 args A v A' := toX (vF wN rfl rfl (by kernel_rfl) (by kernel_rfl))
theorem rU : Proofs.Builder.Extra env.P ren155 where
 sizeBuilder := by kernel_rfl
 liesBuilder := by kernel_rfl
 t5 := ap env_ok (t := 5) (by kernel_rfl)
 a5 := fun w => am env_ok (t := 5) (d := .int .u8) (by kernel_rfl) w
 z5 := fun w => ab env_ok (t := 5) (i := t5) (by kernel_rfl) w
 v5 := fun w => ak env_ok (t := 5) (i := t5) (z := .int .u8 0) (by kernel_rfl) (by kernel_rfl) w
 infoByte := by kernel_rfl
 cellsByte := by kernel_rfl
 sizeByte := by kernel_rfl
 neB5 := by decide
theorem re_tab (m : Int) : ∀ args A p v A', aj nK repX args A = some (p, v, A') → PH p → an (envM m) 206 args A v A' := rep_ok (E := envM m) wM rU rfl rfl
def tabVp : Tab := [(204, aj tlPre tlX), (205, splR 9), (206, aj nK repX), (207, mp 9 (fun _ => True) csX)]
theorem p9 (m : Int) : TabOk (envM m) tabVp := .cons (toM tl_tab) (.cons (toM sp_tab) (.cons (re_tab m) (.cons (toM cs_tab) .nil)))
def elVp : El := { El.of (fun sz t els i => some (.string (bX els i))) with app := true, gm := fun _ => true }
def XVp (m : Int) : SX := ⟨envM m, tabVp, elVp, fun _ => .autoN [] [] [] [4, 21, 22, 23]⟩
theorem tZ (m : Int) : (XVp m).Ok := ⟨aE m, rfl, aF m, p9 m⟩
def frVp (n i : Nat) : T Value := (Nd (Nd (Nd (Nd Lf none (Nd Lf (some (.int .i64 i)) Lf)) none Lf) none (Nd Lf none (Nd (Nd Lf (some (rowU n)) Lf) none Lf))) none (Nd (Nd Lf (some (rowU n)) Lf) none (Nd Lf none (Nd (Nd Lf (some (.int .i64 n)) Lf) none Lf))))
def jVp (m : Int) (K : KV) (s : SB) : Prop := ay (XVp m) 3 f171 [.string s] ⟨.leaf, 0⟩ K
def jVp1 (m : Int) (K : KV) (again : KF) (n i : Nat) (els : List Value) : Prop := ax (XVp m) 3 (Func.ntmps f171) ⟨.leaf, 0⟩ (ae f171) [1, 1, 1, 1, 0, 1, 0] (finK (XVp m).E (f171.results).toList K) [] [] [] [4, 21, 22, 23] again (frVp n i) (hN els)
theorem jVp_nf (m : Int) (K : KV) (s : SB) : jVp m K s = (Sp (eqL s.data.toList (ByteArray.mk #[]).data.toList) (K (Vt [Value.slice none 0 0, Vi 0]) (AH.mk Lf 0)) (((0 : Int) ≤ (0 : Int) ∧ 0 < (s.size : Int)) ∧ Sp (!decide (ac s (0 : Int) = (47 : Int))) (K (Vt [Value.slice none 0 0, Vi 6]) (AH.mk Lf 0)) (s.size < 9223372036854775807 ∧ Sp (!aC s.data.toList) (K (Vt [Value.slice none 0 0, Vi 6]) (AH.mk Lf 0)) (((0 : Int) ≤ (1 : Int) ∧ 1 ≤ (s.size : Int)) ∧ (ByteArray.size (subB s 1 s.size) < 4294967281 ∧ (1 : Nat) = (1 : Nat)) ∧ HF (Va (List.map (fun (k : List UInt8) => Vs (aa k)) (List.map (fun (b : ByteArray) => b.data.toList) (Go.Lib.splitB (ByteArray.mk #[(47 : UInt8)]) 0 (Go.Lib.countB (subB s 1 s.size) (ByteArray.mk (Array.mk [(47 : UInt8)]))) (subB s 1 s.size))))) ∧ LAtZ (XVp m) 3 f171.ntmps (AH.mk Lf 0) (ae f171) [1, 1, 1, 1, 0, 1, 0] (finK (SX.E (XVp m)) f171.results.toList K) (No (No (No (No Lf (Sg (Vi 0))) Lf) (No Lf (No (Sg (Value.slice (some ⟨0, 0, none⟩) (List.length (List.map (fun (b : ByteArray) => b.data.toList) (Go.Lib.splitB (ByteArray.mk #[(47 : UInt8)]) 0 (Go.Lib.countB (subB s 1 s.size) (ByteArray.mk (Array.mk [(47 : UInt8)]))) (subB s 1 s.size)))) 18446744073709551620)) Lf))) (No (Sg (Value.slice (some ⟨0, 0, none⟩) (List.length (List.map (fun (b : ByteArray) => b.data.toList) (Go.Lib.splitB (ByteArray.mk #[(47 : UInt8)]) 0 (Go.Lib.countB (subB s 1 s.size) (ByteArray.mk (Array.mk [(47 : UInt8)]))) (subB s 1 s.size)))) 18446744073709551620)) (No Lf (No (Sg (Vi (↑(List.length (List.map (fun (b : ByteArray) => b.data.toList) (Go.Lib.splitB (ByteArray.mk #[(47 : UInt8)]) 0 (Go.Lib.countB (subB s 1 s.size) (ByteArray.mk (Array.mk [(47 : UInt8)]))) (subB s 1 s.size)))) : Int))) Lf)))) (AH.mk (Sg (AObj.gro (List.map (fun (k : List UInt8) => Vs (aa k)) (List.map (fun (b : ByteArray) => b.data.toList) (Go.Lib.splitB (ByteArray.mk #[(47 : UInt8)]) 0 (Go.Lib.countB (subB s 1 s.size) (ByteArray.mk (Array.mk [(47 : UInt8)]))) (subB s 1 s.size)))) [] 9)) 1))))) := by kernel_rfl
theorem wV (m : Int) (K : KV) (again : KF) (n i : Nat) (els : List Value) : jVp1 m K again n i els = (Sp (decide ((i : Int) < (n : Int))) ((0 ≤ (i : Int) ∧ (i : Int) < (n : Int)) ∧ nth els (Int.toNat (↑(Int.toNat (i : Int) + 0) : Int)) = some (Vs (match nth (glue els []) (Int.toNat (↑(gIdx (gsz (unk + 3 + 1)) 0 (Int.toNat i)) : Int)) with | some (Value.string s) => s | x => ByteArray.empty)) ∧ (ByteArray.size (match nth (glue els []) (Int.toNat (↑(gIdx (gsz (unk + 3 + 1)) 0 (Int.toNat i)) : Int)) with | some (Value.string s) => s | x => ByteArray.empty) < 4294967281 ∧ (1 : Nat) ≤ (2 : Nat) ∧ ByteArray.size (match nth (glue els []) (Int.toNat (↑(gIdx (gsz (unk + 3 + 1)) 0 (Int.toNat i)) : Int)) with | some (Value.string s) => s | x => ByteArray.empty) + Go.Lib.countB (match nth (glue els []) (Int.toNat (↑(gIdx (gsz (unk + 3 + 1)) 0 (Int.toNat i)) : Int)) with | some (Value.string s) => s | x => ByteArray.empty) (ByteArray.mk (Array.mk [(126 : UInt8), (49 : UInt8)])) * (1 : Nat) ≤ (140737488355328 : Nat)) ∧ (ByteArray.size (ByteArray.mk (Array.mk (Go.Lib.replaceAll ((bX (glue els []) (↑(gIdx (gsz (unk + 3 + 1)) 0 (Int.toNat i)) : Int)).data.toList) [(126 : UInt8), (49 : UInt8)] [(47 : UInt8)]))) < 4294967281 ∧ (1 : Nat) ≤ (2 : Nat) ∧ ByteArray.size (ByteArray.mk (Array.mk (Go.Lib.replaceAll ((bX (glue els []) (↑(gIdx (gsz (unk + 3 + 1)) 0 (Int.toNat i)) : Int)).data.toList) [(126 : UInt8), (49 : UInt8)] [(47 : UInt8)]))) + Go.Lib.countB (ByteArray.mk (Array.mk (Go.Lib.replaceAll ((bX (glue els []) (↑(gIdx (gsz (unk + 3 + 1)) 0 (Int.toNat i)) : Int)).data.toList) [(126 : UInt8), (49 : UInt8)] [(47 : UInt8)]))) (ByteArray.mk (Array.mk [(126 : UInt8), (48 : UInt8)])) * (1 : Nat) ≤ (140737488355328 : Nat)) ∧ (0 ≤ (i : Int) ∧ (i : Int) < (n : Int)) ∧ Int.toNat (↑(Int.toNat (i : Int) + 0) : Int) < List.length els ∧ HF (Va (List.set els (Int.toNat (↑(Int.toNat (i : Int) + 0) : Int)) (Vs (ByteArray.mk (Array.mk (Go.Lib.replaceAll ((aa (Go.Lib.replaceAll ((bX (glue els []) (↑(gIdx (gsz (unk + 3 + 1)) 0 (Int.toNat i)) : Int)).data.toList) (ByteArray.mk #[(126 : UInt8), (49 : UInt8)]).data.toList (ByteArray.mk #[(47 : UInt8)]).data.toList)).data.toList) [(126 : UInt8), (48 : UInt8)] [(126 : UInt8)])))))) ∧ again (No (No (No (No Lf (Sg (Vi (Wi ((i : Int) + 1))))) Lf) (No Lf (No (Sg (Value.slice (some ⟨0, 0, none⟩) n 18446744073709551620)) Lf))) (No (Sg (Value.slice (some ⟨0, 0, none⟩) n 18446744073709551620)) (No Lf (No (Sg (Vi n)) Lf)))) (AH.mk (Sg (AObj.gro (List.set els (Int.toNat (↑(Int.toNat (i : Int) + 0) : Int)) (Vs (ByteArray.mk (Array.mk (Go.Lib.replaceAll ((aa (Go.Lib.replaceAll ((bX (glue els []) (↑(gIdx (gsz (unk + 3 + 1)) 0 (Int.toNat i)) : Int)).data.toList) (ByteArray.mk #[(126 : UInt8), (49 : UInt8)]).data.toList (ByteArray.mk #[(47 : UInt8)]).data.toList)).data.toList) [(126 : UInt8), (48 : UInt8)] [(126 : UInt8)]))))) [] 9)) 1)) ((∃ (ks : List (List UInt8)), els = List.map (fun (k : List UInt8) => Vs (aa k)) ks ∧ n = List.length ks ∧ (fun (x : List (List UInt8)) => True) ks) ∧ Sp (!decide (csE (unL els) = 0)) (K (Vt [Value.slice none 0 0, Vi (csE (unL els))]) (AH.mk (Sg (AObj.gro els [] 9)) 1)) (K (Vt [Value.slice (some ⟨0, 0, none⟩) n 18446744073709551620, Vi 0]) (AH.mk (Sg (AObj.gro els [] 9)) 1)))) := by kernel_rfl
def mpU (f : List UInt8 → List UInt8) (l : LB) (i : Nat) : LB := (l.take i).map f ++ l.drop i
theorem wC (f : List UInt8 → List UInt8) (l : LB) (i : Nat) : (mpU f l i).length = l.length := by unfold mpU; rw [List.length_append, List.length_map, ← List.length_append, List.take_append_drop]
theorem wD {f : List UInt8 → List UInt8} {l : LB} {i : Nat} (h : i < l.length) (h2 : i < (mpU f l i).length) : (mpU f l i)[i] = l[i] := by
 have h1 : ((l.take i).map f).length = i := by rw [List.length_map, List.length_take]; omega
 have : (mpU f l i)[i]? = l[i]? := by
  unfold mpU
  rw [List.getElem?_append_right (by omega), h1, Nat.sub_self, List.getElem?_drop, Nat.add_zero]
 rw [List.getElem?_eq_getElem h2, List.getElem?_eq_getElem h] at this
 exact Option.some.inj this
theorem wA {f : List UInt8 → List UInt8} {l : LB} {i : Nat} (h : i < l.length) : (mpU f l i).set i (f l[i]) = mpU f l (i + 1) := by
 have h1 : ((l.take i).map f).length = i := by rw [List.length_map, List.length_take]; omega
 unfold mpU
 rw [List.set_append, if_neg (by omega), h1, Nat.sub_self, List.drop_eq_getElem_cons h, List.set_cons_zero, List.take_succ_eq_append_getElem h, List.map_append, List.append_assoc]
 rfl
theorem wE (f : List UInt8 → List UInt8) (l : LB) : mpU f l l.length = l.map f := by unfold mpU; rw [List.take_length, List.drop_length, List.append_nil]
theorem st_set (l : LB) (i : Nat) (x : List UInt8) : (stv l).set i (.string (aa x)) = stv (l.set i x) := by unfold stv; rw [List.map_set]
def pthL (s : SB) : LB := (splF (s.data.toList.drop 1)).map decL
def pthE (s : SB) : Int := bif eqL s.data.toList [] then 0 else bif !decide (ac s 0 = 47) then 6 else bif !aC s.data.toList then 6 else csE (pthL s)
def pthV (s : SB) : LB := bif eqL s.data.toList [] then [] else bif !decide (ac s 0 = 47) then [] else bif !aC s.data.toList then [] else bif decide (csE (pthL s) = 0) then pthL s else []
def pthR (s : SB) : Value := .tuple ⟨[dat 1 (stv (pthV s)), .int .i64 (pthE s)]⟩
theorem jS {c d : UInt8} : ∀ l : List UInt8, (repL c d l).length ≤ l.length
 | [] => Nat.le_refl _
 | [x] => Nat.le_refl _
 | x :: y :: l => by
   have h1 := jS (c := c) (d := d) l
   have h2 := jS (c := c) (d := d) (y :: l)
   rw [repL]
   split
   · simp only [List.length_cons]; omega
   · simp only [List.length_cons] at h2 ⊢; omega
theorem nC : ∀ (l : List UInt8), (splF l).length ≤ l.length + 1 ∧ ∀ p ∈ splF l, p.length ≤ l.length
 | [] => ⟨Nat.le_refl _, fun p hp => by simp [splF] at hp; rw [hp]; exact Nat.le_refl _⟩
 | x :: l => by
   obtain ⟨h1, h2⟩ := nC l
   rw [splF]
   split
   · refine ⟨by simp only [List.length_cons]; omega, fun p hp => ?_⟩
     rcases List.mem_cons.1 hp with rfl | hp
     · simp
     · have := h2 p hp; simp only [List.length_cons]; omega
   · split
     · rename_i he; exact absurd he (jM l)
     · rename_i q qs he
       rw [he] at h1 h2
       refine ⟨by simp only [List.length_cons] at h1 ⊢; omega, fun p hp => ?_⟩
       rcases List.mem_cons.1 hp with rfl | hp
       · have := h2 q (by simp); simp only [List.length_cons]; omega
       · have := h2 p (List.mem_cons_of_mem _ hp); simp only [List.length_cons]; omega
theorem p8 {l : List UInt8} (h : aC l = true) : aC (l.drop 1) = true := by
 cases l with
 | nil => rfl
 | cons x l => exact dN h
theorem px (s : SB) {c d : UInt8} : Lib.countB s ⟨⟨[c, d]⟩⟩ ≤ s.size := Lib.countB_le _ (by show 1 ≤ 2; omega) s.size s (Nat.le_refl _)
theorem Ah (m : Int) {K : KV} (ls : LB) (hl : ls.length ≤ 4294967281) (ht : ∀ p ∈ ls, aC p = true) (hz : ∀ p ∈ ls, p.length < 4294967281)
 (hK0 : csE (ls.map decL) ≠ 0 → ∀ A, K (.tuple ⟨[.slice none 0 0, .int .i64 (csE (ls.map decL))]⟩) A) (hK1 : csE (ls.map decL) = 0 → K (.tuple ⟨[.slice (some ⟨0, 0, none⟩) ls.length (unk + 3 + 1), .int .i64 0]⟩) (hN (stv (ls.map decL)))) :
 LAtZ (XVp m) 3 (Func.ntmps f171) ⟨.leaf, 0⟩ (ae f171) [1, 1, 1, 1, 0, 1, 0] (finK (XVp m).E (f171.results).toList K) (frVp ls.length 0) (hN (stv ls)) := by
 refine LAtZ.step (tZ m) rfl [] [] [] [4, 21, 22, 23] (by kernel_rfl) (fun k F A => ∃ i : Nat, F = frVp ls.length i ∧ A = hN (stv (mpU decL ls i)) ∧ i + k = ls.length) ?_ (k := ls.length) ⟨0, rfl, rfl, by omega⟩
 rintro k F A ⟨i, rfl, rfl, hk⟩
 refine (wV m _ _ ls.length i _).mpr ?_
 have hgl : ∀ x : LB, glue (stv x) [] = stv x := fun _ => rfl
 refine Sp.intro (fun c => ?_) (fun c => ?_)
 · have hlt : i < ls.length := by have := odt c; omega
   have hlt2 : i < (mpU decL ls i).length := by rw [wC]; exact hlt
   have hgi : gIdx (gsz (unk + 3 + 1)) 0 i = i := by
    have : gsz (unk + 3 + 1) = 1 := tN (by decide)
    rw [this]; unfold gIdx; simp
   have hw := i64s i (by omega)
   have hg := wD (f := decL) hlt hlt2
   have hti := ht ls[i] (List.getElem_mem hlt)
   have hzi := hz ls[i] (List.getElem_mem hlt)
   have eB : ∀ l : List UInt8, (aa l).data.toList = l := fun _ => rfl
   have e49 : (ByteArray.mk #[126, 49]).data.toList = [126, 49] := rfl
   have e47 : (ByteArray.mk #[47]).data.toList = [47] := rfl
   have er1 : ∀ l : List UInt8, Lib.replaceAll l [126, 49] [47] = repL 49 47 l := fun l => i1 (by decide) (by decide) l
   have er2 : ∀ l : List UInt8, Lib.replaceAll l [126, 48] [126] = repL 48 126 l := fun l => i1 (by decide) (by decide) l
   have hd := lM ls[i].length (Nat.le_refl _) hti
   have hrl := jS (c := 49) (d := 47) ls[i]
   have hc1 := px (aa ls[i]) (c := 126) (d := 49)
   have hc2 := px (aa (repL 49 47 ls[i])) (c := 126) (d := 48)
   have hs1 := dR ls[i]
   have hs2 := dR (repL 49 47 ls[i])
   simp only [Int.toNat_natCast, Nat.add_zero, hgi, hgl, fG hlt2, nv hlt2, hg, hw, eB, e49, e47, er1, er2, hd]
   refine ⟨by omega, trivial, ⟨by omega, by omega, by omega⟩, ⟨?_, by omega, ?_⟩, by omega, by rw [bv]; exact hlt2, ?_⟩
   · show (aa (repL 49 47 ls[i])).size < 4294967281; omega
   · show (aa (repL 49 47 ls[i])).size + Lib.countB (aa (repL 49 47 ls[i])) ⟨⟨[126, 48]⟩⟩ * 1 ≤ 140737488355328; omega
   · have est : (stv (mpU decL ls i)).set i (.string (ByteArray.mk (Array.mk (decL ls[i])))) = stv (mpU decL ls (i + 1)) := (st_set _ _ _).trans (by rw [wA hlt])
     rw [est]
     exact ⟨.agg (eI _), k - 1, by omega, i + 1, rfl, rfl, by omega⟩
 · have hge : i = ls.length := by have := odf c; omega
   subst hge
   rw [wE]
   have hu : unL (stv (ls.map decL)) = ls.map decL := iQ _
   rw [hu]
   refine ⟨⟨ls.map decL, rfl, (List.length_map _).symm, trivial⟩, Sp.intro (fun c1 => ?_) (fun c1 => ?_)⟩
   · exact hK0 (by simpa using c1) _
   · exact hK1 (by simpa using c1)
theorem uH (m : Int) (s : SB) (hs : s.size < 4294967281) : bt (envM m) f171 [.string s] ⟨.leaf, 0⟩ (pthR s) := by
 refine al (tZ m) (d := 3) ((jVp_nf m _ s).mpr ?_)
 have e0 : (ByteArray.mk #[]).data.toList = [] := rfl
 have hbad : ∀ e : Int, pthV s = [] → pthE s = e → ∀ A, Frz A (.tuple ⟨[.slice none 0 0, .int .i64 e]⟩) (pthR s) := fun e h1 h2 A => by
  unfold pthR; rw [h1, h2]
  exact .tuple (.cons (.nils 1) (.cons (.same (HFi _ _)) .nil))
 rw [e0]
 refine Sp.intro (fun c => hbad 0 ?_ ?_ _) (fun c => ⟨?_, Sp.intro (fun c1 => hbad 6 ?_ ?_ _) (fun c1 => ⟨by omega, Sp.intro (fun c2 => hbad 6 ?_ ?_ _) (fun c2 => ?_)⟩)⟩)
 · unfold pthV; rw [c]; rfl
 · unfold pthE; rw [c]; rfl
 · rw [gj, aR] at c
   have := odf c; omega
 · unfold pthV; rw [c, c1]; rfl
 · unfold pthE; rw [c, c1]; rfl
 · unfold pthV; rw [c, c1, c2]; rfl
 · unfold pthE; rw [c, c1, c2]; rfl
 · have ht : aC s.data.toList = true := by simpa using c2
   have hne : 1 ≤ s.size := by
    rw [gj, aR] at c
    have := odf c; omega
   have hsub : (subB s 1 (s.size : Int)).data.toList = s.data.toList.drop 1 := by
    show (s.data.toList.drop 1).take (s.size - 1) = _
    rw [List.take_of_length_le (by rw [List.length_drop, aR]; exact Nat.le_refl _)]
   have hsz : (subB s 1 (s.size : Int)).size = s.size - 1 := by
    rw [← aR, hsub, List.length_drop, aR]
   have hsp : (Lib.splitB (ByteArray.mk #[47]) 0 (Lib.countB (subB s 1 (s.size : Int)) (ByteArray.mk (Array.mk [47]))) (subB s 1 (s.size : Int))).map (fun b => b.data.toList) = splF (s.data.toList.drop 1) := by
    have := vE (subB s 1 (s.size : Int))
    rw [hsub] at this
    exact this
   rw [hsp]
   obtain ⟨hlen, hps⟩ := nC (s.data.toList.drop 1)
   rw [List.length_drop, aR] at hlen
   refine ⟨by omega, ⟨by omega, rfl⟩, .agg (eI _), ?_⟩
   refine Ah m (splF (s.data.toList.drop 1)) (by omega) (nB (p8 ht)) (fun p hp => ?_) (fun h A => ?_) (fun h => ?_)
   · have := hps p hp; rw [List.length_drop, aR] at this; omega
   · have h : csE (pthL s) ≠ 0 := h
     refine hbad _ ?_ ?_ A
     · unfold pthV; rw [c, c1, c2, decide_eq_false h]; rfl
     · unfold pthE; rw [c, c1, c2]; rfl
   · have h : csE (pthL s) = 0 := h
     have e1 : pthV s = pthL s := by unfold pthV; rw [c, c1, c2, decide_eq_true h]; rfl
     have e2 : pthE s = 0 := by unfold pthE; rw [c, c1, c2]; exact h
     have e : pthR s = .tuple ⟨[dat 1 (stv ((pthL s).take (splF (s.data.toList.drop 1)).length)), .int .i64 0]⟩ := by
      unfold pthR; rw [e1, e2, List.take_of_length_le (by unfold pthL; rw [List.length_map]; exact Nat.le_refl _)]
     rw [e]
     exact .tuple (.cons (tP rfl (List.append_nil _) (by unfold pthL; rw [List.length_map]; exact Nat.le_refl _)) (.cons (.same (HFi _ _)) .nil))
def vpX : List Value → Option Value
 | [.string s] => some (.tuple ⟨[.func (.yield 1) ⟨stv (pthV s)⟩ ⟨[]⟩, .int .i64 (pthE s)]⟩)
 | _ => none
def vpPre : List Value → Option Prop
 | [.string s] => some (s.size < 4294967281)
 | _ => none
theorem vp_tab (m : Int) : ∀ args A p v A', aj vpPre vpX args A = some (p, v, A') → PH p → an (envM m) 171 args A v A' := ai (aE m) (aF m) (fn := f171) rfl fun args v h hp => by
 unfold vpX at h
 split at h
 · simp only [osI] at h
   subst h
   exact ⟨HF.cons (.scal rfl) HF.nil, uH m _ hp⟩
 · cases h
def elB1 : El := { El.of (fun _ _ _ _ => none) with app := true }
def XSt : SX := ⟨envX, [], elB1, fun _ => .autoN [] [] [5] [0, 3, 4]⟩
theorem uf : XSt.Ok := ⟨ag, aw, ah, .nil⟩
def rowC (n : Nat) : Value := .slice (some ⟨0, 0, none⟩) n unk
def frSt (s : SB) (n i : Nat) : T Value := (Nd (Nd (Nd Lf (some (rowC n)) Lf) none Lf) (some (.string s)) (Nd (Nd Lf (some (.int .i64 i)) Lf) none Lf))
def hC (bs : List Value) : AH := ⟨Nd Lf (some (.cells bs 5)) Lf, 1⟩
def jStp (K : KV) (s : SB) : Prop := ay XSt 1 f240 [.string s] ⟨.leaf, 0⟩ K
def jStp1 (K : KV) (again : KF) (s : SB) (i : Nat) (bs : List Value) : Prop := ax XSt 1 (Func.ntmps f240) ⟨.leaf, 0⟩ (ae f240) [1, 1, 0, 1, 0] (finK XSt.E (f240.results).toList K) [] [] [5] [0, 3, 4] again (frSt s bs.length i) (hC bs)
def o7 (s : SB) : T Value := (Nd (Nd (Nd Lf (some (.slice (some ⟨0, 0, none⟩) 1 1)) Lf) none Lf) (some (.string s)) (Nd (Nd Lf (some (.int .i64 (0 : Nat))) Lf) none Lf))
def jStp0 (K : KV) (again : KF) (s : SB) : Prop := ax XSt 1 (Func.ntmps f240) ⟨.leaf, 0⟩ (ae f240) [1, 1, 0, 1, 0] (finK XSt.E (f240.results).toList K) [] [] [5] [0, 3, 4] again (o7 s) (hC [.int .u8 47])
theorem xc (K : KV) (s : SB) : jStp K s = (HF (Va [Value.int .u8 47]) ∧ LAtZ XSt 1 f240.ntmps (AH.mk Lf 0) (ae f240) [1, 1, 0, 1, 0] (finK (SX.E XSt) f240.results.toList K) (Ns (No (Sg (Value.slice (some ⟨0, 0, none⟩) 1 1)) Lf) (Vs s) (No (Sg (Vi 0)) Lf)) (AH.mk (Sg (AObj.cells [Value.int .u8 47] 5)) 1)) := by kernel_rfl
theorem rx (K : KV) (again : KF) (s : SB) (i : Nat) (bs : List Value) : jStp1 K again s i bs = (Sp (decide ((i : Int) < (s.size : Int))) ((0 ≤ (i : Int) ∧ (i : Int) < (s.size : Int)) ∧ Sp (decide (ac s (i : Int) = 126)) ((List.length bs + (2 : Nat) ≤ (70368744177664 : Nat) ∧ (List.length bs + 2) * (1 : Nat) ≤ (140737488355328 : Nat) ∧ List.length bs * 1 ≤ List.length bs) ∧ HF (Va (List.take (List.length bs * 1) bs ++ [Value.int .u8 126, Value.int .u8 48])) ∧ again (Ns (No (Sg (Value.slice (some ⟨0, 0, none⟩) (List.length bs + 2) 18446744073709551616)) Lf) (Vs s) (No (Sg (Vi (Wi ((i : Int) + 1)))) Lf)) (AH.mk (Sg (AObj.cells (List.take (List.length bs * 1) bs ++ [Value.int .u8 126, Value.int .u8 48]) 5)) 1)) (Sp (decide (ac s (i : Int) = 47)) ((List.length bs + (2 : Nat) ≤ (70368744177664 : Nat) ∧ (List.length bs + 2) * (1 : Nat) ≤ (140737488355328 : Nat) ∧ List.length bs * 1 ≤ List.length bs) ∧ HF (Va (List.take (List.length bs * 1) bs ++ [Value.int .u8 126, Value.int .u8 49])) ∧ again (Ns (No (Sg (Value.slice (some ⟨0, 0, none⟩) (List.length bs + 2) 18446744073709551616)) Lf) (Vs s) (No (Sg (Vi (Wi ((i : Int) + 1)))) Lf)) (AH.mk (Sg (AObj.cells (List.take (List.length bs * 1) bs ++ [Value.int .u8 126, Value.int .u8 49]) 5)) 1)) ((0 ≤ (i : Int) ∧ (i : Int) < (s.size : Int)) ∧ (List.length bs + (1 : Nat) ≤ (70368744177664 : Nat) ∧ (List.length bs + 1) * (1 : Nat) ≤ (140737488355328 : Nat) ∧ List.length bs * 1 ≤ List.length bs) ∧ HF (Va (List.take (List.length bs * 1) bs ++ [Value.int .u8 (ac s i)])) ∧ again (Ns (No (Sg (Value.slice (some ⟨0, 0, none⟩) (List.length bs + 1) 18446744073709551616)) Lf) (Vs s) (No (Sg (Vi (Wi ((i : Int) + 1)))) Lf)) (AH.mk (Sg (AObj.cells (List.take (List.length bs * 1) bs ++ [Value.int .u8 (ac s i)]) 5)) 1)))) (IsB bs 0 bs.length ∧ K (Vs (aa (u8L bs 0 bs.length))) (AH.mk (Sg (AObj.cells bs 5)) 1))) := by kernel_rfl
theorem ry (K : KV) (again : KF) (s : SB) : jStp0 K again s = (Sp (decide (0 < (s.size : Int))) (((0 : Int) ≤ (0 : Int) ∧ 0 < (s.size : Int)) ∧ Sp (decide (ac s (0 : Int) = (126 : Int))) (HF (Va [Value.int .u8 47, Value.int .u8 126, Value.int .u8 48]) ∧ again (Ns (No (Sg (Value.slice (some ⟨0, 0, none⟩) 3 18446744073709551616)) Lf) (Vs s) (No (Sg (Vi 1)) Lf)) (AH.mk (Sg (AObj.cells [Value.int .u8 47, Value.int .u8 126, Value.int .u8 48] 5)) 1)) (Sp (decide (ac s (0 : Int) = (47 : Int))) (HF (Va [Value.int .u8 47, Value.int .u8 126, Value.int .u8 49]) ∧ again (Ns (No (Sg (Value.slice (some ⟨0, 0, none⟩) 3 18446744073709551616)) Lf) (Vs s) (No (Sg (Vi 1)) Lf)) (AH.mk (Sg (AObj.cells [Value.int .u8 47, Value.int .u8 126, Value.int .u8 49] 5)) 1)) (((0 : Int) ≤ (0 : Int) ∧ 0 < (s.size : Int)) ∧ HF (Va [Value.int .u8 47, Value.int .u8 (ac s 0)]) ∧ again (Ns (No (Sg (Value.slice (some ⟨0, 0, none⟩) 2 18446744073709551616)) Lf) (Vs s) (No (Sg (Vi 1)) Lf)) (AH.mk (Sg (AObj.cells [Value.int .u8 47, Value.int .u8 (ac s 0)] 5)) 1)))) (IsB [Value.int .u8 47] 0 1 ∧ K (Vs (aa (u8L [Value.int .u8 47] 0 1))) (AH.mk (Sg (AObj.cells [Value.int .u8 47] 5)) 1))) := by kernel_rfl
def encB (x : UInt8) : List UInt8 := if x = 126 then [126, 48] else if x = 47 then [126, 49] else [x]
def stpL (l : List UInt8) : List UInt8 := 47 :: l.flatMap encB
theorem zv (x : UInt8) : 1 ≤ (encB x).length ∧ (encB x).length ≤ 2 := by
 unfold encB
 split
 · simp
 · split <;> simp
theorem fJ : ∀ l : List UInt8, (l.flatMap encB).length ≤ 2 * l.length
 | [] => by simp
 | x :: l => by
   have h1 := fJ l
   have h2 := (zv x).2
   simp only [List.flatMap_cons, List.length_append, List.length_cons]; omega
theorem kN {l : List UInt8} {i : Nat} (h : i < l.length) : (l.take (i + 1)).flatMap encB = (l.take i).flatMap encB ++ encB l[i] := by
 rw [List.take_succ_eq_append_getElem h, List.flatMap_append]; simp
theorem ng (l m : List UInt8) : (u8v l).take ((u8v l).length * 1) ++ u8v m = u8v (l ++ m) := by
 rw [Nat.mul_one, List.take_length]; simp [u8v]
theorem so (s : SB) (hs : s.size ≤ 10000) : LAtZ XSt 1 (Func.ntmps f240) ⟨.leaf, 0⟩ (ae f240) [1, 1, 0, 1, 0] (finK XSt.E (f240.results).toList (fun v A => Frz A v (.string (aa (stpL s.data.toList))))) (o7 s) (hC [.int .u8 47]) := by
 have hl := aR s
 refine LAtZ.step uf rfl [] [] [5] [0, 3, 4] (by kernel_rfl) (fun k F A => (k = s.size ∧ F = o7 s ∧ A = hC [.int .u8 47]) ∨ ∃ i : Nat, 0 < i ∧ F = frSt s (u8v (stpL (s.data.toList.take i))).length i ∧ A = hC (u8v (stpL (s.data.toList.take i))) ∧ i + k = s.size) ?_ (k := s.size) (.inl ⟨rfl, rfl, rfl⟩)
 have hagain : ∀ {k i : Nat} (bs : List UInt8), i < s.data.toList.length → i + k = s.size → bs = stpL (s.data.toList.take (i + 1)) → ∃ k', k' < k ∧ ((k' = s.size ∧ frSt s (u8v bs).length (i + 1) = o7 s ∧ hC (u8v bs) = hC [.int .u8 47]) ∨ ∃ i2 : Nat, 0 < i2 ∧ frSt s (u8v bs).length (i + 1) = frSt s (u8v (stpL (s.data.toList.take i2))).length i2 ∧ hC (u8v bs) = hC (u8v (stpL (s.data.toList.take i2))) ∧ i2 + k' = s.size) := fun {k i} bs h1 h2 h3 => by
  refine ⟨k - 1, by omega, .inr ⟨i + 1, by omega, ?_, ?_, by omega⟩⟩
  · rw [h3]
  · rw [h3]
 rintro k F A (⟨rfl, rfl, rfl⟩ | ⟨i, hi0, rfl, rfl, hk⟩)
 · refine (ry _ _ s).mpr ?_
   refine Sp.intro (fun c => ?_) (fun c => ?_)
   · have hlt : 0 < s.data.toList.length := by have := odt c; omega
     have hb : ac s 0 = (s.data.toList[0].toNat : Int) := aK hlt
     have e126 : decide ((s.data.toList[0].toNat : Int) = 126) = decide (s.data.toList[0] = 126) := u8i (n := 126) (by decide)
     have e47 : decide ((s.data.toList[0].toNat : Int) = 47) = decide (s.data.toList[0] = 47) := u8i (n := 47) (by decide)
     have ht : (s.data.toList.take (0 + 1)).flatMap encB = encB s.data.toList[0] := by rw [kN hlt]; rfl
     rw [hb, e126, e47]
     refine ⟨by omega, Sp.intro (fun c1 => ⟨.agg (aV [47, 126, 48]), ?_⟩) (fun c1 => Sp.intro (fun c2 => ⟨.agg (aV [47, 126, 49]), ?_⟩) (fun c2 => ⟨by omega, .agg (aV [47, s.data.toList[0]]), ?_⟩))⟩
     · exact hagain (i := 0) [47, 126, 48] hlt (by omega) (by unfold stpL; rw [ht]; unfold encB; rw [if_pos (odt c1)])
     · exact hagain (i := 0) [47, 126, 49] hlt (by omega) (by unfold stpL; rw [ht]; unfold encB; rw [if_neg (odf c1), if_pos (odt c2)])
     · exact hagain (i := 0) [47, s.data.toList[0]] hlt (by omega) (by unfold stpL; rw [ht]; unfold encB; rw [if_neg (odf c1), if_neg (odf c2)])
   · have hnil : s.data.toList = [] := List.eq_nil_of_length_eq_zero (by have := odf c; omega)
     have h1 := dL [47]
     have h2 := u8_L [47]
     refine ⟨h1, ?_⟩
     have e : aa (u8L [Value.int .u8 47] 0 1) = aa (stpL s.data.toList) := by rw [hnil]; exact congrArg aa h2
     rw [e]; exact .same (.scal rfl)
 · refine (rx _ _ s i _).mpr ?_
   refine Sp.intro (fun c => ?_) (fun c => ?_)
   · have hlt : i < s.data.toList.length := by have := odt c; omega
     have hw := i64s i (by omega)
     have e126 : decide ((s.data.toList[i].toNat : Int) = 126) = decide (s.data.toList[i] = 126) := u8i (n := 126) (by decide)
     have e47 : decide ((s.data.toList[i].toNat : Int) = 47) = decide (s.data.toList[i] = 47) := u8i (n := 47) (by decide)
     have ht := kN hlt
     have hbl : (stpL (s.data.toList.take i)).length ≤ 1 + 2 * i := by
      have := fJ (s.data.toList.take i)
      unfold stpL; rw [List.length_cons]; rw [List.length_take] at this; omega
     have hul := aY (stpL (s.data.toList.take i))
     have hgo : ∀ (m : List UInt8), encB s.data.toList[i] = m → HF (.agg ⟨(u8v (stpL (s.data.toList.take i))).take ((u8v (stpL (s.data.toList.take i))).length * 1) ++ u8v m⟩) ∧ ∃ k', k' < k ∧ ((k' = s.size ∧ frSt s ((u8v (stpL (s.data.toList.take i))).length + m.length) (i + 1) = o7 s ∧ hC ((u8v (stpL (s.data.toList.take i))).take ((u8v (stpL (s.data.toList.take i))).length * 1) ++ u8v m) = hC [.int .u8 47]) ∨ ∃ i2 : Nat, 0 < i2 ∧ frSt s ((u8v (stpL (s.data.toList.take i))).length + m.length) (i + 1) = frSt s (u8v (stpL (s.data.toList.take i2))).length i2 ∧ hC ((u8v (stpL (s.data.toList.take i))).take ((u8v (stpL (s.data.toList.take i))).length * 1) ++ u8v m) = hC (u8v (stpL (s.data.toList.take i2))) ∧ i2 + k' = s.size) := fun m hm => by
      rw [ng]
      have e : (u8v (stpL (s.data.toList.take i))).length + m.length = (u8v (stpL (s.data.toList.take i) ++ m)).length := by rw [aY, aY, List.length_append]
      rw [e]
      exact ⟨.agg (aV _), hagain _ hlt hk (by unfold stpL; rw [ht, hm]; rfl)⟩
     simp only [aK hlt, hw, e126, e47]
     refine ⟨by omega, Sp.intro (fun c1 => ⟨⟨by omega, by omega, by omega⟩, ?_⟩) (fun c1 => Sp.intro (fun c2 => ⟨⟨by omega, by omega, by omega⟩, ?_⟩) (fun c2 => ⟨by omega, ⟨by omega, by omega, by omega⟩, ?_⟩))⟩
     · exact hgo [126, 48] (by unfold encB; rw [if_pos (odt c1)])
     · exact hgo [126, 49] (by unfold encB; rw [if_neg (odf c1), if_pos (odt c2)])
     · exact hgo [s.data.toList[i]] (by unfold encB; rw [if_neg (odf c1), if_neg (odf c2)])
   · have hge : s.data.toList.take i = s.data.toList := List.take_of_length_le (by have := odf c; omega)
     rw [hge]
     refine ⟨dL _, ?_⟩
     rw [u8_L]; exact .same (.scal rfl)
theorem qJ (s : SB) (hs : s.size ≤ 10000) : bt envX f240 [.string s] ⟨.leaf, 0⟩ (.string (aa (stpL s.data.toList))) := by
 refine al uf (d := 1) ((xc _ s).mpr ⟨.agg (aV [47]), ?_⟩)
 exact so s hs
def stS (s : SB) : SB := aa (stpL s.data.toList).reverse.reverse
theorem nA (s : SB) : stS s = aa (stpL s.data.toList) := by unfold stS; rw [List.reverse_reverse]
def stpX : List Value → Option Value
 | [.string s] => some (.string (stS s))
 | _ => none
def tc : List Value → Option Prop
 | [.string s] => some (s.size ≤ 10000)
 | _ => none
theorem vu : ∀ args A p v A', aj tc stpX args A = some (p, v, A') → PH p → an envX 240 args A v A' := ai ag ah (fn := f240) rfl fun args v h hp => by
 unfold stpX at h
 split at h
 · simp only [osI] at h
   subst h
   rw [nA]
   exact ⟨HF.cons (.scal rfl) HF.nil, qJ _ hp⟩
 · cases h
def tabPt : Tab := [(240, aj tc stpX)]
theorem qk : TabOk envX tabPt := .cons vu .nil
def elPt : El := { El.of (fun sz t els i => some (.string (bX els i))) with app := true }
def XPt : SX := ⟨envX, tabPt, elPt, fun _ => .autoN [] [] [5] [0, 4, 5]⟩
theorem uj : XPt.Ok := ⟨ag, aw, ah, qk⟩
def zc (els : List Value) (i : Nat) : T Value := (Nd (Nd Lf none (Nd Lf (some (.int .i64 i)) Lf)) (some (dat 1 els)) (Nd (Nd Lf (some (.slice none 0 0)) Lf) none Lf))
def frPtN (els : List Value) (n i : Nat) : T Value := (Nd (Nd Lf none (Nd Lf (some (.int .i64 i)) Lf)) (some (dat 1 els)) (Nd (Nd Lf (some (rowC n)) Lf) none Lf))
def jPt (K : KV) (els : List Value) : Prop := ay XPt 1 f212 [dat 1 els] ⟨.leaf, 0⟩ K
def jPtE (K : KV) (again : KF) (els : List Value) (i : Nat) : Prop := ax XPt 1 (Func.ntmps f212) ⟨.leaf, 0⟩ (ae f212) [1, 1, 1, 0, 1, 0] (finK XPt.E (f212.results).toList K) [] [] [5] [0, 4, 5] again (zc els i) ⟨.leaf, 0⟩
def jPtN (K : KV) (again : KF) (els : List Value) (i : Nat) (bs : List Value) : Prop := ax XPt 1 (Func.ntmps f212) ⟨.leaf, 0⟩ (ae f212) [1, 1, 1, 0, 1, 0] (finK XPt.E (f212.results).toList K) [] [] [5] [0, 4, 5] again (frPtN els bs.length i) (hC bs)
theorem jPt_nf (K : KV) (els : List Value) : jPt K els = (Sp (decide (60 < (els.length : Int))) (K (Vt [Vs (ByteArray.mk ⟨[]⟩), Vi 3]) (AH.mk Lf 0)) (HF (Vd 1 els) ∧ LAtZ XPt 1 f212.ntmps (AH.mk Lf 0) (ae f212) [1, 1, 1, 0, 1, 0] (finK (SX.E XPt) f212.results.toList K) (Ns (No Lf (Sg (Vi 0))) (Vd 1 els) (No (Sg (Value.slice none 0 0)) Lf)) (AH.mk Lf 0))) := by kernel_rfl
theorem xQ (K : KV) (again : KF) (els : List Value) (i : Nat) : jPtE K again els i = (Sp (decide ((i : Int) < (els.length : Int))) ((0 ≤ (i : Int) ∧ (i : Int) < (els.length : Int)) ∧ nth els (i) = some (Vs (match nth els (i) with | some (Value.string s) => s | x => ByteArray.empty)) ∧ Sp (decide ((10000 : Int) < (↑(ByteArray.size (match nth els (i) with | some (Value.string s) => s | x => ByteArray.empty)) : Int))) (K (Vt [Vs (ByteArray.mk ⟨[]⟩), Vi 3]) (AH.mk Lf 0)) ((0 ≤ (i : Int) ∧ (i : Int) < (els.length : Int)) ∧ nth els (i) = some (Vs (match nth els (i) with | some (Value.string s) => s | x => ByteArray.empty)) ∧ ByteArray.size (match nth els (i) with | some (Value.string s) => s | x => ByteArray.empty) ≤ 10000 ∧ Sp (Nat.beq (ByteArray.size (ByteArray.mk (Array.mk (List.reverse (List.reverse ((47 : UInt8) :: List.flatMap encB (bX els i).data.toList)))))) 0) (HF (Vd 1 els) ∧ again (Ns (No Lf (Sg (Vi (Wi ((i : Int) + 1))))) (Vd 1 els) (No (Sg (Value.slice none 0 0)) Lf)) (AH.mk Lf 0)) ((ByteArray.size (ByteArray.mk (Array.mk (List.reverse (List.reverse ((47 : UInt8) :: List.flatMap encB (bX els i).data.toList))))) ≤ 70368744177664 ∧ ByteArray.size (ByteArray.mk (Array.mk (List.reverse (List.reverse ((47 : UInt8) :: List.flatMap encB (bX els i).data.toList))))) * (1 : Nat) ≤ (140737488355328 : Nat)) ∧ HF (Vd 1 els) ∧ HF (Va (List.map (fun (b : UInt8) => Value.int .u8 (↑(UInt8.toNat b) : Int)) (stS (bX els i)).data.toList)) ∧ again (Ns (No Lf (Sg (Vi (Wi ((i : Int) + 1))))) (Vd 1 els) (No (Sg (Value.slice (some ⟨0, 0, none⟩) (ByteArray.size (ByteArray.mk (Array.mk (List.reverse (List.reverse ((47 : UInt8) :: List.flatMap encB (bX els i).data.toList)))))) 18446744073709551616)) Lf)) (AH.mk (Sg (AObj.cells (List.map (fun (b : UInt8) => Value.int .u8 (↑(UInt8.toNat b) : Int)) (stS (bX els i)).data.toList) 5)) 1)))) (K (Vt [Vs (ByteArray.mk ⟨[]⟩), Vi 0]) (AH.mk Lf 0))) := by kernel_rfl
theorem xP (K : KV) (again : KF) (els : List Value) (i : Nat) (bs : List Value) : jPtN K again els i bs = (Sp (decide ((i : Int) < (els.length : Int))) ((0 ≤ (i : Int) ∧ (i : Int) < (els.length : Int)) ∧ nth els (i) = some (Vs (match nth els (i) with | some (Value.string s) => s | x => ByteArray.empty)) ∧ Sp (decide ((10000 : Int) < (↑(ByteArray.size (match nth els (i) with | some (Value.string s) => s | x => ByteArray.empty)) : Int))) (K (Vt [Vs (ByteArray.mk ⟨[]⟩), Vi 3]) (AH.mk (Sg (AObj.cells bs 5)) 1)) ((0 ≤ (i : Int) ∧ (i : Int) < (els.length : Int)) ∧ nth els (i) = some (Vs (match nth els (i) with | some (Value.string s) => s | x => ByteArray.empty)) ∧ ByteArray.size (match nth els (i) with | some (Value.string s) => s | x => ByteArray.empty) ≤ 10000 ∧ Sp (Nat.beq (ByteArray.size (ByteArray.mk (Array.mk (List.reverse (List.reverse ((47 : UInt8) :: List.flatMap encB (bX els i).data.toList)))))) 0) (HF (Vd 1 els) ∧ HF (Va bs) ∧ again (Ns (No Lf (Sg (Vi (Wi ((i : Int) + 1))))) (Vd 1 els) (No (Sg (Value.slice (some ⟨0, 0, none⟩) bs.length 18446744073709551616)) Lf)) (AH.mk (Sg (AObj.cells bs 5)) 1)) ((List.length bs + ByteArray.size (ByteArray.mk (Array.mk (List.reverse (List.reverse ((47 : UInt8) :: List.flatMap encB (bX els i).data.toList))))) ≤ 70368744177664 ∧ (List.length bs + ByteArray.size (ByteArray.mk (Array.mk (List.reverse (List.reverse ((47 : UInt8) :: List.flatMap encB (bX els i).data.toList)))))) * (1 : Nat) ≤ (140737488355328 : Nat) ∧ List.length bs * 1 ≤ List.length bs) ∧ HF (Vd 1 els) ∧ HF (Va (List.take (List.length bs * 1) bs ++ List.map (fun (b : UInt8) => Value.int .u8 (↑(UInt8.toNat b) : Int)) (stS (bX els i)).data.toList)) ∧ again (Ns (No Lf (Sg (Vi (Wi ((i : Int) + 1))))) (Vd 1 els) (No (Sg (Value.slice (some ⟨0, 0, none⟩) (List.length bs + ByteArray.size (ByteArray.mk (Array.mk (List.reverse (List.reverse ((47 : UInt8) :: List.flatMap encB (bX els i).data.toList)))))) 18446744073709551616)) Lf)) (AH.mk (Sg (AObj.cells (List.take (List.length bs * 1) bs ++ List.map (fun (b : UInt8) => Value.int .u8 (↑(UInt8.toNat b) : Int)) (stS (bX els i)).data.toList) 5)) 1)))) (IsB bs 0 bs.length ∧ K (Vt [Vs (aa (u8L bs 0 bs.length)), Vi 0]) (AH.mk (Sg (AObj.cells bs 5)) 1))) := by kernel_rfl
theorem ol (l : List UInt8) : (ByteArray.mk (Array.mk l)).size = l.length := rfl
theorem mkB_l (l : List UInt8) : (aa l).data.toList = l := rfl
def ptL (ks : LB) : List UInt8 := ks.flatMap stpL
theorem n4 : ∀ (ks : LB), (∀ k ∈ ks, k.length ≤ 10000) → (ptL ks).length ≤ 20001 * ks.length
 | [], _ => by simp [ptL]
 | k :: ks, h => by
   have h1 := n4 ks fun x hx => h x (List.mem_cons_of_mem _ hx)
   have h2 := fJ k
   have h3 := h k (by simp)
   unfold ptL at h1 ⊢
   rw [List.flatMap_cons, List.length_append, List.length_cons, show (stpL k).length = (k.flatMap encB).length + 1 from rfl]
   omega
theorem k8 {ks : LB} {i : Nat} (h : i < ks.length) : ptL (ks.take (i + 1)) = ptL (ks.take i) ++ stpL ks[i] := by
 unfold ptL; rw [List.take_succ_eq_append_getElem h, List.flatMap_append]; simp
def ptV (ks : LB) : Value := .tuple ⟨[.string (bif decide (csE ks = 0) then aa (ptL ks) else aa []), .int .i64 (csE ks)]⟩
theorem Az (ks : LB) (h60 : ks.length ≤ 60) : LAtZ XPt 1 (Func.ntmps f212) ⟨.leaf, 0⟩ (ae f212) [1, 1, 1, 0, 1, 0] (finK XPt.E (f212.results).toList (fun v A => Frz A v (ptV ks))) (zc (stv ks) 0) ⟨.leaf, 0⟩ := by
 have hcs : csE ks = bif ks.any (fun k => decide (10000 < (k.length : Int))) then 3 else 0 := by unfold csE; rw [decide_eq_false (by omega)]; rfl
 refine LAtZ.step uj rfl [] [] [5] [0, 4, 5] (by kernel_rfl) (fun k F A => ∃ i : Nat, i + k = ks.length ∧ (∀ x ∈ ks.take i, x.length ≤ 10000) ∧ ks.any (fun k => decide (10000 < (k.length : Int))) = (ks.drop i).any (fun k => decide (10000 < (k.length : Int))) ∧ ((i = 0 ∧ F = zc (stv ks) i ∧ A = ⟨.leaf, 0⟩) ∨ (0 < i ∧ F = frPtN (stv ks) (u8v (ptL (ks.take i))).length i ∧ A = hC (u8v (ptL (ks.take i)))))) ?_ (k := ks.length) ⟨0, by omega, fun x hx => by simp at hx, by rw [List.drop_zero], .inl ⟨rfl, rfl, rfl⟩⟩
 rintro k F A ⟨i, hk, hsm, hany, hst⟩
 have hbadv : ∀ A, ks.any (fun k => decide (10000 < (k.length : Int))) = true → Frz A (.tuple ⟨[.string (ByteArray.mk (Array.mk [])), .int .i64 3]⟩) (ptV ks) := fun A h => by
  unfold ptV; rw [hcs, h]
  exact .same (.tuple (HF.cons (.scal rfl) (HF.cons (.scal rfl) HF.nil)))
 have hendv : ∀ A, ks.any (fun k => decide (10000 < (k.length : Int))) = false → Frz A (.tuple ⟨[.string (aa (ptL ks)), .int .i64 0]⟩) (ptV ks) := fun A h => by
  unfold ptV; rw [hcs, h]
  exact .same (.tuple (HF.cons (.scal rfl) (HF.cons (.scal rfl) HF.nil)))
 have hnext : ∀ (hlt : i < ks.length), decide (10000 < (ks[i].length : Int)) = false → (∀ x ∈ ks.take (i + 1), x.length ≤ 10000) ∧ ks.any (fun k => decide (10000 < (k.length : Int))) = (ks.drop (i + 1)).any (fun k => decide (10000 < (k.length : Int))) := fun hlt h => by
  have := odf h
  refine ⟨fun x hx => ?_, ?_⟩
  · rw [List.take_succ_eq_append_getElem hlt] at hx
    rcases List.mem_append.1 hx with hx | hx
    · exact hsm x hx
    · rw [List.mem_singleton.1 hx]; omega
  · rw [hany, List.drop_eq_getElem_cons hlt, List.any_cons, h, Bool.false_or]
 rcases hst with ⟨hi0, rfl, rfl⟩ | ⟨hi0, rfl, rfl⟩
 · refine (xQ _ _ _ i).mpr ?_
   refine Sp.intro (fun c => ?_) (fun c => ?_)
   · have hlt : i < ks.length := by have := odt c; rw [bv] at this; omega
     have hb : (0 : Int) ≤ (i : Int) ∧ (i : Int) < ((stv ks).length : Int) := ⟨by omega, by rw [bv]; omega⟩
     have hnt := fG hlt
     have hat := nv hlt
     have hw := i64s i (by omega)
     simp only [Int.toNat_natCast, hnt, hat, hw, dR, mkB_l, List.reverse_reverse, ol, nA]
     have hsl := fJ ks[i]
     refine ⟨hb, trivial, Sp.intro (fun c1 => hbadv _ ?_) (fun c1 => ⟨hb, trivial, by have := odf c1; omega, ?_⟩)⟩
     · rw [hany, List.drop_eq_getElem_cons hlt, List.any_cons]
       have : decide (10000 < (ks[i].length : Int)) = true := c1
       rw [this]; rfl
     · obtain ⟨g1, g2⟩ := hnext hlt c1
       have hc1 := odf c1
       have htk : ptL (ks.take (i + 1)) = stpL ks[i] := by rw [k8 hlt, show ks.take i = [] by rw [hi0]; rfl]; rfl
       refine ⟨⟨by simp only [List.length_cons]; omega, by simp only [List.length_cons]; omega⟩, gy ks, .agg (aV _), k - 1, by omega, i + 1, by omega, g1, g2, .inr ⟨by omega, ?_, ?_⟩⟩
       · rw [htk, aY]; rfl
       · rw [htk]; rfl
   · have hge : ks.length ≤ i := by have := odf c; rw [bv] at this; omega
     have hnil : ks = [] := List.eq_nil_of_length_eq_zero (by omega)
     subst hnil
     exact hendv _ rfl
 · refine (xP _ _ _ i _).mpr ?_
   refine Sp.intro (fun c => ?_) (fun c => ?_)
   · have hlt : i < ks.length := by have := odt c; rw [bv] at this; omega
     have hb : (0 : Int) ≤ (i : Int) ∧ (i : Int) < ((stv ks).length : Int) := ⟨by omega, by rw [bv]; omega⟩
     have hnt := fG hlt
     have hat := nv hlt
     have hw := i64s i (by omega)
     simp only [Int.toNat_natCast, hnt, hat, hw, dR, mkB_l, List.reverse_reverse, ol, nA]
     have hsl := fJ ks[i]
     have hpl := n4 (ks.take i) hsm
     rw [List.length_take] at hpl
     have hul := aY (ptL (ks.take i))
     refine ⟨hb, trivial, Sp.intro (fun c1 => hbadv _ ?_) (fun c1 => ⟨hb, trivial, by have := odf c1; omega, ?_⟩)⟩
     · rw [hany, List.drop_eq_getElem_cons hlt, List.any_cons]
       have : decide (10000 < (ks[i].length : Int)) = true := c1
       rw [this]; rfl
     · obtain ⟨g1, g2⟩ := hnext hlt c1
       have hc1 := odf c1
       have htk := k8 hlt
       have happ : (u8v (ptL (ks.take i))).take ((u8v (ptL (ks.take i))).length * 1) ++ List.map (fun b : UInt8 => Value.int .u8 (b.toNat : Int)) (stpL ks[i]) = u8v (ptL (ks.take (i + 1))) := by
        rw [htk]; exact ng _ _
       have hn2 : (u8v (ptL (ks.take i))).length + (47 :: List.flatMap encB ks[i]).length = (u8v (ptL (ks.take (i + 1)))).length := by
        rw [htk, aY, aY, List.length_append]; rfl
       have hm : Nat.min i ks.length ≤ 60 := Nat.le_trans (Nat.min_le_right _ _) h60
       rw [happ, hn2]
       refine ⟨⟨?_, ?_, by omega⟩, gy ks, .agg (aV _), k - 1, by omega, i + 1, by omega, g1, g2, .inr ⟨by omega, rfl, rfl⟩⟩
       · rw [htk, aY, List.length_append]; unfold stpL; simp only [List.length_cons]; omega
       · rw [htk, aY, List.length_append]; unfold stpL; simp only [List.length_cons]; omega
   · have hge : ks.length ≤ i := by have := odf c; rw [bv] at this; omega
     have hd : ks.drop i = [] := List.drop_eq_nil_of_le hge
     rw [hd] at hany
     rw [List.take_of_length_le hge]
     refine ⟨dL _, ?_⟩
     rw [u8_L]
     exact hendv _ hany
theorem vZ (ks : LB) : bt envX f212 [dat 1 (stv ks)] ⟨.leaf, 0⟩ (ptV ks) := by
 refine al uj (d := 1) ((jPt_nf _ _).mpr ?_)
 refine Sp.intro (fun c => ?_) (fun c => ⟨gy ks, ?_⟩)
 · rw [bv] at c
   have e : csE ks = 3 := by unfold csE; rw [c]; rfl
   unfold ptV; rw [e]
   exact .same (.tuple (HF.cons (.scal rfl) (HF.cons (.scal rfl) HF.nil)))
 · rw [bv] at c
   exact Az ks (by have := odf c; omega)
def ptX (els : List Value) : Option Value := some (.tuple ⟨[.string (bif decide (csE (unL els) = 0) then aa (ptL (unL els)) else aa []), .int .i64 (csE (unL els))]⟩)
theorem pt_tab : ∀ args A p v A', mp 9 (fun _ => True) ptX args A = some (p, v, A') → PH p → an envX 212 args A v A' := kX (by kernel_rfl) ju fun ks v _ h => by
 unfold ptX at h
 simp only [osI] at h
 subst h
 refine ⟨fun σ' σ v' hv => ?_, ?_⟩
 · cases hv with
   | tuple h =>
   cases h with
   | cons h1 h2 =>
   cases h2 with
   | cons h3 h4 =>
   cases h4
   cases h1
   cases h3
   exact .tuple (.cons (.string _) (.cons (.int _ _) .nil))
 have e : unL (stV ks) = ks := iQ ks
 rw [e]
 exact iJ ag ah (fn := f212) rfl (HF.cons (gy ks) HF.nil) (vZ ks)
def tabPa : Tab := [(212, mp 9 (fun _ => True) ptX)]
theorem qm : TabOk envX tabPa := .cons pt_tab .nil
def XPa : SX := ⟨envX, tabPa, elB1, fun _ => .autoN [(.slot 4, 9, 1)] [] [5] [0, 4, 5, 6]⟩
theorem ul : XPa.Ok := ⟨ag, aw, ah, qm⟩
def zd (s : SB) (n i : Nat) : T Value := (Nd (Nd Lf none (Nd Lf (some (.slice none 0 0)) Lf)) (some (.string s)) (Nd (Nd Lf (some (.slice (some ⟨0, 0, none⟩) n (unk + 3 + 1))) Lf) none (Nd Lf (some (.int .i64 i)) Lf)))
def jp (s : SB) (n m i : Nat) : T Value := (Nd (Nd Lf none (Nd Lf (some (.slice (some ⟨1, 0, none⟩) m unk)) Lf)) (some (.string s)) (Nd (Nd Lf (some (.slice (some ⟨0, 0, none⟩) n (unk + 3 + 1))) Lf) none (Nd Lf (some (.int .i64 i)) Lf)))
def hPa (els bs : List Value) : AH := ⟨Nd (Nd Lf (some (.cells bs 5)) Lf) (some (.gro els [] 9)) Lf, 2⟩
def jPa (K : KV) (s : SB) : Prop := ay XPa 1 f175 [.string s] ⟨.leaf, 0⟩ K
def jPaE (K : KV) (again : KF) (s : SB) (i n : Nat) (els : List Value) : Prop := ax XPa 1 (Func.ntmps f175) ⟨.leaf, 0⟩ (ae f175) [1, 1, 1, 1, 1, 0, 1, 0] (finK XPa.E (f175.results).toList K) [(.slot 4, 9, 1)] [] [5] [0, 4, 5, 6] again (zd s n i) (hN els)
def jPaN (K : KV) (again : KF) (s : SB) (i n : Nat) (els bs : List Value) : Prop := ax XPa 1 (Func.ntmps f175) ⟨.leaf, 0⟩ (ae f175) [1, 1, 1, 1, 1, 0, 1, 0] (finK XPa.E (f175.results).toList K) [(.slot 4, 9, 1)] [] [5] [0, 4, 5, 6] again (jp s n bs.length i) (hPa els bs)
end
end Go.T9

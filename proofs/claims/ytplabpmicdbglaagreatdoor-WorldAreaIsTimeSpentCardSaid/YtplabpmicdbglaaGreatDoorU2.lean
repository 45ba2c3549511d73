/- A part of the proof. -/
import Derived.Test.YtplabpmicdbglaaGreatDoorR
import Derived.Test.YtplabpmicdbglaaGreatDoorF
import Derived.KernelRfl
import Derived.Test.YtplabpmicdbglaaGreatDoorY0
import Derived.Test.YtplabpmicdbglaaGreatDoorU1
set_option maxRecDepth 1000000
set_option linter.unusedVariables false
namespace Go.T9
open Go Go.AM Go.Shelf
noncomputable section
def ren189 : Ren := ⟨fun x => match x with | 125 => 89 | 128 => 124 | 129 => 125 | 189 => 71 | 215 => 193 | 216 => 140 | 257 => 93 | 294 => 134 | 295 => 135 | 296 => 136 | 297 => 137 | 298 => 138 | 299 => 139 | 300 => 141 | 301 => 142 | 328 => 190 | 329 => 172 | 330 => 173 | 331 => 191 | 332 => 192 | 343 => 232 | n => n, fun x => match x with | 0 => 0 | 3 => 3 | 4 => 4 | 5 => 5 | 9 => 9 | 28 => 41 | 46 => 191 | 51 => 247 | 53 => 249 | 131 => 106 | 182 => 240 | 183 => 241 | 218 => 315 | 222 => 122 | 228 => 367 | 229 => 368 | n => n, fun x => x⟩
theorem lays189 : Proofs.Lays.n189 env.P ren189 where
  mixed := env_ok.mixed
  f125 := env_ok.fn 89 (Proofs.Body.n125 ren189) (by kernel_rfl)
  f128 := env_ok.fn 124 (Proofs.Body.n128 ren189) (by kernel_rfl)
  f129 := env_ok.fn 125 (Proofs.Body.n129 ren189) (by kernel_rfl)
  f189 := env_ok.fn 71 (Proofs.Body.n189 ren189) (by kernel_rfl)
  f215 := env_ok.fn 193 (Proofs.Body.n215 ren189) (by kernel_rfl)
  f216 := env_ok.fn 140 (Proofs.Body.n216 ren189) (by kernel_rfl)
  f257 := env_ok.fn 93 (Proofs.Body.n257 ren189) (by kernel_rfl)
  f294 := env_ok.fn 134 (Proofs.Body.n294 ren189) (by kernel_rfl)
  f295 := env_ok.fn 135 (Proofs.Body.n295 ren189) (by kernel_rfl)
  f296 := env_ok.fn 136 (Proofs.Body.n296 ren189) (by kernel_rfl)
  f297 := env_ok.fn 137 (Proofs.Body.n297 ren189) (by kernel_rfl)
  f298 := env_ok.fn 138 (Proofs.Body.n298 ren189) (by kernel_rfl)
  f299 := env_ok.fn 139 (Proofs.Body.n299 ren189) (by kernel_rfl)
  f300 := env_ok.fn 141 (Proofs.Body.n300 ren189) (by kernel_rfl)
  f301 := env_ok.fn 142 (Proofs.Body.n301 ren189) (by kernel_rfl)
  f328 := env_ok.fn 190 (Proofs.Body.n328 ren189) (by kernel_rfl)
  f329 := env_ok.fn 172 (Proofs.Body.n329 ren189) (by kernel_rfl)
  f330 := env_ok.fn 173 (Proofs.Body.n330 ren189) (by kernel_rfl)
  f331 := env_ok.fn 191 (Proofs.Body.n331 ren189) (by kernel_rfl)
  f332 := env_ok.fn 192 (Proofs.Body.n332 ren189) (by kernel_rfl)
  f343 := env_ok.fn 232 (Proofs.Body.n343 ren189) (by kernel_rfl)
  t0 := und_ok env_ok (t := 0) (d := (TypeDesc.tuple #[])) (by kernel_rfl)
  a0 := fun w => run_agg env_ok (t := 0) (d := (TypeDesc.tuple #[])) (by kernel_rfl) w
  z0 := fun w => run_size env_ok (t := 0) (i := Proofs.Tryz.t0) (by kernel_rfl) w
  v0 := fun w => run_zero env_ok (t := 0) (i := Proofs.Tryz.t0) (z := (Value.tuple #[])) (by kernel_rfl) (by kernel_rfl) w
  t3 := und_ok env_ok (t := 3) (d := (TypeDesc.int IntKind.i64)) (by kernel_rfl)
  a3 := fun w => run_agg env_ok (t := 3) (d := (TypeDesc.int IntKind.i64)) (by kernel_rfl) w
  z3 := fun w => run_size env_ok (t := 3) (i := Proofs.Tryz.t3) (by kernel_rfl) w
  v3 := fun w => run_zero env_ok (t := 3) (i := Proofs.Tryz.t3) (z := (Value.int IntKind.i64 0)) (by kernel_rfl) (by kernel_rfl) w
  t4 := und_ok env_ok (t := 4) (d := (TypeDesc.bool)) (by kernel_rfl)
  a4 := fun w => run_agg env_ok (t := 4) (d := (TypeDesc.bool)) (by kernel_rfl) w
  z4 := fun w => run_size env_ok (t := 4) (i := Proofs.Tryz.t4) (by kernel_rfl) w
  v4 := fun w => run_zero env_ok (t := 4) (i := Proofs.Tryz.t4) (z := (Value.bool false)) (by kernel_rfl) (by kernel_rfl) w
  t5 := und_ok env_ok (t := 5) (d := (TypeDesc.int IntKind.u8)) (by kernel_rfl)
  a5 := fun w => run_agg env_ok (t := 5) (d := (TypeDesc.int IntKind.u8)) (by kernel_rfl) w
  z5 := fun w => run_size env_ok (t := 5) (i := Proofs.Tryz.t5) (by kernel_rfl) w
  v5 := fun w => run_zero env_ok (t := 5) (i := Proofs.Tryz.t5) (z := (Value.int IntKind.u8 0)) (by kernel_rfl) (by kernel_rfl) w
  t9 := und_ok env_ok (t := 9) (d := (TypeDesc.string)) (by kernel_rfl)
  a9 := fun w => run_agg env_ok (t := 9) (d := (TypeDesc.string)) (by kernel_rfl) w
  z9 := fun w => run_size env_ok (t := 9) (i := Proofs.Tryz.t9) (by kernel_rfl) w
  v9 := fun w => run_zero env_ok (t := 9) (i := Proofs.Tryz.t9) (z := (Value.string { data := #[] })) (by kernel_rfl) (by kernel_rfl) w
  t28 := und_ok env_ok (t := 41) (d := (TypeDesc.slice (ren189.t 3))) (by kernel_rfl)
  a28 := fun w => run_agg env_ok (t := 41) (d := (TypeDesc.slice (ren189.t 3))) (by kernel_rfl) w
  z28 := fun w => run_size env_ok (t := 41) (i := Proofs.Tryz.t41) (by kernel_rfl) w
  v28 := fun w => run_zero env_ok (t := 41) (i := Proofs.Tryz.t41) (z := (Value.slice none 0 0)) (by kernel_rfl) (by kernel_rfl) w
  t46 := und_ok env_ok (t := 191) (d := (TypeDesc.int IntKind.u64)) (by kernel_rfl)
  a46 := fun w => run_agg env_ok (t := 191) (d := (TypeDesc.int IntKind.u64)) (by kernel_rfl) w
  z46 := fun w => run_size env_ok (t := 191) (i := Proofs.Tryz.t191) (by kernel_rfl) w
  v46 := fun w => run_zero env_ok (t := 191) (i := Proofs.Tryz.t191) (z := (Value.int IntKind.u64 0)) (by kernel_rfl) (by kernel_rfl) w
  t51 := und_ok env_ok (t := 247) (d := (TypeDesc.int IntKind.u32)) (by kernel_rfl)
  a51 := fun w => run_agg env_ok (t := 247) (d := (TypeDesc.int IntKind.u32)) (by kernel_rfl) w
  z51 := fun w => run_size env_ok (t := 247) (i := Proofs.Tryz.t247) (by kernel_rfl) w
  v51 := fun w => run_zero env_ok (t := 247) (i := Proofs.Tryz.t247) (z := (Value.int IntKind.u32 0)) (by kernel_rfl) (by kernel_rfl) w
  t53 := und_ok env_ok (t := 249) (d := (TypeDesc.int IntKind.u64)) (by kernel_rfl)
  a53 := fun w => run_agg env_ok (t := 249) (d := (TypeDesc.int IntKind.u64)) (by kernel_rfl) w
  z53 := fun w => run_size env_ok (t := 249) (i := Proofs.Tryz.t249) (by kernel_rfl) w
  v53 := fun w => run_zero env_ok (t := 249) (i := Proofs.Tryz.t249) (z := (Value.int IntKind.u64 0)) (by kernel_rfl) (by kernel_rfl) w
  t131 := und_ok env_ok (t := 106) (d := (TypeDesc.tuple #[ren189.t 3, ren189.t 4])) (by kernel_rfl)
  a131 := fun w => run_agg env_ok (t := 106) (d := (TypeDesc.tuple #[ren189.t 3, ren189.t 4])) (by kernel_rfl) w
  z131 := fun w => run_size env_ok (t := 106) (i := Proofs.Tryz.t106) (by kernel_rfl) w
  v131 := fun w => run_zero env_ok (t := 106) (i := Proofs.Tryz.t106) (z := (Value.tuple #[Value.int IntKind.i64 0, Value.bool false])) (by kernel_rfl) (by kernel_rfl) w
  t182 := und_ok env_ok (t := 240) (d := (TypeDesc.int IntKind.i64)) (by kernel_rfl)
  a182 := fun w => run_agg env_ok (t := 240) (d := (TypeDesc.int IntKind.i64)) (by kernel_rfl) w
  z182 := fun w => run_size env_ok (t := 240) (i := Proofs.Tryz.t240) (by kernel_rfl) w
  v182 := fun w => run_zero env_ok (t := 240) (i := Proofs.Tryz.t240) (z := (Value.int IntKind.i64 0)) (by kernel_rfl) (by kernel_rfl) w
  t183 := und_ok env_ok (t := 241) (d := (TypeDesc.tuple #[ren189.t 3, ren189.t 182])) (by kernel_rfl)
  a183 := fun w => run_agg env_ok (t := 241) (d := (TypeDesc.tuple #[ren189.t 3, ren189.t 182])) (by kernel_rfl) w
  z183 := fun w => run_size env_ok (t := 241) (i := Proofs.Tryz.t241) (by kernel_rfl) w
  v183 := fun w => run_zero env_ok (t := 241) (i := Proofs.Tryz.t241) (z := (Value.tuple #[Value.int IntKind.i64 0, Value.int IntKind.i64 0])) (by kernel_rfl) (by kernel_rfl) w
  t218 := und_ok env_ok (t := 315) (d := (TypeDesc.int IntKind.u64)) (by kernel_rfl)
  a218 := fun w => run_agg env_ok (t := 315) (d := (TypeDesc.int IntKind.u64)) (by kernel_rfl) w
  z218 := fun w => run_size env_ok (t := 315) (i := Proofs.Tryz.t315) (by kernel_rfl) w
  v218 := fun w => run_zero env_ok (t := 315) (i := Proofs.Tryz.t315) (z := (Value.int IntKind.u64 0)) (by kernel_rfl) (by kernel_rfl) w
  t222 := und_ok env_ok (t := 122) (d := (TypeDesc.pointer (ren189.t 3))) (by kernel_rfl)
  a222 := fun w => run_agg env_ok (t := 122) (d := (TypeDesc.pointer (ren189.t 3))) (by kernel_rfl) w
  z222 := fun w => run_size env_ok (t := 122) (i := Proofs.Tryz.t122) (by kernel_rfl) w
  v222 := fun w => run_zero env_ok (t := 122) (i := Proofs.Tryz.t122) (z := (Value.pointer none)) (by kernel_rfl) (by kernel_rfl) w
  t228 := und_ok env_ok (t := 367) (d := (TypeDesc.pointer (ren189.t 218))) (by kernel_rfl)
  a228 := fun w => run_agg env_ok (t := 367) (d := (TypeDesc.pointer (ren189.t 218))) (by kernel_rfl) w
  z228 := fun w => run_size env_ok (t := 367) (i := Proofs.Tryz.t367) (by kernel_rfl) w
  v228 := fun w => run_zero env_ok (t := 367) (i := Proofs.Tryz.t367) (z := (Value.pointer none)) (by kernel_rfl) (by kernel_rfl) w
  t229 := und_ok env_ok (t := 368) (d := (TypeDesc.tuple #[ren189.t 3, ren189.t 3])) (by kernel_rfl)
  a229 := fun w => run_agg env_ok (t := 368) (d := (TypeDesc.tuple #[ren189.t 3, ren189.t 3])) (by kernel_rfl) w
  z229 := fun w => run_size env_ok (t := 368) (i := Proofs.Tryz.t368) (by kernel_rfl) w
  v229 := fun w => run_zero env_ok (t := 368) (i := Proofs.Tryz.t368) (z := (Value.tuple #[Value.int IntKind.i64 0, Value.int IntKind.i64 0])) (by kernel_rfl) (by kernel_rfl) w
end
end Go.T9
set_option maxRecDepth 1000000
set_option linter.unusedVariables false
set_option linter.unusedSimpArgs false
namespace Go.T9
open Go Go.AM
noncomputable section
structure Ch where
  (a u : Int)
def cv (x : Ch) : Value := .agg ⟨[.int .i64 x.a, .int .i64 x.u]⟩
theorem HF_cv (x : Ch) : HF (cv x) := .agg (HF.cons (HFi _ _) (HF.cons (HFi _ _) HF.nil))
theorem HF_chs (xs : List Ch) : HF (dat 2 (xs.map cv)) := .dat fun y hy => by
  obtain ⟨x, _, rfl⟩ := List.mem_map.1 hy
  exact HF_cv x
theorem asc_ext : ∀ {l1 l2 : List Int}, l1.Pairwise (· < ·) → l2.Pairwise (· < ·) → (∀ x, x ∈ l1 ↔ x ∈ l2) → l1 = l2
  | [], [], _, _, _ => rfl
  | [], y :: l2, _, _, h => by have := (h y).2 (by simp); simp at this
  | x :: l1, [], _, _, h => by have := (h x).1 (by simp); simp at this
  | x :: l1, y :: l2, h1, h2, h => by
    rw [List.pairwise_cons] at h1 h2
    have hxy : x = y := by
      rcases List.mem_cons.1 ((h x).1 (by simp)) with e | e
      · exact e
      · rcases List.mem_cons.1 ((h y).2 (by simp)) with e' | e'
        · exact e'.symm
        · have a := h2.1 x e
          have b := h1.1 y e'
          omega
    subst hxy
    refine congrArg (x :: ·) (asc_ext h1.2 h2.2 fun z => ⟨fun hz => ?_, fun hz => ?_⟩)
    · rcases List.mem_cons.1 ((h z).1 (List.mem_cons_of_mem _ hz)) with e | e
      · have := h1.1 z hz; omega
      · exact e
    · rcases List.mem_cons.1 ((h z).2 (List.mem_cons_of_mem _ hz)) with e | e
      · have := h2.1 z hz; omega
      · exact e
def insT (t : Int) : List Int → List Int
  | [] => [t]
  | x :: l => if x < t then x :: insT t l else if x = t then x :: l else t :: x :: l
theorem insT_mem (t : Int) : ∀ (l : List Int) (x : Int), x ∈ insT t l ↔ x = t ∨ x ∈ l
  | [], x => by simp [insT]
  | y :: l, x => by
    unfold insT
    split
    · rw [List.mem_cons, insT_mem t l x, List.mem_cons]
      exact ⟨fun h => by rcases h with h | h | h <;> simp [h], fun h => by rcases h with h | h | h <;> simp [h]⟩
    · split
      · rename_i h
        subst h
        simp
      · simp
theorem insT_asc (t : Int) : ∀ {l : List Int}, l.Pairwise (· < ·) → (insT t l).Pairwise (· < ·)
  | [], _ => by simp [insT]
  | y :: l, h => by
    rw [List.pairwise_cons] at h
    unfold insT
    split
    · rw [List.pairwise_cons]
      refine ⟨fun z hz => ?_, insT_asc t h.2⟩
      rcases (insT_mem t l z).1 hz with e | e
      · omega
      · exact h.1 z e
    · split
      · rw [List.pairwise_cons]; exact h
      · rw [List.pairwise_cons, List.pairwise_cons]
        refine ⟨fun z hz => ?_, h⟩
        rcases List.mem_cons.1 hz with e | e
        · omega
        · have := h.1 z e; omega
def insL (l ts : List Int) : List Int := ts.foldl (fun l t => insT t l) l
theorem insL_mem : ∀ (ts l : List Int) (x : Int), x ∈ insL l ts ↔ x ∈ l ∨ x ∈ ts
  | [], l, x => by simp [insL]
  | t :: ts, l, x => by
    show x ∈ insL (insT t l) ts ↔ _
    rw [insL_mem ts, insT_mem, List.mem_cons]
    exact ⟨fun h => by rcases h with (h | h) | h <;> simp [h], fun h => by rcases h with h | h | h <;> simp [h]⟩
theorem insL_asc : ∀ (ts : List Int) {l : List Int}, l.Pairwise (· < ·) → (insL l ts).Pairwise (· < ·)
  | [], _, h => h
  | t :: ts, _, h => insL_asc ts (insT_asc t h)
theorem insL_snoc (l ts : List Int) (t : Int) : insL l (ts ++ [t]) = insT t (insL l ts) := by simp [insL]
def timesL (us ds : List Int) : List Int := insL (insL [] us) ds
theorem times_mem (us ds : List Int) (x : Int) : x ∈ timesL us ds ↔ x ∈ us ∨ x ∈ ds := by
  unfold timesL
  rw [insL_mem, insL_mem]
  simp
theorem times_asc (us ds : List Int) : (timesL us ds).Pairwise (· < ·) := insL_asc _ (insL_asc _ .nil)
def cnt (t : Int) (l : List Int) : Int := (l.count t : Nat)
def dd (us ds : List Int) (t : Int) : Int := cnt t us - cnt t ds
def foldC (d : Int → Int) : List Int → Int → List Ch
  | [], _ => []
  | t :: ts, n => if d t = 0 then foldC d ts n else ⟨t, n + d t⟩ :: foldC d ts (n + d t)
theorem foldC_congr {d d' : Int → Int} : ∀ {l : List Int} (n : Int), (∀ x ∈ l, d x = d' x) → foldC d l n = foldC d' l n
  | [], _, _ => rfl
  | t :: l, n, h => by
    have e := h t (by simp)
    have ih : ∀ n, foldC d l n = foldC d' l n := fun n => foldC_congr n fun x hx => h x (List.mem_cons_of_mem _ hx)
    simp only [foldC, e, ih]
def chgL (us ds : List Int) : List Ch := foldC (dd us ds) (timesL us ds) 0
theorem cnt_rep {U U' : List Int} {t : Int} {j : Nat} (hu : U = List.replicate j t ++ U') (h1 : ∀ x ∈ U', t < x) : cnt t U = j ∧ ∀ x, t < x → cnt x U = cnt x U' := by
  subst hu
  have nt : U'.count t = 0 := List.count_eq_zero.2 fun h => by have := h1 t h; omega
  refine ⟨?_, fun x hx => ?_⟩
  · simp [cnt, List.count_append, nt]
  · have : (List.replicate j t).count x = 0 := List.count_eq_zero.2 fun h => by have := (List.mem_replicate.1 h).2; omega
    simp [cnt, List.count_append, this]
theorem fold_split {U D U' D' : List Int} {t : Int} {j i : Nat} (hu : U = List.replicate j t ++ U') (hd : D = List.replicate i t ++ D') (h1 : ∀ x ∈ U', t < x) (h2 : ∀ x ∈ D', t < x) (hp : 0 < j + i) (n : Int) :
    foldC (dd U D) (timesL U D) n = if ((j : Int) - i = 0) then foldC (dd U' D') (timesL U' D') n else ⟨t, n + ((j : Int) - i)⟩ :: foldC (dd U' D') (timesL U' D') (n + ((j : Int) - i)) := by
  obtain ⟨cu, cu'⟩ := cnt_rep hu h1
  obtain ⟨cd, cd'⟩ := cnt_rep hd h2
  have hgt : ∀ x ∈ timesL U' D', t < x := fun x hx => by
    rcases (times_mem _ _ _).1 hx with h | h
    · exact h1 x h
    · exact h2 x h
  have et : timesL U D = t :: timesL U' D' := asc_ext (times_asc _ _) (List.pairwise_cons.2 ⟨hgt, times_asc _ _⟩) fun x => by
    rw [times_mem, List.mem_cons, times_mem, hu, hd, List.mem_append, List.mem_append, List.mem_replicate, List.mem_replicate]
    constructor
    · rintro ((⟨_, h⟩ | h) | (⟨_, h⟩ | h)) <;> simp [h]
    · rintro (h | h | h)
      · rcases Nat.lt_or_ge 0 j with hj | hj
        · exact .inl (.inl ⟨by omega, h⟩)
        · exact .inr (.inl ⟨by omega, h⟩)
      · exact .inl (.inr h)
      · exact .inr (.inr h)
  have dt : dd U D t = (j : Int) - i := by unfold dd; rw [cu, cd]
  have dx : ∀ x ∈ timesL U' D', dd U D x = dd U' D' x := fun x hx => by unfold dd; rw [cu' x (hgt x hx), cd' x (hgt x hx)]
  rw [et]
  simp only [foldC, dt]
  rw [foldC_congr n dx, foldC_congr (n + ((j : Int) - i)) dx]
theorem tail_gt {t : Int} : ∀ {U : List Int}, U.Pairwise (· ≤ ·) → (∀ x ∈ U, t ≤ x) → (∀ h : 0 < U.length, U[0] ≠ t) → ∀ x ∈ U, t < x
  | [], _, _, _, x, hx => by simp at hx
  | y :: l, hs, ht, hh, x, hx => by
    rw [List.pairwise_cons] at hs
    have h1 := ht y (by simp)
    have h2 : y ≠ t := hh (by simp)
    rcases List.mem_cons.1 hx with e | e
    · omega
    · have := hs.1 x e; omega
theorem chg_sorted (us ds : List Int) : foldC (dd (sortZ us) (sortZ ds)) (timesL (sortZ us) (sortZ ds)) 0 = chgL us ds := by
  have e1 : timesL (sortZ us) (sortZ ds) = timesL us ds := asc_ext (times_asc _ _) (times_asc _ _) fun x => by
    rw [times_mem, times_mem, (sortZ_perm us).mem_iff, (sortZ_perm ds).mem_iff]
  unfold chgL
  rw [e1]
  exact foldC_congr 0 fun x _ => by unfold dd cnt; rw [(sortZ_perm us).count_eq, (sortZ_perm ds).count_eq]
theorem insT_at {t : Int} : ∀ {l : List Int} {k : Nat}, (∀ x ∈ l.take k, x < t) → (∀ h : k < l.length, ¬ l[k] < t) → insT t l = if (∃ h : k < l.length, l[k] = t) then l else l.take k ++ t :: l.drop k
  | [], k, h1, h2 => by simp [insT]
  | y :: l, 0, h1, h2 => by
    have h := h2 (by simp)
    simp only [List.getElem_cons_zero] at h
    unfold insT
    rw [if_neg h]
    by_cases e : y = t
    · rw [if_pos e, if_pos ⟨by simp, by simpa using e⟩]
    · rw [if_neg e, if_neg (fun ⟨_, e'⟩ => e (by simpa using e'))]
      simp
  | y :: l, k + 1, h1, h2 => by
    have hy := h1 y (by simp)
    unfold insT
    rw [if_pos hy, insT_at (t := t) (l := l) (k := k) (fun x hx => h1 x (by simp [hx])) (fun h => by have := h2 (by simpa using h); simpa using this)]
    by_cases e : ∃ h : k < l.length, l[k] = t
    · rw [if_pos e, if_pos (by obtain ⟨h, e⟩ := e; exact ⟨by simpa using h, by simpa using e⟩)]
    · rw [if_neg e, if_neg (fun ⟨h, e'⟩ => e ⟨by simpa using h, by simpa using e'⟩)]
      simp
theorem row_ins (L : List Value) (z x : Value) {k : Nat} (hk : k ≤ L.length) : (splc (L ++ [z]) (k + 1) (((L ++ [z]).drop k).take (L.length - k))).set k x = L.take k ++ x :: L.drop k := by
  have h1 : ((L ++ [z]).drop k).take (L.length - k) = L.drop k := by
    rw [List.drop_append_of_le_length hk, List.take_append_of_le_length (by simp), List.take_of_length_le (by simp)]
  rw [h1]
  unfold splc
  have h2 : (L ++ [z]).drop (k + 1 + (L.drop k).length) = [] := List.drop_eq_nil_of_le (by simp; omega)
  rw [h2, List.append_nil]
  have h3 : ∃ u, (L ++ [z]).take (k + 1) = L.take k ++ [u] := by
    rcases Nat.lt_or_ge k L.length with h | h
    · refine ⟨L[k], ?_⟩
      rw [List.take_append_of_le_length (by omega), List.take_succ_eq_append_getElem h]
    · have : k = L.length := by omega
      subst this
      exact ⟨z, by rw [List.take_of_length_le (by simp), List.take_of_length_le (Nat.le_refl _)]⟩
  obtain ⟨u, h3⟩ := h3
  rw [h3, List.append_assoc, List.set_append_right _ _ (by simp; omega)]
  simp [Nat.min_eq_left hk]
end
end Go.T9
set_option maxRecDepth 1000000
set_option linter.unusedVariables false
set_option linter.unusedSimpArgs false
namespace Go.T9
open Go Go.AM
noncomputable section
def nextA (to : Int) : List Ch → Int
  | [] => to
  | y :: _ => min to y.a
def areaS (fr to : Int) : List Ch → Int
  | [] => 0
  | x :: l => x.u * max 0 (nextA to l - max x.a fr) + areaS fr to l
def sumD (d : Int → Int) (u : Int) : List Int → Int
  | [] => 0
  | t :: ts => d t * (u - t) + sumD d u ts
theorem nextA_cons (u t m : Int) (l : List Ch) : nextA u (⟨t, m⟩ :: l) = min u t := rfl
theorem areaS_cons (u t m : Int) (l : List Ch) : areaS 0 u (⟨t, m⟩ :: l) = m * max 0 (nextA u l - max t 0) + areaS 0 u l := rfl
theorem sumD_cons (d : Int → Int) (u t : Int) (ts : List Int) : sumD d u (t :: ts) = d t * (u - t) + sumD d u ts := rfl
theorem foldC_zero {d : Int → Int} {t : Int} {ts : List Int} {n : Int} (h : d t = 0) : foldC d (t :: ts) n = foldC d ts n := by simp [foldC, h]
theorem foldC_cons {d : Int → Int} {t : Int} {ts : List Int} {n : Int} (h : d t ≠ 0) : foldC d (t :: ts) n = ⟨t, n + d t⟩ :: foldC d ts (n + d t) := by simp [foldC, h]
theorem nextA_ge {d : Int → Int} {u s : Int} : ∀ {ts : List Int} (n : Int), (∀ t ∈ ts, s < t) → (∀ t ∈ ts, t ≤ u) → s ≤ u → s ≤ nextA u (foldC d ts n) ∧ nextA u (foldC d ts n) ≤ u
  | [], n, _, _, h => by simp only [foldC, nextA]; omega
  | t :: ts, n, h1, h2, h => by
    by_cases hd : d t = 0
    · rw [foldC_zero hd]
      exact nextA_ge n (fun x hx => h1 x (List.mem_cons_of_mem _ hx)) (fun x hx => h2 x (List.mem_cons_of_mem _ hx)) h
    · rw [foldC_cons hd]
      have a1 := h1 t (by simp)
      have a2 := h2 t (by simp)
      simp only [nextA]
      omega
theorem area_fold (d : Int → Int) (u : Int) : ∀ (ts : List Int) (s n : Int), ts.Pairwise (· < ·) → (∀ t ∈ ts, s ≤ t) → (∀ t ∈ ts, t ≤ u) → 0 ≤ s → s ≤ u → n * (nextA u (foldC d ts n) - s) + areaS 0 u (foldC d ts n) = n * (u - s) + sumD d u ts
  | [], s, n, _, _, _, _, _ => by simp [foldC, nextA, areaS, sumD]
  | t :: ts, s, n, hp, h1, h2, h0, hs => by
    rw [List.pairwise_cons] at hp
    have ht := h2 t (by simp)
    have hst := h1 t (by simp)
    have h2' : ∀ x ∈ ts, x ≤ u := fun x hx => h2 x (List.mem_cons_of_mem _ hx)
    by_cases hd : d t = 0
    · have ih := area_fold d u ts s n hp.2 (fun x hx => h1 x (List.mem_cons_of_mem _ hx)) h2' h0 hs
      rw [foldC_zero hd]
      simp only [sumD, hd, Int.zero_mul, Int.zero_add]
      exact ih
    · have ih := area_fold d u ts t (n + d t) hp.2 (fun x hx => Int.le_of_lt (hp.1 x hx)) h2' (by omega) ht
      obtain ⟨g1, g2⟩ := nextA_ge (d := d) (u := u) (s := t) (ts := ts) (n + d t) hp.1 h2' ht
      rw [foldC_cons hd, nextA_cons, areaS_cons, sumD_cons]
      rw [show max 0 (nextA u (foldC d ts (n + d t)) - max t 0) = nextA u (foldC d ts (n + d t)) - t by omega, show min u t = t by omega, ih]
      simp only [Int.add_mul, Int.mul_sub]
      omega
theorem sumD_congr {d d' : Int → Int} {u : Int} : ∀ {ts : List Int}, (∀ x ∈ ts, d x = d' x) → sumD d u ts = sumD d' u ts
  | [], _ => rfl
  | t :: ts, h => by simp only [sumD]; rw [h t (by simp), sumD_congr fun x hx => h x (List.mem_cons_of_mem _ hx)]
def sumB (u : Int) : List Int → Int
  | [] => 0
  | x :: l => (u - x) + sumB u l
theorem cnt_cons (t x : Int) (l : List Int) : cnt t (x :: l) = cnt t l + if x = t then 1 else 0 := by
  unfold cnt
  rw [List.count_cons]
  by_cases h : x = t
  · simp [h]
  · simp [h]
theorem sumD_zero (u : Int) : ∀ ts : List Int, sumD (fun t => cnt t []) u ts = 0
  | [] => rfl
  | t :: ts => by simp only [sumD]; rw [sumD_zero u ts]; simp [cnt]
theorem sumD_one {x u : Int} {l : List Int} : ∀ {ts : List Int}, ts.Pairwise (· < ·) → x ∈ ts → sumD (fun t => cnt t (x :: l)) u ts = (u - x) + sumD (fun t => cnt t l) u ts
  | t :: ts, hp, hx => by
    rw [List.pairwise_cons] at hp
    simp only [sumD]
    by_cases e : t = x
    · subst e
      have h2 : sumD (fun y => cnt y (t :: l)) u ts = sumD (fun y => cnt y l) u ts := sumD_congr fun y hy => by
        have := hp.1 y hy
        rw [cnt_cons, if_neg (by omega)]; omega
      rw [h2, cnt_cons, if_pos rfl, Int.add_mul]
      omega
    · have hx' : x ∈ ts := by
        rcases List.mem_cons.1 hx with h | h
        · exact absurd h.symm e
        · exact h
      rw [sumD_one hp.2 hx', cnt_cons, if_neg (fun h => e h.symm), Int.add_zero]
      omega
theorem sumD_cnt {u : Int} : ∀ (l : List Int) {ts : List Int}, ts.Pairwise (· < ·) → (∀ x ∈ l, x ∈ ts) → sumD (fun t => cnt t l) u ts = sumB u l
  | [], ts, _, _ => sumD_zero u ts
  | x :: l, ts, hp, h => by
    rw [sumD_one hp (h x (by simp)), sumD_cnt l hp fun y hy => h y (List.mem_cons_of_mem _ hy)]
    rfl
theorem sumD_sub (us ds : List Int) (u : Int) : ∀ ts : List Int, sumD (dd us ds) u ts = sumD (fun t => cnt t us) u ts - sumD (fun t => cnt t ds) u ts
  | [] => rfl
  | t :: ts => by
    simp only [sumD]
    rw [sumD_sub us ds u ts]
    unfold dd
    rw [Int.sub_mul]
    omega
abbrev Prs := List (Int × Int)
def ups (ps : Prs) : List Int := ps.map (·.1)
def dns (ps : Prs) : List Int := ps.map (·.2)
def sumP : Prs → Int
  | [] => 0
  | p :: l => (p.2 - p.1) + sumP l
theorem sumB_pairs (u : Int) : ∀ ps : Prs, sumB u (ups ps) - sumB u (dns ps) = sumP ps
  | [] => rfl
  | p :: l => by
    have := sumB_pairs u l
    simp only [ups, dns, List.map_cons, sumB, sumP] at *
    omega
def PrOk (u : Int) (ps : Prs) : Prop := ∀ p ∈ ps, 0 ≤ p.1 ∧ p.1 ≤ p.2 ∧ p.2 ≤ u
theorem ups_in {u : Int} {ps : Prs} (h : PrOk u ps) : ∀ x ∈ ups ps, 0 ≤ x ∧ x ≤ u := fun x hx => by
  obtain ⟨p, hp, rfl⟩ := List.mem_map.1 hx
  have := h p hp
  omega
theorem dns_in {u : Int} {ps : Prs} (h : PrOk u ps) : ∀ x ∈ dns ps, 0 ≤ x ∧ x ≤ u := fun x hx => by
  obtain ⟨p, hp, rfl⟩ := List.mem_map.1 hx
  have := h p hp
  omega
theorem times_in {u : Int} {ps : Prs} (h : PrOk u ps) : ∀ x ∈ timesL (ups ps) (dns ps), 0 ≤ x ∧ x ≤ u := fun x hx => by
  rcases (times_mem _ _ _).1 hx with k | k
  · exact ups_in h x k
  · exact dns_in h x k
theorem area_spent {u : Int} {ps : Prs} (hu : 0 ≤ u) (h : PrOk u ps) : areaS 0 u (chgL (ups ps) (dns ps)) = sumP ps := by
  have h1 := area_fold (dd (ups ps) (dns ps)) u (timesL (ups ps) (dns ps)) 0 0 (times_asc _ _) (fun x hx => (times_in h x hx).1) (fun x hx => (times_in h x hx).2) (Int.le_refl 0) hu
  simp only [Int.zero_mul, Int.zero_add] at h1
  unfold chgL
  rw [h1, sumD_sub, sumD_cnt _ (times_asc _ _) (fun x hx => (times_mem _ _ _).2 (.inl hx)), sumD_cnt _ (times_asc _ _) (fun x hx => (times_mem _ _ _).2 (.inr hx))]
  exact sumB_pairs u ps
def chpB (x : Ch) : Bool := (decide (0 ≤ x.a) && decide (x.a ≤ 1000000000000)) && (decide (0 ≤ x.u) && decide (x.u ≤ 40000))
def leP (p : Option Int) (a : Int) : Bool := match p with
  | some q => decide (a ≤ q)
  | none => false
def faultB : Option Int → List Ch → Int
  | _, [] => 0
  | p, x :: l => bif chpB x then (bif leP p x.a then 10 else faultB (some x.a) l) else 9
def leC (t : Int) (l : List Int) : Int := (l.countP (fun x => decide (x ≤ t)) : Nat)
theorem leC_step {s t : Int} (hst : s < t) : ∀ {l : List Int}, (∀ x ∈ l, x ≤ s ∨ t ≤ x) → leC t l = leC s l + cnt t l
  | [], _ => by simp [leC, cnt]
  | x :: l, h => by
    have ih := leC_step hst (l := l) fun y hy => h y (List.mem_cons_of_mem _ hy)
    have hx := h x (by simp)
    rw [cnt_cons]
    unfold leC at *
    rw [List.countP_cons, List.countP_cons]
    by_cases e : x = t
    · subst e
      rw [if_pos (by simp), if_neg (by simp; omega), if_pos rfl]
      omega
    · rw [if_neg e]
      by_cases k : x ≤ s
      · rw [if_pos (by simp; omega), if_pos (by simpa using k)]; omega
      · rw [if_neg (by simp; omega), if_neg (by simpa using k)]; omega
theorem leC_pairs (t : Int) {u : Int} : ∀ {ps : Prs}, PrOk u ps → leC t (dns ps) ≤ leC t (ups ps)
  | [], _ => by simp [leC, ups, dns]
  | p :: l, h => by
    have ih := leC_pairs t (ps := l) fun q hq => h q (List.mem_cons_of_mem _ hq)
    have hp := h p (by simp)
    simp only [leC, ups, dns, List.map_cons, List.countP_cons] at *
    by_cases k : p.2 ≤ t
    · rw [if_pos (by simpa using k), if_pos (by simp; omega)]; omega
    · rw [if_neg (by simpa using k)]
      split <;> omega
theorem leC_len (t : Int) (l : List Int) : 0 ≤ leC t l ∧ leC t l ≤ (l.length : Int) := by
  have := List.countP_le_length (p := fun x : Int => decide (x ≤ t)) (l := l)
  unfold leC
  omega
theorem fault_fold {u : Int} {ps : Prs} (hu : u ≤ 1000000000000) (h : PrOk u ps) (hl : ps.length ≤ 20000) : ∀ (ts : List Int) (s n : Int) (p : Option Int), ts.Pairwise (· < ·) → (∀ t ∈ ts, s < t ∧ 0 ≤ t ∧ t ≤ u) → (∀ x, x ∈ ups ps ∨ x ∈ dns ps → x ∈ ts ∨ x ≤ s) → (∀ q, p = some q → q ≤ s) → n = leC s (ups ps) - leC s (dns ps) → faultB p (foldC (dd (ups ps) (dns ps)) ts n) = 0
  | [], s, n, p, _, _, _, _, _ => rfl
  | t :: ts, s, n, p, hp, h1, h2, h3, h4 => by
    rw [List.pairwise_cons] at hp
    have ht := h1 t (by simp)
    have hz : ∀ x, x ∈ ups ps ∨ x ∈ dns ps → x ≤ s ∨ t ≤ x := fun x hx => by
      rcases h2 x hx with k | k
      · rcases List.mem_cons.1 k with e | e
        · exact .inr (by omega)
        · exact .inr (Int.le_of_lt (hp.1 x e))
      · exact .inl k
    have e1 := leC_step ht.1 fun x hx => hz x (.inl hx)
    have e2 := leC_step ht.1 fun x hx => hz x (.inr hx)
    have hn : n + dd (ups ps) (dns ps) t = leC t (ups ps) - leC t (dns ps) := by unfold dd; omega
    have next : ∀ p', (∀ q, p' = some q → q ≤ t) → faultB p' (foldC (dd (ups ps) (dns ps)) ts (n + dd (ups ps) (dns ps) t)) = 0 := fun p' hp' =>
      fault_fold hu h hl ts t _ p' hp.2 (fun x hx => ⟨hp.1 x hx, (h1 x (List.mem_cons_of_mem _ hx)).2⟩) (fun x hx => by
        rcases h2 x hx with k | k
        · rcases List.mem_cons.1 k with e | e
          · exact .inr (by omega)
          · exact .inl e
        · exact .inr (by omega)) hp' hn
    by_cases hd : dd (ups ps) (dns ps) t = 0
    · rw [foldC_zero hd]
      have := next p fun q hq => by have := h3 q hq; omega
      rw [hd, Int.add_zero] at this
      exact this
    · rw [foldC_cons hd]
      have a1 := leC_pairs t h
      have a2 := leC_len t (ups ps)
      have a3 := leC_len t (dns ps)
      have a4 : (ups ps).length = ps.length := by simp [ups]
      have c1 : chpB ⟨t, n + dd (ups ps) (dns ps) t⟩ = true := by
        unfold chpB
        simp only [Bool.and_eq_true, decide_eq_true_eq]
        omega
      have c2 : leP p t = false := by
        unfold leP
        cases p with
        | none => rfl
        | some q => have := h3 q rfl; simp; omega
      unfold faultB
      rw [c1, c2]
      exact next _ fun q hq => by cases hq; exact Int.le_refl _
theorem chg_fault {u : Int} {ps : Prs} (hu : u ≤ 1000000000000) (h : PrOk u ps) (hl : ps.length ≤ 20000) : faultB none (chgL (ups ps) (dns ps)) = 0 := by
  refine fault_fold hu h hl _ (-1) 0 none (times_asc _ _) (fun x hx => ?_) (fun x hx => .inl ((times_mem _ _ _).2 hx)) (fun q hq => by cases hq) ?_
  · have := times_in h x hx; omega
  · have z : ∀ l : List Int, (∀ x ∈ l, 0 ≤ x ∧ x ≤ u) → leC (-1) l = 0 := fun l hl => by
      have : l.countP (fun x => decide (x ≤ -1)) = 0 := List.countP_eq_zero.2 fun x hx => by have := hl x hx; simp; omega
      simp [leC, this]
    rw [z _ (ups_in h), z _ (dns_in h)]
    rfl
theorem insT_len (t : Int) : ∀ l : List Int, (insT t l).length ≤ l.length + 1
  | [] => by simp [insT]
  | x :: l => by
    have := insT_len t l
    unfold insT
    split
    · simp; omega
    · split <;> simp
theorem insL_len : ∀ (ts l : List Int), (insL l ts).length ≤ l.length + ts.length
  | [], l => by simp [insL]
  | t :: ts, l => by
    have h1 := insL_len ts (insT t l)
    have h2 := insT_len t l
    show (insL (insT t l) ts).length ≤ _
    simp only [List.length_cons]
    omega
theorem foldC_len (d : Int → Int) : ∀ (ts : List Int) (n : Int), (foldC d ts n).length ≤ ts.length
  | [], n => by simp [foldC]
  | t :: ts, n => by
    by_cases hd : d t = 0
    · rw [foldC_zero hd]; have := foldC_len d ts n; simp; omega
    · rw [foldC_cons hd]; have := foldC_len d ts (n + d t); simp; omega
theorem chg_len (us ds : List Int) : (chgL us ds).length ≤ us.length + ds.length := by
  have h1 := foldC_len (dd us ds) (timesL us ds) 0
  have h2 := insL_len ds (insL [] us)
  have h3 := insL_len us []
  unfold chgL timesL at *
  simp only [List.length_nil] at h3
  omega
end
end Go.T9
set_option maxRecDepth 1000000
set_option linter.unusedVariables false
set_option linter.unusedSimpArgs false
namespace Go.T9
open Go Go.AM
noncomputable section
theorem logOk {u : Int} {ts : List Ty} {vs : List Vi} (h : logE u ts vs = 0) : (0 ≤ u ∧ u ≤ 1000000000000) ∧ (ts.length ≤ 20000 ∧ vs.length ≤ 100000) ∧ chkTs u none ts = 0 := by
  unfold logE at h
  cases h1 : isIn u 0 1000000000000 with
  | false => rw [h1] at h; simp at h
  | true =>
    rw [h1] at h
    simp only [cond_true] at h
    cases h2 : (decide (20000 < ts.length) || decide (100000 < vs.length)) with
    | true => rw [h2] at h; simp at h
    | false =>
      rw [h2] at h
      simp only [cond_false] at h
      cases h3 : decide (chkTs u none ts = 0) with
      | false =>
        rw [h3] at h
        simp only [cond_false] at h
        simp [h] at h3
      | true =>
        refine ⟨by simpa [isIn] using h1, by simpa using h2, of_decide_eq_true h3⟩
theorem chkAll {u : Int} : ∀ {ts : List Ty} {pr : Option Int}, chkTs u pr ts = 0 → ∀ x ∈ ts, chkT x u = 0
  | [], _, _, x, hx => by simp at hx
  | y :: ts, pr, h, x, hx => by
    unfold chkTs at h
    cases h1 : decide (chkT y u = 0) with
    | false =>
      rw [h1] at h
      simp only [cond_false] at h
      simp [h] at h1
    | true =>
      rw [h1] at h
      simp only [cond_true] at h
      cases h2 : lessP pr y.se with
      | true => rw [h2] at h; simp at h
      | false =>
        rw [h2] at h
        simp only [cond_false] at h
        rcases List.mem_cons.1 hx with rfl | hx
        · exact of_decide_eq_true h1
        · exact chkAll h x hx
structure Times (x : Ty) (u : Int) : Prop where
  ca : x.ca ≠ -1 → 0 ≤ x.ca ∧ x.ca ≤ u
  be : x.be ≠ -1 → x.ca ≠ -1 ∧ x.ca ≤ x.be ∧ x.be ≤ u
  le : x.le ≠ -1 → (x.ca ≠ -1 → x.ca ≤ x.le) ∧ (x.be ≠ -1 → x.be ≤ x.le) ∧ x.le ≤ u
  oc : 1 ≤ x.oc ∧ x.oc ≤ 4
theorem ordF_if (u : Int) (t : Int) (r : List Int) (last : Int) : ordF u (t :: r) last = if t = -1 then ordF u r last else if t < last ∨ u < t then false else ordF u r t := by
  show (bif decide (t = -1) then ordF u r last else bif decide (t < last) || decide (u < t) then false else ordF u r t) = _
  by_cases h1 : t = -1
  · rw [if_pos h1, decide_eq_true h1]; rfl
  · rw [if_neg h1, decide_eq_false h1]
    by_cases h2 : t < last ∨ u < t
    · have : (decide (t < last) || decide (u < t)) = true := by simpa using h2
      rw [if_pos h2, this]; rfl
    · have : (decide (t < last) || decide (u < t)) = false := by simpa using h2
      rw [if_neg h2, this]; rfl
theorem chk_times {x : Ty} {u : Int} (h : chkT x u = 0) : Times x u := by
  unfold chkT at h
  cases h1 : rngB x u with
  | false => rw [h1] at h; simp at h
  | true =>
    rw [h1] at h
    simp only [cond_true] at h
    cases h2 : ordB x u with
    | false => rw [h2] at h; simp at h
    | true =>
      rw [h2] at h
      simp only [cond_true] at h
      cases h3 : frmB x with
      | true => rw [h3] at h; simp at h
      | false =>
        have hse : (0 ≤ x.se ∧ x.se ≤ u) ∧ (1 ≤ x.oc ∧ x.oc ≤ 4) := by
          simp only [rngB, isIn, Bool.and_eq_true, decide_eq_true_eq] at h1
          omega
        have hbc : x.be ≠ -1 → x.ca ≠ -1 := fun hb hc => by
          simp [frmB, hb, hc] at h3
        unfold ordB at h2
        rw [ordF_if] at h2
        refine ⟨fun hc => ?_, fun hb => ?_, fun hl => ?_, hse.2⟩
        · rw [if_neg hc] at h2
          split at h2
          · cases h2
          · omega
        · have hc := hbc hb
          rw [if_neg hc] at h2
          split at h2
          · cases h2
          · rw [ordF_if, if_neg hb] at h2
            split at h2
            · cases h2
            · omega
        · by_cases hc : x.ca = -1
          · have hb : x.be = -1 := Classical.byContradiction fun hb => hbc hb hc
            rw [if_pos hc, ordF_if, if_pos hb, ordF_if, if_neg hl] at h2
            split at h2
            · cases h2
            · exact ⟨fun k => absurd hc k, fun k => absurd hb k, by omega⟩
          · rw [if_neg hc] at h2
            split at h2
            · cases h2
            · by_cases hb : x.be = -1
              · rw [ordF_if, if_pos hb, ordF_if, if_neg hl] at h2
                split at h2
                · cases h2
                · exact ⟨fun _ => by omega, fun k => absurd hb k, by omega⟩
              · rw [ordF_if, if_neg hb] at h2
                split at h2
                · cases h2
                · rw [ordF_if, if_neg hl] at h2
                  split at h2
                  · cases h2
                  · exact ⟨fun _ => by omega, fun _ => by omega, by omega⟩
def orI (t u : Int) : Int := bif decide (t = -1) then u else t
theorem orI_if (t u : Int) : orI t u = if t = -1 then u else t := by unfold orI; by_cases h : t = -1 <;> simp [h]
def staysB (x : Ty) (s : Int) : Bool := decide (x.sn = s) && (!decide (x.ca = -1) && (!decide (x.be = -1) || decide (x.le = -1)))
theorem stays_iff (x : Ty) (s : Int) : staysB x s = true ↔ x.sn = s ∧ x.ca ≠ -1 ∧ (x.be ≠ -1 ∨ x.le = -1) := by
  simp [staysB]
def selI (s u : Int) (x : Ty) : Option (Int × Int) := bif staysB x s then some (x.ca, orI x.le u) else none
def selB (s u : Int) (x : Ty) : Option (Int × Int) := bif decide (x.sn = s) && !decide (x.be = -1) then some (x.be, orI x.le u) else none
def tw (s u : Int) (x : Ty) : Int := bif staysB x s then orI x.be u - x.ca else 0
def tv (s u : Int) (x : Ty) : Int := bif staysB x s then (bif decide (x.be = -1) then 0 else orI x.le u - x.be) else 0
theorem sel_in {s u : Int} {x : Ty} (h : Times x u) (hu : 0 ≤ u) : ∀ p, selI s u x = some p → 0 ≤ p.1 ∧ p.1 ≤ p.2 ∧ p.2 ≤ u := fun p hp => by
  unfold selI at hp
  cases hs : staysB x s with
  | false => rw [hs] at hp; cases hp
  | true =>
    rw [hs] at hp
    simp only [cond_true, Option.some.injEq] at hp
    subst hp
    obtain ⟨_, hc, _⟩ := (stays_iff x s).1 hs
    have h1 := h.ca hc
    rw [orI_if]
    by_cases hl : x.le = -1
    · simp only [hl, if_true]; omega
    · have h2 := h.le hl
      have h3 := h2.1 hc
      simp only [hl, if_false]; omega
theorem selB_in {s u : Int} {x : Ty} (h : Times x u) (hu : 0 ≤ u) : ∀ p, selB s u x = some p → 0 ≤ p.1 ∧ p.1 ≤ p.2 ∧ p.2 ≤ u := fun p hp => by
  unfold selB at hp
  cases hs : decide (x.sn = s) && !decide (x.be = -1) with
  | false => rw [hs] at hp; cases hp
  | true =>
    rw [hs] at hp
    simp only [cond_true, Option.some.injEq] at hp
    subst hp
    have hb : x.be ≠ -1 := by simp at hs; exact hs.2
    have h1 := h.be hb
    have h0 := h.ca h1.1
    rw [orI_if]
    by_cases hl : x.le = -1
    · simp only [hl, if_true]; omega
    · have h2 := h.le hl
      have h3 := h2.2.1 hb
      simp only [hl, if_false]; omega
def lenP : Option (Int × Int) → Int
  | some p => p.2 - p.1
  | none => 0
theorem tw_in {s u : Int} {x : Ty} (h : Times x u) (hu : 0 ≤ u) : (0 ≤ tw s u x ∧ tw s u x ≤ u) ∧ (0 ≤ tv s u x ∧ tv s u x ≤ u) ∧ lenP (selI s u x) = tw s u x + tv s u x ∧ lenP (selB s u x) = tv s u x := by
  cases hs : staysB x s with
  | true =>
    obtain ⟨hsn, hc, hbl⟩ := (stays_iff x s).1 hs
    have h1 := h.ca hc
    by_cases hb : x.be = -1
    · have hl : x.le = -1 := by
        rcases hbl with k | k
        · exact absurd hb k
        · exact k
      simp only [tw, tv, selI, selB, hs, hb, hl, hsn, orI, lenP, decide_true, cond_true, cond_false, Bool.not_true, Bool.and_false]
      (refine ⟨⟨?_, ?_⟩, ⟨?_, ?_⟩, ?_, ?_⟩ <;> first | trivial | omega)
    · have h2 := h.be hb
      have e : (decide (x.sn = s) && !decide (x.be = -1)) = true := by simp [hsn, hb]
      by_cases hl : x.le = -1
      · simp only [tw, tv, selI, selB, hs, hsn, hb, hl, orI, lenP, decide_true, decide_false, Bool.not_false, Bool.and_self, cond_true, cond_false]
        (refine ⟨⟨?_, ?_⟩, ⟨?_, ?_⟩, ?_, ?_⟩ <;> first | trivial | omega)
      · have h3 := h.le hl
        have h4 := h3.2.1 hb
        simp only [tw, tv, selI, selB, hs, hsn, hb, hl, orI, lenP, decide_true, decide_false, Bool.not_false, Bool.and_self, cond_true, cond_false]
        (refine ⟨⟨?_, ?_⟩, ⟨?_, ?_⟩, ?_, ?_⟩ <;> first | trivial | omega)
  | false =>
    have e : (decide (x.sn = s) && !decide (x.be = -1)) = false := by
      cases k : (decide (x.sn = s) && !decide (x.be = -1)) with
      | false => rfl
      | true =>
        simp only [Bool.and_eq_true, decide_eq_true_eq, Bool.not_eq_true', decide_eq_false_iff_not] at k
        have := (stays_iff x s).2 ⟨k.1, (h.be k.2).1, .inl k.2⟩
        rw [hs] at this
        cases this
    simp only [tw, tv, selI, selB, hs, e, lenP, cond_false]
    (refine ⟨⟨?_, ?_⟩, ⟨?_, ?_⟩, ?_, ?_⟩ <;> first | trivial | omega)
def prsL (f : Ty → Option (Int × Int)) (ts : List Ty) : Prs := ts.filterMap f
def sumT (f : Ty → Int) : List Ty → Int
  | [] => 0
  | x :: ts => f x + sumT f ts
def addP (f : Ty → Option (Int × Int)) (ps : Prs) (x : Ty) : Prs := match f x with
  | some p => ps ++ [p]
  | none => ps
theorem prs_step {f : Ty → Option (Int × Int)} {ts : List Ty} {i : Nat} (h : i < ts.length) (ps : Prs) : ps ++ prsL f (ts.drop i) = addP f ps ts[i] ++ prsL f (ts.drop (i + 1)) := by
  rw [List.drop_eq_getElem_cons h]
  unfold prsL addP
  rw [List.filterMap_cons]
  cases f ts[i] <;> simp
theorem sumT_step {f : Ty → Int} {ts : List Ty} {i : Nat} (h : i < ts.length) : sumT f (ts.drop i) = f ts[i] + sumT f (ts.drop (i + 1)) := by
  rw [List.drop_eq_getElem_cons h]; rfl
theorem prs_len (f : Ty → Option (Int × Int)) (ts : List Ty) : (prsL f ts).length ≤ ts.length := List.length_filterMap_le _ _
theorem prs_ok {u : Int} {f : Ty → Option (Int × Int)} {ts : List Ty} (h : ∀ x ∈ ts, ∀ p, f x = some p → 0 ≤ p.1 ∧ p.1 ≤ p.2 ∧ p.2 ≤ u) : PrOk u (prsL f ts) := fun p hp => by
  obtain ⟨x, hx, e⟩ := List.mem_filterMap.1 hp
  exact h x hx p e
theorem sum_prs {f : Ty → Option (Int × Int)} {g : Ty → Int} : ∀ {ts : List Ty}, (∀ x ∈ ts, lenP (f x) = g x) → sumP (prsL f ts) = sumT g ts
  | [], _ => rfl
  | x :: ts, h => by
    have ih := sum_prs (f := f) (g := g) (ts := ts) fun y hy => h y (List.mem_cons_of_mem _ hy)
    have hx := h x (by simp)
    unfold prsL at *
    rw [List.filterMap_cons]
    cases e : f x with
    | none =>
      rw [e] at hx
      simp only [lenP] at hx
      simp only [sumT]
      rw [ih]; omega
    | some p =>
      rw [e] at hx
      simp only [lenP] at hx
      simp only [sumT, sumP]
      rw [ih, hx]
theorem sumT_add (f g h : Ty → Int) : ∀ {ts : List Ty}, (∀ x ∈ ts, h x = f x + g x) → sumT h ts = sumT f ts + sumT g ts
  | [], _ => rfl
  | x :: ts, hx => by
    have ih := sumT_add f g h (ts := ts) fun y hy => hx y (List.mem_cons_of_mem _ hy)
    simp only [sumT]
    rw [ih, hx x (by simp)]
    omega
def stE (u : Int) (ts : List Ty) (vs : List Vi) (s : Int) : Int := bif decide (logE u ts vs = 0) then (bif isIn s 0 49 then 0 else 9) else logE u ts vs
def chO (f : Ty → Option (Int × Int)) (ts : List Ty) : List Ch := chgL (ups (prsL f ts)) (dns (prsL f ts))
def inO (u : Int) (ts : List Ty) (vs : List Vi) (s : Int) : List Ch := bif decide (stE u ts vs s = 0) then chO (selI s u) ts else []
def buO (u : Int) (ts : List Ty) (vs : List Vi) (s : Int) : List Ch := bif decide (stE u ts vs s = 0) then chO (selB s u) ts else []
def waO (u : Int) (ts : List Ty) (vs : List Vi) (s : Int) : Int := bif decide (stE u ts vs s = 0) then sumT (tw s u) ts else 0
def seO (u : Int) (ts : List Ty) (vs : List Vi) (s : Int) : Int := bif decide (stE u ts vs s = 0) then sumT (tv s u) ts else 0
theorem stE0 {u : Int} {ts : List Ty} {vs : List Vi} {s : Int} (h : stE u ts vs s = 0) : logE u ts vs = 0 := by
  unfold stE at h
  cases h1 : decide (logE u ts vs = 0) with
  | true => exact of_decide_eq_true h1
  | false => rw [h1] at h; simp at h; simp [h] at h1
theorem spent_law {u : Int} {ts : List Ty} {vs : List Vi} {s : Int} (h : stE u ts vs s = 0) : faultB none (inO u ts vs s) = 0 ∧ faultB none (buO u ts vs s) = 0 ∧ (inO u ts vs s).length ≤ 40000 ∧ (buO u ts vs s).length ≤ 40000 ∧
    areaS 0 u (inO u ts vs s) = waO u ts vs s + seO u ts vs s ∧ areaS 0 u (buO u ts vs s) = seO u ts vs s := by
  obtain ⟨hu, hl, hc⟩ := logOk (stE0 h)
  have ht : ∀ x ∈ ts, Times x u := fun x hx => chk_times (chkAll hc x hx)
  have e : decide (stE u ts vs s = 0) = true := by simp [h]
  simp only [inO, buO, waO, seO, e, cond_true]
  have p1 := prs_ok (f := selI s u) fun x hx => sel_in (ht x hx) hu.1
  have p2 := prs_ok (f := selB s u) fun x hx => selB_in (ht x hx) hu.1
  have l1 := prs_len (selI s u) ts
  have l2 := prs_len (selB s u) ts
  unfold chO
  have c1 := chg_len (ups (prsL (selI s u) ts)) (dns (prsL (selI s u) ts))
  have c2 := chg_len (ups (prsL (selB s u) ts)) (dns (prsL (selB s u) ts))
  simp only [ups, dns, List.length_map] at c1 c2
  refine ⟨chg_fault hu.2 p1 (by omega), chg_fault hu.2 p2 (by omega), by simp only [ups, dns]; omega, by simp only [ups, dns]; omega, ?_, ?_⟩
  · rw [area_spent hu.1 p1, sum_prs (g := fun x => tw s u x + tv s u x) fun x hx => (tw_in (ht x hx) hu.1).2.2.1]
    exact sumT_add _ _ _ fun x _ => rfl
  · rw [area_spent hu.1 p2]
    exact sum_prs fun x hx => (tw_in (ht x hx) hu.1).2.2.2
theorem sumT_in {f : Ty → Int} {u : Int} (hu : 0 ≤ u) : ∀ {ts : List Ty}, (∀ x ∈ ts, 0 ≤ f x ∧ f x ≤ u) → 0 ≤ sumT f ts ∧ sumT f ts ≤ u * ts.length
  | [], _ => by simp [sumT]
  | x :: ts, h => by
    have ih := sumT_in (f := f) hu (ts := ts) fun y hy => h y (List.mem_cons_of_mem _ hy)
    have hx := h x (by simp)
    simp only [sumT, List.length_cons]
    rw [show ((ts.length + 1 : Nat) : Int) = (ts.length : Int) + 1 by omega, Int.mul_add, Int.mul_one]
    omega
end
end Go.T9
set_option maxRecDepth 1000000
set_option linter.unusedVariables false
set_option linter.unusedSimpArgs false
namespace Go.T9
open Go Go.AM
noncomputable section
def chAt (els : List Value) (i : Int) : Ch := match nth els i.toNat with
  | some (.agg ⟨[.int .i64 a, .int .i64 b]⟩) => ⟨a, b⟩
  | _ => ⟨0, 0⟩
theorem ch_nth {l : List Ch} {i : Nat} (h : i < l.length) : nth (l.map cv) i = some (cv l[i]) := nth_map (by simp [h])
theorem ch_at {l : List Ch} {i : Nat} (h : i < l.length) : chAt (l.map cv) (i : Int) = l[i] := by
  simp only [chAt, Int.toNat_natCast, ch_nth h]
  rfl
theorem ch_c {l : List Ch} {i : Nat} (h : i < l.length) : nth (l.map cv) (Int.toNat ((Int.toNat (i : Int) : Nat) : Int)) = some (cv (chAt (l.map cv) ((Int.toNat (i : Int) : Nat) : Int))) := by
  simp only [Int.toNat_natCast]
  rw [ch_nth h, ch_at h]
theorem ch_b {l : List Ch} {i : Nat} (h : i < l.length) : (0 : Int) ≤ (i : Int) ∧ (i : Int) < ((l.map cv).length : Int) := ⟨by omega, by simpa using h⟩
theorem in_nth {l : List Int} {i : Nat} (h : i < l.length) : nth (l.map (Value.int .i64)) i = some (.int .i64 l[i]) := nth_map (by simp [h])
theorem in_at {l : List Int} {i : Nat} (h : i < l.length) : intAt (l.map (Value.int .i64)) (i : Int) = l[i] := by
  simp only [intAt, Int.toNat_natCast, in_nth h]
theorem in_c {l : List Int} {i : Nat} (h : i < l.length) : nth (l.map (Value.int .i64)) (Int.toNat ((Int.toNat (i : Int) : Nat) : Int)) = some (.int .i64 (intAt (l.map (Value.int .i64)) ((Int.toNat (i : Int) : Nat) : Int))) := by
  simp only [Int.toNat_natCast]
  rw [in_nth h, in_at h]
theorem in_b {l : List Int} {i : Nat} (h : i < l.length) : (0 : Int) ≤ (i : Int) ∧ (i : Int) < ((l.map (Value.int .i64)).length : Int) := ⟨by omega, by simpa using h⟩
def elG : El := { El.of (fun sz _ els i => bif Nat.beq sz 16 then some (tyv (tyAt els i)) else bif Nat.beq sz 7 then some (viv (viAt els i)) else bif Nat.beq sz 1 then some (.int .i64 (intAt els i)) else bif Nat.beq sz 2 then some (cv (chAt els i)) else none) with app := true, gm := fun t => Nat.beq t 3 }
def XQ : SX := ⟨env, [], elG, fun _ => .cut [] [0, 1, 12, 13] 0⟩
theorem XQ_ok : XQ.Ok := ⟨env_ok, env_sym, env_gl, .nil⟩
def frQ (sz : Nat) (els : List Value) (i : Nat) : T Value := (.node (.node .leaf (some (dat sz els)) (.node .leaf none (.node .leaf (some (.int .i64 i)) .leaf))) (some (dat sz els)) (.node (.node .leaf none (.node .leaf (some (.int .i64 els.length)) .leaf)) none .leaf))
def jEqI (K : KV) (els : List Value) : Prop := sxFn XQ 1 Proofs.Tryz.f19 [dat 1 els, dat 1 els] K
def jEqIS (K : KV) (again : KF) (els : List Value) (i : Nat) : Prop := sxStep XQ 1 Proofs.Tryz.f19 [1, 1, 0, 1, 0] K [] [0, 1, 12, 13] 0 again (frQ 1 els i) ⟨.leaf, 0⟩
def jEqC (K : KV) (els : List Value) : Prop := sxFn XQ 1 Proofs.Tryz.f25 [dat 2 els, dat 2 els] K
def jEqCS (K : KV) (again : KF) (els : List Value) (i : Nat) : Prop := sxStep XQ 1 Proofs.Tryz.f25 [1, 1, 0, 1, 0] K [] [0, 1, 12, 13] 0 again (frQ 2 els i) ⟨.leaf, 0⟩
def tabG (ts : List Ty) (vs : List Vi) : Tab := [(9, pureR (clPre ts vs) (clX ts vs)), (10, pureR (clPre ts vs) (clX ts vs)), (30, pureR (fun _ => none) insideX), (32, pureR (fun _ => none) outsideX)]
theorem tabG_ok (ts : List Ty) (vs : List Vi) : TabOk env (tabG ts vs) := .cons (clW_tab ts vs) (.cons (clR_tab ts vs) (.cons (con_tab inside_con) (.cons (con_tab outside_con) .nil)))
def XG (ts : List Ty) (vs : List Vi) : SX := ⟨env, tabG ts vs, elG, fun _ => .unroll 0⟩
theorem XG_ok (ts : List Ty) (vs : List Vi) : (XG ts vs).Ok := ⟨env_ok, env_sym, env_gl, tabG_ok ts vs⟩
def jCS (Q : Value → Prop) (QA : KV) (u s : Int) (ts : List Ty) (vs : List Vi) : Prop := sxFn (XG ts vs) 1 Proofs.Tryz.f48 [logv u (ts.map tyv) (vs.map viv), .int .i64 s] (leafK Q QA)
def jCSR (Q : Value → Prop) (QA : KV) (u s : Int) (ts : List Ty) (vs : List Vi) : Prop := sxFn (XG ts vs) 1 Proofs.Tryz.f52 [logv u (ts.map tyv) (vs.map viv), .int .i64 s] (leafK Q QA)
end
end Go.T9
set_option maxRecDepth 1000000
set_option linter.unusedVariables false
set_option linter.unusedSimpArgs false
namespace Go.T9
open Go Go.AM
noncomputable section
theorem jEqI_nf (K : KV) (els : List Go.Value) : jEqI K els = (Sp (!decide ((↑(List.length els) : Int) = (↑(List.length els) : Int))) (K (Value.bool Bool.false) (AH.mk T.leaf 0)) (HF (Value.func (Go.Fn.yield 1) (Array.mk els) (Array.mk [])) ∧ HF (Value.func (Go.Fn.yield 1) (Array.mk els) (Array.mk [])) ∧ LAt XQ 1 (Go.Func.ntmps Go.Proofs.Tryz.f19) (bodyOf Go.Proofs.Tryz.f19) [1, 1, 0, 1, 0] (finK (SX.E XQ) (Array.toList (Go.Func.results Go.Proofs.Tryz.f19)) K) (T.node (T.node T.leaf (some (Value.func (Go.Fn.yield 1) (Array.mk els) (Array.mk []))) (T.node T.leaf none (T.node T.leaf (some (Value.int .i64 0)) T.leaf))) (some (Value.func (Go.Fn.yield 1) (Array.mk els) (Array.mk []))) (T.node (T.node T.leaf none (T.node T.leaf (some (Value.int .i64 (↑(List.length els) : Int))) T.leaf)) none T.leaf)) (AH.mk T.leaf 0))) := by kernel_rfl
theorem jEqIS_nf (K : KV) (again : KF) (els : List Go.Value) (i : Nat) : jEqIS K again els i = (Sp (decide ((↑i : Int) < (↑(List.length els) : Int))) ((0 ≤ (↑i : Int) ∧ (↑i : Int) < (↑(List.length els) : Int)) ∧ nth els (Int.toNat (↑(Int.toNat (↑i : Int)) : Int)) = some (Value.int .i64 (intAt els (↑(Int.toNat (↑i : Int)) : Int))) ∧ (0 ≤ (↑i : Int) ∧ (↑i : Int) < (↑(List.length els) : Int)) ∧ nth els (Int.toNat (↑(Int.toNat (↑i : Int)) : Int)) = some (Value.int .i64 (intAt els (↑(Int.toNat (↑i : Int)) : Int))) ∧ Sp (!decide (intAt els (↑(Int.toNat (↑i : Int)) : Int) = intAt els (↑(Int.toNat (↑i : Int)) : Int))) (K (Value.bool Bool.false) (AH.mk T.leaf 9)) (HF (Value.func (Go.Fn.yield 1) (Array.mk els) (Array.mk [])) ∧ HF (Value.func (Go.Fn.yield 1) (Array.mk els) (Array.mk [])) ∧ again (T.node (T.node T.leaf (some (Value.func (Go.Fn.yield 1) (Array.mk els) (Array.mk []))) (T.node T.leaf none (T.node T.leaf (some (Value.int .i64 (IntKind.wrap .i64 ((↑i : Int) + 1)))) T.leaf))) (some (Value.func (Go.Fn.yield 1) (Array.mk els) (Array.mk []))) (T.node (T.node T.leaf none (T.node T.leaf (some (Value.int .i64 (↑(List.length els) : Int))) T.leaf)) none T.leaf)) (AH.mk T.leaf 0))) (K (Value.bool Bool.true) (AH.mk T.leaf 0))) := by kernel_rfl
theorem jEqC_nf (K : KV) (els : List Go.Value) : jEqC K els = (Sp (!decide ((↑(List.length els) : Int) = (↑(List.length els) : Int))) (K (Value.bool Bool.false) (AH.mk T.leaf 0)) (HF (Value.func (Go.Fn.yield 2) (Array.mk els) (Array.mk [])) ∧ HF (Value.func (Go.Fn.yield 2) (Array.mk els) (Array.mk [])) ∧ LAt XQ 1 (Go.Func.ntmps Go.Proofs.Tryz.f25) (bodyOf Go.Proofs.Tryz.f25) [1, 1, 0, 1, 0] (finK (SX.E XQ) (Array.toList (Go.Func.results Go.Proofs.Tryz.f25)) K) (T.node (T.node T.leaf (some (Value.func (Go.Fn.yield 2) (Array.mk els) (Array.mk []))) (T.node T.leaf none (T.node T.leaf (some (Value.int .i64 0)) T.leaf))) (some (Value.func (Go.Fn.yield 2) (Array.mk els) (Array.mk []))) (T.node (T.node T.leaf none (T.node T.leaf (some (Value.int .i64 (↑(List.length els) : Int))) T.leaf)) none T.leaf)) (AH.mk T.leaf 0))) := by kernel_rfl
theorem jEqCS_nf (K : KV) (again : KF) (els : List Go.Value) (i : Nat) : jEqCS K again els i = (Sp (decide ((↑i : Int) < (↑(List.length els) : Int))) ((0 ≤ (↑i : Int) ∧ (↑i : Int) < (↑(List.length els) : Int)) ∧ nth els (Int.toNat (↑(Int.toNat (↑i : Int)) : Int)) = some (Value.agg (Array.mk [Value.int .i64 (Ch.a (chAt els (↑(Int.toNat (↑i : Int)) : Int))), Value.int .i64 (Ch.u (chAt els (↑(Int.toNat (↑i : Int)) : Int)))])) ∧ (0 ≤ (↑i : Int) ∧ (↑i : Int) < (↑(List.length els) : Int)) ∧ nth els (Int.toNat (↑(Int.toNat (↑i : Int)) : Int)) = some (Value.agg (Array.mk [Value.int .i64 (Ch.a (chAt els (↑(Int.toNat (↑i : Int)) : Int))), Value.int .i64 (Ch.u (chAt els (↑(Int.toNat (↑i : Int)) : Int)))])) ∧ Sp (!(decide (Ch.a (chAt els (↑(Int.toNat (↑i : Int)) : Int)) = Ch.a (chAt els (↑(Int.toNat (↑i : Int)) : Int))) && (decide (Ch.u (chAt els (↑(Int.toNat (↑i : Int)) : Int)) = Ch.u (chAt els (↑(Int.toNat (↑i : Int)) : Int))) && Bool.true))) (K (Value.bool Bool.false) (AH.mk T.leaf 9)) (HF (Value.func (Go.Fn.yield 2) (Array.mk els) (Array.mk [])) ∧ HF (Value.func (Go.Fn.yield 2) (Array.mk els) (Array.mk [])) ∧ again (T.node (T.node T.leaf (some (Value.func (Go.Fn.yield 2) (Array.mk els) (Array.mk []))) (T.node T.leaf none (T.node T.leaf (some (Value.int .i64 (IntKind.wrap .i64 ((↑i : Int) + 1)))) T.leaf))) (some (Value.func (Go.Fn.yield 2) (Array.mk els) (Array.mk []))) (T.node (T.node T.leaf none (T.node T.leaf (some (Value.int .i64 (↑(List.length els) : Int))) T.leaf)) none T.leaf)) (AH.mk T.leaf 0))) (K (Value.bool Bool.true) (AH.mk T.leaf 0))) := by kernel_rfl
theorem jCS_nf (Q : Go.Value → Prop) (QA : KV) (u : Int) (s : Int) (ts : List Ty) (vs : List Vi) : jCS Q QA u s ts vs = ((List.map tyv ts = List.map tyv ts ∧ List.map viv vs = List.map viv vs) ∧ Sp (!decide (logE u ts vs = 0)) (Q (Value.int .i64 (logE u ts vs))) (Sp (!(decide (0 ≤ s) && decide (s ≤ 49))) (Q (Value.int .i64 9)) (Q (Value.int .i64 0)))) := by kernel_rfl
theorem jCSR_nf (Q : Go.Value → Prop) (QA : KV) (u : Int) (s : Int) (ts : List Ty) (vs : List Vi) : jCSR Q QA u s ts vs = ((List.map tyv ts = List.map tyv ts ∧ List.map viv vs = List.map viv vs) ∧ Sp (!decide (logE u ts vs = 0)) (Q (Value.int .i64 (logE u ts vs))) (Sp (!(decide (0 ≤ s) && decide (s ≤ 49))) (Q (Value.int .i64 9)) (Q (Value.int .i64 0)))) := by kernel_rfl
theorem eqI_walk (l : List Int) (hl : l.length < 9223372036854775807) : Walk env Proofs.Tryz.f19 [dat 1 (l.map (Value.int .i64)), dat 1 (l.map (Value.int .i64))] (.bool true) := by
  refine sxFn_frz XQ_ok (d := 1) ((jEqI_nf _ (l.map (Value.int .i64))).mpr ?_)
  refine Sp.intro (fun h => by simp at h) (fun _ => ⟨HF_P1 l, HF_P1 l, ?_⟩)
  refine LAt.step XQ_ok [] [0, 1, 12, 13] 0 (by kernel_rfl) (fun k F A => ∃ i : Nat, F = frQ 1 (l.map (Value.int .i64)) i ∧ A = ⟨.leaf, 0⟩ ∧ i + k = l.length) ?_ (k := l.length) ⟨0, rfl, rfl, by simp⟩
  rintro k F A ⟨i, rfl, rfl, hk⟩
  refine (jEqIS_nf _ _ _ i).mpr ?_
  refine Sp.intro (fun h => ?_) (fun _ => .same (HFb _))
  have hlt : i < l.length := by simpa using h
  refine ⟨in_b hlt, in_c hlt, in_b hlt, in_c hlt, Sp.intro (fun h => by simp at h) (fun _ => ⟨HF_P1 l, HF_P1 l, k - 1, by omega, i + 1, ?_, rfl, by omega⟩)⟩
  rw [idx_succ (by omega)]
  rfl
theorem eqC_walk (l : List Ch) (hl : l.length < 9223372036854775807) : Walk env Proofs.Tryz.f25 [dat 2 (l.map cv), dat 2 (l.map cv)] (.bool true) := by
  refine sxFn_frz XQ_ok (d := 1) ((jEqC_nf _ (l.map cv)).mpr ?_)
  refine Sp.intro (fun h => by simp at h) (fun _ => ⟨HF_chs l, HF_chs l, ?_⟩)
  refine LAt.step XQ_ok [] [0, 1, 12, 13] 0 (by kernel_rfl) (fun k F A => ∃ i : Nat, F = frQ 2 (l.map cv) i ∧ A = ⟨.leaf, 0⟩ ∧ i + k = l.length) ?_ (k := l.length) ⟨0, rfl, rfl, by simp⟩
  rintro k F A ⟨i, rfl, rfl, hk⟩
  refine (jEqCS_nf _ _ _ i).mpr ?_
  refine Sp.intro (fun h => ?_) (fun _ => .same (HFb _))
  have hlt : i < l.length := by simpa using h
  have e : ∀ {p q : Prop}, Sp false p q = q := rfl
  simp only [decide_true, Bool.true_and, Bool.and_self, Bool.not_true, e]
  refine ⟨ch_b hlt, ch_c hlt, ch_b hlt, ch_c hlt, HF_chs l, HF_chs l, k - 1, by omega, i + 1, ?_, trivial, by omega⟩
  rw [idx_succ (by omega)]
  rfl
def eqIX : List Value → Option Value
  | [.func (.yield 1) ⟨_⟩ ⟨[]⟩, .func (.yield 1) ⟨_⟩ ⟨[]⟩] => some (.bool true)
  | _ => none
def eqIPre : List Value → Option Prop
  | [.func (.yield 1) ⟨a⟩ ⟨[]⟩, .func (.yield 1) ⟨b⟩ ⟨[]⟩] => some (a = b ∧ ∃ l : List Int, a = l.map (Value.int .i64) ∧ l.length < 9223372036854775807)
  | _ => none
theorem eqI_tab : ∀ args A p v A', pureR eqIPre eqIX args A = some (p, v, A') → PH p → CallAt env 19 args A v A' := walk_tab env_ok env_gl (fn := Proofs.Tryz.f19) rfl fun args v h hp => by
  unfold eqIX at h
  split at h
  · simp only [Option.some.injEq] at h
    subst h
    obtain ⟨rfl, l, rfl, hl⟩ := hp
    exact ⟨HF.cons (HF_P1 l) (HF.cons (HF_P1 l) HF.nil), eqI_walk l hl⟩
  · cases h
def eqCX : List Value → Option Value
  | [.func (.yield 2) ⟨_⟩ ⟨[]⟩, .func (.yield 2) ⟨_⟩ ⟨[]⟩] => some (.bool true)
  | _ => none
def eqCPre : List Value → Option Prop
  | [.func (.yield 2) ⟨a⟩ ⟨[]⟩, .func (.yield 2) ⟨b⟩ ⟨[]⟩] => some (a = b ∧ ∃ l : List Ch, a = l.map cv ∧ l.length < 9223372036854775807)
  | _ => none
theorem eqC_tab : ∀ args A p v A', pureR eqCPre eqCX args A = some (p, v, A') → PH p → CallAt env 25 args A v A' := walk_tab env_ok env_gl (fn := Proofs.Tryz.f25) rfl fun args v h hp => by
  unfold eqCX at h
  split at h
  · simp only [Option.some.injEq] at h
    subst h
    obtain ⟨rfl, l, rfl, hl⟩ := hp
    exact ⟨HF.cons (HF_chs l) (HF.cons (HF_chs l) HF.nil), eqC_walk l hl⟩
  · cases h
theorem cs_walk (u s : Int) (ts : List Ty) (vs : List Vi) : Walk env Proofs.Tryz.f48 [logv u (ts.map tyv) (vs.map viv), .int .i64 s] (.int .i64 (stE u ts vs s)) := by
  refine sxFn_plain (XG_ok ts vs) (d := 1) (HFi _ _) ((jCS_nf _ _ u s ts vs).mpr ?_)
  refine ⟨⟨rfl, rfl⟩, Sp.intro (fun h => ?_) (fun h => Sp.intro (fun h1 => ?_) (fun h1 => ?_))⟩
  · rw [Bool.not_eq_true'] at h
    exact congrArg (Value.int .i64) (by simp only [stE, h, cond_false])
  · rw [Bool.not_eq_false'] at h
    rw [Bool.not_eq_true'] at h1
    exact congrArg (Value.int .i64) (by simp only [stE, isIn, h, h1, cond_false, cond_true])
  · rw [Bool.not_eq_false'] at h h1
    exact congrArg (Value.int .i64) (by simp only [stE, isIn, h, h1, cond_true])
theorem csR_walk (u s : Int) (ts : List Ty) (vs : List Vi) : Walk env Proofs.Tryz.f52 [logv u (ts.map tyv) (vs.map viv), .int .i64 s] (.int .i64 (stE u ts vs s)) := by
  refine sxFn_plain (XG_ok ts vs) (d := 1) (HFi _ _) ((jCSR_nf _ _ u s ts vs).mpr ?_)
  refine ⟨⟨rfl, rfl⟩, Sp.intro (fun h => ?_) (fun h => Sp.intro (fun h1 => ?_) (fun h1 => ?_))⟩
  · rw [Bool.not_eq_true'] at h
    exact congrArg (Value.int .i64) (by simp only [stE, h, cond_false])
  · rw [Bool.not_eq_false'] at h
    rw [Bool.not_eq_true'] at h1
    exact congrArg (Value.int .i64) (by simp only [stE, isIn, h, h1, cond_false, cond_true])
  · rw [Bool.not_eq_false'] at h h1
    exact congrArg (Value.int .i64) (by simp only [stE, isIn, h, h1, cond_true])
def csX (ts : List Ty) (vs : List Vi) : List Value → Option Value
  | [.agg ⟨[.int .i64 u, .func (.yield 16) ⟨_⟩ ⟨[]⟩, .func (.yield 7) ⟨_⟩ ⟨[]⟩]⟩, .int .i64 s] => some (.int .i64 (stE u ts vs s))
  | _ => none
def csPre (ts : List Ty) (vs : List Vi) : List Value → Option Prop
  | [.agg ⟨[.int .i64 _, .func (.yield 16) ⟨a⟩ ⟨[]⟩, .func (.yield 7) ⟨b⟩ ⟨[]⟩]⟩, _] => some (a = ts.map tyv ∧ b = vs.map viv)
  | _ => none
theorem csW_tab (ts : List Ty) (vs : List Vi) : ∀ args A p v A', pureR (csPre ts vs) (csX ts vs) args A = some (p, v, A') → PH p → CallAt env 48 args A v A' := walk_tab env_ok env_gl (fn := Proofs.Tryz.f48) rfl fun args v h hp => by
  unfold csX at h
  split at h
  · simp only [Option.some.injEq] at h
    subst h
    obtain ⟨rfl, rfl⟩ := hp
    exact ⟨HF.cons (HF_log _ ts vs) (HF.cons (HFi _ _) HF.nil), cs_walk _ _ ts vs⟩
  · cases h
theorem csR_tab (ts : List Ty) (vs : List Vi) : ∀ args A p v A', pureR (csPre ts vs) (csX ts vs) args A = some (p, v, A') → PH p → CallAt env 52 args A v A' := walk_tab env_ok env_gl (fn := Proofs.Tryz.f52) rfl fun args v h hp => by
  unfold csX at h
  split at h
  · simp only [Option.some.injEq] at h
    subst h
    obtain ⟨rfl, rfl⟩ := hp
    exact ⟨HF.cons (HF_log _ ts vs) (HF.cons (HFi _ _) HF.nil), csR_walk _ _ ts vs⟩
  · cases h
end
end Go.T9
set_option maxRecDepth 1000000
set_option linter.unusedVariables false
set_option linter.unusedSimpArgs false
namespace Go.T9
open Go Go.AM Go.MK
noncomputable section
def tabCh (srt : List Value → List Value) : Tab := [(71, sortR srt)]
def XC1 (srt : List Value → List Value) : SX := ⟨env, tabCh srt, elG, fun k => bif Nat.beq k 5 then .autoN [(.slot 5, 55, 2)] [] [] [0, 1, 5, 6] else .autoN [(.slot 5, 55, 2)] [] [] [0, 1, 5, 6, 7, 8]⟩
def frQc (a n1 b n2 m : Nat) (z : Int) : T Value := (.node (.node .leaf (some (.slice (some ⟨1, b, none⟩) n2 (unk + 3 + 1))) (.node .leaf (some (.slice (some ⟨2, 0, none⟩) m (unk + 3 + 2))) .leaf)) (some (.slice (some ⟨0, a, none⟩) n1 (unk + 3 + 1))) (.node .leaf none (.node .leaf (some (.int .i64 z)) .leaf)))
def frQu (a n1 b n2 m : Nat) (z t last : Int) : T Value := (.node (.node (.node (.node .leaf (some (.int .i64 t)) .leaf) none .leaf) (some (.slice (some ⟨1, b, none⟩) n2 (unk + 3 + 1))) (.node .leaf (some (.slice (some ⟨2, 0, none⟩) m (unk + 3 + 2))) .leaf)) (some (.slice (some ⟨0, a, none⟩) n1 (unk + 3 + 1))) (.node (.node (.node .leaf (some (.int .i64 last)) .leaf) none .leaf) none (.node .leaf (some (.int .i64 z)) .leaf)))
def hGc (l1 l2 o : List Value) : AH := ⟨(.node (.node .leaf (some (.gro l2 [] 3)) .leaf) (some (.gro l1 [] 3)) (.node .leaf (some (.gro o [] 55)) .leaf)), 3⟩
def nsC : List (NPos × TypeId × Nat) := [(.slot 5, 55, 2)]
def jCh (K : KV) (srt : List Value → List Value) (us ds : List Value) (n1 n2 : Nat) : Prop := sxFnZ (XC1 srt) 1 Proofs.Tryz.f51 [.slice (some ⟨0, 0, none⟩) n1 (unk + 3 + 1), .slice (some ⟨1, 0, none⟩) n2 (unk + 3 + 1)] ⟨two (.gro us [] 3) (.gro ds [] 3), 2⟩ K
def kFinW (srt : List Value → List Value) (K : KV) : KX := finK (XC1 srt).E (Proofs.Tryz.f51.results).toList K
def jCO (K : KV) (again : KF) (srt : List Value → List Value) (tA : T AObj) (l1 l2 o : List Value) (a n1 b n2 m : Nat) (z : Int) : Prop := sxStepZ (XC1 srt) 1 (Func.ntmps Proofs.Tryz.f51) ⟨tA, 0⟩ (bodyOf Proofs.Tryz.f51) [1, 1, 1, 1, 1, 0, 0] (kFinW srt K) nsC [] [] [0, 1, 5, 6] again (frQc a n1 b n2 m z) (hGc l1 l2 o)
def cU : Code := loopBody (subC [1, 1, 1, 1, 1, 0, 0] (bodyOf Proofs.Tryz.f51))
def kU (srt : List Value → List Value) (tA : T AObj) (K : KV) (again : KF) : KX := stepZ (XC1 srt) 1 (Func.ntmps Proofs.Tryz.f51) ⟨tA, 0⟩ (bodyOf Proofs.Tryz.f51) [1, 1, 1, 1, 1, 0, 0] (kFinW srt K) nsC [] [] [0, 1, 5, 6] again
def jCU (K : KV) (again again0 : KF) (srt : List Value → List Value) (tA : T AObj) (l1 l2 o : List Value) (a n1 b n2 m : Nat) (z t last : Int) : Prop := sxStepZ (XC1 srt) 1 (Func.ntmps Proofs.Tryz.f51) ⟨tA, 0⟩ cU [1, 0, 1, 1, 1, 1, 0, 0] (kU srt tA K again0) nsC [] [] [0, 1, 5, 6, 7, 8] again (frQu a n1 b n2 m z t last) (hGc l1 l2 o)
def jCD (K : KV) (again again0 : KF) (srt : List Value → List Value) (tA : T AObj) (l1 l2 o : List Value) (a n1 b n2 m : Nat) (z t last : Int) : Prop := sxStepZ (XC1 srt) 1 (Func.ntmps Proofs.Tryz.f51) ⟨tA, 0⟩ cU [1, 0, 1, 1, 1, 1, 1, 0, 0] (kU srt tA K again0) nsC [] [] [0, 1, 5, 6, 7, 8] again (frQu a n1 b n2 m z t last) (hGc l1 l2 o)
abbrev EntsI := List (Value × Value × Nat)
def mgI (es : EntsI) (k : Value) : Int := (aget (inv vI vI es) (vI k)).getD 0
def mhI (es : EntsI) (k : Value) : Bool := (aget (inv vI vI es) (vI k)).isSome
def msI (es : EntsI) (k v : Value) : EntsI := ents (Value.int .i64) (Value.int .i64) (aset (inv vI vI es) (vI k) (vI v))
def mnI (es : EntsI) (k v : Value) : Nat := (aset (inv vI vI es) (vI k) (vI v)).length
def elH : El := { elG with ml := fun _ es k => some (.int .i64 (mgI es k), mhI es k), mu := fun _ es _ k v => some (msI es k v, mnI es k v) }
def nsR : List (NPos × TypeId × Nat) := [(.slot 6, 3, 1)]
def XR1 : SX := ⟨env, [], elH, fun k => bif Nat.beq k 4 then .autoN [(.slot 6, 3, 1)] [] [] [5, 6, 19, 20, 21] else bif Nat.beq k 7 then .autoN [(.slot 6, 3, 1)] [] [] [5, 6, 7, 19, 20, 21, 26, 27, 28] else bif Nat.beq k 10 then .autoN [(.slot 6, 3, 1)] [] [] [5, 6, 7, 10, 11, 19, 20, 21, 26, 27, 28] else .autoN [(.slot 12, 55, 2)] [] [] [5, 12, 13, 82, 83, 84]⟩
theorem XR1_ok : XR1.Ok := ⟨env_ok, env_sym, env_gl, .nil⟩
def jRh (K : KV) (us ds : List Value) (n1 n2 : Nat) : Prop := sxFnZ XR1 1 Proofs.Tryz.f55 [.slice (some ⟨0, 0, none⟩) n1 (unk + 3 + 1), .slice (some ⟨1, 0, none⟩) n2 (unk + 3 + 1)] ⟨two (.gro us [] 3) (.gro ds [] 3), 2⟩ K
def kFinR (K : KV) : KX := finK XR1.E (Proofs.Tryz.f55.results).toList K
def cR : Code := loopBody (subC [1, 1, 1, 0, 1, 0] (bodyOf Proofs.Tryz.f55))
def kR (tA : T AObj) (K : KV) (again : KF) : KX := stepZ XR1 1 (Func.ntmps Proofs.Tryz.f55) ⟨tA, 0⟩ (bodyOf Proofs.Tryz.f55) [1, 1, 1, 0, 1, 0] (kFinR K) nsR [] [] [5, 6, 19, 20, 21] again
def cR7 : Code := loopBody (subC [1, 1, 0, 0, 1, 1, 0] cR)
def kR7 (tA : T AObj) (K : KV) (again0 again : KF) : KX := stepZ XR1 1 (Func.ntmps Proofs.Tryz.f55) ⟨tA, 0⟩ cR [1, 1, 0, 0, 1, 1, 0] (kR tA K again0) nsR [] [] [5, 6, 7, 19, 20, 21, 26, 27, 28] again
def frQr0 (m : Nat) : T Value := (.node (.node (.node .leaf none (.node (.node .leaf (some (.slice (some ⟨2, 0, none⟩) 2 2)) .leaf) none .leaf)) none (.node .leaf (some (.map (some 0))) (.node (.node .leaf (some (.int .i64 0)) .leaf) none .leaf))) none (.node (.node .leaf none (.node (.node .leaf (some (.int .i64 2)) .leaf) none .leaf)) none (.node .leaf (some (.slice (some ⟨1, 0, none⟩) m (unk + 3 + 1))) .leaf)))
def frQr1 (m : Nat) : T Value := (.node (.node (.node .leaf none (.node (.node .leaf (some (.slice (some ⟨2, 0, none⟩) 2 2)) .leaf) none .leaf)) none (.node .leaf (some (.map (some 0))) (.node (.node .leaf (some (.int .i64 1)) .leaf) none .leaf))) none (.node (.node .leaf none (.node (.node .leaf (some (.int .i64 2)) .leaf) none .leaf)) none (.node .leaf (some (.slice (some ⟨1, 0, none⟩) m (unk + 3 + 1))) .leaf)))
def frQr2 (m : Nat) : T Value := (.node (.node (.node .leaf none (.node (.node .leaf (some (.slice (some ⟨2, 0, none⟩) 2 2)) .leaf) none .leaf)) none (.node .leaf (some (.map (some 0))) (.node (.node .leaf (some (.int .i64 2)) .leaf) none .leaf))) none (.node (.node .leaf none (.node (.node .leaf (some (.int .i64 2)) .leaf) none .leaf)) none (.node .leaf (some (.slice (some ⟨1, 0, none⟩) m (unk + 3 + 1))) .leaf)))
def hR (e : EntsI) (c : Nat) (tm l1 l2 : List Value) (n1 n2 : Nat) : AH := ⟨(.node (.node (.node .leaf (some (.gro l1 [] 3)) .leaf) (some (.gro tm [] 3)) .leaf) (some (.map e c)) (.node (.node .leaf (some (.gro l2 [] 3)) .leaf) (some (.cells [.slice (some ⟨3, 0, none⟩) n1 (unk + 3 + 1), .slice (some ⟨4, 0, none⟩) n2 (unk + 3 + 1)] 41)) .leaf)), 5⟩
def hRx (e : EntsI) (c : Nat) (tm l1 l2 : List Value) (n1 n2 : Nat) : AH := ⟨(.node (.node (.node .leaf (some (.gro l2 [] 3)) .leaf) (some (.gro tm [] 3)) .leaf) (some (.map e c)) (.node (.node .leaf (some (.gro l1 [] 3)) .leaf) (some (.cells [.slice (some ⟨4, 0, none⟩) n1 (unk + 3 + 1), .slice (some ⟨3, 0, none⟩) n2 (unk + 3 + 1)] 41)) .leaf)), 5⟩
def jR0 (K : KV) (again : KF) (tA : T AObj) (e : EntsI) (c : Nat) (tm l1 l2 : List Value) (n1 n2 m : Nat) : Prop := sxStepZ XR1 1 (Func.ntmps Proofs.Tryz.f55) ⟨tA, 0⟩ (bodyOf Proofs.Tryz.f55) [1, 1, 1, 0, 1, 0] (kFinR K) nsR [] [] [5, 6, 19, 20, 21] again (frQr0 m) (hR e c tm l1 l2 n1 n2)
def jR1 (K : KV) (again : KF) (tA : T AObj) (e : EntsI) (c : Nat) (tm l1 l2 : List Value) (n1 n2 m : Nat) : Prop := sxStepZ XR1 1 (Func.ntmps Proofs.Tryz.f55) ⟨tA, 0⟩ (bodyOf Proofs.Tryz.f55) [1, 1, 1, 0, 1, 0] (kFinR K) nsR [] [] [5, 6, 19, 20, 21] again (frQr1 m) (hR e c tm l1 l2 n1 n2)
def jR2 (K : KV) (again : KF) (tA : T AObj) (e : EntsI) (c : Nat) (tm l1 l2 : List Value) (n1 n2 m : Nat) : Prop := sxStepZ XR1 1 (Func.ntmps Proofs.Tryz.f55) ⟨tA, 0⟩ (bodyOf Proofs.Tryz.f55) [1, 1, 1, 0, 1, 0] (kFinR K) nsR [] [] [5, 6, 19, 20, 21] again (frQr2 m) (hR e c tm l1 l2 n1 n2)
def frQs0 (m n : Nat) (j : Nat) : T Value := (.node (.node (.node (.node .leaf (some (.int .i64 0)) .leaf) none (.node (.node .leaf (some (.slice (some ⟨2, 0, none⟩) 2 2)) .leaf) none (.node .leaf (some (.int .i64 n)) .leaf))) none (.node .leaf (some (.map (some 0))) (.node (.node .leaf (some (.int .i64 0)) .leaf) none .leaf))) none (.node (.node .leaf none (.node (.node .leaf (some (.int .i64 2)) .leaf) none (.node .leaf (some (.int .i64 j)) .leaf))) none (.node (.node .leaf none (.node .leaf (some (.slice (some ⟨3, 0, none⟩) n (unk + 3 + 1))) .leaf)) (some (.slice (some ⟨1, 0, none⟩) m (unk + 3 + 1))) .leaf)))
def frQw0 (m n : Nat) (j : Nat) (t : Int) (k : Nat) : T Value := (.node (.node (.node (.node .leaf (some (.int .i64 0)) .leaf) none (.node (.node .leaf (some (.slice (some ⟨2, 0, none⟩) 2 2)) .leaf) (some (.int .i64 k)) (.node .leaf (some (.int .i64 n)) .leaf))) none (.node .leaf (some (.map (some 0))) (.node (.node .leaf (some (.int .i64 0)) .leaf) none .leaf))) none (.node (.node .leaf none (.node (.node .leaf (some (.int .i64 2)) .leaf) none (.node .leaf (some (.int .i64 j)) .leaf))) none (.node (.node .leaf (some (.int .i64 t)) (.node .leaf (some (.slice (some ⟨3, 0, none⟩) n (unk + 3 + 1))) .leaf)) (some (.slice (some ⟨1, 0, none⟩) m (unk + 3 + 1))) .leaf)))
def jS0 (K : KV) (again0 again : KF) (tA : T AObj) (e : EntsI) (c : Nat) (tm l1 l2 : List Value) (n1 n2 m : Nat) (j : Nat) : Prop := sxStepZ XR1 1 (Func.ntmps Proofs.Tryz.f55) ⟨tA, 0⟩ cR [1, 1, 0, 0, 1, 1, 0] (kR tA K again0) nsR [] [] [5, 6, 7, 19, 20, 21, 26, 27, 28] again (frQs0 m n1 j) (hR e c tm l1 l2 n1 n2)
def jW0 (K : KV) (again0 again1 again : KF) (tA : T AObj) (e : EntsI) (c : Nat) (tm l1 l2 : List Value) (n1 n2 m : Nat) (j : Nat) (t : Int) (k : Nat) : Prop := sxStepZ XR1 1 (Func.ntmps Proofs.Tryz.f55) ⟨tA, 0⟩ cR7 [1, 1, 0, 0, 1, 1, 0, 0] (kR7 tA K again0 again1) nsR [] [] [5, 6, 7, 10, 11, 19, 20, 21, 26, 27, 28] again (frQw0 m n1 j t k) (hR e c tm l1 l2 n1 n2)
def frQs1 (m n : Nat) (j : Nat) : T Value := (.node (.node (.node (.node .leaf (some (.int .i64 1)) .leaf) none (.node (.node .leaf (some (.slice (some ⟨2, 0, none⟩) 2 2)) .leaf) none (.node .leaf (some (.int .i64 n)) .leaf))) none (.node .leaf (some (.map (some 0))) (.node (.node .leaf (some (.int .i64 1)) .leaf) none .leaf))) none (.node (.node .leaf none (.node (.node .leaf (some (.int .i64 2)) .leaf) none (.node .leaf (some (.int .i64 j)) .leaf))) none (.node (.node .leaf none (.node .leaf (some (.slice (some ⟨3, 0, none⟩) n (unk + 3 + 1))) .leaf)) (some (.slice (some ⟨1, 0, none⟩) m (unk + 3 + 1))) .leaf)))
def frQw1 (m n : Nat) (j : Nat) (t : Int) (k : Nat) : T Value := (.node (.node (.node (.node .leaf (some (.int .i64 1)) .leaf) none (.node (.node .leaf (some (.slice (some ⟨2, 0, none⟩) 2 2)) .leaf) (some (.int .i64 k)) (.node .leaf (some (.int .i64 n)) .leaf))) none (.node .leaf (some (.map (some 0))) (.node (.node .leaf (some (.int .i64 1)) .leaf) none .leaf))) none (.node (.node .leaf none (.node (.node .leaf (some (.int .i64 2)) .leaf) none (.node .leaf (some (.int .i64 j)) .leaf))) none (.node (.node .leaf (some (.int .i64 t)) (.node .leaf (some (.slice (some ⟨3, 0, none⟩) n (unk + 3 + 1))) .leaf)) (some (.slice (some ⟨1, 0, none⟩) m (unk + 3 + 1))) .leaf)))
def jS1 (K : KV) (again0 again : KF) (tA : T AObj) (e : EntsI) (c : Nat) (tm l1 l2 : List Value) (n1 n2 m : Nat) (j : Nat) : Prop := sxStepZ XR1 1 (Func.ntmps Proofs.Tryz.f55) ⟨tA, 0⟩ cR [1, 1, 0, 0, 1, 1, 0] (kR tA K again0) nsR [] [] [5, 6, 7, 19, 20, 21, 26, 27, 28] again (frQs1 m n2 j) (hRx e c tm l1 l2 n1 n2)
def jW1 (K : KV) (again0 again1 again : KF) (tA : T AObj) (e : EntsI) (c : Nat) (tm l1 l2 : List Value) (n1 n2 m : Nat) (j : Nat) (t : Int) (k : Nat) : Prop := sxStepZ XR1 1 (Func.ntmps Proofs.Tryz.f55) ⟨tA, 0⟩ cR7 [1, 1, 0, 0, 1, 1, 0, 0] (kR7 tA K again0 again1) nsR [] [] [5, 6, 7, 10, 11, 19, 20, 21, 26, 27, 28] again (frQw1 m n2 j t k) (hRx e c tm l1 l2 n1 n2)
def frQf (m2 m : Nat) (z : Int) (i : Nat) : T Value := (.node (.node (.node .leaf none (.node (.node .leaf none (.node (.node .leaf (some (.int .i64 m)) .leaf) none .leaf)) none .leaf)) none (.node .leaf (some (.map (some 0))) (.node .leaf (some (.int .i64 z)) .leaf))) none (.node (.node .leaf none (.node (.node .leaf none (.node (.node .leaf (some (.int .i64 i)) .leaf) none .leaf)) (some (.slice (some ⟨1, 0, none⟩) m2 (unk + 3 + 2))) .leaf)) none (.node (.node (.node .leaf none (.node (.node .leaf (some (.slice (some ⟨2, 0, none⟩) m (unk + 3 + 1))) .leaf) none .leaf)) none .leaf) none .leaf)))
def hF2 (e : EntsI) (c : Nat) (o tm : List Value) : AH := ⟨(.node (.node .leaf (some (.gro o [] 55)) .leaf) (some (.map e c)) (.node .leaf (some (.gro tm [] 3)) .leaf)), 3⟩
def jF2 (K : KV) (again : KF) (tA : T AObj) (e : EntsI) (c : Nat) (o tm : List Value) (m2 m : Nat) (z : Int) (i : Nat) : Prop := sxStepZ XR1 1 (Func.ntmps Proofs.Tryz.f55) ⟨tA, 0⟩ (bodyOf Proofs.Tryz.f55) [1, 1, 1, 1, 1, 1, 0, 1, 0] (kFinR K) [(.slot 12, 55, 2)] [] [] [5, 12, 13, 82, 83, 84] again (frQf m2 m z i) (hF2 e c o tm)
end
end Go.T9
set_option maxRecDepth 1000000
set_option linter.unusedVariables false
set_option linter.unusedSimpArgs false
namespace Go.T9
open Go Go.AM Go.MK
noncomputable section
theorem jCh_nf (K : KV) (srt : List Go.Value → List Go.Value) (us : List Go.Value) (ds : List Go.Value) (n1 : Nat) (n2 : Nat) : jCh K srt us ds n1 n2 = ((∃ (ks : List Int), us = List.map (Value.int .i64) ks ∧ n1 = List.length ks ∧ List.length ks < (4611686018427387904 : Nat)) ∧ (∃ (ks : List Int), ds = List.map (Value.int .i64) ks ∧ n2 = List.length ks ∧ List.length ks < (4611686018427387904 : Nat)) ∧ HF (Value.agg (Array.mk (srt (glue us [])))) ∧ HF (Value.agg (Array.mk (srt (glue ds [])))) ∧ HF (Value.agg (Array.mk [])) ∧ LAtZ (XC1 srt) (1 : Nat) (Go.Func.ntmps Go.Proofs.Tryz.f51) (AH.mk (AH.t (AH.mk (two (AObj.gro us [] (3 : Go.TypeId)) (AObj.gro ds [] (3 : Go.TypeId))) (2 : Nat))) (0 : Nat)) (bodyOf Go.Proofs.Tryz.f51) [(1 : Nat), (1 : Nat), (1 : Nat), (1 : Nat), (1 : Nat), (0 : Nat), (0 : Nat)] (finK (SX.E (XC1 srt)) (Array.toList (Go.Func.results Go.Proofs.Tryz.f51)) K) (T.node (T.node T.leaf (some (Value.slice (some (Go.Addr.mk (1 : Nat) (0 : Nat) none)) n2 (18446744073709551620 : Nat))) (T.node T.leaf (some (Value.slice (some (Go.Addr.mk (2 : Nat) (0 : Nat) none)) (0 : Nat) (18446744073709551621 : Nat))) T.leaf)) (some (Value.slice (some (Go.Addr.mk (0 : Nat) (0 : Nat) none)) n1 (18446744073709551620 : Nat))) (T.node T.leaf none (T.node T.leaf (some (Value.int .i64 (0 : Int))) T.leaf))) (AH.mk (T.node (T.node T.leaf (some (AObj.gro (srt (glue ds [])) [] (3 : Nat))) T.leaf) (some (AObj.gro (srt (glue us [])) [] (3 : Nat))) (T.node T.leaf (some (AObj.gro [] [] (55 : Nat))) T.leaf)) (3 : Nat))) := by kernel_rfl
theorem jCO_nf (K : KV) (again : KF) (srt : List Go.Value → List Go.Value) (tA : T AObj) (l1 : List Go.Value) (l2 : List Go.Value) (o : List Go.Value) (a : Nat) (n1 : Nat) (b : Nat) (n2 : Nat) (m : Nat) (z : Int) : jCO K again srt tA l1 l2 o a n1 b n2 m z = (Sp (decide ((0 : Int) < (↑n1 : Int))) (Sp (decide ((0 : Int) < (↑n1 : Int))) (((0 : Int) ≤ (0 : Int) ∧ (0 : Int) < (↑n1 : Int)) ∧ nth l1 (Int.toNat (↑((0 : Nat) + a) : Int)) = some (Value.int .i64 (intAt l1 (↑((0 : Nat) + a) : Int))) ∧ Sp (decide ((0 : Int) < (↑n2 : Int))) (((0 : Int) ≤ (0 : Int) ∧ (0 : Int) < (↑n2 : Int)) ∧ nth l2 (Int.toNat (↑((0 : Nat) + b) : Int)) = some (Value.int .i64 (intAt l2 (↑((0 : Nat) + b) : Int))) ∧ HF (Value.agg (Array.mk l1)) ∧ HF (Value.agg (Array.mk l2)) ∧ HF (Value.agg (Array.mk o)) ∧ LAtZ (XC1 srt) (1 : Nat) (Go.Func.ntmps Go.Proofs.Tryz.f51) (AH.mk tA (0 : Nat)) (loopBody (subC [(1 : Nat), (1 : Nat), (1 : Nat), (1 : Nat), (1 : Nat), (0 : Nat), (0 : Nat)] (bodyOf Go.Proofs.Tryz.f51))) [(1 : Nat), (0 : Nat), (1 : Nat), (1 : Nat), (1 : Nat), (1 : Nat), (0 : Nat), (0 : Nat)] (stepZ (XC1 srt) (1 : Nat) (Go.Func.ntmps Go.Proofs.Tryz.f51) (AH.mk tA (0 : Nat)) (bodyOf Go.Proofs.Tryz.f51) [(1 : Nat), (1 : Nat), (1 : Nat), (1 : Nat), (1 : Nat), (0 : Nat), (0 : Nat)] (kFinW srt K) nsC [] [] [(0 : Nat), (1 : Nat), (5 : Nat), (6 : Nat)] again) (T.node (T.node (T.node (T.node T.leaf (some (Value.int .i64 (Min.min (intAt l1 (↑((0 : Nat) + a) : Int)) (intAt l2 (↑((0 : Nat) + b) : Int))))) T.leaf) none T.leaf) (some (Value.slice (some (Go.Addr.mk (1 : Nat) b none)) n2 (18446744073709551620 : Nat))) (T.node T.leaf (some (Value.slice (some (Go.Addr.mk (2 : Nat) (0 : Nat) none)) m (18446744073709551621 : Nat))) T.leaf)) (some (Value.slice (some (Go.Addr.mk (0 : Nat) a none)) n1 (18446744073709551620 : Nat))) (T.node (T.node (T.node T.leaf (some (Value.int .i64 z)) T.leaf) none T.leaf) none (T.node T.leaf (some (Value.int .i64 z)) T.leaf))) (AH.mk (T.node (T.node T.leaf (some (AObj.gro l2 [] (3 : Nat))) T.leaf) (some (AObj.gro l1 [] (3 : Nat))) (T.node T.leaf (some (AObj.gro o [] (55 : Nat))) T.leaf)) (3 : Nat))) (HF (Value.agg (Array.mk l1)) ∧ HF (Value.agg (Array.mk l2)) ∧ HF (Value.agg (Array.mk o)) ∧ LAtZ (XC1 srt) (1 : Nat) (Go.Func.ntmps Go.Proofs.Tryz.f51) (AH.mk tA (0 : Nat)) (loopBody (subC [(1 : Nat), (1 : Nat), (1 : Nat), (1 : Nat), (1 : Nat), (0 : Nat), (0 : Nat)] (bodyOf Go.Proofs.Tryz.f51))) [(1 : Nat), (0 : Nat), (1 : Nat), (1 : Nat), (1 : Nat), (1 : Nat), (0 : Nat), (0 : Nat)] (stepZ (XC1 srt) (1 : Nat) (Go.Func.ntmps Go.Proofs.Tryz.f51) (AH.mk tA (0 : Nat)) (bodyOf Go.Proofs.Tryz.f51) [(1 : Nat), (1 : Nat), (1 : Nat), (1 : Nat), (1 : Nat), (0 : Nat), (0 : Nat)] (kFinW srt K) nsC [] [] [(0 : Nat), (1 : Nat), (5 : Nat), (6 : Nat)] again) (T.node (T.node (T.node (T.node T.leaf (some (Value.int .i64 (intAt l1 (↑((0 : Nat) + a) : Int)))) T.leaf) none T.leaf) (some (Value.slice (some (Go.Addr.mk (1 : Nat) b none)) n2 (18446744073709551620 : Nat))) (T.node T.leaf (some (Value.slice (some (Go.Addr.mk (2 : Nat) (0 : Nat) none)) m (18446744073709551621 : Nat))) T.leaf)) (some (Value.slice (some (Go.Addr.mk (0 : Nat) a none)) n1 (18446744073709551620 : Nat))) (T.node (T.node (T.node T.leaf (some (Value.int .i64 z)) T.leaf) none T.leaf) none (T.node T.leaf (some (Value.int .i64 z)) T.leaf))) (AH.mk (T.node (T.node T.leaf (some (AObj.gro l2 [] (3 : Nat))) T.leaf) (some (AObj.gro l1 [] (3 : Nat))) (T.node T.leaf (some (AObj.gro o [] (55 : Nat))) T.leaf)) (3 : Nat)))) (Sp (decide ((0 : Int) < (↑n2 : Int))) (((0 : Int) ≤ (0 : Int) ∧ (0 : Int) < (↑n2 : Int)) ∧ nth l2 (Int.toNat (↑((0 : Nat) + b) : Int)) = some (Value.int .i64 (intAt l2 (↑((0 : Nat) + b) : Int))) ∧ HF (Value.agg (Array.mk l1)) ∧ HF (Value.agg (Array.mk l2)) ∧ HF (Value.agg (Array.mk o)) ∧ LAtZ (XC1 srt) (1 : Nat) (Go.Func.ntmps Go.Proofs.Tryz.f51) (AH.mk tA (0 : Nat)) (loopBody (subC [(1 : Nat), (1 : Nat), (1 : Nat), (1 : Nat), (1 : Nat), (0 : Nat), (0 : Nat)] (bodyOf Go.Proofs.Tryz.f51))) [(1 : Nat), (0 : Nat), (1 : Nat), (1 : Nat), (1 : Nat), (1 : Nat), (0 : Nat), (0 : Nat)] (stepZ (XC1 srt) (1 : Nat) (Go.Func.ntmps Go.Proofs.Tryz.f51) (AH.mk tA (0 : Nat)) (bodyOf Go.Proofs.Tryz.f51) [(1 : Nat), (1 : Nat), (1 : Nat), (1 : Nat), (1 : Nat), (0 : Nat), (0 : Nat)] (kFinW srt K) nsC [] [] [(0 : Nat), (1 : Nat), (5 : Nat), (6 : Nat)] again) (T.node (T.node (T.node (T.node T.leaf (some (Value.int .i64 (Min.min (1000000000001 : Int) (intAt l2 (↑((0 : Nat) + b) : Int))))) T.leaf) none T.leaf) (some (Value.slice (some (Go.Addr.mk (1 : Nat) b none)) n2 (18446744073709551620 : Nat))) (T.node T.leaf (some (Value.slice (some (Go.Addr.mk (2 : Nat) (0 : Nat) none)) m (18446744073709551621 : Nat))) T.leaf)) (some (Value.slice (some (Go.Addr.mk (0 : Nat) a none)) n1 (18446744073709551620 : Nat))) (T.node (T.node (T.node T.leaf (some (Value.int .i64 z)) T.leaf) none T.leaf) none (T.node T.leaf (some (Value.int .i64 z)) T.leaf))) (AH.mk (T.node (T.node T.leaf (some (AObj.gro l2 [] (3 : Nat))) T.leaf) (some (AObj.gro l1 [] (3 : Nat))) (T.node T.leaf (some (AObj.gro o [] (55 : Nat))) T.leaf)) (3 : Nat))) (HF (Value.agg (Array.mk l1)) ∧ HF (Value.agg (Array.mk l2)) ∧ HF (Value.agg (Array.mk o)) ∧ LAtZ (XC1 srt) (1 : Nat) (Go.Func.ntmps Go.Proofs.Tryz.f51) (AH.mk tA (0 : Nat)) (loopBody (subC [(1 : Nat), (1 : Nat), (1 : Nat), (1 : Nat), (1 : Nat), (0 : Nat), (0 : Nat)] (bodyOf Go.Proofs.Tryz.f51))) [(1 : Nat), (0 : Nat), (1 : Nat), (1 : Nat), (1 : Nat), (1 : Nat), (0 : Nat), (0 : Nat)] (stepZ (XC1 srt) (1 : Nat) (Go.Func.ntmps Go.Proofs.Tryz.f51) (AH.mk tA (0 : Nat)) (bodyOf Go.Proofs.Tryz.f51) [(1 : Nat), (1 : Nat), (1 : Nat), (1 : Nat), (1 : Nat), (0 : Nat), (0 : Nat)] (kFinW srt K) nsC [] [] [(0 : Nat), (1 : Nat), (5 : Nat), (6 : Nat)] again) (T.node (T.node (T.node (T.node T.leaf (some (Value.int .i64 (1000000000001 : Int))) T.leaf) none T.leaf) (some (Value.slice (some (Go.Addr.mk (1 : Nat) b none)) n2 (18446744073709551620 : Nat))) (T.node T.leaf (some (Value.slice (some (Go.Addr.mk (2 : Nat) (0 : Nat) none)) m (18446744073709551621 : Nat))) T.leaf)) (some (Value.slice (some (Go.Addr.mk (0 : Nat) a none)) n1 (18446744073709551620 : Nat))) (T.node (T.node (T.node T.leaf (some (Value.int .i64 z)) T.leaf) none T.leaf) none (T.node T.leaf (some (Value.int .i64 z)) T.leaf))) (AH.mk (T.node (T.node T.leaf (some (AObj.gro l2 [] (3 : Nat))) T.leaf) (some (AObj.gro l1 [] (3 : Nat))) (T.node T.leaf (some (AObj.gro o [] (55 : Nat))) T.leaf)) (3 : Nat))))) (Sp (decide ((0 : Int) < (↑n2 : Int))) (Sp (decide ((0 : Int) < (↑n1 : Int))) (((0 : Int) ≤ (0 : Int) ∧ (0 : Int) < (↑n1 : Int)) ∧ nth l1 (Int.toNat (↑((0 : Nat) + a) : Int)) = some (Value.int .i64 (intAt l1 (↑((0 : Nat) + a) : Int))) ∧ Sp (decide ((0 : Int) < (↑n2 : Int))) (((0 : Int) ≤ (0 : Int) ∧ (0 : Int) < (↑n2 : Int)) ∧ nth l2 (Int.toNat (↑((0 : Nat) + b) : Int)) = some (Value.int .i64 (intAt l2 (↑((0 : Nat) + b) : Int))) ∧ HF (Value.agg (Array.mk l1)) ∧ HF (Value.agg (Array.mk l2)) ∧ HF (Value.agg (Array.mk o)) ∧ LAtZ (XC1 srt) (1 : Nat) (Go.Func.ntmps Go.Proofs.Tryz.f51) (AH.mk tA (0 : Nat)) (loopBody (subC [(1 : Nat), (1 : Nat), (1 : Nat), (1 : Nat), (1 : Nat), (0 : Nat), (0 : Nat)] (bodyOf Go.Proofs.Tryz.f51))) [(1 : Nat), (0 : Nat), (1 : Nat), (1 : Nat), (1 : Nat), (1 : Nat), (0 : Nat), (0 : Nat)] (stepZ (XC1 srt) (1 : Nat) (Go.Func.ntmps Go.Proofs.Tryz.f51) (AH.mk tA (0 : Nat)) (bodyOf Go.Proofs.Tryz.f51) [(1 : Nat), (1 : Nat), (1 : Nat), (1 : Nat), (1 : Nat), (0 : Nat), (0 : Nat)] (kFinW srt K) nsC [] [] [(0 : Nat), (1 : Nat), (5 : Nat), (6 : Nat)] again) (T.node (T.node (T.node (T.node T.leaf (some (Value.int .i64 (Min.min (intAt l1 (↑((0 : Nat) + a) : Int)) (intAt l2 (↑((0 : Nat) + b) : Int))))) T.leaf) none T.leaf) (some (Value.slice (some (Go.Addr.mk (1 : Nat) b none)) n2 (18446744073709551620 : Nat))) (T.node T.leaf (some (Value.slice (some (Go.Addr.mk (2 : Nat) (0 : Nat) none)) m (18446744073709551621 : Nat))) T.leaf)) (some (Value.slice (some (Go.Addr.mk (0 : Nat) a none)) n1 (18446744073709551620 : Nat))) (T.node (T.node (T.node T.leaf (some (Value.int .i64 z)) T.leaf) none T.leaf) none (T.node T.leaf (some (Value.int .i64 z)) T.leaf))) (AH.mk (T.node (T.node T.leaf (some (AObj.gro l2 [] (3 : Nat))) T.leaf) (some (AObj.gro l1 [] (3 : Nat))) (T.node T.leaf (some (AObj.gro o [] (55 : Nat))) T.leaf)) (3 : Nat))) (HF (Value.agg (Array.mk l1)) ∧ HF (Value.agg (Array.mk l2)) ∧ HF (Value.agg (Array.mk o)) ∧ LAtZ (XC1 srt) (1 : Nat) (Go.Func.ntmps Go.Proofs.Tryz.f51) (AH.mk tA (0 : Nat)) (loopBody (subC [(1 : Nat), (1 : Nat), (1 : Nat), (1 : Nat), (1 : Nat), (0 : Nat), (0 : Nat)] (bodyOf Go.Proofs.Tryz.f51))) [(1 : Nat), (0 : Nat), (1 : Nat), (1 : Nat), (1 : Nat), (1 : Nat), (0 : Nat), (0 : Nat)] (stepZ (XC1 srt) (1 : Nat) (Go.Func.ntmps Go.Proofs.Tryz.f51) (AH.mk tA (0 : Nat)) (bodyOf Go.Proofs.Tryz.f51) [(1 : Nat), (1 : Nat), (1 : Nat), (1 : Nat), (1 : Nat), (0 : Nat), (0 : Nat)] (kFinW srt K) nsC [] [] [(0 : Nat), (1 : Nat), (5 : Nat), (6 : Nat)] again) (T.node (T.node (T.node (T.node T.leaf (some (Value.int .i64 (intAt l1 (↑((0 : Nat) + a) : Int)))) T.leaf) none T.leaf) (some (Value.slice (some (Go.Addr.mk (1 : Nat) b none)) n2 (18446744073709551620 : Nat))) (T.node T.leaf (some (Value.slice (some (Go.Addr.mk (2 : Nat) (0 : Nat) none)) m (18446744073709551621 : Nat))) T.leaf)) (some (Value.slice (some (Go.Addr.mk (0 : Nat) a none)) n1 (18446744073709551620 : Nat))) (T.node (T.node (T.node T.leaf (some (Value.int .i64 z)) T.leaf) none T.leaf) none (T.node T.leaf (some (Value.int .i64 z)) T.leaf))) (AH.mk (T.node (T.node T.leaf (some (AObj.gro l2 [] (3 : Nat))) T.leaf) (some (AObj.gro l1 [] (3 : Nat))) (T.node T.leaf (some (AObj.gro o [] (55 : Nat))) T.leaf)) (3 : Nat)))) (Sp (decide ((0 : Int) < (↑n2 : Int))) (((0 : Int) ≤ (0 : Int) ∧ (0 : Int) < (↑n2 : Int)) ∧ nth l2 (Int.toNat (↑((0 : Nat) + b) : Int)) = some (Value.int .i64 (intAt l2 (↑((0 : Nat) + b) : Int))) ∧ HF (Value.agg (Array.mk l1)) ∧ HF (Value.agg (Array.mk l2)) ∧ HF (Value.agg (Array.mk o)) ∧ LAtZ (XC1 srt) (1 : Nat) (Go.Func.ntmps Go.Proofs.Tryz.f51) (AH.mk tA (0 : Nat)) (loopBody (subC [(1 : Nat), (1 : Nat), (1 : Nat), (1 : Nat), (1 : Nat), (0 : Nat), (0 : Nat)] (bodyOf Go.Proofs.Tryz.f51))) [(1 : Nat), (0 : Nat), (1 : Nat), (1 : Nat), (1 : Nat), (1 : Nat), (0 : Nat), (0 : Nat)] (stepZ (XC1 srt) (1 : Nat) (Go.Func.ntmps Go.Proofs.Tryz.f51) (AH.mk tA (0 : Nat)) (bodyOf Go.Proofs.Tryz.f51) [(1 : Nat), (1 : Nat), (1 : Nat), (1 : Nat), (1 : Nat), (0 : Nat), (0 : Nat)] (kFinW srt K) nsC [] [] [(0 : Nat), (1 : Nat), (5 : Nat), (6 : Nat)] again) (T.node (T.node (T.node (T.node T.leaf (some (Value.int .i64 (Min.min (1000000000001 : Int) (intAt l2 (↑((0 : Nat) + b) : Int))))) T.leaf) none T.leaf) (some (Value.slice (some (Go.Addr.mk (1 : Nat) b none)) n2 (18446744073709551620 : Nat))) (T.node T.leaf (some (Value.slice (some (Go.Addr.mk (2 : Nat) (0 : Nat) none)) m (18446744073709551621 : Nat))) T.leaf)) (some (Value.slice (some (Go.Addr.mk (0 : Nat) a none)) n1 (18446744073709551620 : Nat))) (T.node (T.node (T.node T.leaf (some (Value.int .i64 z)) T.leaf) none T.leaf) none (T.node T.leaf (some (Value.int .i64 z)) T.leaf))) (AH.mk (T.node (T.node T.leaf (some (AObj.gro l2 [] (3 : Nat))) T.leaf) (some (AObj.gro l1 [] (3 : Nat))) (T.node T.leaf (some (AObj.gro o [] (55 : Nat))) T.leaf)) (3 : Nat))) (HF (Value.agg (Array.mk l1)) ∧ HF (Value.agg (Array.mk l2)) ∧ HF (Value.agg (Array.mk o)) ∧ LAtZ (XC1 srt) (1 : Nat) (Go.Func.ntmps Go.Proofs.Tryz.f51) (AH.mk tA (0 : Nat)) (loopBody (subC [(1 : Nat), (1 : Nat), (1 : Nat), (1 : Nat), (1 : Nat), (0 : Nat), (0 : Nat)] (bodyOf Go.Proofs.Tryz.f51))) [(1 : Nat), (0 : Nat), (1 : Nat), (1 : Nat), (1 : Nat), (1 : Nat), (0 : Nat), (0 : Nat)] (stepZ (XC1 srt) (1 : Nat) (Go.Func.ntmps Go.Proofs.Tryz.f51) (AH.mk tA (0 : Nat)) (bodyOf Go.Proofs.Tryz.f51) [(1 : Nat), (1 : Nat), (1 : Nat), (1 : Nat), (1 : Nat), (0 : Nat), (0 : Nat)] (kFinW srt K) nsC [] [] [(0 : Nat), (1 : Nat), (5 : Nat), (6 : Nat)] again) (T.node (T.node (T.node (T.node T.leaf (some (Value.int .i64 (1000000000001 : Int))) T.leaf) none T.leaf) (some (Value.slice (some (Go.Addr.mk (1 : Nat) b none)) n2 (18446744073709551620 : Nat))) (T.node T.leaf (some (Value.slice (some (Go.Addr.mk (2 : Nat) (0 : Nat) none)) m (18446744073709551621 : Nat))) T.leaf)) (some (Value.slice (some (Go.Addr.mk (0 : Nat) a none)) n1 (18446744073709551620 : Nat))) (T.node (T.node (T.node T.leaf (some (Value.int .i64 z)) T.leaf) none T.leaf) none (T.node T.leaf (some (Value.int .i64 z)) T.leaf))) (AH.mk (T.node (T.node T.leaf (some (AObj.gro l2 [] (3 : Nat))) T.leaf) (some (AObj.gro l1 [] (3 : Nat))) (T.node T.leaf (some (AObj.gro o [] (55 : Nat))) T.leaf)) (3 : Nat))))) (((0 : Int) ≤ (↑m : Int) ∧ (↑m : Int) ≤ (↑m : Int) ∧ (↑m : Int) ≤ (↑m : Int)) ∧ K (Value.slice (some (Go.Addr.mk (2 : Nat) (0 : Nat) none)) (Int.toNat (↑m : Int)) (18446744073709551621 : Nat)) (AH.mk (T.node (T.node T.leaf (some (AObj.gro l2 [] (3 : Nat))) T.leaf) (some (AObj.gro l1 [] (3 : Nat))) (T.node T.leaf (some (AObj.gro o [] (55 : Nat))) T.leaf)) (3 : Nat))))) := by kernel_rfl
theorem jCU_nf (K : KV) (again : KF) (again0 : KF) (srt : List Go.Value → List Go.Value) (tA : T AObj) (l1 : List Go.Value) (l2 : List Go.Value) (o : List Go.Value) (a : Nat) (n1 : Nat) (b : Nat) (n2 : Nat) (m : Nat) (z : Int) (t : Int) (last : Int) : jCU K again again0 srt tA l1 l2 o a n1 b n2 m z t last = (Sp (decide ((0 : Int) < (↑n1 : Int))) (((0 : Int) ≤ (0 : Int) ∧ (0 : Int) < (↑n1 : Int)) ∧ nth l1 (Int.toNat (↑((0 : Nat) + a) : Int)) = some (Value.int .i64 (intAt l1 (↑((0 : Nat) + a) : Int))) ∧ Sp (decide (intAt l1 (↑((0 : Nat) + a) : Int) = t)) (((0 : Int) ≤ (1 : Int) ∧ (1 : Int) ≤ (↑n1 : Int)) ∧ HF (Value.agg (Array.mk l1)) ∧ HF (Value.agg (Array.mk l2)) ∧ HF (Value.agg (Array.mk o)) ∧ again (T.node (T.node (T.node (T.node T.leaf (some (Value.int .i64 t)) T.leaf) none T.leaf) (some (Value.slice (some (Go.Addr.mk (1 : Nat) b none)) n2 (18446744073709551620 : Nat))) (T.node T.leaf (some (Value.slice (some (Go.Addr.mk (2 : Nat) (0 : Nat) none)) m (18446744073709551621 : Nat))) T.leaf)) (some (Value.slice (some (Go.Addr.mk (0 : Nat) ((1 : Nat) + a) none)) (n1 - (1 : Nat)) (18446744073709551620 : Nat))) (T.node (T.node (T.node T.leaf (some (Value.int .i64 last)) T.leaf) none T.leaf) none (T.node T.leaf (some (Value.int .i64 (IntKind.wrap .i64 (z + (1 : Int))))) T.leaf))) (AH.mk (T.node (T.node T.leaf (some (AObj.gro l2 [] (3 : Nat))) T.leaf) (some (AObj.gro l1 [] (3 : Nat))) (T.node T.leaf (some (AObj.gro o [] (55 : Nat))) T.leaf)) (3 : Nat))) (HF (Value.agg (Array.mk l1)) ∧ HF (Value.agg (Array.mk l2)) ∧ HF (Value.agg (Array.mk o)) ∧ LAtZ (XC1 srt) (1 : Nat) (Go.Func.ntmps Go.Proofs.Tryz.f51) (AH.mk tA (0 : Nat)) cU [(1 : Nat), (0 : Nat), (1 : Nat), (1 : Nat), (1 : Nat), (1 : Nat), (1 : Nat), (0 : Nat), (0 : Nat)] (kU srt tA K again0) (T.node (T.node (T.node (T.node T.leaf (some (Value.int .i64 t)) T.leaf) none T.leaf) (some (Value.slice (some (Go.Addr.mk (1 : Nat) b none)) n2 (18446744073709551620 : Nat))) (T.node T.leaf (some (Value.slice (some (Go.Addr.mk (2 : Nat) (0 : Nat) none)) m (18446744073709551621 : Nat))) T.leaf)) (some (Value.slice (some (Go.Addr.mk (0 : Nat) a none)) n1 (18446744073709551620 : Nat))) (T.node (T.node (T.node T.leaf (some (Value.int .i64 last)) T.leaf) none T.leaf) none (T.node T.leaf (some (Value.int .i64 z)) T.leaf))) (AH.mk (T.node (T.node T.leaf (some (AObj.gro l2 [] (3 : Nat))) T.leaf) (some (AObj.gro l1 [] (3 : Nat))) (T.node T.leaf (some (AObj.gro o [] (55 : Nat))) T.leaf)) (3 : Nat)))) (HF (Value.agg (Array.mk l1)) ∧ HF (Value.agg (Array.mk l2)) ∧ HF (Value.agg (Array.mk o)) ∧ LAtZ (XC1 srt) (1 : Nat) (Go.Func.ntmps Go.Proofs.Tryz.f51) (AH.mk tA (0 : Nat)) cU [(1 : Nat), (0 : Nat), (1 : Nat), (1 : Nat), (1 : Nat), (1 : Nat), (1 : Nat), (0 : Nat), (0 : Nat)] (kU srt tA K again0) (T.node (T.node (T.node (T.node T.leaf (some (Value.int .i64 t)) T.leaf) none T.leaf) (some (Value.slice (some (Go.Addr.mk (1 : Nat) b none)) n2 (18446744073709551620 : Nat))) (T.node T.leaf (some (Value.slice (some (Go.Addr.mk (2 : Nat) (0 : Nat) none)) m (18446744073709551621 : Nat))) T.leaf)) (some (Value.slice (some (Go.Addr.mk (0 : Nat) a none)) n1 (18446744073709551620 : Nat))) (T.node (T.node (T.node T.leaf (some (Value.int .i64 last)) T.leaf) none T.leaf) none (T.node T.leaf (some (Value.int .i64 z)) T.leaf))) (AH.mk (T.node (T.node T.leaf (some (AObj.gro l2 [] (3 : Nat))) T.leaf) (some (AObj.gro l1 [] (3 : Nat))) (T.node T.leaf (some (AObj.gro o [] (55 : Nat))) T.leaf)) (3 : Nat)))) := by kernel_rfl
theorem jCD_nf (K : KV) (again : KF) (again0 : KF) (srt : List Go.Value → List Go.Value) (tA : T AObj) (l1 : List Go.Value) (l2 : List Go.Value) (o : List Go.Value) (a : Nat) (n1 : Nat) (b : Nat) (n2 : Nat) (m : Nat) (z : Int) (t : Int) (last : Int) : jCD K again again0 srt tA l1 l2 o a n1 b n2 m z t last = (Sp (decide ((0 : Int) < (↑n2 : Int))) (((0 : Int) ≤ (0 : Int) ∧ (0 : Int) < (↑n2 : Int)) ∧ nth l2 (Int.toNat (↑((0 : Nat) + b) : Int)) = some (Value.int .i64 (intAt l2 (↑((0 : Nat) + b) : Int))) ∧ Sp (decide (intAt l2 (↑((0 : Nat) + b) : Int) = t)) (((0 : Int) ≤ (1 : Int) ∧ (1 : Int) ≤ (↑n2 : Int)) ∧ HF (Value.agg (Array.mk l1)) ∧ HF (Value.agg (Array.mk l2)) ∧ HF (Value.agg (Array.mk o)) ∧ again (T.node (T.node (T.node (T.node T.leaf (some (Value.int .i64 t)) T.leaf) none T.leaf) (some (Value.slice (some (Go.Addr.mk (1 : Nat) ((1 : Nat) + b) none)) (n2 - (1 : Nat)) (18446744073709551620 : Nat))) (T.node T.leaf (some (Value.slice (some (Go.Addr.mk (2 : Nat) (0 : Nat) none)) m (18446744073709551621 : Nat))) T.leaf)) (some (Value.slice (some (Go.Addr.mk (0 : Nat) a none)) n1 (18446744073709551620 : Nat))) (T.node (T.node (T.node T.leaf (some (Value.int .i64 last)) T.leaf) none T.leaf) none (T.node T.leaf (some (Value.int .i64 (IntKind.wrap .i64 (z - (1 : Int))))) T.leaf))) (AH.mk (T.node (T.node T.leaf (some (AObj.gro l2 [] (3 : Nat))) T.leaf) (some (AObj.gro l1 [] (3 : Nat))) (T.node T.leaf (some (AObj.gro o [] (55 : Nat))) T.leaf)) (3 : Nat))) (Sp (!decide (z = last)) ((List.all [Value.int .i64 t, Value.int .i64 z] cellv = Bool.true ∧ m + (0 : Nat) = List.length o ∧ m + (1 : Nat) ≤ (70368744177664 : Nat) ∧ (m + (1 : Nat)) * (16 : Nat) ≤ (140737488355328 : Nat)) ∧ HF (Value.agg (Array.mk l1)) ∧ HF (Value.agg (Array.mk l2)) ∧ HF (Value.agg (Array.mk (o ++ [Value.agg (Array.mk [Value.int .i64 t, Value.int .i64 z])]))) ∧ again0 (T.node (T.node T.leaf (some (Value.slice (some (Go.Addr.mk (1 : Nat) b none)) n2 (18446744073709551620 : Nat))) (T.node T.leaf (some (Value.slice (some (Go.Addr.mk (2 : Nat) (0 : Nat) none)) (m + (1 : Nat)) (18446744073709551621 : Nat))) T.leaf)) (some (Value.slice (some (Go.Addr.mk (0 : Nat) a none)) n1 (18446744073709551620 : Nat))) (T.node T.leaf none (T.node T.leaf (some (Value.int .i64 z)) T.leaf))) (AH.mk (T.node (T.node T.leaf (some (AObj.gro l2 [] (3 : Nat))) T.leaf) (some (AObj.gro l1 [] (3 : Nat))) (T.node T.leaf (some (AObj.gro (o ++ [Value.agg (Array.mk [Value.int .i64 t, Value.int .i64 z])]) [] (55 : Nat))) T.leaf)) (3 : Nat))) (HF (Value.agg (Array.mk l1)) ∧ HF (Value.agg (Array.mk l2)) ∧ HF (Value.agg (Array.mk o)) ∧ again0 (T.node (T.node T.leaf (some (Value.slice (some (Go.Addr.mk (1 : Nat) b none)) n2 (18446744073709551620 : Nat))) (T.node T.leaf (some (Value.slice (some (Go.Addr.mk (2 : Nat) (0 : Nat) none)) m (18446744073709551621 : Nat))) T.leaf)) (some (Value.slice (some (Go.Addr.mk (0 : Nat) a none)) n1 (18446744073709551620 : Nat))) (T.node T.leaf none (T.node T.leaf (some (Value.int .i64 z)) T.leaf))) (AH.mk (T.node (T.node T.leaf (some (AObj.gro l2 [] (3 : Nat))) T.leaf) (some (AObj.gro l1 [] (3 : Nat))) (T.node T.leaf (some (AObj.gro o [] (55 : Nat))) T.leaf)) (3 : Nat))))) (Sp (!decide (z = last)) ((List.all [Value.int .i64 t, Value.int .i64 z] cellv = Bool.true ∧ m + (0 : Nat) = List.length o ∧ m + (1 : Nat) ≤ (70368744177664 : Nat) ∧ (m + (1 : Nat)) * (16 : Nat) ≤ (140737488355328 : Nat)) ∧ HF (Value.agg (Array.mk l1)) ∧ HF (Value.agg (Array.mk l2)) ∧ HF (Value.agg (Array.mk (o ++ [Value.agg (Array.mk [Value.int .i64 t, Value.int .i64 z])]))) ∧ again0 (T.node (T.node T.leaf (some (Value.slice (some (Go.Addr.mk (1 : Nat) b none)) n2 (18446744073709551620 : Nat))) (T.node T.leaf (some (Value.slice (some (Go.Addr.mk (2 : Nat) (0 : Nat) none)) (m + (1 : Nat)) (18446744073709551621 : Nat))) T.leaf)) (some (Value.slice (some (Go.Addr.mk (0 : Nat) a none)) n1 (18446744073709551620 : Nat))) (T.node T.leaf none (T.node T.leaf (some (Value.int .i64 z)) T.leaf))) (AH.mk (T.node (T.node T.leaf (some (AObj.gro l2 [] (3 : Nat))) T.leaf) (some (AObj.gro l1 [] (3 : Nat))) (T.node T.leaf (some (AObj.gro (o ++ [Value.agg (Array.mk [Value.int .i64 t, Value.int .i64 z])]) [] (55 : Nat))) T.leaf)) (3 : Nat))) (HF (Value.agg (Array.mk l1)) ∧ HF (Value.agg (Array.mk l2)) ∧ HF (Value.agg (Array.mk o)) ∧ again0 (T.node (T.node T.leaf (some (Value.slice (some (Go.Addr.mk (1 : Nat) b none)) n2 (18446744073709551620 : Nat))) (T.node T.leaf (some (Value.slice (some (Go.Addr.mk (2 : Nat) (0 : Nat) none)) m (18446744073709551621 : Nat))) T.leaf)) (some (Value.slice (some (Go.Addr.mk (0 : Nat) a none)) n1 (18446744073709551620 : Nat))) (T.node T.leaf none (T.node T.leaf (some (Value.int .i64 z)) T.leaf))) (AH.mk (T.node (T.node T.leaf (some (AObj.gro l2 [] (3 : Nat))) T.leaf) (some (AObj.gro l1 [] (3 : Nat))) (T.node T.leaf (some (AObj.gro o [] (55 : Nat))) T.leaf)) (3 : Nat))))) := by kernel_rfl
theorem HF_is (l : List Int) : HF (.agg ⟨l.map (Value.int .i64)⟩) := .agg fun x hx => by
  obtain ⟨y, _, rfl⟩ := List.mem_map.1 hx
  exact HFi _ _
theorem HF_chL (l : List Ch) : HF (.agg ⟨l.map cv⟩) := .agg fun x hx => by
  obtain ⟨y, _, rfl⟩ := List.mem_map.1 hx
  exact HF_cv y
theorem in_a0 {l : List Int} {a : Nat} (h : a < l.length) : intAt (l.map (Value.int .i64)) ((0 + a : Nat) : Int) = l[a] := by
  simp only [Nat.zero_add]; exact in_at h
theorem in_c0 {l : List Int} {a : Nat} (h : a < l.length) : nth (l.map (Value.int .i64)) (Int.toNat ((0 + a : Nat) : Int)) = some (.int .i64 (intAt (l.map (Value.int .i64)) ((0 + a : Nat) : Int))) := by
  rw [in_a0 h, Int.toNat_natCast, Nat.zero_add, in_nth h]
theorem ch_snoc (o : List Ch) (t z : Int) : o.map cv ++ [Value.agg ⟨[.int .i64 t, .int .i64 z]⟩] = (o ++ [(⟨t, z⟩ : Ch)]).map cv := by simp [cv]
theorem CU_loop {srt : List Value → List Value} (hX : (XC1 srt).Ok) {K : KV} {again0 : KF} {tA : T AObj} (S1 S2 : List Int) (o : List Ch) {a0 b n2 m : Nat} {z t last : Int} (ha : a0 ≤ S1.length) (hl : S1.length ≤ 20000) (hz : -100000 ≤ z ∧ z ≤ 100000)
    (h : ∀ a, a0 ≤ a → a ≤ S1.length → S1.drop a0 = List.replicate (a - a0) t ++ S1.drop a → (∀ h : a < S1.length, S1[a] ≠ t) → LAtZ (XC1 srt) 1 (Func.ntmps Proofs.Tryz.f51) ⟨tA, 0⟩ cU [1, 0, 1, 1, 1, 1, 1, 0, 0] (kU srt tA K again0) (frQu a (S1.length - a) b n2 m (z + ((a - a0 : Nat) : Int)) t last) (hGc (S1.map (Value.int .i64)) (S2.map (Value.int .i64)) (o.map cv))) :
    LAtZ (XC1 srt) 1 (Func.ntmps Proofs.Tryz.f51) ⟨tA, 0⟩ cU [1, 0, 1, 1, 1, 1, 0, 0] (kU srt tA K again0) (frQu a0 (S1.length - a0) b n2 m z t last) (hGc (S1.map (Value.int .i64)) (S2.map (Value.int .i64)) (o.map cv)) := by
  refine LAtZ.step hX rfl nsC [] [] [0, 1, 5, 6, 7, 8] (by kernel_rfl) (fun k F A => ∃ a : Nat, F = frQu a (S1.length - a) b n2 m (z + ((a - a0 : Nat) : Int)) t last ∧ A = hGc (S1.map (Value.int .i64)) (S2.map (Value.int .i64)) (o.map cv) ∧ a0 ≤ a ∧ a + k = S1.length ∧ S1.drop a0 = List.replicate (a - a0) t ++ S1.drop a) ?_ (k := S1.length - a0) ⟨a0, by simp, rfl, Nat.le_refl _, by omega, by simp⟩
  rintro k F A ⟨a, rfl, rfl, h1, h2, h3⟩
  refine (jCU_nf K _ again0 srt tA _ _ _ a _ b n2 m _ t last).mpr ?_
  refine Sp.intro (fun hc => ?_) (fun hc => ⟨HF_is S1, HF_is S2, HF_chL o, h a h1 (by omega) h3 (fun hh => by simp at hc; omega)⟩)
  have hlt : a < S1.length := by simp at hc; omega
  have ea := in_a0 hlt
  refine ⟨⟨by omega, by omega⟩, in_c0 hlt, Sp.intro (fun he => ?_) (fun he => ⟨HF_is S1, HF_is S2, HF_chL o, h a h1 (by omega) h3 (fun hh e => by rw [ea] at he; simp [e] at he)⟩)⟩
  rw [ea] at he
  have he := of_decide_eq_true he
  refine ⟨⟨by omega, by omega⟩, HF_is S1, HF_is S2, HF_chL o, k - 1, by omega, a + 1, ?_, rfl, by omega, by omega, ?_⟩
  · rw [i64_in (by omega) (by omega)]
    show frQu (1 + a) (S1.length - a - 1) b n2 m (z + ((a - a0 : Nat) : Int) + 1) t last = _
    rw [show 1 + a = a + 1 by omega, show S1.length - a - 1 = S1.length - (a + 1) by omega, show z + ((a - a0 : Nat) : Int) + 1 = z + ((a + 1 - a0 : Nat) : Int) by omega]
  · rw [h3, List.drop_eq_getElem_cons hlt, he, show a + 1 - a0 = (a - a0) + 1 by omega, List.replicate_succ', List.append_assoc]
    rfl
theorem CD_loop {srt : List Value → List Value} (hX : (XC1 srt).Ok) {K : KV} {again0 : KF} {tA : T AObj} (S1 S2 : List Int) (o : List Ch) {b0 a n1 : Nat} {z t last : Int} (hb : b0 ≤ S2.length) (hl : S2.length ≤ 20000) (hz : -100000 ≤ z ∧ z ≤ 100000) (ho : o.length ≤ 100000)
    (h : ∀ b, b0 ≤ b → b ≤ S2.length → S2.drop b0 = List.replicate (b - b0) t ++ S2.drop b → (∀ h : b < S2.length, S2[b] ≠ t) →
      (z - ((b - b0 : Nat) : Int) ≠ last → again0 (frQc a n1 b (S2.length - b) (o ++ [(⟨t, z - ((b - b0 : Nat) : Int)⟩ : Ch)]).length (z - ((b - b0 : Nat) : Int))) (hGc (S1.map (Value.int .i64)) (S2.map (Value.int .i64)) ((o ++ [(⟨t, z - ((b - b0 : Nat) : Int)⟩ : Ch)]).map cv))) ∧
      (z - ((b - b0 : Nat) : Int) = last → again0 (frQc a n1 b (S2.length - b) o.length (z - ((b - b0 : Nat) : Int))) (hGc (S1.map (Value.int .i64)) (S2.map (Value.int .i64)) (o.map cv)))) :
    LAtZ (XC1 srt) 1 (Func.ntmps Proofs.Tryz.f51) ⟨tA, 0⟩ cU [1, 0, 1, 1, 1, 1, 1, 0, 0] (kU srt tA K again0) (frQu a n1 b0 (S2.length - b0) o.length z t last) (hGc (S1.map (Value.int .i64)) (S2.map (Value.int .i64)) (o.map cv)) := by
  refine LAtZ.step hX rfl nsC [] [] [0, 1, 5, 6, 7, 8] (by kernel_rfl) (fun k F A => ∃ b : Nat, F = frQu a n1 b (S2.length - b) o.length (z - ((b - b0 : Nat) : Int)) t last ∧ A = hGc (S1.map (Value.int .i64)) (S2.map (Value.int .i64)) (o.map cv) ∧ b0 ≤ b ∧ b + k = S2.length ∧ S2.drop b0 = List.replicate (b - b0) t ++ S2.drop b) ?_ (k := S2.length - b0) ⟨b0, by simp, rfl, Nat.le_refl _, by omega, by simp⟩
  rintro k F A ⟨b, rfl, rfl, h1, h2, h3⟩
  refine (jCD_nf K _ again0 srt tA _ _ _ a n1 b _ _ _ t last).mpr ?_
  refine Sp.intro (fun hc => ?_) (fun hc => ?_)
  rotate_left
  · have hne : ∀ h : b < S2.length, S2[b] ≠ t := fun hh => by simp at hc; omega
    exact Sp.intro (fun hc => ⟨⟨rfl, by simp, by omega, by omega⟩, HF_is S1, HF_is S2, by rw [ch_snoc]; exact HF_chL _, by
      have := (h b h1 (by omega) h3 hne).1 (by simpa using hc)
      rw [List.length_append, ← ch_snoc] at this
      exact this⟩) (fun hc => ⟨HF_is S1, HF_is S2, HF_chL o, (h b h1 (by omega) h3 hne).2 (by simpa using hc)⟩)
  have hlt : b < S2.length := by simp at hc; omega
  have ea := in_a0 hlt
  refine ⟨⟨by omega, by omega⟩, in_c0 hlt, Sp.intro (fun he => ?_) (fun he => ?_)⟩
  rotate_left
  · have hne : ∀ h : b < S2.length, S2[b] ≠ t := fun hh e => by rw [ea] at he; simp [e] at he
    exact Sp.intro (fun hc => ⟨⟨rfl, by simp, by omega, by omega⟩, HF_is S1, HF_is S2, by rw [ch_snoc]; exact HF_chL _, by
      have := (h b h1 (by omega) h3 hne).1 (by simpa using hc)
      rw [List.length_append, ← ch_snoc] at this
      exact this⟩) (fun hc => ⟨HF_is S1, HF_is S2, HF_chL o, (h b h1 (by omega) h3 hne).2 (by simpa using hc)⟩)
  rw [ea] at he
  have he := of_decide_eq_true he
  refine ⟨⟨by omega, by omega⟩, HF_is S1, HF_is S2, HF_chL o, k - 1, by omega, b + 1, ?_, rfl, by omega, by omega, ?_⟩
  · rw [i64_in (by omega) (by omega)]
    show frQu a n1 (1 + b) (S2.length - b - 1) o.length (z - ((b - b0 : Nat) : Int) - 1) t last = _
    rw [show 1 + b = b + 1 by omega, show S2.length - b - 1 = S2.length - (b + 1) by omega, show z - ((b - b0 : Nat) : Int) - 1 = z - ((b + 1 - b0 : Nat) : Int) by omega]
  · rw [h3, List.drop_eq_getElem_cons hlt, he, show b + 1 - b0 = (b - b0) + 1 by omega, List.replicate_succ', List.append_assoc]
    rfl
theorem drop_sorted {l : List Int} (h : l.Pairwise (· ≤ ·)) (a : Nat) : (l.drop a).Pairwise (· ≤ ·) := h.sublist (List.drop_sublist a l)
theorem head_le {l : List Int} (h : l.Pairwise (· ≤ ·)) {a : Nat} (ha : a < l.length) : ∀ x ∈ l.drop a, l[a] ≤ x := fun x hx => by
  have hs := drop_sorted h a
  rw [List.drop_eq_getElem_cons ha] at hs hx
  rcases List.mem_cons.1 hx with e | e
  · omega
  · exact (List.pairwise_cons.1 hs).1 x e
theorem after_gt {l : List Int} (h : l.Pairwise (· ≤ ·)) {a a' : Nat} {t : Int} (ha : a ≤ a') (hle : ∀ x ∈ l.drop a, t ≤ x) (hne : ∀ h : a' < l.length, l[a'] ≠ t) : ∀ x ∈ l.drop a', t < x :=
  tail_gt (drop_sorted h a') (fun x hx => hle x (by
    have e : l.drop a' = (l.drop a).drop (a' - a) := by rw [List.drop_drop]; congr 1; omega
    rw [e] at hx
    exact List.mem_of_mem_drop hx)) fun h0 => by
    have hlt : a' < l.length := by simp at h0; omega
    rw [List.getElem_drop]
    simpa using hne hlt
theorem frz_ch {A : AH} {B n : Nat} {o : List Ch} (hg : A.t.get B = some (.gro (o.map cv) [] 55)) (hn : n = o.length) : Frz A (.slice (some ⟨B, 0, none⟩) n (unk + 3 + 2)) (dat 2 (o.map cv)) := by
  subst hn
  have hs : ∀ x ∈ o.map cv, x.cells.size = 2 := fun x hx => by
    obtain ⟨y, _, rfl⟩ := List.mem_map.1 hx
    rfl
  refine .gsl (lo := 0) hg (List.append_nil _) rfl rfl (by omega) (by simp) hs (by simp) ?_ rfl hs (by simp)
  rw [List.drop_zero, List.take_of_length_le (by simp)]
  refine FrzL.same fun x hx => ?_
  obtain ⟨y, hy, hx⟩ := List.mem_flatMap.1 hx
  obtain ⟨z, _, rfl⟩ := List.mem_map.1 hy
  exact AM.HF_agg (HF_cv z) x hx
theorem CO_loop {srt : List Value → List Value} (hX : (XC1 srt).Ok) {K : KV} {tA : T AObj} (S1 S2 : List Int) (R : List Ch) (h1 : S1.Pairwise (· ≤ ·)) (h2 : S2.Pairwise (· ≤ ·)) (hl1 : S1.length ≤ 20000) (hl2 : S2.length ≤ 20000) (hm : ∀ x ∈ S2, x ≤ 1000000000000)
    (hR : foldC (dd S1 S2) (timesL S1 S2) 0 = R) (hK : ∀ v A, Frz A v (dat 2 (R.map cv)) → K v A) :
    LAtZ (XC1 srt) 1 (Func.ntmps Proofs.Tryz.f51) ⟨tA, 0⟩ (bodyOf Proofs.Tryz.f51) [1, 1, 1, 1, 1, 0, 0] (kFinW srt K) (frQc 0 S1.length 0 S2.length 0 0) (hGc (S1.map (Value.int .i64)) (S2.map (Value.int .i64)) []) := by
  refine LAtZ.step hX rfl nsC [] [] [0, 1, 5, 6] (by kernel_rfl) (fun k F A => ∃ (a b : Nat) (o : List Ch), F = frQc a (S1.length - a) b (S2.length - b) o.length ((a : Int) - b) ∧ A = hGc (S1.map (Value.int .i64)) (S2.map (Value.int .i64)) (o.map cv) ∧ a ≤ S1.length ∧ b ≤ S2.length ∧ a + b + k = S1.length + S2.length ∧ o.length ≤ a + b ∧ o ++ foldC (dd (S1.drop a) (S2.drop b)) (timesL (S1.drop a) (S2.drop b)) ((a : Int) - b) = R) ?_ (k := S1.length + S2.length) ⟨0, 0, [], rfl, rfl, by omega, by omega, by omega, by simp, by simpa using hR⟩
  rintro k F A ⟨a, b, o, rfl, rfl, ha, hb, hk, ho, hr⟩
  refine (jCO_nf K _ srt tA _ _ _ a _ b _ _ _).mpr ?_
  have round : ∀ t : Int, ((∃ h : a < S1.length, S1[a] = t) ∨ ∃ h : b < S2.length, S2[b] = t) → (∀ x ∈ S1.drop a, t ≤ x) → (∀ x ∈ S2.drop b, t ≤ x) →
      LAtZ (XC1 srt) 1 (Func.ntmps Proofs.Tryz.f51) ⟨tA, 0⟩ cU [1, 0, 1, 1, 1, 1, 0, 0] (kU srt tA K (fun F1 A1 => ∃ k', k' < k ∧ ∃ (a b : Nat) (o : List Ch), F1 = frQc a (S1.length - a) b (S2.length - b) o.length ((a : Int) - b) ∧ A1 = hGc (S1.map (Value.int .i64)) (S2.map (Value.int .i64)) (o.map cv) ∧ a ≤ S1.length ∧ b ≤ S2.length ∧ a + b + k' = S1.length + S2.length ∧ o.length ≤ a + b ∧ o ++ foldC (dd (S1.drop a) (S2.drop b)) (timesL (S1.drop a) (S2.drop b)) ((a : Int) - b) = R)) (frQu a (S1.length - a) b (S2.length - b) o.length ((a : Int) - b) t ((a : Int) - b)) (hGc (S1.map (Value.int .i64)) (S2.map (Value.int .i64)) (o.map cv)) := by
    intro t ht ht1 ht2
    refine CU_loop hX S1 S2 o ha hl1 (by omega) fun a' p1 p2 p3 p4 => ?_
    refine CD_loop hX S1 S2 o hb hl2 (by omega) (by omega) fun b' q1 q2 q3 q4 => ?_
    have hprog : 0 < (a' - a) + (b' - b) := by
      rcases Nat.eq_zero_or_pos ((a' - a) + (b' - b)) with e | e
      · exfalso
        have ea : a' = a := by omega
        have eb : b' = b := by omega
        subst ea; subst eb
        rcases ht with ⟨h, e⟩ | ⟨h, e⟩
        · exact p4 h e
        · exact q4 h e
      · exact e
    have hf := fold_split p3 q3 (after_gt h1 p1 ht1 p4) (after_gt h2 q1 ht2 q4) hprog ((a : Int) - b)
    rw [hf] at hr
    refine ⟨fun hne => ?_, fun heq => ?_⟩
    · rw [if_neg (by omega)] at hr
      have ez : (a : Int) - b + (((a' - a : Nat) : Int) - ((b' - b : Nat) : Int)) = (a' : Int) - b' := by omega
      have ez2 : (a : Int) - b + ((a' - a : Nat) : Int) - ((b' - b : Nat) : Int) = (a' : Int) - b' := by omega
      rw [ez] at hr
      rw [ez2]
      exact ⟨k - ((a' - a) + (b' - b)), by omega, a', b', o ++ [(⟨t, (a' : Int) - b'⟩ : Ch)], rfl, rfl, p2, q2, by omega, by simp; omega, by rw [List.append_assoc]; exact hr⟩
    · rw [if_pos (by omega)] at hr
      have ez : (a : Int) - b = (a' : Int) - b' := by omega
      rw [heq]
      rw [ez] at hr ⊢
      exact ⟨k - ((a' - a) + (b' - b)), by omega, a', b', o, rfl, rfl, p2, q2, by omega, by omega, hr⟩
  have le2 : ∀ x ∈ S2.drop b, x ≤ 1000000000000 := fun x hx => hm x (List.mem_of_mem_drop hx)
  refine Sp.intro (fun c1 => ?_) (fun c1 => ?_)
  · have hlt : a < S1.length := by simp at c1; omega
    refine Sp.intro (fun _ => ⟨⟨by omega, by omega⟩, in_c0 hlt, ?_⟩) (fun c => by rw [c] at c1; cases c1)
    refine Sp.intro (fun c2 => ?_) (fun c2 => ?_)
    · have hlt2 : b < S2.length := by simp at c2; omega
      refine ⟨⟨by omega, by omega⟩, in_c0 hlt2, HF_is S1, HF_is S2, HF_chL o, ?_⟩
      rw [in_a0 hlt, in_a0 hlt2]
      refine round _ ?_ (fun x hx => ?_) (fun x hx => ?_)
      · rcases Int.le_total S1[a] S2[b] with e | e
        · exact .inl ⟨hlt, by omega⟩
        · exact .inr ⟨hlt2, by omega⟩
      · have := head_le h1 hlt x hx; omega
      · have := head_le h2 hlt2 x hx; omega
    · have hb0 : S2.drop b = [] := List.drop_eq_nil_of_le (by simp at c2; omega)
      refine ⟨HF_is S1, HF_is S2, HF_chL o, ?_⟩
      rw [in_a0 hlt]
      exact round _ (.inl ⟨hlt, rfl⟩) (head_le h1 hlt) (fun x hx => by rw [hb0] at hx; cases hx)
  · have ha0 : S1.drop a = [] := List.drop_eq_nil_of_le (by simp at c1; omega)
    refine Sp.intro (fun c2 => ?_) (fun c2 => ?_)
    · have hlt2 : b < S2.length := by simp at c2; omega
      refine Sp.intro (fun c => by rw [c1] at c; cases c) (fun _ => ?_)
      refine Sp.intro (fun _ => ⟨⟨by omega, by omega⟩, in_c0 hlt2, HF_is S1, HF_is S2, HF_chL o, ?_⟩) (fun c => by rw [c2] at c; cases c)
      have e3 := hm _ (List.getElem_mem hlt2)
      rw [in_a0 hlt2, show min 1000000000001 S2[b] = S2[b] by omega]
      exact round _ (.inr ⟨hlt2, rfl⟩) (fun x hx => by rw [ha0] at hx; cases hx) (head_le h2 hlt2)
    · have hb0 : S2.drop b = [] := List.drop_eq_nil_of_le (by simp at c2; omega)
      rw [ha0, hb0] at hr
      have hr : o = R := by simpa [timesL, insL, foldC] using hr
      subst hr
      exact ⟨⟨by omega, by omega, by omega⟩, hK _ _ (frz_ch rfl (by simp))⟩
theorem cells3 : env.P.cellsOf 3 = 1 := by
  unfold Program.cellsOf
  rw [env_ok.ti 3 Proofs.Tryz.t3 (by kernel_rfl)]
  rfl
theorem XC1_ok : (XC1 sortV).Ok := ⟨env_ok, env_sym, env_gl, .cons (sortR_ok (E := env) lays189 (f := 71) rfl cells3 sortV_ok) .nil⟩
theorem CW_changes (us ds : List Int) (hl1 : us.length ≤ 20000) (hl2 : ds.length ≤ 20000) (hm : ∀ x ∈ ds, x ≤ 1000000000000) :
    WalkZ env Proofs.Tryz.f51 [.slice (some ⟨0, 0, none⟩) us.length (unk + 3 + 1), .slice (some ⟨1, 0, none⟩) ds.length (unk + 3 + 1)] ⟨two (.gro (us.map (Value.int .i64)) [] 3) (.gro (ds.map (Value.int .i64)) [] 3), 2⟩ (dat 2 ((chgL us ds).map cv)) := by
  refine sxFnZ_walk XC1_ok (d := 1) ((jCh_nf _ sortV _ _ _ _).mpr ?_)
  have e1 : glue (us.map (Value.int .i64)) [] = us.map (Value.int .i64) := rfl
  have e2 : glue (ds.map (Value.int .i64)) [] = ds.map (Value.int .i64) := rfl
  rw [e1, e2, sortV_ok, sortV_ok]
  have l1 : (sortZ us).length = us.length := (sortZ_perm us).length_eq
  have l2 : (sortZ ds).length = ds.length := (sortZ_perm ds).length_eq
  refine ⟨⟨us, rfl, rfl, by omega⟩, ⟨ds, rfl, rfl, by omega⟩, HF_is _, HF_is _, HF_is [], ?_⟩
  have := CO_loop XC1_ok (K := fun v2 A2 => Frz A2 v2 (dat 2 ((chgL us ds).map cv))) (tA := two (.gro (us.map (Value.int .i64)) [] 3) (.gro (ds.map (Value.int .i64)) [] 3)) (sortZ us) (sortZ ds) (chgL us ds) (sortZ_sorted us) (sortZ_sorted ds) (by omega) (by omega) (fun x hx => hm x ((sortZ_perm ds).mem_iff.1 hx)) (chg_sorted us ds) (fun v A h => h)
  rw [l1, l2] at this
  exact this
end
end Go.T9

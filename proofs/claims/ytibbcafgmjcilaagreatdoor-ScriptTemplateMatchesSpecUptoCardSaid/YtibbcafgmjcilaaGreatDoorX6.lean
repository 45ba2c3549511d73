/- A part of the proof. -/
import Derived.Test.YtibbcafgmjcilaaGreatDoorX5
import Derived.Lib.SlicesCompact
import Derived.Test.YtibbcafgmjcilaaGreatDoorR
import Derived.Test.YtibbcafgmjcilaaGreatDoorV
import Derived.KernelRfl
import Derived.Test.YtibbcafgmjcilaaGreatDoorY0
set_option linter.unusedVariables false
set_option linter.unusedSimpArgs false
set_option maxHeartbeats 1000000
namespace Go.T9
open Go Go.AM Go.MK
noncomputable section
theorem ltL_irr : ∀ a : List UInt8, ltL a a = false
  | [] => rfl
  | x :: a => by
    have h1 : Nat.blt x.toNat x.toNat = false := by
      cases h : Nat.blt x.toNat x.toNat with
      | false => rfl
      | true => rw [Nat.blt_eq] at h; omega
    have h2 : Nat.beq x.toNat x.toNat = true := by rw [Nat.beq_eq]
    show (bif Nat.blt x.toNat x.toNat then true else bif Nat.beq x.toNat x.toNat then ltL a a else false) = false
    rw [h1, h2]; exact ltL_irr a
theorem ltL_cons (x y : UInt8) (a b : List UInt8) : ltL (x :: a) (y :: b) = true ↔ x.toNat < y.toNat ∨ (x.toNat = y.toNat ∧ ltL a b = true) := by
  show (bif Nat.blt x.toNat y.toNat then true else bif Nat.beq x.toNat y.toNat then ltL a b else false) = true ↔ _
  cases h : Nat.blt x.toNat y.toNat with
  | true => rw [Nat.blt_eq] at h; simp [h]
  | false =>
    have h' : ¬ x.toNat < y.toNat := fun q => by rw [← Nat.blt_eq] at q; rw [q] at h; cases h
    cases h2 : Nat.beq x.toNat y.toNat with
    | true => rw [Nat.beq_eq] at h2; simp [h2]
    | false =>
      have h2' : ¬ x.toNat = y.toNat := fun q => by rw [← Nat.beq_eq] at q; rw [q] at h2; cases h2
      simp [h', h2']
theorem ltL_tr : ∀ {a b c : List UInt8}, ltL a b = true → ltL b c = true → ltL a c = true
  | [], [], _, h, _ => by cases h
  | [], _ :: _, [], _, h => by cases h
  | [], _ :: _, _ :: _, _, _ => rfl
  | _ :: _, [], _, h, _ => by cases h
  | _ :: _, _ :: _, [], _, h => by cases h
  | x :: a, y :: b, z :: c, h1, h2 => by
    rw [ltL_cons] at h1 h2 ⊢
    rcases h1 with h1 | ⟨h1, g1⟩
    · rcases h2 with h2 | ⟨h2, g2⟩
      · left; omega
      · left; omega
    · rcases h2 with h2 | ⟨h2, g2⟩
      · left; omega
      · right; exact ⟨by omega, ltL_tr g1 g2⟩
theorem ltL_tri : ∀ (a b : List UInt8), ltL a b = true ∨ a = b ∨ ltL b a = true
  | [], [] => .inr (.inl rfl)
  | [], _ :: _ => .inl rfl
  | _ :: _, [] => .inr (.inr rfl)
  | x :: a, y :: b => by
    rw [ltL_cons, ltL_cons]
    rcases Nat.lt_trichotomy x.toNat y.toNat with h | h | h
    · exact .inl (.inl h)
    · rcases ltL_tri a b with g | g | g
      · exact .inl (.inr ⟨h, g⟩)
      · exact .inr (.inl (by rw [g, UInt8.toNat_inj.1 h]))
      · exact .inr (.inr (.inr ⟨h.symm, g⟩))
    · exact .inr (.inr (.inl h))
theorem ltL_asym {a b : List UInt8} (h : ltL a b = true) : ltL b a = false := by
  cases h2 : ltL b a with
  | false => rfl
  | true => have := ltL_tr h h2; rw [ltL_irr] at this; cases this
def Str (l : LB) : Prop := l.Pairwise fun a b => ltL a b = true
theorem str_uniq : ∀ {a b : LB}, Str a → Str b → (∀ x, x ∈ a ↔ x ∈ b) → a = b
  | [], [], _, _, _ => rfl
  | [], y :: b, _, _, h => by have := (h y).2 (by simp); simp at this
  | x :: a, [], _, _, h => by have := (h x).1 (by simp); simp at this
  | x :: a, y :: b, ha, hb, h => by
    have ha' := List.pairwise_cons.1 ha
    have hb' := List.pairwise_cons.1 hb
    have e : x = y := by
      have h1 := (h x).1 (by simp)
      have h2 := (h y).2 (by simp)
      rcases List.mem_cons.1 h1 with e | m1
      · exact e
      · rcases List.mem_cons.1 h2 with e | m2
        · exact e.symm
        · have q1 := hb'.1 x m1
          have q2 := ha'.1 y m2
          have := ltL_tr q1 q2
          rw [ltL_irr] at this; cases this
    subst e
    refine congrArg (x :: ·) (str_uniq ha'.2 hb'.2 fun z => ⟨fun hz => ?_, fun hz => ?_⟩)
    · rcases List.mem_cons.1 ((h z).1 (List.mem_cons_of_mem _ hz)) with e | m
      · have := ha'.1 z hz; rw [e, ltL_irr] at this; cases this
      · exact m
    · rcases List.mem_cons.1 ((h z).2 (List.mem_cons_of_mem _ hz)) with e | m
      · have := hb'.1 z hz; rw [e, ltL_irr] at this; cases this
      · exact m
theorem insL_mem : ∀ {l : LB} {x z : List UInt8}, z ∈ insL l x ↔ z = x ∨ z ∈ l
  | [], x, z => by simp [insL]
  | y :: l, x, z => by
    unfold insL
    cases h : ltL y x with
    | true => simp only [cond_true, List.mem_cons, insL_mem]; exact ⟨fun q => q.elim (fun e => .inr (.inl e)) (fun q => q.elim .inl (fun m => .inr (.inr m))), fun q => q.elim (fun e => .inr (.inl e)) (fun q => q.elim .inl (fun m => .inr (.inr m)))⟩
    | false =>
      cases h2 : eqL y x with
      | true =>
        have e := (eqL_iff y x).1 h2
        subst e
        simp
      | false => simp
theorem insL_str : ∀ {l : LB} {x : List UInt8}, Str l → Str (insL l x)
  | [], x, _ => by unfold insL; exact List.pairwise_cons.2 ⟨fun _ h => (by cases h), List.Pairwise.nil⟩
  | y :: l, x, h => by
    have h' := List.pairwise_cons.1 h
    unfold insL
    cases h1 : ltL y x with
    | true =>
      refine List.pairwise_cons.2 ⟨fun z hz => ?_, insL_str h'.2⟩
      rcases insL_mem.1 hz with e | m
      · rw [e]; exact h1
      · exact h'.1 z m
    | false =>
      cases h2 : eqL y x with
      | true => exact h
      | false =>
        have hxy : ltL x y = true := by
          rcases ltL_tri x y with q | q | q
          · exact q
          · rw [(eqL_iff y x).2 q.symm] at h2; cases h2
          · rw [q] at h1; cases h1
        refine List.pairwise_cons.2 ⟨fun z hz => ?_, h⟩
        rcases List.mem_cons.1 hz with e | m
        · rw [e]; exact hxy
        · exact ltL_tr hxy (h'.1 z m)
theorem fold_str : ∀ (ns : LB) {acc : LB}, Str acc → Str (ns.foldl insL acc) ∧ ∀ z, z ∈ ns.foldl insL acc ↔ z ∈ acc ∨ z ∈ ns
  | [], acc, h => ⟨h, fun z => by simp⟩
  | x :: ns, acc, h => by
    obtain ⟨h1, h2⟩ := fold_str ns (insL_str (x := x) h)
    refine ⟨h1, fun z => ?_⟩
    rw [List.foldl_cons, h2 z, insL_mem, List.mem_cons]
    exact ⟨fun q => q.elim (fun q => q.elim (fun e => .inr (.inl e)) .inl) (fun m => .inr (.inr m)), fun q => q.elim (fun m => .inl (.inr m)) (fun q => q.elim (fun e => .inl (.inl e)) .inr)⟩
def Ris (l : LB) : Prop := l.Pairwise fun a b => ltL b a = false
theorem cmp_str {zs : LB} (h : Ris zs) : ∀ m, m ≤ zs.length → Str (Lib.compactUpTo zs.toArray m) ∧ ∀ z, z ∈ Lib.compactUpTo zs.toArray m ↔ z ∈ zs.take m := by
  intro m
  induction m with
  | zero => intro _; exact ⟨List.Pairwise.nil, fun z => by simp [Lib.compactUpTo]⟩
  | succ m ih =>
    intro hm
    obtain ⟨h1, h2⟩ := ih (by omega)
    have hlt : m < zs.length := by omega
    have hg : zs.toArray[m]! = zs[m] := by rw [getElem!_pos _ m (by simpa using hlt), List.getElem_toArray]
    rw [Lib.compactUpTo_succ, hg, List.take_succ_eq_append_getElem hlt]
    cases hk : Lib.keeps zs.toArray m with
    | true =>
      rw [if_pos rfl]
      refine ⟨List.pairwise_append.2 ⟨h1, List.pairwise_cons.2 ⟨fun _ q => (by cases q), List.Pairwise.nil⟩, fun a ha b hb => ?_⟩, fun z => by rw [List.mem_append, List.mem_append, h2 z]⟩
      rw [List.mem_singleton.1 hb]
      obtain ⟨j, hj, rfl⟩ := List.mem_iff_getElem.1 ((h2 a).1 ha)
      have hjm : j < m := by rw [List.length_take] at hj; omega
      rw [List.getElem_take]
      have hle := List.pairwise_iff_getElem.1 h
      have q1 : ltL zs[m] zs[j] = false := hle j m (by omega) hlt hjm
      rcases ltL_tri zs[j] zs[m] with q | q | q
      · exact q
      · exfalso
        unfold Lib.keeps at hk
        simp only [decide_eq_true_eq] at hk
        have hm0 : m ≠ 0 := by omega
        have hne := hk.resolve_left hm0
        have hg1 : zs.toArray[m - 1]! = zs[m - 1]'(by omega) := by rw [getElem!_pos _ (m - 1) (by simp; omega), List.getElem_toArray]
        rw [hg, hg1] at hne
        have q2 : ltL zs[m] (zs[m - 1]'(by omega)) = false := hle (m - 1) m (by omega) hlt (by omega)
        have q3 : zs[j] = zs[m - 1]'(by omega) ∨ ltL (zs[m - 1]'(by omega)) zs[j] = false := by
          rcases Nat.lt_or_ge j (m - 1) with r | r
          · exact .inr (hle j (m - 1) (by omega) (by omega) r)
          · left; congr 1; omega
        rcases ltL_tri (zs[m - 1]'(by omega)) zs[m] with r | r | r
        · rcases q3 with q3 | q3
          · rw [← q3, q, ltL_irr] at r; cases r
          · rw [q] at q3; rw [q3] at r; cases r
        · exact hne r.symm
        · rw [r] at q2; cases q2
      · rw [q] at q1; cases q1
    | false =>
      rw [if_neg (by simp), List.append_nil]
      refine ⟨h1, fun z => ?_⟩
      rw [h2 z, List.mem_append]
      refine ⟨.inl, fun q => q.elim id fun q => ?_⟩
      rw [List.mem_singleton.1 q]
      unfold Lib.keeps at hk
      simp only [decide_eq_false_iff_not, not_or, Classical.not_not] at hk
      have hg1 : zs.toArray[m - 1]! = zs[m - 1]'(by omega) := by rw [getElem!_pos _ (m - 1) (by simp; omega), List.getElem_toArray]
      rw [hg, hg1] at hk
      rw [hk.2]
      have : m - 1 < (zs.take m).length := by rw [List.length_take]; omega
      have e : (zs.take m)[m - 1] = zs[m - 1]'(by omega) := List.getElem_take
      rw [← e]; exact List.getElem_mem this
theorem cmp_rising {zs : LB} (h : Ris zs) : Str (Lib.compact zs) ∧ ∀ z, z ∈ Lib.compact zs ↔ z ∈ zs := by
  obtain ⟨h1, h2⟩ := cmp_str h zs.length (Nat.le_refl _)
  exact ⟨h1, fun z => by rw [List.take_length] at h2; exact h2 z⟩
end
end Go.T9
set_option maxRecDepth 1000000
set_option linter.unusedVariables false
namespace Go.T9
open Go Go.AM Go.Shelf
noncomputable section
def ren190 : Ren := ⟨fun x => match x with | 125 => 67 | 128 => 108 | 129 => 109 | 190 => 38 | 258 => 66 | 302 => 99 | 303 => 100 | 304 => 101 | 305 => 102 | 306 => 103 | 307 => 104 | 308 => 105 | 309 => 106 | 310 => 107 | 329 => 153 | 330 => 154 | 333 => 152 | 334 => 155 | 335 => 156 | 336 => 157 | 344 => 178 | n => n, fun x => match x with | 0 => 0 | 3 => 3 | 4 => 4 | 5 => 5 | 9 => 9 | 31 => 29 | 46 => 116 | 51 => 176 | 53 => 114 | 131 => 173 | 182 => 168 | 183 => 169 | 218 => 226 | 222 => 230 | 228 => 251 | 229 => 44 | n => n, fun x => x⟩
theorem lays190 : Proofs.Lays.n190 env.P ren190 where
  mixed := env_ok.mixed
  f125 := env_ok.fn 67 (Proofs.Body.n125 ren190) (by kernel_rfl)
  f128 := env_ok.fn 108 (Proofs.Body.n128 ren190) (by kernel_rfl)
  f129 := env_ok.fn 109 (Proofs.Body.n129 ren190) (by kernel_rfl)
  f190 := env_ok.fn 38 (Proofs.Body.n190 ren190) (by kernel_rfl)
  f258 := env_ok.fn 66 (Proofs.Body.n258 ren190) (by kernel_rfl)
  f302 := env_ok.fn 99 (Proofs.Body.n302 ren190) (by kernel_rfl)
  f303 := env_ok.fn 100 (Proofs.Body.n303 ren190) (by kernel_rfl)
  f304 := env_ok.fn 101 (Proofs.Body.n304 ren190) (by kernel_rfl)
  f305 := env_ok.fn 102 (Proofs.Body.n305 ren190) (by kernel_rfl)
  f306 := env_ok.fn 103 (Proofs.Body.n306 ren190) (by kernel_rfl)
  f307 := env_ok.fn 104 (Proofs.Body.n307 ren190) (by kernel_rfl)
  f308 := env_ok.fn 105 (Proofs.Body.n308 ren190) (by kernel_rfl)
  f309 := env_ok.fn 106 (Proofs.Body.n309 ren190) (by kernel_rfl)
  f310 := env_ok.fn 107 (Proofs.Body.n310 ren190) (by kernel_rfl)
  f329 := env_ok.fn 153 (Proofs.Body.n329 ren190) (by kernel_rfl)
  f330 := env_ok.fn 154 (Proofs.Body.n330 ren190) (by kernel_rfl)
  f333 := env_ok.fn 152 (Proofs.Body.n333 ren190) (by kernel_rfl)
  f334 := env_ok.fn 155 (Proofs.Body.n334 ren190) (by kernel_rfl)
  f335 := env_ok.fn 156 (Proofs.Body.n335 ren190) (by kernel_rfl)
  f336 := env_ok.fn 157 (Proofs.Body.n336 ren190) (by kernel_rfl)
  f344 := env_ok.fn 178 (Proofs.Body.n344 ren190) (by kernel_rfl)
  t0 := und_ok env_ok (t := 0) (d := (TypeDesc.tuple #[])) (by kernel_rfl)
  a0 := fun w => run_agg env_ok (t := 0) (d := (TypeDesc.tuple #[])) (by kernel_rfl) w
  z0 := fun w => run_size env_ok (t := 0) (i := Proofs.Tryz.t0) (by kernel_rfl) w
  v0 := fun w => run_zero env_ok (t := 0) (i := Proofs.Tryz.t0) (z := (Value.tuple #[])) (by kernel_rfl) (by kernel_rfl) w
  t3 := und_ok env_ok (t := 3) (d := (TypeDesc.int IntKind.i64)) (by kernel_rfl)
  a3 := fun w => run_agg env_ok (t := 3) (d := (TypeDesc.int IntKind.i64)) (by kernel_rfl) w
  z3 := fun w => run_size env_ok (t := 3) (i := Proofs.Tryz.t3) (by kernel_rfl) w
  v3 := fun w => run_zero env_ok (t := 3) (i := Proofs.Tryz.t3) (z := (Value.int IntKind.i64 0)) (by kernel_rfl) (by kernel_rfl) w
  t4 := und_ok env_ok (t := 4) (d := (TypeDesc.bool)) (by kernel_rfl)
  a4 := fun w => run_agg env_ok (t := 4) (d := (TypeDesc.bool)) (by kernel_rfl) w
  z4 := fun w => run_size env_ok (t := 4) (i := Proofs.Tryz.t4) (by kernel_rfl) w
  v4 := fun w => run_zero env_ok (t := 4) (i := Proofs.Tryz.t4) (z := (Value.bool false)) (by kernel_rfl) (by kernel_rfl) w
  t5 := und_ok env_ok (t := 5) (d := (TypeDesc.int IntKind.u8)) (by kernel_rfl)
  a5 := fun w => run_agg env_ok (t := 5) (d := (TypeDesc.int IntKind.u8)) (by kernel_rfl) w
  z5 := fun w => run_size env_ok (t := 5) (i := Proofs.Tryz.t5) (by kernel_rfl) w
  v5 := fun w => run_zero env_ok (t := 5) (i := Proofs.Tryz.t5) (z := (Value.int IntKind.u8 0)) (by kernel_rfl) (by kernel_rfl) w
  t9 := und_ok env_ok (t := 9) (d := (TypeDesc.string)) (by kernel_rfl)
  a9 := fun w => run_agg env_ok (t := 9) (d := (TypeDesc.string)) (by kernel_rfl) w
  z9 := fun w => run_size env_ok (t := 9) (i := Proofs.Tryz.t9) (by kernel_rfl) w
  v9 := fun w => run_zero env_ok (t := 9) (i := Proofs.Tryz.t9) (z := (Value.string { data := #[] })) (by kernel_rfl) (by kernel_rfl) w
  t31 := und_ok env_ok (t := 29) (d := (TypeDesc.slice (ren190.t 9))) (by kernel_rfl)
  a31 := fun w => run_agg env_ok (t := 29) (d := (TypeDesc.slice (ren190.t 9))) (by kernel_rfl) w
  z31 := fun w => run_size env_ok (t := 29) (i := Proofs.Tryz.t29) (by kernel_rfl) w
  v31 := fun w => run_zero env_ok (t := 29) (i := Proofs.Tryz.t29) (z := (Value.slice none 0 0)) (by kernel_rfl) (by kernel_rfl) w
  t46 := und_ok env_ok (t := 116) (d := (TypeDesc.int IntKind.u64)) (by kernel_rfl)
  a46 := fun w => run_agg env_ok (t := 116) (d := (TypeDesc.int IntKind.u64)) (by kernel_rfl) w
  z46 := fun w => run_size env_ok (t := 116) (i := Proofs.Tryz.t116) (by kernel_rfl) w
  v46 := fun w => run_zero env_ok (t := 116) (i := Proofs.Tryz.t116) (z := (Value.int IntKind.u64 0)) (by kernel_rfl) (by kernel_rfl) w
  t51 := und_ok env_ok (t := 176) (d := (TypeDesc.int IntKind.u32)) (by kernel_rfl)
  a51 := fun w => run_agg env_ok (t := 176) (d := (TypeDesc.int IntKind.u32)) (by kernel_rfl) w
  z51 := fun w => run_size env_ok (t := 176) (i := Proofs.Tryz.t176) (by kernel_rfl) w
  v51 := fun w => run_zero env_ok (t := 176) (i := Proofs.Tryz.t176) (z := (Value.int IntKind.u32 0)) (by kernel_rfl) (by kernel_rfl) w
  t53 := und_ok env_ok (t := 114) (d := (TypeDesc.int IntKind.u64)) (by kernel_rfl)
  a53 := fun w => run_agg env_ok (t := 114) (d := (TypeDesc.int IntKind.u64)) (by kernel_rfl) w
  z53 := fun w => run_size env_ok (t := 114) (i := Proofs.Tryz.t114) (by kernel_rfl) w
  v53 := fun w => run_zero env_ok (t := 114) (i := Proofs.Tryz.t114) (z := (Value.int IntKind.u64 0)) (by kernel_rfl) (by kernel_rfl) w
  t131 := und_ok env_ok (t := 173) (d := (TypeDesc.tuple #[ren190.t 3, ren190.t 4])) (by kernel_rfl)
  a131 := fun w => run_agg env_ok (t := 173) (d := (TypeDesc.tuple #[ren190.t 3, ren190.t 4])) (by kernel_rfl) w
  z131 := fun w => run_size env_ok (t := 173) (i := Proofs.Tryz.t173) (by kernel_rfl) w
  v131 := fun w => run_zero env_ok (t := 173) (i := Proofs.Tryz.t173) (z := (Value.tuple #[Value.int IntKind.i64 0, Value.bool false])) (by kernel_rfl) (by kernel_rfl) w
  t182 := und_ok env_ok (t := 168) (d := (TypeDesc.int IntKind.i64)) (by kernel_rfl)
  a182 := fun w => run_agg env_ok (t := 168) (d := (TypeDesc.int IntKind.i64)) (by kernel_rfl) w
  z182 := fun w => run_size env_ok (t := 168) (i := Proofs.Tryz.t168) (by kernel_rfl) w
  v182 := fun w => run_zero env_ok (t := 168) (i := Proofs.Tryz.t168) (z := (Value.int IntKind.i64 0)) (by kernel_rfl) (by kernel_rfl) w
  t183 := und_ok env_ok (t := 169) (d := (TypeDesc.tuple #[ren190.t 3, ren190.t 182])) (by kernel_rfl)
  a183 := fun w => run_agg env_ok (t := 169) (d := (TypeDesc.tuple #[ren190.t 3, ren190.t 182])) (by kernel_rfl) w
  z183 := fun w => run_size env_ok (t := 169) (i := Proofs.Tryz.t169) (by kernel_rfl) w
  v183 := fun w => run_zero env_ok (t := 169) (i := Proofs.Tryz.t169) (z := (Value.tuple #[Value.int IntKind.i64 0, Value.int IntKind.i64 0])) (by kernel_rfl) (by kernel_rfl) w
  t218 := und_ok env_ok (t := 226) (d := (TypeDesc.int IntKind.u64)) (by kernel_rfl)
  a218 := fun w => run_agg env_ok (t := 226) (d := (TypeDesc.int IntKind.u64)) (by kernel_rfl) w
  z218 := fun w => run_size env_ok (t := 226) (i := Proofs.Tryz.t226) (by kernel_rfl) w
  v218 := fun w => run_zero env_ok (t := 226) (i := Proofs.Tryz.t226) (z := (Value.int IntKind.u64 0)) (by kernel_rfl) (by kernel_rfl) w
  t222 := und_ok env_ok (t := 230) (d := (TypeDesc.pointer (ren190.t 3))) (by kernel_rfl)
  a222 := fun w => run_agg env_ok (t := 230) (d := (TypeDesc.pointer (ren190.t 3))) (by kernel_rfl) w
  z222 := fun w => run_size env_ok (t := 230) (i := Proofs.Tryz.t230) (by kernel_rfl) w
  v222 := fun w => run_zero env_ok (t := 230) (i := Proofs.Tryz.t230) (z := (Value.pointer none)) (by kernel_rfl) (by kernel_rfl) w
  t228 := und_ok env_ok (t := 251) (d := (TypeDesc.pointer (ren190.t 218))) (by kernel_rfl)
  a228 := fun w => run_agg env_ok (t := 251) (d := (TypeDesc.pointer (ren190.t 218))) (by kernel_rfl) w
  z228 := fun w => run_size env_ok (t := 251) (i := Proofs.Tryz.t251) (by kernel_rfl) w
  v228 := fun w => run_zero env_ok (t := 251) (i := Proofs.Tryz.t251) (z := (Value.pointer none)) (by kernel_rfl) (by kernel_rfl) w
  t229 := und_ok env_ok (t := 44) (d := (TypeDesc.tuple #[ren190.t 3, ren190.t 3])) (by kernel_rfl)
  a229 := fun w => run_agg env_ok (t := 44) (d := (TypeDesc.tuple #[ren190.t 3, ren190.t 3])) (by kernel_rfl) w
  z229 := fun w => run_size env_ok (t := 44) (i := Proofs.Tryz.t44) (by kernel_rfl) w
  v229 := fun w => run_zero env_ok (t := 44) (i := Proofs.Tryz.t44) (z := (Value.tuple #[Value.int IntKind.i64 0, Value.int IntKind.i64 0])) (by kernel_rfl) (by kernel_rfl) w
end
end Go.T9
set_option maxRecDepth 1000000
set_option linter.unusedVariables false
namespace Go.T9
open Go Go.AM Go.Shelf
noncomputable section
def ren194 : Ren := ⟨fun x => match x with | 194 => 40 | n => n, fun x => match x with | 0 => 0 | 3 => 3 | 4 => 4 | 9 => 9 | 31 => 29 | n => n, fun x => x⟩
theorem lays194 : Proofs.Lays.n194 env.P ren194 where
  mixed := env_ok.mixed
  f194 := env_ok.fn 40 (Proofs.Body.n194 ren194) (by kernel_rfl)
  t0 := und_ok env_ok (t := 0) (d := (TypeDesc.tuple #[])) (by kernel_rfl)
  a0 := fun w => run_agg env_ok (t := 0) (d := (TypeDesc.tuple #[])) (by kernel_rfl) w
  z0 := fun w => run_size env_ok (t := 0) (i := Proofs.Tryz.t0) (by kernel_rfl) w
  v0 := fun w => run_zero env_ok (t := 0) (i := Proofs.Tryz.t0) (z := (Value.tuple #[])) (by kernel_rfl) (by kernel_rfl) w
  t3 := und_ok env_ok (t := 3) (d := (TypeDesc.int IntKind.i64)) (by kernel_rfl)
  a3 := fun w => run_agg env_ok (t := 3) (d := (TypeDesc.int IntKind.i64)) (by kernel_rfl) w
  z3 := fun w => run_size env_ok (t := 3) (i := Proofs.Tryz.t3) (by kernel_rfl) w
  v3 := fun w => run_zero env_ok (t := 3) (i := Proofs.Tryz.t3) (z := (Value.int IntKind.i64 0)) (by kernel_rfl) (by kernel_rfl) w
  t4 := und_ok env_ok (t := 4) (d := (TypeDesc.bool)) (by kernel_rfl)
  a4 := fun w => run_agg env_ok (t := 4) (d := (TypeDesc.bool)) (by kernel_rfl) w
  z4 := fun w => run_size env_ok (t := 4) (i := Proofs.Tryz.t4) (by kernel_rfl) w
  v4 := fun w => run_zero env_ok (t := 4) (i := Proofs.Tryz.t4) (z := (Value.bool false)) (by kernel_rfl) (by kernel_rfl) w
  t9 := und_ok env_ok (t := 9) (d := (TypeDesc.string)) (by kernel_rfl)
  a9 := fun w => run_agg env_ok (t := 9) (d := (TypeDesc.string)) (by kernel_rfl) w
  z9 := fun w => run_size env_ok (t := 9) (i := Proofs.Tryz.t9) (by kernel_rfl) w
  v9 := fun w => run_zero env_ok (t := 9) (i := Proofs.Tryz.t9) (z := (Value.string { data := #[] })) (by kernel_rfl) (by kernel_rfl) w
  t31 := und_ok env_ok (t := 29) (d := (TypeDesc.slice (ren194.t 9))) (by kernel_rfl)
  a31 := fun w => run_agg env_ok (t := 29) (d := (TypeDesc.slice (ren194.t 9))) (by kernel_rfl) w
  z31 := fun w => run_size env_ok (t := 29) (i := Proofs.Tryz.t29) (by kernel_rfl) w
  v31 := fun w => run_zero env_ok (t := 29) (i := Proofs.Tryz.t29) (z := (Value.slice none 0 0)) (by kernel_rfl) (by kernel_rfl) w
end
end Go.T9
set_option maxRecDepth 1000000
set_option linter.unusedVariables false
set_option linter.unusedSimpArgs false
set_option maxHeartbeats 4000000
namespace Go.T9
open Go Go.AM Go.MK Go.Shelf
noncomputable section
theorem lt_ltL : ∀ (a b : List UInt8), a < b ↔ ltL a b = true
  | [], [] => ⟨fun h => absurd h (List.lt_irrefl _), fun h => by cases h⟩
  | [], y :: b => ⟨fun _ => rfl, fun _ => List.nil_lt_cons y b⟩
  | x :: a, [] => ⟨fun h => absurd h (List.not_lt_nil _), fun h => by cases h⟩
  | x :: a, y :: b => by
    rw [List.cons_lt_cons_iff, ltL_cons, lt_ltL a b, UInt8.lt_iff_toNat_lt, UInt8.toNat_inj]
theorem le_ltL (a b : List UInt8) : decide (a ≤ b) = !ltL b a := by
  cases h : ltL b a with
  | true => exact decide_eq_false fun q => (List.not_lt.2 q) ((lt_ltL b a).2 h)
  | false => exact decide_eq_true (List.not_lt.1 fun q => by rw [(lt_ltL b a).1 q] at h; cases h)
theorem sortS_ris (l : LB) : Ris (sortS l) := by
  have h := List.pairwise_mergeSort (le := fun x y : List UInt8 => decide (x ≤ y)) (fun a b c h1 h2 => by
    rw [le_ltL] at *
    cases h : ltL c a with
    | false => rfl
    | true =>
      simp only [Bool.not_eq_true'] at h1 h2
      rcases ltL_tri a b with q | q | q
      · rw [ltL_tr h q] at h2; cases h2
      · subst q; rw [h] at h2; cases h2
      · rw [q] at h1; cases h1) (fun a b => by
    rw [le_ltL, le_ltL]
    cases h : ltL b a with
    | false => rfl
    | true => rw [ltL_asym h]; rfl) l
  exact h.imp fun h => by rw [le_ltL] at h; simpa using h
theorem sorted_rn (l : List (SB × SB)) : Lib.compact (sortS (nmL l)) = rn l := by
  obtain ⟨h1, h2⟩ := cmp_rising (sortS_ris (nmL l))
  obtain ⟨g1, g2⟩ := fold_str (nmL l) (acc := []) List.Pairwise.nil
  refine str_uniq h1 g1 fun x => ?_
  rw [h2 x]
  refine Iff.trans ?_ (g2 x).symm
  have := (List.mergeSort_perm (nmL l) (fun x y : List UInt8 => decide (x ≤ y))).mem_iff (a := x)
  exact ⟨fun q => .inr (this.1 q), fun q => this.2 (q.resolve_left (by simp))⟩
theorem clip_calls (a : Option Addr) (n k : Nat) (w : World) (hn : n ≤ k) (h63 : n < 9223372036854775808) (ha : a = none → k = 0) : Calls env.P 39 #[.slice a n k] w fun e w' => e = .returned (.slice a n n) ∧ w'.heap = w.heap ∧ w'.os = w.os ∧ w'.tape = w.tape ∧ w'.output = w.output := by
  have L := lays194
  have hf := env_ok.fn 39 (Proofs.Tryz.f39) rfl
  have mixed := L.mixed
  have t29 : env.P.underlying 29 = some (.slice 9) := L.t31
  have a29 : ∀ w, (isAgg 29).run env.P w = .ok false w := L.a31
  have z29 : ∀ w, (sizeOf 29).run env.P w = .ok 1 w := L.z31
  have v29 : ∀ w, (zeroValue 29).run env.P w = .ok (.slice none 0 0) w := L.v31
  have t3 : env.P.underlying 3 = some (.int .i64) := L.t3
  have z3 : ∀ w, (sizeOf 3).run env.P w = .ok 1 w := L.z3
  have t9 : env.P.underlying 9 = some .string := L.t9
  have z9 : ∀ w, (sizeOf 9).run env.P w = .ok 1 w := L.z9
  clear L
  generalize env.P = P at *
  refine calls_of_wp hf rfl ?_
  have er : #[Value.slice a n k] ++ Array.replicate ((Proofs.Tryz.f39).ntmps - #[Value.slice a n k].size) undef = #[Value.slice a n k, undef, undef, undef, undef, undef, undef, undef, undef] := rfl
  rw [er]
  go_wp2
  go_ret
  exact ⟨by kernel_rfl, rfl, rfl, rfl, rfl⟩
end
end Go.T9
set_option maxRecDepth 1000000
set_option linter.unusedVariables false
set_option linter.unusedSimpArgs false
set_option maxHeartbeats 4000000
namespace Go.T9
open Go Go.AM Go.MK
noncomputable section
theorem so_tab : ∀ args A p v A', sortSR 9 sortW args A = some (p, v, A') → PH p → CallAt envX 38 args A v A' := toX (sortSR_ok lays190 rfl (by kernel_rfl) sortW_ok)
theorem cp_tab : ∀ args A p v A', cmpSR 9 cmpW cptW args A = some (p, v, A') → PH p → CallAt envX 40 args A v A' := toX (cmpSR_ok lays194 rfl (by kernel_rfl) cmpW_ok cptW_ok)
theorem cl_tab : ∀ args A p v A', clipR args A = some (p, v, A') → PH p → CallAt envX 39 args A v A' := toX (clipR_ok clip_calls)
def tabNs : Tab := [(13, pureR (fun _ => none) ctX), (37, noR), (38, sortSR 9 sortW), (40, cmpSR 9 cmpW cptW), (39, clipR)]
theorem tabNs_ok : TabOk envX tabNs := .cons ct_tab (.cons no_tab (.cons so_tab (.cons cp_tab (.cons cl_tab .nil))))
def XNs : SX := ⟨envX, tabNs, elA, fun _ => .unroll 3⟩
theorem XNs_ok : XNs.Ok := ⟨envX_ok, envX_sym, envX_gl, tabNs_ok⟩
def jNs (K : KV) (s : SB) : Prop := sxFnZ XNs 4 Proofs.Tryz.f15 [.string s] ⟨.leaf, 0⟩ K
def elE : El := El.of (fun sz t els i => some (.string (strAt els i)))
def XEq : SX := ⟨envX, [], elE, fun _ => .auto [] [0, 1, 12, 13]⟩
theorem XEq_ok : XEq.Ok := ⟨envX_ok, envX_sym, envX_gl, .nil⟩
def frEq (a b : List Value) (i : Nat) : T Value := (.node (.node .leaf (some (dat 1 b)) (.node .leaf none (.node .leaf (some (.int .i64 i)) .leaf))) (some (dat 1 a)) (.node (.node .leaf none (.node .leaf (some (.int .i64 a.length)) .leaf)) none .leaf))
def ntEq : Nat := Func.ntmps Proofs.Tryz.f17
def bdEq : Code := bodyOf Proofs.Tryz.f17
def kFinEq (K : KV) : KX := finK XEq.E (Proofs.Tryz.f17.results).toList K
def jEq (K : KV) (a b : List Value) : Prop := sxFnZ XEq 1 Proofs.Tryz.f17 [dat 1 a, dat 1 b] ⟨.leaf, 0⟩ K
def jEq1 (K : KV) (again : KF) (a b : List Value) (i : Nat) : Prop := sxStepZ XEq 1 ntEq ⟨.leaf, 0⟩ bdEq [1, 1, 0, 1, 0] (kFinEq K) [] [] [] [0, 1, 12, 13] again (frEq a b i) ⟨.leaf, 0⟩
end
end Go.T9
set_option maxRecDepth 1000000
set_option linter.unusedVariables false
set_option linter.unusedSimpArgs false
set_option maxHeartbeats 4000000
namespace Go.T9
open Go Go.AM Go.MK
noncomputable section
theorem jNs_nf (K : KV) (s : SB) : jNs K s = (Sp (!decide (qE s = (0 : Int))) (Sp (!decide (qE s = (0 : Int))) (K (Value.tuple (Array.mk [Value.slice Option.none (0 : Nat) (0 : Nat), Value.int IntKind.i64 (qE s)])) (AH.mk (T.node T.leaf (Option.some (AObj.cells [Value.string s] (9 : Nat))) T.leaf) (1 : Nat))) (ByteArray.size s ≤ (1000000 : Nat) ∧ (∃ (ks : List (List UInt8)), stv (nmS s) = List.map (fun (k : List UInt8) => Value.string (mkBytes k)) ks ∧ List.length (nmS s) = List.length ks ∧ List.length ks < (4611686018427387904 : Nat)) ∧ (∃ (ks : List (List UInt8)), List.map (fun (k : List UInt8) => Value.string (mkBytes k)) (List.mergeSort (List.map vS (stv (nmS s))) fun (x y : List UInt8) => decide (x ≤ y)) = List.map (fun (k : List UInt8) => Value.string (mkBytes k)) ks ∧ List.length (nmS s) = List.length ks ∧ List.length ks < (4611686018427387904 : Nat)) ∧ List.length (List.map (fun (k : List UInt8) => Value.string (mkBytes k)) (Go.Lib.compact (List.map vS (List.map (fun (k : List UInt8) => Value.string (mkBytes k)) (List.mergeSort (List.map vS (stv (nmS s))) fun (x y : List UInt8) => decide (x ≤ y)))))) < (9223372036854775808 : Nat) ∧ K (Value.tuple (Array.mk [Value.slice (Option.some (Go.Addr.mk (1 : Nat) (0 : Nat) Option.none)) (List.length (List.map (fun (k : List UInt8) => Value.string (mkBytes k)) (Go.Lib.compact (List.map vS (List.map (fun (k : List UInt8) => Value.string (mkBytes k)) (List.mergeSort (List.map vS (stv (nmS s))) fun (x y : List UInt8) => decide (x ≤ y))))))) (18446744073709551620 : Nat), Value.int IntKind.i64 (0 : Int)])) (AH.mk (T.node (T.node T.leaf (Option.some (AObj.gro (List.map (fun (k : List UInt8) => Value.string (mkBytes k)) (Go.Lib.compact (List.map vS (List.map (fun (k : List UInt8) => Value.string (mkBytes k)) (List.mergeSort (List.map vS (stv (nmS s))) fun (x y : List UInt8) => decide (x ≤ y)))) ++ List.replicate (List.length (List.map vS (List.map (fun (k : List UInt8) => Value.string (mkBytes k)) (List.mergeSort (List.map vS (stv (nmS s))) fun (x y : List UInt8) => decide (x ≤ y)))) - List.length (Go.Lib.compact (List.map vS (List.map (fun (k : List UInt8) => Value.string (mkBytes k)) (List.mergeSort (List.map vS (stv (nmS s))) fun (x y : List UInt8) => decide (x ≤ y)))))) [])) [] (9 : Nat))) T.leaf) (Option.some (AObj.cells [Value.string s] (9 : Nat))) T.leaf) (2 : Nat)))) (ByteArray.size s ≤ (1000000 : Nat) ∧ (∃ (ks : List (List UInt8)), stv (nmS s) = List.map (fun (k : List UInt8) => Value.string (mkBytes k)) ks ∧ List.length (nmS s) = List.length ks ∧ List.length ks < (4611686018427387904 : Nat)) ∧ (∃ (ks : List (List UInt8)), List.map (fun (k : List UInt8) => Value.string (mkBytes k)) (List.mergeSort (List.map vS (stv (nmS s))) fun (x y : List UInt8) => decide (x ≤ y)) = List.map (fun (k : List UInt8) => Value.string (mkBytes k)) ks ∧ List.length (nmS s) = List.length ks ∧ List.length ks < (4611686018427387904 : Nat)) ∧ List.length (List.map (fun (k : List UInt8) => Value.string (mkBytes k)) (Go.Lib.compact (List.map vS (List.map (fun (k : List UInt8) => Value.string (mkBytes k)) (List.mergeSort (List.map vS (stv (nmS s))) fun (x y : List UInt8) => decide (x ≤ y)))))) < (9223372036854775808 : Nat) ∧ K (Value.tuple (Array.mk [Value.slice (Option.some (Go.Addr.mk (1 : Nat) (0 : Nat) Option.none)) (List.length (List.map (fun (k : List UInt8) => Value.string (mkBytes k)) (Go.Lib.compact (List.map vS (List.map (fun (k : List UInt8) => Value.string (mkBytes k)) (List.mergeSort (List.map vS (stv (nmS s))) fun (x y : List UInt8) => decide (x ≤ y))))))) (18446744073709551620 : Nat), Value.int IntKind.i64 (0 : Int)])) (AH.mk (T.node (T.node T.leaf (Option.some (AObj.gro (List.map (fun (k : List UInt8) => Value.string (mkBytes k)) (Go.Lib.compact (List.map vS (List.map (fun (k : List UInt8) => Value.string (mkBytes k)) (List.mergeSort (List.map vS (stv (nmS s))) fun (x y : List UInt8) => decide (x ≤ y)))) ++ List.replicate (List.length (List.map vS (List.map (fun (k : List UInt8) => Value.string (mkBytes k)) (List.mergeSort (List.map vS (stv (nmS s))) fun (x y : List UInt8) => decide (x ≤ y)))) - List.length (Go.Lib.compact (List.map vS (List.map (fun (k : List UInt8) => Value.string (mkBytes k)) (List.mergeSort (List.map vS (stv (nmS s))) fun (x y : List UInt8) => decide (x ≤ y)))))) [])) [] (9 : Nat))) T.leaf) (Option.some (AObj.cells [Value.string s] (9 : Nat))) T.leaf) (2 : Nat)))) := by kernel_rfl
theorem jEq_nf (K : KV) (a : List Go.Value) (b : List Go.Value) : jEq K a b = (Sp (!decide ((↑(List.length a) : Int) = (↑(List.length b) : Int))) (K (Value.bool Bool.false) (AH.mk T.leaf (0 : Nat))) (HF (Value.func (Go.Fn.yield (1 : Nat)) (Array.mk a) (Array.mk [])) ∧ HF (Value.func (Go.Fn.yield (1 : Nat)) (Array.mk b) (Array.mk [])) ∧ LAtZ XEq (1 : Nat) (Go.Func.ntmps Go.Proofs.Tryz.f17) (AH.mk (AH.t (AH.mk T.leaf (0 : Nat))) (0 : Nat)) (bodyOf Go.Proofs.Tryz.f17) [(1 : Nat), (1 : Nat), (0 : Nat), (1 : Nat), (0 : Nat)] (finK (SX.E XEq) (Array.toList (Go.Func.results Go.Proofs.Tryz.f17)) K) (T.node (T.node T.leaf (Option.some (Value.func (Go.Fn.yield (1 : Nat)) (Array.mk b) (Array.mk []))) (T.node T.leaf Option.none (T.node T.leaf (Option.some (Value.int IntKind.i64 (0 : Int))) T.leaf))) (Option.some (Value.func (Go.Fn.yield (1 : Nat)) (Array.mk a) (Array.mk []))) (T.node (T.node T.leaf Option.none (T.node T.leaf (Option.some (Value.int IntKind.i64 (↑(List.length a) : Int))) T.leaf)) Option.none T.leaf)) (AH.mk T.leaf (0 : Nat)))) := by kernel_rfl
theorem jEq1_nf (K : KV) (again : KF) (a : List Go.Value) (b : List Go.Value) (i : Nat) : jEq1 K again a b i = (Sp (decide ((↑i : Int) < (↑(List.length a) : Int)))
  (((0 : Int) ≤ (↑i : Int) ∧ (↑i : Int) < (↑(List.length a) : Int)) ∧
    nth a (Int.toNat (↑(Int.toNat (↑i : Int)) : Int)) =
        Option.some
          (Value.string
            (match nth a (Int.toNat (↑(Int.toNat (↑i : Int)) : Int)) with
            | Option.some (Value.string s) => s
            | x => ByteArray.empty)) ∧
      ((0 : Int) ≤ (↑i : Int) ∧ (↑i : Int) < (↑(List.length b) : Int)) ∧
        nth b (Int.toNat (↑(Int.toNat (↑i : Int)) : Int)) =
            Option.some
              (Value.string
                (match nth b (Int.toNat (↑(Int.toNat (↑i : Int)) : Int)) with
                | Option.some (Value.string s) => s
                | x => ByteArray.empty)) ∧
          Sp (!eqL (Array.toList (ByteArray.data (strAt a (↑(Int.toNat (↑i : Int)) : Int)))) (Array.toList (ByteArray.data (strAt b (↑(Int.toNat (↑i : Int)) : Int))))) (K (Value.bool Bool.false) (AH.mk T.leaf (9 : Nat))) (HF (Value.func (Go.Fn.yield (1 : Nat)) (Array.mk a) (Array.mk [])) ∧ HF (Value.func (Go.Fn.yield (1 : Nat)) (Array.mk b) (Array.mk [])) ∧ again (T.node (T.node T.leaf (Option.some (Value.func (Go.Fn.yield (1 : Nat)) (Array.mk b) (Array.mk []))) (T.node T.leaf Option.none (T.node T.leaf (Option.some (Value.int IntKind.i64 (IntKind.wrap IntKind.i64 ((↑i : Int) + (1 : Int))))) T.leaf))) (Option.some (Value.func (Go.Fn.yield (1 : Nat)) (Array.mk a) (Array.mk []))) (T.node (T.node T.leaf Option.none (T.node T.leaf (Option.some (Value.int IntKind.i64 (↑(List.length a) : Int))) T.leaf)) Option.none T.leaf)) (AH.mk T.leaf (0 : Nat))))
  (K (Value.bool Bool.true) (AH.mk T.leaf (0 : Nat)))) := by kernel_rfl
theorem cmpS_take (l : LB) : (cmpS l).take (Lib.compact l).length = Lib.compact l := by
  unfold cmpS; rw [List.take_append_of_le_length (Nat.le_refl _), List.take_length]
theorem ns_fin (s : SB) (h : qE s = 0) (A : AH) (hA : A.t.get 1 = some (.gro (stv (cmpS (sortS (nmS s)))) [] 9)) : Frz A (.tuple ⟨[.slice (some ⟨1, 0, none⟩) (Lib.compact (sortS (nmS s))).length (unk + 3 + 1), .int .i64 0]⟩) (rnR s) := by
  have e1 : Lib.compact (sortS (nmS s)) = rn (pcL s) := sorted_rn (pcL s)
  have e : rnR s = .tuple ⟨[dat 1 (stv ((cmpS (sortS (nmS s))).take (Lib.compact (sortS (nmS s))).length)), .int .i64 0]⟩ := by
    unfold rnR rnS; rw [decide_eq_true h, h, cmpS_take, e1]; rfl
  rw [e]
  refine .tuple (.cons (frz_st hA (List.append_nil _) ?_) (.cons (.same (HFi _ _)) .nil))
  unfold cmpS; rw [List.length_append]; omega
theorem ns_walk (s : SB) : WalkZ envX Proofs.Tryz.f15 [.string s] ⟨.leaf, 0⟩ (rnR s) := by
  refine sxFnZ_walk XNs_ok (d := 4) ((jNs_nf _ s).mpr ?_)
  have hv : List.map vS (stv (nmS s)) = nmS s := vS_map _
  have hv2 : ∀ ks : LB, List.map vS (List.map (fun k => Value.string (mkBytes k)) ks) = ks := vS_map
  simp only [hv, hv2]
  have hne : qE s ≠ 0 → Frz ⟨.node .leaf (some (.cells [.string s] 9)) .leaf, 1⟩ (.tuple ⟨[.slice none 0 0, .int .i64 (qE s)]⟩) (rnR s) := fun h => by
    have e : rnR s = .tuple ⟨[dat 1 [], .int .i64 (qE s)]⟩ := by unfold rnR rnS; rw [decide_eq_false h]; rfl
    rw [e]; exact .tuple (.cons (.nils 1) (.cons (.same (HFi _ _)) .nil))
  have hln : qE s = 0 → (nmS s).length ≤ 3000000 := fun h => nmS_len (qE_size h)
  have hms : (List.mergeSort (nmS s) fun (x y : List UInt8) => decide (x ≤ y)) = sortS (nmS s) := rfl
  have hsl : (sortS (nmS s)).length = (nmS s).length := List.length_mergeSort _
  have hcl := compact_le (sortS (nmS s))
  rw [hms]
  simp only [List.length_map]
  have hfin : qE s = 0 → ∀ A : AH, A.t.get 1 = some (.gro (stv (cmpS (sortS (nmS s)))) [] 9) → s.size ≤ 1000000 ∧ (∃ ks : LB, stv (nmS s) = List.map (fun k => Value.string (mkBytes k)) ks ∧ (nmS s).length = ks.length ∧ ks.length < 4611686018427387904) ∧ (∃ ks : LB, List.map (fun k => Value.string (mkBytes k)) (sortS (nmS s)) = List.map (fun k => Value.string (mkBytes k)) ks ∧ (nmS s).length = ks.length ∧ ks.length < 4611686018427387904) ∧ (Lib.compact (sortS (nmS s))).length < 9223372036854775808 ∧ Frz A (.tuple ⟨[.slice (some ⟨1, 0, none⟩) (Lib.compact (sortS (nmS s))).length (unk + 3 + 1), .int .i64 0]⟩) (rnR s) := fun h A hA => by
    have := hln h
    exact ⟨qE_size h, ⟨nmS s, rfl, rfl, by omega⟩, ⟨sortS (nmS s), rfl, hsl.symm, by omega⟩, by omega, ns_fin s h A hA⟩
  refine Sp.intro (fun c => Sp.intro (fun c => ?_) (fun c => ?_)) (fun c => ?_)
  · exact hne (by simpa using c)
  · exact hfin (by simpa using c) _ rfl
  · exact hfin (by simpa using c) _ rfl
theorem ns_tab : ∀ args A p v A', pureR (fun _ => none) rnX args A = some (p, v, A') → PH p → CallAt envX 15 args A v A' := walk_tab envX_ok envX_gl (fn := Proofs.Tryz.f15) rfl fun args v h hp => by
  unfold rnX at h
  split at h
  · simp only [Option.some.injEq] at h
    subst h
    exact ⟨HF.cons (.scal rfl) HF.nil, ns_walk _⟩
  · cases h
theorem HF_dst (ks : LB) : HF (dat 1 (stv ks)) := .dat (HF_st ks)
theorem Eq_loop (ks : LB) (hl : ks.length ≤ 3000000) : LAtZ XEq 1 ntEq ⟨.leaf, 0⟩ bdEq [1, 1, 0, 1, 0] (kFinEq fun v A => Frz A v (.bool true)) (frEq (stv ks) (stv ks) 0) ⟨.leaf, 0⟩ := by
  refine LAtZ.step XEq_ok rfl [] [] [] [0, 1, 12, 13] (by kernel_rfl) (fun k F A => ∃ i : Nat, F = frEq (stv ks) (stv ks) i ∧ A = ⟨.leaf, 0⟩ ∧ i + k = ks.length) ?_ (k := ks.length) ⟨0, rfl, rfl, by omega⟩
  rintro k F A ⟨i, rfl, rfl, hk⟩
  refine (jEq1_nf _ _ _ _ i).mpr ?_
  refine Sp.intro (fun c => ?_) (fun c => .same (HFb _))
  have hlt : i < ks.length := by simpa [st_len] using c
  have hw : IntKind.i64.wrap ((i : Int) + 1) = ((i + 1 : Nat) : Int) := by rw [i64_in (by omega) (by omega)]; rfl
  have hc : (0 : Int) ≤ (i : Int) ∧ (i : Int) < ((stv ks).length : Int) := ⟨by omega, by rw [st_len]; omega⟩
  have hn := stv_nth hlt
  simp only [Int.toNat_natCast, hn, hw, (eqL_iff _ _).2 rfl]
  exact ⟨hc, trivial, hc, trivial, HF_dst ks, HF_dst ks, k - 1, by omega, i + 1, rfl, trivial, by omega⟩
theorem eq_walk (ks : LB) (hl : ks.length ≤ 3000000) : WalkZ envX Proofs.Tryz.f17 [dat 1 (stv ks), dat 1 (stv ks)] ⟨.leaf, 0⟩ (.bool true) := by
  refine sxFnZ_walk XEq_ok (d := 1) ((jEq_nf _ _ _).mpr ?_)
  rw [decide_eq_true rfl]
  exact ⟨HF_dst ks, HF_dst ks, Eq_loop ks hl⟩
def eqX : List Value → Option Value
  | [.func (.yield 1) ⟨a⟩ ⟨[]⟩, .func (.yield 1) ⟨b⟩ ⟨[]⟩] => some (.bool true)
  | _ => none
def eqPre : List Value → Option Prop
  | [.func (.yield 1) ⟨a⟩ ⟨[]⟩, .func (.yield 1) ⟨b⟩ ⟨[]⟩] => some (∃ ks : LB, a = stv ks ∧ b = stv ks ∧ ks.length ≤ 3000000)
  | _ => none
theorem eq_tab : ∀ args A p v A', pureR eqPre eqX args A = some (p, v, A') → PH p → CallAt envX 17 args A v A' := walk_tab envX_ok envX_gl (fn := Proofs.Tryz.f17) rfl fun args v h hp => by
  unfold eqX at h
  split at h
  · simp only [Option.some.injEq] at h
    subst h
    obtain ⟨ks, rfl, rfl, hl⟩ := hp
    exact ⟨HF.cons (HF_dst ks) (HF.cons (HF_dst ks) HF.nil), eq_walk ks hl⟩
  · cases h
def tabLT : Tab := [(13, pureR (fun _ => none) ctX), (14, pureR (fun _ => none) ctX), (15, pureR (fun _ => none) rnX), (16, pureR (fun _ => none) rnX), (17, pureR eqPre eqX), (18, pureR FiPre FiX), (19, pureR FiPre FiX), (10, pureR (fun _ => none) walkP)]
theorem tabLT_ok : TabOk envX tabLT := .cons ct_tab (.cons rt_tab (.cons ns_tab (.cons rn_tab (.cons eq_tab (.cons Fi_tab (.cons Rf_tab (.cons (toX (con_tab walkP_con)) .nil)))))))
def XLT : SX := ⟨envX, tabLT, elL, fun _ => .unroll 0⟩
theorem XLT_ok : XLT.Ok := ⟨envX_ok, envX_sym, envX_gl, tabLT_ok⟩
def jLT (K : KV) (s : SB) (ps : List Value) : Prop := sxFn XLT 1 Proofs.Tryz.f5 [.string s, dat 2 ps] K
end
end Go.T9
set_option maxRecDepth 1000000
set_option linter.unusedVariables false
set_option linter.unusedSimpArgs false
set_option maxHeartbeats 4000000
namespace Go.T9
open Go Go.AM Go.MK
noncomputable section
theorem jLT_nf (K : KV) (s : SB) (ps : List Go.Value) : jLT K s ps = (Sp (!decide (qA s = qA s)) (K (Value.bool Bool.false) (AH.mk T.leaf (0 : Nat))) (Sp (!decide (qE s = qE s)) (K (Value.bool Bool.false) (AH.mk T.leaf (0 : Nat))) (Sp (!decide (qE s = qE s)) (K (Value.bool Bool.false) (AH.mk T.leaf (0 : Nat))) ((∃ (ks : LB), stv (rnS s) = stv ks ∧ stv (rnS s) = stv ks ∧ List.length ks ≤ (3000000 : Nat)) ∧ (∃ (l : List (SB × SB)), ps = pv l ∧ SmP l) ∧ (∃ (l : List (SB × SB)), ps = pv l ∧ SmP l) ∧ Sp (eqL (Array.toList (ByteArray.data (FiS s (unP ps)))) (Array.toList (ByteArray.data (FiS s (unP ps))))) (Sp (decide (FiE s (unP ps) = FiE s (unP ps))) (K (Value.bool Bool.true) (AH.mk T.leaf (0 : Nat))) (K (Value.bool Bool.false) (AH.mk T.leaf (0 : Nat)))) (K (Value.bool Bool.false) (AH.mk T.leaf (0 : Nat))))))) := by kernel_rfl
theorem SpTr {p q : Prop} : Sp true p q = p := rfl
theorem SpFa {p q : Prop} : Sp false p q = q := rfl
theorem rnS_len (s : SB) : (rnS s).length ≤ 3000000 := by
  unfold rnS
  cases h : decide (qE s = 0) with
  | false => simp
  | true =>
    have := rn_len (pcL s)
    have := pcL_len s
    have := qE_size (of_decide_eq_true h)
    simp only [cond_true]; omega
theorem tpl_walk (s : SB) (l : List (SB × SB)) (hl : SmP l) : Walk envX Proofs.Tryz.f5 [.string s, dat 2 (pv l)] (.bool true) := by
  refine sxFn_frz XLT_ok (d := 1) ((jLT_nf _ s _).mpr ?_)
  have e1 : ∀ x : Int, decide (x = x) = true := fun x => decide_eq_true rfl
  have e2 : ∀ b : SB, eqL b.data.toList b.data.toList = true := fun b => (eqL_iff _ _).2 rfl
  simp only [e1, e2, Bool.not_true, SpTr, SpFa]
  exact ⟨⟨rnS s, rfl, rfl, rnS_len s⟩, ⟨l, rfl, hl⟩, ⟨l, rfl, hl⟩, Frz.same (HFb _)⟩
theorem envX_none (w : World) : Glob envX (sig0 w) := fun g cs h => by cases h
theorem tpl_law (s : SB) (l : List (SB × SB)) (hl : SmP l) (w : World) {v : Value} (hv : VR (sig0 w) (dat 2 (pv l)) v) :
    Calls Proofs.Tryz.prog 5 #[.string s, v] w fun e w' => e = .returned (.bool true) ∧ RowKit.Below w.heap.size w w' :=
  calls_flat (con_one envX_ok envX_gl (fn := Proofs.Tryz.f5) rfl (HF.cons (.scal rfl) (HF.cons (HF_dpv l) HF.nil)) (tpl_walk s l hl)) (one_self _ _) rfl w (envX_none w) (.cons (.string _) (.cons hv .nil))
end
end Go.T9

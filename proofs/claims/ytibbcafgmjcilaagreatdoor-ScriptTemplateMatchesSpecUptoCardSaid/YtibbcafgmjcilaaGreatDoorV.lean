/- A part of the proof. -/
import Derived.Test.YtibbcafgmjcilaaGreatDoorF
import Derived.Shelf.Strings.Builder1
import Derived.Shelf.Sort.Plain
import Derived.Shelf.Slices.In.SortNone
import Derived.Shelf.Slices.CompactS
set_option linter.unusedVariables false
set_option linter.unusedSimpArgs false
namespace Go.Proofs
open Go.Shelf Go.RowKit
variable {P : Program} {ρ : Ren}
set_option maxHeartbeats 2000000 in
set_option maxRecDepth 100000 in
theorem Any.bld_text (L : Lays.n169 P ρ) (hc : P.cellsOf (ρ.t 5) = 1) (b g cap cells : Nat) (l : List UInt8) (w : World) (h1 : w.cell? ⟨b, 1, none⟩ = some (.slice (some ⟨g, 0, none⟩) l.length cap)) (hcap : cap ≠ 0) (hsh : w.shape? g = some (ρ.t 5, cells)) (hn : l.length ≤ cells) (h0 : l ≠ []) (h63 : l.length ≤ 9223372036854775807)
    (hcell : ∀ j x, l[j]? = some x → w.cell? ((⟨g, 0, none⟩ : Addr).add j) = some (.int .u8 x.toNat)) :
    Calls P (ρ.f 169) #[.pointer (some ⟨b, 0, none⟩)] w fun e w' => e = .returned (.string ⟨l.toArray⟩) ∧ w' = w.drew.freeze ⟨g, 0, none⟩ l.length := by
  have c1 : w.drew.cell? ⟨b, 1, none⟩ = some (.slice (some ⟨g, 0, none⟩) l.length cap) := h1
  have hSD : (Builtin.unsafeSliceData_ #[(ρ.t 37)] (ρ.t 127) #[.slice (some ⟨g, 0, none⟩) l.length cap]).run P w.drew = .ok (.pointer (some ⟨g, 0, none⟩)) w.drew :=
    Lib.run_unsafeSliceData_row _ _ _ _ _ _ hcap
  have hUS : (Builtin.unsafeString_ #[(ρ.t 127), (ρ.t 3)] (ρ.t 9) #[.pointer (some ⟨g, 0, none⟩), .int .i64 l.length]).run P w.drew = .ok (.string ⟨l.toArray⟩) (w.drew.freeze ⟨g, 0, none⟩ l.length) :=
    Lib.run_unsafeString_row w.drew (ρ.t 127) (ρ.t 3) (ρ.t 9) (ρ.t 5) L.t127 hc g cells hsh l h0 hn h63 hcell
  have mixed := L.mixed
  have t72 := L.t72; have a72 := L.a72; have z72 := L.z72; have v72 := L.v72; have u72 := run_underlying L.t72
  have t70 := L.t70; have a70 := L.a70; have z70 := L.z70; have v70 := L.v70; have u70 := run_underlying L.t70
  have t37 := L.t37; have a37 := L.a37; have z37 := L.z37; have v37 := L.v37; have u37 := run_underlying L.t37
  have t127 := L.t127; have a127 := L.a127; have z127 := L.z127; have v127 := L.v127; have u127 := run_underlying L.t127
  have t3 := L.t3; have a3 := L.a3; have z3 := L.z3; have v3 := L.v3; have u3 := run_underlying L.t3
  have t9 := L.t9; have a9 := L.a9; have z9 := L.z9; have v9 := L.v9; have u9 := run_underlying L.t9
  go_enter L.f169, Body.n169_ntmps ρ
  go_wp2
  go_region_o
  all_goals (go_wp2; go_ret; exact ⟨rfl, rfl⟩)
set_option maxHeartbeats 2000000 in
set_option maxRecDepth 100000 in
theorem Any.bld_none (L : Lays.n169 P ρ) (b : Nat) (w : World) (h1 : w.cell? ⟨b, 1, none⟩ = some (.slice none 0 0)) :
    Calls P (ρ.f 169) #[.pointer (some ⟨b, 0, none⟩)] w fun e w' => e = .returned (.string ByteArray.empty) ∧ w' = w.drew := by
  have c1 : w.drew.cell? ⟨b, 1, none⟩ = some (.slice none 0 0) := h1
  have hSD : (Builtin.unsafeSliceData_ #[(ρ.t 37)] (ρ.t 127) #[.slice none 0 0]).run P w.drew = .ok (.pointer none) w.drew := rfl
  have hUS : (Builtin.unsafeString_ #[(ρ.t 127), (ρ.t 3)] (ρ.t 9) #[.pointer none, .int .i64 0]).run P w.drew = .ok (.string ByteArray.empty) w.drew :=
    Lib.run_unsafeString_none w.drew (ρ.t 127) (ρ.t 3) (ρ.t 9) none
  have mixed := L.mixed
  have t72 := L.t72; have a72 := L.a72; have z72 := L.z72; have v72 := L.v72; have u72 := run_underlying L.t72
  have t70 := L.t70; have a70 := L.a70; have z70 := L.z70; have v70 := L.v70; have u70 := run_underlying L.t70
  have t37 := L.t37; have a37 := L.a37; have z37 := L.z37; have v37 := L.v37; have u37 := run_underlying L.t37
  have t127 := L.t127; have a127 := L.a127; have z127 := L.z127; have v127 := L.v127; have u127 := run_underlying L.t127
  have t3 := L.t3; have a3 := L.a3; have z3 := L.z3; have v3 := L.v3; have u3 := run_underlying L.t3
  have t9 := L.t9; have a9 := L.a9; have z9 := L.z9; have v9 := L.v9; have u9 := run_underlying L.t9
  go_enter L.f169, Body.n169_ntmps ρ
  go_wp2
  go_region_o
  all_goals (go_wp2; go_ret; exact ⟨rfl, rfl⟩)
end Go.Proofs
namespace Go.AM
open Go.Shelf
noncomputable section
def strR (tb : TypeId) : RunF := fun args A => match args with
  | [.pointer (some ⟨B0, 0, none⟩)] => (match A.t.get B0 with
    | some (.cells [p, .slice none 0 0] _) => some (none, .string ByteArray.empty, A)
    | some (.cells [p, .slice (some ⟨B, 0, none⟩) n k] _) => (match A.t.get B, T.set FU A.t B .dead with
      | some (.cells c e), some t => bif Nat.beq k unk && Nat.beq e tb then some (some (IsB c 0 n ∧ 0 < n ∧ n ≤ 9223372036854775807), .string (mkBytes (u8L c 0 n)), ⟨t, A.next⟩) else none
      | _, _ => none)
    | _ => none)
  | _ => none
theorem strR_ok {E : Env} {ρ : Ren} (Ly : Proofs.Lays.n169 E.P ρ) {f : FuncId} (hf : ρ.f 169 = f) {tb : TypeId} (ht : ρ.t 5 = tb) (hc : E.P.cellsOf tb = 1) :
    ∀ args A p v A', strR tb args A = some (p, v, A') → PH p → CallAt E f args A v A' := by
  intro args A p v A' hr hp
  subst hf
  unfold strR at hr
  split at hr
  · rename_i B0
    split at hr
    · rename_i p0 e0 hB0
      simp only [Option.some.injEq, Prod.mk.injEq] at hr
      obtain ⟨rfl, rfl, rfl⟩ := hr
      intro σ w args' R hg ha
      cases ha with
      | cons hx ht2 =>
      cases ht2
      cases hx with
      | ptr _ hσ =>
      rename_i b d k
      obtain ⟨c', lo, hi, hb, _, hcl, _, hd0⟩ := R.at hB0 rfl hσ
      subst hd0
      obtain ⟨v', g1, g2⟩ := hcl 1 _ rfl
      cases g2
      have h1 : w.cell? ⟨b, 1, none⟩ = some (.slice none 0 0) := by
        simp only [World.cell?, hb, Option.isSome_none, Bool.false_eq_true, if_false]
        simpa using g1
      refine (Proofs.Any.bld_none Ly b w h1).mono fun en w' he => ?_
      obtain ⟨rfl, rfl⟩ := he
      exact ⟨_, σ, rfl, .string _, Rel.more R (fun _ _ => rfl) (Nat.le_refl _), Ext.more (fun _ _ => rfl) (Nat.le_refl _) rfl rfl rfl⟩
    · rename_i p0 B n k e0 hB0
      split at hr
      · rename_i c e t hB ht2
        cases hbq : Nat.beq k unk && Nat.beq e tb with
        | false => rw [hbq] at hr; cases hr
        | true =>
          rw [hbq] at hr
          simp only [Bool.and_eq_true, Nat.beq_eq] at hbq
          obtain ⟨rfl, rfl⟩ := hbq
          simp only [cond_true, Option.some.injEq, Prod.mk.injEq] at hr
          obtain ⟨rfl, rfl, rfl⟩ := hr
          obtain ⟨hq, hn0, hn1⟩ : IsB c 0 n ∧ 0 < n ∧ n ≤ 9223372036854775807 := hp
          obtain ⟨bs, q1, q2, q3⟩ := isB_get hq
          rw [q3]
          intro σ w args' R hg ha
          cases ha with
          | cons hx hts =>
          cases hts
          cases hx with
          | ptr _ hσ0 =>
          rename_i b d k0
          obtain ⟨c', lo, hi, hb, _, hcl, _, hd0⟩ := R.at hB0 rfl hσ0
          subst hd0
          obtain ⟨v', g1, g2⟩ := hcl 1 _ rfl
          have key : ∃ g dd cc, σ B = some (g, dd, cc) ∧ n ≤ cc ∧ v' = .slice (some ⟨g, dd, none⟩) n cc := by
            generalize hu : unk = u at g2
            cases g2 with
            | slice i n' k' hσ hk => omega
            | sliceU n' hσ hn => exact ⟨_, _, _, hσ, hn, rfl⟩
            | sliceV i n' k' hσ hn => omega
            | sliceE a a' k' => omega
            | gs0 B o m a hm => omega
            | gs lo o n' k' m hσ hn hc ho hm => omega
          obtain ⟨g, dd, cc, hσ, hnc, rfl⟩ := key
          obtain ⟨c2, lo2, hi2, hb2, _, hcl2, hsz2, hd2⟩ := R.at hB rfl hσ
          subst hd2
          subst q2
          have h1 : w.cell? ⟨b, 1, none⟩ = some (.slice (some ⟨g, 0, none⟩) bs.length cc) := by
            simp only [World.cell?, hb, Option.isSome_none, Bool.false_eq_true, if_false]
            simpa using g1
          rw [hc] at hsz2
          have hcell : ∀ j x, bs[j]? = some x → w.cell? ((⟨g, 0, none⟩ : Addr).add j) = some (.int .u8 x.toNat) := by
            intro j x hx
            have hj : j < bs.length := (List.getElem?_eq_some_iff.1 hx).1
            have hcj : c[j]? = some (.int .u8 x.toNat) := by
              have : ((c.drop 0).take bs.length)[j]? = some (Value.int .u8 x.toNat) := by rw [q1]; simp [hx]
              rw [List.getElem?_take, if_pos hj, List.drop_zero] at this
              exact this
            obtain ⟨v2, k1, k2⟩ := hcl2 j _ hcj
            cases k2
            rw [add_none]
            simp only [World.cell?, hb2, Option.isSome_none, Bool.false_eq_true, if_false]
            simpa using k1
          have hm0 : bs.length ≠ 0 := by omega
          refine (Proofs.Any.bld_text Ly (by rw [ht]; exact hc) b g cc c2.size bs w h1 (by omega) (by rw [ht]; simp [World.shape?, hb2]) (by omega) (by intro e; subst e; simp at hn0) hn1 hcell).mono fun en w' he => ?_
          obtain ⟨rfl, rfl⟩ := he
          refine ⟨_, σ, rfl, .string _, ?_, ?_⟩
          · refine Rel.kill R hB rfl hσ ht2 ?_ ?_
            · simp only [World.freeze, hm0, if_false, Array.size_modify]; rfl
            · intro b' hb'
              simp only [World.freeze, hm0, if_false, Array.getElem?_modify]
              rw [if_neg (fun e => hb' e.symm)]
              rfl
          · refine Ext.kill hB rfl hσ ht2 ?_ ?_ ?_ ?_ ?_
            · simp only [World.freeze, hm0, if_false, Array.size_modify]; rfl
            · intro b' hb'
              simp only [World.freeze, hm0, if_false, Array.getElem?_modify]
              rw [if_neg (fun e => hb' e.symm)]
              rfl
            all_goals (simp only [World.freeze, hm0, if_false]; rfl)
      · cases hr
    · cases hr
  · cases hr
def ixB (s : ByteArray) (c : Int) : Int := match findB c.toNat.toUInt8 s.data.toList 0 with
  | some i => (i : Int)
  | none => -1
def xIdx : ExtF := fun vs A => match vs with
  | [.string s, .int .u8 c] => some (.int .i64 (ixB s c), A)
  | _ => none
theorem xIdx_ok {P : Program} {f : FuncId} (h : isExt P f Extern.BytealgIndexByte.indexByte) : ExtOk P f xIdx := by
  intro vs A v A' hx σ w vs' R hv
  refine xIndexByte_ok h vs A v A' ?_ σ w vs' R hv
  unfold xIdx at hx
  unfold xIndexByte
  split at hx
  · rename_i s c
    rw [← hx]
    cases hf : findB c.toNat.toUInt8 s.data.toList 0 <;> simp only [ixB, hf] <;> rfl
  · cases hx
theorem findB_some {c : UInt8} : ∀ {l : List UInt8} {k i : Nat}, findB c l k = some i → k ≤ i ∧ ∃ x, l[i - k]? = some x ∧ x.toNat = c.toNat
  | [], k, i, h => by simp [findB] at h
  | x :: l, k, i, h => by
    unfold findB at h
    cases hb : Nat.beq x.toNat c.toNat with
    | true =>
      rw [hb] at h
      simp only [cond_true, Option.some.injEq] at h
      subst h
      exact ⟨Nat.le_refl _, x, by simp, Nat.eq_of_beq_eq_true hb⟩
    | false =>
      rw [hb] at h
      simp only [cond_false] at h
      obtain ⟨h1, y, h2, h3⟩ := findB_some h
      refine ⟨by omega, y, ?_, h3⟩
      rw [show i - k = (i - (k + 1)) + 1 by omega, List.getElem?_cons_succ]
      exact h2
theorem ixB_in {s : ByteArray} {c : Int} (h0 : 0 ≤ c) (h1 : c < 256) (h : ¬ ixB s c < 0) : ixB s c < s.size ∧ byteAt s (ixB s c) = c := by
  unfold ixB at h ⊢
  split at h
  · rename_i i hi
    obtain ⟨_, x, g1, g2⟩ := findB_some hi
    have g1 : s.data.toList[i]? = some x := g1
    have hl : i < s.data.toList.length := (List.getElem?_eq_some_iff.1 g1).1
    refine ⟨by have : s.data.toList.length = s.size := by simp
               omega, ?_⟩
    simp only [byteAt, Int.toNat_natCast, nth_eq, g1]
    rw [g2]
    have : c.toNat.toUInt8.toNat = c.toNat := by
      show c.toNat % 256 = _
      exact Nat.mod_eq_of_lt (by omega)
    rw [this]; omega
  · exact absurd (by decide) h
def bAt (s : ByteArray) (i : Nat) : UInt8 := s.data.toList.getD i 0
theorem byteAt_nat {s : ByteArray} {i : Nat} (h : i < s.size) : byteAt s (i : Int) = ((bAt s i).toNat : Int) := by
  have hl : i < s.data.toList.length := by have : s.data.toList.length = s.size := by simp
                                           omega
  simp only [byteAt, Int.toNat_natCast, nth_eq, List.getElem?_eq_getElem hl, bAt, List.getD_eq_getElem?_getD, Option.getD_some]
theorem subB_list (s : ByteArray) (a b : Nat) : (subB s a b).data.toList = (s.data.toList.drop a).take (b - a) := by simp [subB, mkBytes]
theorem subB_size {s : ByteArray} {a b : Nat} (h : a ≤ b) (hb : b ≤ s.size) : (subB s a b).size = b - a := by
  have h1 : (subB s a b).data.toList.length = (subB s a b).size := by simp
  have h2 : s.data.toList.length = s.size := by simp
  rw [← h1, subB_list, List.length_take, List.length_drop]; omega
theorem byteAt_sub {s : ByteArray} {a b j : Nat} (h : a + j < b) (hb : b ≤ s.size) : byteAt (subB s a b) (j : Int) = byteAt s ((a + j : Nat) : Int) := by
  simp only [byteAt, Int.toNat_natCast, nth_eq, subB_list, List.getElem?_take, List.getElem?_drop]
  rw [if_pos (by omega)]
end
end Go.AM
set_option linter.unusedVariables false
set_option linter.unusedSimpArgs false
namespace Go.AM
noncomputable section
def MadeK (N : Nat) (v : Value) (ob : AObj) : KV := fun v2 A2 => ∃ B o, A2.t.get B = some o ∧ RO (back [(N, B)]) o ob ∧ ob.own = true ∧ RV (back [(N, B)]) v2 v
def WalkM (E : Env) (fn : Func) (args : List Value) (Q : KV) : Prop :=
  ∃ c F, fn.body = some c ∧ Nat.ble args.length fn.ntmps = true ∧ mkFrame args 0 .leaf = some F ∧ W E ⟨.leaf, 0⟩ fn.ntmps c (Fin E fn Q) F ⟨.leaf, 0⟩
theorem sxFnZ_made {X : SX} (hX : X.Ok) {d : Nat} {fn : Func} {args : List Value} {Q : KV} (h : sxFnZ X d fn args ⟨.leaf, 0⟩ Q) : WalkM X.E fn args Q := by
  unfold sxFnZ at h
  split at h
  · rename_i c hc
    split at h
    · rename_i F hF
      cases hb : Nat.ble args.length fn.ntmps with
      | false => rw [hb] at h; exact h.elim
      | true =>
        rw [hb] at h
        exact ⟨c, F, hc, hb, hF, (sx_ok hX (d := d) h).mono fun ex F' A' q => finK_ok q⟩
    · exact h.elim
  · exact h.elim
open Classical in
def sigM (σ : Sig) (N : Nat) (p : Option (Nat × Nat × Nat)) (nl : Prop) (w w' : World) : Sig :=
  ⟨fun B => if B = N then p else σ.f B, fun b => if b < w.heap.size then σ.ro b else if ∃ x, p = some x ∧ x.1 = b then none else w'.heap[b]?, fun B => (B = N ∧ nl) ∨ (B ≠ N ∧ σ.nl B)⟩
theorem callAt_made {E : Env} (ok : E.Ok) {f : FuncId} {fn : Func} (hfn : E.fn f = some fn) {args : List Value} {A : AH} {v : Value} {ob : AObj} {tA : T AObj} (hf : ∀ x ∈ args, HF x)
    (hw : WalkM E fn args (MadeK A.next v ob)) (ht : T.set FU A.t A.next ob = some tA) : CallAt E f args A v ⟨tA, A.next + 1⟩ := by
  intro σ w args' R hg ha
  obtain ⟨code, F, hbody, hble, hframe, hW⟩ := hw
  have R1 : Rel E.P (sigT (back []) σ) ⟨.leaf, 0⟩ w := R.ren (m := []) (lh := []) (nx := 0) (t1 := .leaf) rfl rfl .nil
  have ra : RVs (back []) args args := RVs.hf hf
  refine (fun_callsZ ok hfn hbody hframe (Nat.le_of_ble_eq_true hble) hW R1 (fun g cs h => hg g cs h) (ExtG.refl _ _ _ _) (ra.move ha)).mono fun en w' he => ?_
  obtain ⟨v2, v', A2, σ2, rfl, ⟨B, o, hB, ho, hown, hv⟩, hVR, R2, X⟩ := he
  have hnone : ∀ B0, (⟨.leaf, 0⟩ : AH).t.get B0 = none := fun B0 => rfl
  have hold : ∀ b, b < w.heap.size → w'.heap[b]? = w.heap[b]? := fun b hb => X.frame b hb fun B0 o0 x h1 _ _ => by cases h1
  have hoo : o.own = true := by rw [← ho.own]; exact hown
  have hnew : ∀ x, σ2 B = some x → w.heap.size ≤ x.1 := fun x hx => by
    rcases X.orig B o x hB hoo hx with k | ⟨B0, o0, x0, k1, _⟩
    · exact k
    · cases k1
  generalize hN : A.next = N at *
  have hfr : σ N = none := R.fresh N (by omega)
  have hbk : back [(N, B)] N = some B := by simp [back, beq_eq]
  have hbk2 : ∀ B' B0, back [(N, B)] B' = some B0 → B' = N ∧ B0 = B := fun B' B0 h => by
    have := back_mem h; simp at this; exact this
  have s3f : ∀ B' x, (sigT (back [(N, B)]) σ2) B' = some x → B' = N ∧ σ2 B = some x := fun B' x h => by
    obtain ⟨B0, h1, h2⟩ := sigT_of h
    obtain ⟨rfl, rfl⟩ := hbk2 _ _ h1
    exact ⟨rfl, h2⟩
  have mN : (sigM σ N (σ2 B) (σ2.nl B) w w') N = σ2 B := if_pos rfl
  have mO : ∀ B', B' ≠ N → (sigM σ N (σ2 B) (σ2.nl B) w w') B' = σ B' := fun B' h => if_neg h
  have rOld : ∀ b, b < w.heap.size → (sigM σ N (σ2 B) (σ2.nl B) w w').ro b = σ.ro b := fun b h => if_pos h
  have rOwn : ∀ b, w.heap.size ≤ b → (∃ x, σ2 B = some x ∧ x.1 = b) → (sigM σ N (σ2 B) (σ2.nl B) w w').ro b = none := fun b h h2 => (if_neg (by omega)).trans (if_pos h2)
  have rNew : ∀ b, w.heap.size ≤ b → (¬ ∃ x, σ2 B = some x ∧ x.1 = b) → (sigM σ N (σ2 B) (σ2.nl B) w w').ro b = w'.heap[b]? := fun b h h2 => (if_neg (by omega)).trans (if_neg h2)
  have sub1 : σ.sub (sigM σ N (σ2 B) (σ2.nl B) w w') := ⟨fun B' x h => by
    by_cases e : B' = N
    · subst e; have h : σ B' = some x := h; rw [hfr] at h; cases h
    · exact (mO B' e).trans h, fun b o0 h => (rOld b (get_lt (R.ro b o0 h))).trans h⟩
  have sub3 : (sigT (back [(N, B)]) σ2).sub (sigM σ N (σ2 B) (σ2.nl B) w w') := ⟨fun B' x h => by
    obtain ⟨rfl, h2⟩ := s3f B' x h
    exact mN.trans h2, fun b o0 h => by
    have h : σ2.ro b = some o0 := h
    rcases X.rog b o0 h with k | k | ⟨B0, o1, x0, k1, _⟩
    · exact sub1.ro b o0 k
    · by_cases hx : ∃ x, σ2 B = some x ∧ x.1 = b
      · obtain ⟨x, hx, e⟩ := hx
        have := R2.sep B o x hB hoo hx
        rw [e, h] at this; cases this
      · exact (rNew b k hx).trans (R2.ro b o0 h)
    · cases k1⟩
  have hget := T.get_set ht
  refine ⟨v', sigM σ N (σ2 B) (σ2.nl B) w w', rfl, (hv.move v' hVR).mono sub3, ⟨fun B1 o1 h hh => ?_, fun B1 B2 o1 o2 x1 x2 h1 h2 ho1 hh2 hne hx1 hx2 => ?_, fun B1 x h => ?_, fun B1 h => ?_, fun b o1 h => ?_, fun B1 o1 x h ho1 hx => ?_, fun B1 h => ?_⟩,
    ⟨fun B1 h => mO B1 (by omega), (by show A.next ≤ N + 1; omega), X.size, fun b hb _ => hold b hb, fun B1 o1 x h ho1 hx => ?_, fun B1 o1 x h ho1 hx => ?_, X.os, X.tape, X.output, sub1.ro, fun b o1 h => ?_, fun B1 h => ?_⟩⟩
  · have h : tA.get B1 = some o1 := h
    rw [hget] at h
    by_cases e : B1 = N
    · rw [if_pos e] at h; simp only [Option.some.injEq] at h; subst h; subst e
      rcases R2.obj0 B o hB (by rw [← ho.here]; exact hh) with ⟨b, d, c, g1, g2⟩ | ⟨g1, g2⟩
      · exact .inl ⟨b, d, c, mN.trans g1, (ho.move g2).mono sub3⟩
      · exact .inr ⟨ho.nilOk.trans g1, .inl ⟨rfl, g2⟩⟩
    · rw [if_neg e] at h
      rcases R.obj0 B1 o1 h hh with ⟨b, d, c, g1, g2⟩ | ⟨g1, g2⟩
      · exact .inl ⟨b, d, c, (mO B1 e).trans g1, by rw [hold b (R.lt B1 _ g1)]; exact g2.mono sub1⟩
      · exact .inr ⟨g1, .inr ⟨e, g2⟩⟩
  · have h1 : tA.get B1 = some o1 := h1
    have h2 : tA.get B2 = some o2 := h2
    rw [hget] at h1 h2
    by_cases e1 : B1 = N
    · have e2 : B2 ≠ N := fun e2 => hne (e1.trans e2.symm)
      rw [e1, mN] at hx1
      rw [mO B2 e2] at hx2
      have := hnew x1 hx1
      have := R.lt B2 x2 hx2
      omega
    · rw [if_neg e1] at h1
      rw [mO B1 e1] at hx1
      by_cases e2 : B2 = N
      · rw [e2, mN] at hx2
        have := hnew x2 hx2
        have := R.lt B1 x1 hx1
        omega
      · rw [if_neg e2] at h2
        rw [mO B2 e2] at hx2
        exact R.inj B1 B2 o1 o2 x1 x2 h1 h2 ho1 hh2 hne hx1 hx2
  · by_cases e : B1 = N
    · rw [e, mN] at h; exact R2.lt B x h
    · rw [mO B1 e] at h; exact Nat.lt_of_lt_of_le (R.lt B1 x h) X.size
  · have h : N + 1 ≤ B1 := h
    rw [mO B1 (by omega)]; exact R.fresh B1 (by omega)
  · rcases Nat.lt_or_ge b w.heap.size with hb | hb
    · rw [rOld b hb] at h; rw [hold b hb]; exact R.ro b o1 h
    · by_cases hx : ∃ x, σ2 B = some x ∧ x.1 = b
      · rw [rOwn b hb hx] at h; cases h
      · rw [rNew b hb hx] at h; exact h
  · have h : tA.get B1 = some o1 := h
    rw [hget] at h
    by_cases e : B1 = N
    · rw [e, mN] at hx
      exact rOwn _ (hnew x hx) ⟨x, hx, rfl⟩
    · rw [if_neg e] at h
      rw [mO B1 e] at hx
      rw [rOld _ (R.lt B1 x hx)]
      exact R.sep B1 o1 x h ho1 hx
  · rcases h with ⟨rfl, h⟩ | ⟨e, h⟩
    · exact ⟨Nat.lt_succ_self _, mN.trans (R2.nl B h).2⟩
    · have := (R.nl B1 h).1
      exact ⟨by show B1 < N + 1; omega, (mO B1 e).trans (R.nl B1 h).2⟩
  · have h : tA.get B1 = some o1 := h
    rw [hget] at h
    by_cases e : B1 = N
    · rw [e, mN] at hx; exact .inl (hnew x hx)
    · rw [if_neg e] at h; rw [mO B1 e] at hx; exact .inr ⟨B1, o1, x, h, ho1, hx, rfl⟩
  · have h : tA.get B1 = some o1 := h
    rw [hget] at h
    by_cases e : B1 = N
    · rw [e, mN] at hx; exact .inl (hnew x hx)
    · rw [if_neg e] at h; rw [mO B1 e] at hx; exact .inr ⟨B1, o1, x, h, ho1, hx, rfl⟩
  · rcases Nat.lt_or_ge b w.heap.size with hb | hb
    · rw [rOld b hb] at h; exact .inl h
    · exact .inr (.inl hb)
  · have e : B1 ≠ N := by omega
    exact ⟨fun h => h.elim (fun q => absurd q.1 e) (fun q => q.2), fun h => .inr ⟨e, h⟩⟩
def WalkT (E : Env) (fn : Func) (args : List Value) (A1 : AH) (Q : KV) : Prop :=
  ∃ c F, fn.body = some c ∧ Nat.ble args.length fn.ntmps = true ∧ mkFrame args 0 .leaf = some F ∧ W E ⟨A1.t, 0⟩ fn.ntmps c (Fin E fn Q) F A1
theorem sxFnZ_turn {X : SX} (hX : X.Ok) {d : Nat} {fn : Func} {args : List Value} {A1 : AH} {Q : KV} (h : sxFnZ X d fn args A1 Q) : WalkT X.E fn args A1 Q := by
  unfold sxFnZ at h
  split at h
  · rename_i c hc
    split at h
    · rename_i F hF
      cases hb : Nat.ble args.length fn.ntmps with
      | false => rw [hb] at h; exact h.elim
      | true =>
        rw [hb] at h
        exact ⟨c, F, hc, hb, hF, (sx_ok hX (d := d) h).mono fun ex F' A' q => finK_ok q⟩
    · exact h.elim
  · exact h.elim
open Classical in
def sigU (σ : Sig) (m : List (Nat × Nat)) (N : Nat) (p : Option (Nat × Nat × Nat)) (nl : Prop) (w w' : World) : Sig :=
  ⟨fun B => if B = N then p else σ.f B, fun b => if b < w.heap.size ∧ ¬ gvn σ m b then σ.ro b else if ∃ x, p = some x ∧ x.1 = b then none else w'.heap[b]?, fun B => (B = N ∧ nl) ∨ (B ≠ N ∧ σ.nl B)⟩
theorem callAt_turn {E : Env} (ok : E.Ok) {f : FuncId} {fn : Func} (hfn : E.fn f = some fn) {args args1 : List Value} {A : AH} {m : List (Nat × Nat)} {lh : List (Nat × AObj)} {nx : Nat} {t1 tD tA : T AObj} {v : Value} {ob : AObj}
    (hm : backOk nx m = true) (hh : ofL lh .leaf = some t1) (rh : RenH m A lh) (ra : RVs (back m) args args1) (hw : WalkT E fn args1 ⟨t1, nx⟩ (MadeK A.next v ob)) (hown : ∀ x ∈ m, ∃ o, A.t.get x.2 = some o ∧ o.own = true)
    (hk1 : ∀ x ∈ m, tD.get x.2 = some .dead) (hk2 : ∀ B, (∀ x ∈ m, x.2 ≠ B) → tD.get B = A.t.get B) (ht : T.set FU tD A.next ob = some tA) : CallAt E f args A v ⟨tA, A.next + 1⟩ := by
  intro σ w args' R hg ha
  obtain ⟨code, F, hbody, hble, hframe, hW⟩ := hw
  have R1 := R.ren hm hh rh
  have X1 : Ext (sigT (back m) σ) ⟨t1, 0⟩ w (sigT (back m) σ) ⟨t1, nx⟩ w :=
    ⟨fun B h => absurd h (Nat.not_lt_zero _), Nat.zero_le _, Nat.le_refl _, fun _ _ _ => rfl, fun B o x h1 h2 h3 => .inr ⟨B, o, x, h1, h2, h3, rfl⟩, fun B o x h1 h2 h3 => .inr ⟨B, o, x, h1, h2, h3, rfl⟩, rfl, rfl, rfl, fun _ _ h => h, fun _ _ h => .inl h, fun _ _ => Iff.rfl⟩
  refine (fun_callsZ ok hfn hbody hframe (Nat.le_of_ble_eq_true hble) hW R1 (fun g cs h => hg g cs h) X1 (ra.move ha)).mono fun en w' he => ?_
  obtain ⟨v2, v', A2, σ2, rfl, ⟨B, o, hB, ho, hob, hv⟩, hVR, R2, X⟩ := he
  have img : ∀ {B0 : Nat} {x : Nat × Nat × Nat}, (sigT (back m) σ) B0 = some x → gvn σ m x.1 := fun {B0 x} h2 => by
    obtain ⟨B, hb, hs⟩ := sigT_of h2
    exact ⟨_, back_mem hb, x, hs, rfl⟩
  have hold : ∀ b, b < w.heap.size → ¬ gvn σ m b → w'.heap[b]? = w.heap[b]? := fun b hb hn => X.frame b hb fun B0 o x h1 h2 h3 e => hn (e ▸ img h3)
  have hroP : ∀ b o, σ.ro b = some o → ¬ gvn σ m b := fun b o h ⟨x, hx, y, hy, e⟩ => by
    obtain ⟨o', ho', how⟩ := hown x hx
    have := R.sep x.2 o' y ho' how hy
    rw [e, h] at this; cases this
  have hoo : o.own = true := by rw [← ho.own]; exact hob
  have hnew : ∀ x, σ2 B = some x → ¬ (x.1 < w.heap.size ∧ ¬ gvn σ m x.1) := fun x hx ⟨q1, q2⟩ => by
    rcases X.orig B o x hB hoo hx with k | ⟨B0, o0, x0, k1, k2, k3, k4⟩
    · omega
    · exact q2 (k4 ▸ img k3)
  generalize hN : A.next = N at *
  have hfr : σ N = none := R.fresh N (by omega)
  have hbk2 : ∀ B' B0, back [(N, B)] B' = some B0 → B' = N ∧ B0 = B := fun B' B0 h => by
    have := back_mem h; simp at this; exact this
  have s3f : ∀ B' x, (sigT (back [(N, B)]) σ2) B' = some x → B' = N ∧ σ2 B = some x := fun B' x h => by
    obtain ⟨B0, h1, h2⟩ := sigT_of h
    obtain ⟨rfl, rfl⟩ := hbk2 _ _ h1
    exact ⟨rfl, h2⟩
  have mN : (sigU σ m N (σ2 B) (σ2.nl B) w w') N = σ2 B := if_pos rfl
  have mO : ∀ B', B' ≠ N → (sigU σ m N (σ2 B) (σ2.nl B) w w') B' = σ B' := fun B' h => if_neg h
  have rOld : ∀ b, b < w.heap.size ∧ ¬ gvn σ m b → (sigU σ m N (σ2 B) (σ2.nl B) w w').ro b = σ.ro b := fun b h => if_pos h
  have rOwn : ∀ b, ¬ (b < w.heap.size ∧ ¬ gvn σ m b) → (∃ x, σ2 B = some x ∧ x.1 = b) → (sigU σ m N (σ2 B) (σ2.nl B) w w').ro b = none := fun b h h2 => (if_neg h).trans (if_pos h2)
  have rNew : ∀ b, ¬ (b < w.heap.size ∧ ¬ gvn σ m b) → (¬ ∃ x, σ2 B = some x ∧ x.1 = b) → (sigU σ m N (σ2 B) (σ2.nl B) w w').ro b = w'.heap[b]? := fun b h h2 => (if_neg h).trans (if_neg h2)
  have sub1 : σ.sub (sigU σ m N (σ2 B) (σ2.nl B) w w') := ⟨fun B' x h => by
    by_cases e : B' = N
    · subst e; have h : σ B' = some x := h; rw [hfr] at h; cases h
    · exact (mO B' e).trans h, fun b o0 h => (rOld b ⟨get_lt (R.ro b o0 h), hroP b o0 h⟩).trans h⟩
  have sub3 : (sigT (back [(N, B)]) σ2).sub (sigU σ m N (σ2 B) (σ2.nl B) w w') := ⟨fun B' x h => by
    obtain ⟨rfl, h2⟩ := s3f B' x h
    exact mN.trans h2, fun b o0 h => by
    have h : σ2.ro b = some o0 := h
    have hno : ¬ ∃ x, σ2 B = some x ∧ x.1 = b := fun ⟨x, hx, e⟩ => by
      have := R2.sep B o x hB hoo hx
      rw [e, h] at this; cases this
    rcases X.rog b o0 h with k | k | ⟨B0, o1, x0, k1, k2, k3, k4⟩
    · exact sub1.ro b o0 k
    · exact (rNew b (fun q => by omega) hno).trans (R2.ro b o0 h)
    · exact (rNew b (fun q => q.2 (k4 ▸ img k3)) hno).trans (R2.ro b o0 h)⟩
  have hget := T.get_set ht
  have horg : ∀ B1 o1, tD.get B1 = some o1 → o1.here = true → (∀ x ∈ m, x.2 ≠ B1) ∧ A.t.get B1 = some o1 := fun B1 o1 h hh' => by
    by_cases hx : ∃ x ∈ m, x.2 = B1
    · obtain ⟨x, hx, e⟩ := hx
      have := hk1 x hx
      rw [e, h] at this
      cases this
      simp [AObj.here] at hh'
    · have hx' : ∀ x ∈ m, x.2 ≠ B1 := fun x h1 h2 => hx ⟨x, h1, h2⟩
      exact ⟨hx', (hk2 B1 hx') ▸ h⟩
  have hnP : ∀ B1 o1 x, tD.get B1 = some o1 → o1.here = true → σ B1 = some x → x.1 < w.heap.size ∧ ¬ gvn σ m x.1 := fun B1 o1 x h hh' hx => ⟨R.lt B1 x hx, fun ⟨y, hy, z, hz, e⟩ => by
    obtain ⟨h1, h2⟩ := horg B1 o1 h hh'
    obtain ⟨o', ho', how⟩ := hown y hy
    exact R.inj y.2 B1 o' o1 z x ho' h2 how hh' (h1 y hy) hz hx e⟩
  have gOld : ∀ {b : Nat}, gvn σ m b → ∃ B0 o0 x0, A.t.get B0 = some o0 ∧ o0.own = true ∧ σ B0 = some x0 ∧ x0.1 = b := fun {b} ⟨x, hx, y, hy, e⟩ => by
    obtain ⟨o', ho', how⟩ := hown x hx
    exact ⟨x.2, o', y, ho', how, hy, e⟩
  refine ⟨v', sigU σ m N (σ2 B) (σ2.nl B) w w', rfl, (hv.move v' hVR).mono sub3, ⟨fun B1 o1 h hh => ?_, fun B1 B2 o1 o2 x1 x2 h1 h2 ho1 hh2 hne hx1 hx2 => ?_, fun B1 x h => ?_, fun B1 h => ?_, fun b o1 h => ?_, fun B1 o1 x h ho1 hx => ?_, fun B1 h => ?_⟩,
    ⟨fun B1 h => mO B1 (by omega), (by show A.next ≤ N + 1; omega), X.size, fun b hb hn => hold b hb fun hgv => ?_, fun B1 o1 x h ho1 hx => ?_, fun B1 o1 x h ho1 hx => ?_, X.os, X.tape, X.output, sub1.ro, fun b o1 h => ?_, fun B1 h => ?_⟩⟩
  · have h : tA.get B1 = some o1 := h
    rw [hget] at h
    by_cases e : B1 = N
    · rw [if_pos e] at h; simp only [Option.some.injEq] at h; subst h; subst e
      rcases R2.obj0 B o hB (by rw [← ho.here]; exact hh) with ⟨b, d, c, g1, g2⟩ | ⟨g1, g2⟩
      · exact .inl ⟨b, d, c, mN.trans g1, (ho.move g2).mono sub3⟩
      · exact .inr ⟨ho.nilOk.trans g1, .inl ⟨rfl, g2⟩⟩
    · rw [if_neg e] at h
      rcases R.obj0 B1 o1 (horg B1 o1 h hh).2 hh with ⟨b, d, c, g1, g2⟩ | ⟨g1, g2⟩
      · exact .inl ⟨b, d, c, (mO B1 e).trans g1, by rw [hold b (hnP B1 o1 _ h hh g1).1 (hnP B1 o1 _ h hh g1).2]; exact g2.mono sub1⟩
      · exact .inr ⟨g1, .inr ⟨e, g2⟩⟩
  · have h1 : tA.get B1 = some o1 := h1
    have h2 : tA.get B2 = some o2 := h2
    rw [hget] at h1 h2
    by_cases e1 : B1 = N
    · have e2 : B2 ≠ N := fun e2 => hne (e1.trans e2.symm)
      rw [if_neg e2] at h2
      rw [e1, mN] at hx1
      rw [mO B2 e2] at hx2
      intro e
      exact hnew x1 hx1 (e ▸ hnP B2 o2 x2 h2 hh2 hx2)
    · rw [if_neg e1] at h1
      rw [mO B1 e1] at hx1
      by_cases e2 : B2 = N
      · rw [e2, mN] at hx2
        intro e
        exact hnew x2 hx2 (e ▸ hnP B1 o1 x1 h1 (AObj.here_of_own ho1) hx1)
      · rw [if_neg e2] at h2
        rw [mO B2 e2] at hx2
        exact R.inj B1 B2 o1 o2 x1 x2 (horg B1 o1 h1 (AObj.here_of_own ho1)).2 (horg B2 o2 h2 hh2).2 ho1 hh2 hne hx1 hx2
  · by_cases e : B1 = N
    · rw [e, mN] at h; exact R2.lt B x h
    · rw [mO B1 e] at h; exact Nat.lt_of_lt_of_le (R.lt B1 x h) X.size
  · have h : N + 1 ≤ B1 := h
    rw [mO B1 (by omega)]; exact R.fresh B1 (by omega)
  · by_cases hb : b < w.heap.size ∧ ¬ gvn σ m b
    · rw [rOld b hb] at h; rw [hold b hb.1 hb.2]; exact R.ro b o1 h
    · by_cases hx : ∃ x, σ2 B = some x ∧ x.1 = b
      · rw [rOwn b hb hx] at h; cases h
      · rw [rNew b hb hx] at h; exact h
  · have h : tA.get B1 = some o1 := h
    rw [hget] at h
    by_cases e : B1 = N
    · rw [e, mN] at hx
      exact rOwn _ (hnew x hx) ⟨x, hx, rfl⟩
    · rw [if_neg e] at h
      rw [mO B1 e] at hx
      rw [rOld _ (hnP B1 o1 x h (AObj.here_of_own ho1) hx)]
      exact R.sep B1 o1 x (horg B1 o1 h (AObj.here_of_own ho1)).2 ho1 hx
  · rcases h with ⟨rfl, h⟩ | ⟨e, h⟩
    · exact ⟨Nat.lt_succ_self _, mN.trans (R2.nl B h).2⟩
    · have := (R.nl B1 h).1
      exact ⟨by show B1 < N + 1; omega, (mO B1 e).trans (R.nl B1 h).2⟩
  · obtain ⟨B0, o0, x0, k1, k2, k3, k4⟩ := gOld hgv
    exact hn B0 o0 x0 k1 k2 k3 k4
  · have h : tA.get B1 = some o1 := h
    rw [hget] at h
    by_cases e : B1 = N
    · rw [e, mN] at hx
      rcases Nat.lt_or_ge x.1 w.heap.size with q | q
      · exact .inr (gOld (Classical.byContradiction fun hn => hnew x hx ⟨q, hn⟩))
      · exact .inl q
    · rw [if_neg e] at h; rw [mO B1 e] at hx; exact .inr ⟨B1, o1, x, (horg B1 o1 h (AObj.here_of_own ho1)).2, ho1, hx, rfl⟩
  · have h : tA.get B1 = some o1 := h
    rw [hget] at h
    by_cases e : B1 = N
    · rw [e, mN] at hx
      rcases Nat.lt_or_ge x.1 w.heap.size with q | q
      · obtain ⟨B0, o0, x0, k1, k2, k3, k4⟩ := gOld (Classical.byContradiction fun hn => hnew x hx ⟨q, hn⟩)
        exact .inr ⟨B0, o0, x0, k1, AObj.here_of_own k2, k3, k4⟩
      · exact .inl q
    · rw [if_neg e] at h; rw [mO B1 e] at hx; exact .inr ⟨B1, o1, x, (horg B1 o1 h ho1).2, ho1, hx, rfl⟩
  · by_cases hb : b < w.heap.size ∧ ¬ gvn σ m b
    · rw [rOld b hb] at h; exact .inl h
    · rcases Nat.lt_or_ge b w.heap.size with q | q
      · exact .inr (.inr (gOld (Classical.byContradiction fun hn => hb ⟨q, hn⟩)))
      · exact .inr (.inl q)
  · have e : B1 ≠ N := by omega
    exact ⟨fun h => h.elim (fun q => absurd q.1 e) (fun q => q.2), fun h => .inr ⟨e, h⟩⟩
end
end Go.AM
set_option linter.unusedVariables false
set_option linter.unusedSimpArgs false
namespace Go.AM
open Go.Shelf Go.Sort Go.Proofs
noncomputable section
def stV (ks : List (List UInt8)) : List Value := ks.map fun k => Value.string (mkBytes k)
theorem stV_len (ks : List (List UInt8)) : (stV ks).length = ks.length := List.length_map _
theorem cellsL_stV : ∀ ks : List (List UInt8), cellsL (stV ks) = stV ks
  | [] => rfl
  | k :: ks => by
    have h := cellsL_stV ks
    show (Value.string (mkBytes k)).cells.toList ++ cellsL (stV ks) = _ :: stV ks
    rw [h]; rfl
theorem rowS_holds {P : Program} {σ : Sig} {A : AH} {w : World} (R : Rel P σ A w) {B b d c : Nat} {els tl : List Value} {e : TypeId} (hB : A.t.get B = some (.gro els tl e)) (h3 : P.cellsOf e = 1) {ks : List (List UInt8)} (hE : els ++ tl = stV ks) (hσ : σ B = some (b, d, c)) :
    Holds encStr w b (d + 0) ks.toArray := by
  obtain ⟨c', l0, h0, g1, g2, g3, g4, g5, g6⟩ := R.at hB rfl hσ
  rw [hE] at g3 g4 g6
  rw [cellsL_stV] at g3
  have cell : ∀ j, j < ks.length → c'[d + j]? = some (Value.string (mkBytes (ks.getD j []))) := fun j hj => by
    obtain ⟨v', a1, a2⟩ := g3 j (Value.string (mkBytes (ks.getD j []))) (by rw [stV, List.getElem?_map, List.getElem?_eq_getElem hj, List.getD_eq_getElem?_getD, List.getElem?_eq_getElem hj]; rfl)
    cases a2
    exact a1
  intro j hj
  have hj : j < ks.length := by simpa using hj
  have e1 : ks.toArray[j]! = ks.getD j [] := by
    rw [getElem!_pos _ j (by simpa using hj), List.getElem_toArray, List.getD_eq_getElem?_getD, List.getElem?_eq_getElem hj]; rfl
  refine ⟨?_, ?_⟩
  · rw [e1]
    simp only [World.cell?, g1, Nat.add_zero, Option.isSome_none, Bool.false_eq_true, if_false]
    exact cell j hj
  · have hj2 := (Array.getElem?_eq_some_iff.1 (cell j hj)).1
    have := g2 (d + j) hj2
    simp only [World.frozen?, g1, Nat.add_zero]
    simpa using this
theorem rowS_put {P : Program} {σ : Sig} {A : AH} {w : World} (R : Rel P σ A w) {B b d c : Nat} {els tl : List Value} {e : TypeId} (hB : A.t.get B = some (.gro els tl e)) (h3 : P.cellsOf e = 1) {ks zs : List (List UInt8)} (hE : els ++ tl = stV ks) (hσ : σ B = some (b, d, c)) {t' : T AObj} (ht : T.set FU A.t B (.gro (stV zs) [] e) = some t') (hl : zs.length = ks.length) (nn : Nat) :
    Rel P σ ⟨t', A.next⟩ (putRow encStr (Sort.ahead w nn) b (d + 0) zs.toArray) ∧ Ext σ A w σ ⟨t', A.next⟩ (putRow encStr (Sort.ahead w nn) b (d + 0) zs.toArray) := by
  obtain ⟨c', l0, h0, g1, g2, g3, g4, g5, g6⟩ := R.at hB rfl hσ
  rw [hE] at g3 g4 g6
  rw [h3] at g4 g5
  rw [cellsL_stV] at g3
  rw [stV_len] at g6
  have cell : ∀ j, j < ks.length → c'[d + j]? = some (Value.string (mkBytes (ks.getD j []))) := fun j hj => by
    obtain ⟨v', a1, a2⟩ := g3 j (Value.string (mkBytes (ks.getD j []))) (by rw [stV, List.getElem?_map, List.getElem?_eq_getElem hj, List.getD_eq_getElem?_getD, List.getElem?_eq_getElem hj]; rfl)
    cases a2
    exact a1
  have hw1 : ∀ b', (putRow encStr (Sort.ahead w nn) b (d + 0) zs.toArray).heap[b']? = if b = b' then (w.heap[b']?).map (onCells (Go.Sort.putCells encStr (d + 0) zs.toArray)) else w.heap[b']? := fun b' => by
    simp only [putRow, mapBlock, Array.getElem?_modify, Sort.ahead]
  have hsz1 : (putRow encStr (Sort.ahead w nn) b (d + 0) zs.toArray).heap.size = w.heap.size := by rw [size_putRow]; rfl
  have hne1 : ∀ b', b' ≠ b → (putRow encStr (Sort.ahead w nn) b (d + 0) zs.toArray).heap[b']? = w.heap[b']? := fun b' h => by rw [hw1, if_neg (fun e => h e.symm)]
  refine ⟨?_, Ext.upd hB rfl hσ ht hsz1 hne1 rfl rfl rfl⟩
  refine R.upd hB rfl hσ ht rfl hsz1 hne1 ?_
  rw [hw1, if_pos rfl, g1]
  have hsz : (Go.Sort.putCells encStr (d + 0) zs.toArray c').size = c'.size := by simp [Go.Sort.putCells]
  refine ⟨_, l0, h0, rfl, fun i hi => g2 i (by rwa [hsz] at hi), fun i v hv => ?_, fun x hx => ?_, by rw [hsz, h3]; exact g5, by simp [stV_len, hl]; exact g6⟩
  · rw [List.append_nil, cellsL_stV, stV, List.getElem?_map] at hv
    have hi : i < zs.length := by
      rcases Nat.lt_or_ge i zs.length with h | h
      · exact h
      · rw [List.getElem?_eq_none h] at hv; cases hv
    rw [List.getElem?_eq_getElem hi] at hv
    simp only [Option.map_some, Option.some.injEq] at hv
    subst hv
    refine ⟨.string (mkBytes zs[i]), ?_, .string _⟩
    simp only [Go.Sort.putCells, Array.getElem?_mapIdx, cell i (by omega), Option.map_some, Nat.add_zero]
    rw [if_pos ⟨by omega, by simpa using by omega⟩, show d + i - d = i by omega, getElem!_pos _ i (by simpa using hi), List.getElem_toArray]
    rfl
  · rw [List.append_nil] at hx
    obtain ⟨z, _, rfl⟩ := List.mem_map.1 hx
    rw [h3]; rfl
theorem rowS_none {P : Program} {σ : Sig} {A : AH} {w : World} (R : Rel P σ A w) {B : Nat} {els tl : List Value} {e : TypeId} (hB : A.t.get B = some (.gro els tl e)) {t' : T AObj} (ht : T.set FU A.t B (.gro [] [] e) = some t') :
    Rel P σ ⟨t', A.next⟩ w ∧ Ext σ A w σ ⟨t', A.next⟩ w :=
  R.retell hB ht rfl rfl rfl fun b d c hor => by
    obtain ⟨c', lo, hi, g1, g2, g3, g4, g5, g6⟩ := hor
    exact ⟨c', lo, hi, g1, g2, fun i v hv => by simp [cellsL] at hv, fun x hx => by simp at hx, g5, by simp⟩
def sortSR (ts : TypeId) (srt : List Value → List Value) : RunF := fun args A => match args with
  | [.slice (some ⟨B, 0, none⟩) n m] => (match A.t.get B with
    | some (.gro els tl e) => bif Nat.beq m (unk + 3 + 1) && Nat.beq e ts then (match T.set FU A.t B (.gro (srt (glue els tl)) [] e) with
      | some t' => some (some (∃ ks : List (List UInt8), glue els tl = stV ks ∧ n = ks.length ∧ ks.length < 4611686018427387904), .tuple ⟨[]⟩, ⟨t', A.next⟩)
      | none => none) else none
    | _ => none)
  | _ => none
def sortS (l : List (List UInt8)) : List (List UInt8) := l.mergeSort fun x y => decide (x ≤ y)
theorem sortSR_ok {E : Env} {ρ : Ren} (Ly : Proofs.Lays.n190 E.P ρ) {f : FuncId} (hf : ρ.f 190 = f) {ts : TypeId} (h3 : E.P.cellsOf ts = 1) {srt : List Value → List Value} (hs : ∀ ks, srt (stV ks) = stV (sortS ks)) :
    ∀ args A p v A', sortSR ts srt args A = some (p, v, A') → PH p → CallAt E f args A v A' := by
  intro args A p v A' hr hp
  subst hf
  unfold sortSR at hr
  split at hr
  · rename_i B n m
    split at hr
    · rename_i els tl e hB
      cases hb : Nat.beq m (unk + 3 + 1) && Nat.beq e ts with
      | false => rw [hb] at hr; cases hr
      | true =>
        rw [hb] at hr
        simp only [cond_true] at hr
        simp only [Bool.and_eq_true, Nat.beq_eq] at hb
        obtain ⟨hm, rfl⟩ := hb
        split at hr
        · rename_i t' ht
          simp only [Option.some.injEq, Prod.mk.injEq] at hr
          obtain ⟨rfl, rfl, rfl⟩ := hr
          obtain ⟨ks, hk, hn, hlt⟩ : ∃ ks : List (List UInt8), glue els tl = stV ks ∧ n = ks.length ∧ ks.length < 4611686018427387904 := hp
          intro σ w args' R hg ha
          have hG : isG m = true := by rw [isG_iff, hm]; omega
          have hgs : gsz m = 1 := by rw [hm]; exact gsz_mk (by decide)
          rw [hk, hs] at ht
          have hE : els ++ tl = stV ks := by rw [← glue_eq]; exact hk
          have hsl : (sortS ks).length = ks.length := List.length_mergeSort _
          cases ha with
          | cons hx ht2 =>
          cases ht2
          rename_i y
          rcases gs_cases hx hG with ⟨e0, a, rfl⟩ | ⟨b, d, c, lo, k, hσ, rfl, hnk, hc, eo⟩
          · have hk0 : ks = [] := List.eq_nil_of_length_eq_zero (by omega)
            subst hk0
            refine (Proofs.Any.slices_Sort_string_none Ly a 0 w).mono fun en w' he => ?_
            obtain ⟨rfl, rfl⟩ := he
            obtain ⟨R2, X2⟩ := rowS_none R hB (by simpa [sortS, stV] using ht)
            exact ⟨_, σ, rfl, .tuple .nil, R2, X2⟩
          · have hlo : lo = 0 := by rw [hgs] at eo; omega
            subst hlo
            subst hn
            refine (Proofs.Any.slices_Sort_string Ly b (d + 0) k ks w (rowS_holds R hB h3 hE hσ) (R.lt B _ hσ) hlt).mono fun en w' he => ?_
            obtain ⟨rfl, nn, os, rfl⟩ := he
            obtain ⟨R2, X2⟩ := rowS_put R hB h3 hE hσ ht hsl nn
            have hold : ∀ b', b' < (putRow encStr (Sort.ahead w nn) b (d + 0) (sortS ks).toArray).heap.size → (grow (putRow encStr (Sort.ahead w nn) b (d + 0) (sortS ks).toArray) os).heap[b']? = (putRow encStr (Sort.ahead w nn) b (d + 0) (sortS ks).toArray).heap[b']? := fun b' h => heap_grow_old _ _ h
            have hle : (putRow encStr (Sort.ahead w nn) b (d + 0) (sortS ks).toArray).heap.size ≤ (grow (putRow encStr (Sort.ahead w nn) b (d + 0) (sortS ks).toArray) os).heap.size := by rw [size_grow]; omega
            exact ⟨_, σ, rfl, .tuple .nil, Rel.more R2 hold hle, X2.trans (Ext.more hold hle rfl rfl rfl)⟩
        · cases hr
    · cases hr
  · cases hr
def cmpS (l : List (List UInt8)) : List (List UInt8) := Lib.compact l ++ List.replicate (l.length - (Lib.compact l).length) []
def cmpSR (ts : TypeId) (cmp cpt : List Value → List Value) : RunF := fun args A => match args with
  | [.slice (some ⟨B, 0, none⟩) n m] => (match A.t.get B with
    | some (.gro els tl e) => bif Nat.beq m (unk + 3 + 1) && Nat.beq e ts then (match T.set FU A.t B (.gro (cmp (glue els tl)) [] e) with
      | some t' => some (some (∃ ks : List (List UInt8), glue els tl = stV ks ∧ n = ks.length ∧ ks.length < 4611686018427387904), .slice (some ⟨B, 0, none⟩) (cpt (glue els tl)).length m, ⟨t', A.next⟩)
      | none => none) else none
    | _ => none)
  | _ => none
theorem compact_le (l : List (List UInt8)) : (Lib.compact l).length ≤ l.length := by
  unfold Lib.compact Lib.compactUpTo
  rw [List.length_map]
  exact Nat.le_trans (List.length_filter_le _ _) (by simp)
theorem cmpSR_ok {E : Env} {ρ : Ren} (Ly : Proofs.Lays.n194 E.P ρ) {f : FuncId} (hf : ρ.f 194 = f) {ts : TypeId} (h3 : E.P.cellsOf ts = 1) {cmp cpt : List Value → List Value} (hs : ∀ ks, cmp (stV ks) = stV (cmpS ks)) (hs2 : ∀ ks, cpt (stV ks) = stV (Lib.compact ks)) :
    ∀ args A p v A', cmpSR ts cmp cpt args A = some (p, v, A') → PH p → CallAt E f args A v A' := by
  intro args A p v A' hr hp
  subst hf
  unfold cmpSR at hr
  split at hr
  · rename_i B n m
    split at hr
    · rename_i els tl e hB
      cases hb : Nat.beq m (unk + 3 + 1) && Nat.beq e ts with
      | false => rw [hb] at hr; cases hr
      | true =>
        rw [hb] at hr
        simp only [cond_true] at hr
        simp only [Bool.and_eq_true, Nat.beq_eq] at hb
        obtain ⟨hm, rfl⟩ := hb
        split at hr
        · rename_i t' ht
          simp only [Option.some.injEq, Prod.mk.injEq] at hr
          obtain ⟨rfl, rfl, rfl⟩ := hr
          obtain ⟨ks, hk, hn, hlt⟩ : ∃ ks : List (List UInt8), glue els tl = stV ks ∧ n = ks.length ∧ ks.length < 4611686018427387904 := hp
          intro σ w args' R hg ha
          have hG : isG m = true := by rw [isG_iff, hm]; omega
          have hgs : gsz m = 1 := by rw [hm]; exact gsz_mk (by decide)
          rw [hk, hs] at ht
          rw [hk, hs2, stV_len]
          have hE : els ++ tl = stV ks := by rw [← glue_eq]; exact hk
          have hcl := compact_le ks
          have hsl : (cmpS ks).length = ks.length := by unfold cmpS; rw [List.length_append, List.length_replicate]; omega
          cases ha with
          | cons hx ht2 =>
          cases ht2
          rename_i y
          rcases gs_cases hx hG with ⟨e0, a, rfl⟩ | ⟨b, d, c, lo, k, hσ, rfl, hnk, hc, eo⟩
          · have hk0 : ks = [] := List.eq_nil_of_length_eq_zero (by omega)
            subst hk0
            refine (Proofs.Any.slices_Compact_string_empty Ly a 0 w).mono fun en w' he => ?_
            obtain ⟨rfl, rfl⟩ := he
            obtain ⟨R2, X2⟩ := rowS_none R hB (by simpa [cmpS, stV, Lib.compact, Lib.compactUpTo] using ht)
            exact ⟨_, σ, rfl, VR.gs0Mk B 0 m a hG, R2, X2⟩
          · have hlo : lo = 0 := by rw [hgs] at eo; omega
            subst hlo
            subst hn
            refine (Proofs.Any.slices_Compact_string Ly b (d + 0) k ks w (rowS_holds R hB h3 hE hσ) (by omega) hnk).mono fun en w' he => ?_
            obtain ⟨rfl, nn, rfl⟩ := he
            obtain ⟨R2, X2⟩ := rowS_put R hB h3 hE hσ ht hsl nn
            exact ⟨_, σ, rfl, by have := VR.gsMk (lo := 0) (n := (Lib.compact ks).length) (k := k) hσ hG (by omega) hc; rwa [Nat.zero_mul] at this, R2, X2⟩
        · cases hr
    · cases hr
  · cases hr
def vS : Value → List UInt8
  | .string s => s.data.toList
  | _ => []
theorem vS_map (ks : List (List UInt8)) : (stV ks).map vS = ks := by
  unfold stV
  rw [List.map_map]
  exact (List.map_congr_left fun x _ => rfl).trans (List.map_id _)
def sortW (l : List Value) : List Value := stV (sortS (l.map vS))
def cmpW (l : List Value) : List Value := stV (cmpS (l.map vS))
def cptW (l : List Value) : List Value := stV (Lib.compact (l.map vS))
theorem sortW_ok (ks : List (List UInt8)) : sortW (stV ks) = stV (sortS ks) := by unfold sortW; rw [vS_map]
theorem cmpW_ok (ks : List (List UInt8)) : cmpW (stV ks) = stV (cmpS ks) := by unfold cmpW; rw [vS_map]
theorem cptW_ok (ks : List (List UInt8)) : cptW (stV ks) = stV (Lib.compact ks) := by unfold cptW; rw [vS_map]
def clipR : RunF := fun args A => match args with
  | [.slice (some ⟨B, o, none⟩) n m] => bif isG m then some (some (n < 9223372036854775808), .slice (some ⟨B, o, none⟩) n m, A) else none
  | _ => none
theorem clipR_ok {E : Env} {f : FuncId} (h : ∀ (a : Option Addr) (n k : Nat) (w : World), n ≤ k → n < 9223372036854775808 → (a = none → k = 0) → Calls E.P f #[.slice a n k] w fun e w' => e = .returned (.slice a n n) ∧ w'.heap = w.heap ∧ w'.os = w.os ∧ w'.tape = w.tape ∧ w'.output = w.output) :
    ∀ args A p v A', clipR args A = some (p, v, A') → PH p → CallAt E f args A v A' := by
  intro args A p v A' hr hp
  unfold clipR at hr
  split at hr
  · rename_i B o n m
    cases hG : isG m with
    | false => rw [hG] at hr; cases hr
    | true =>
      rw [hG] at hr
      simp only [cond_true, Option.some.injEq, Prod.mk.injEq] at hr
      obtain ⟨rfl, rfl, rfl⟩ := hr
      have hn : n < 9223372036854775808 := hp
      intro σ w args' R hg ha
      cases ha with
      | cons hx ht2 =>
      cases ht2
      rename_i y
      rcases gs_cases hx hG with ⟨e0, a, rfl⟩ | ⟨b, d, c, lo, k, hσ, rfl, hnk, hc, eo⟩
      · refine (h a 0 0 w (Nat.le_refl _) (by omega) (fun _ => rfl)).mono fun en w' he => ?_
        obtain ⟨rfl, h1, h2, h3, h4⟩ := he
        subst e0
        exact ⟨_, σ, rfl, VR.gs0Mk B o m a hG, R.more (fun b _ => by rw [h1]) (by rw [h1]; exact Nat.le_refl _), Ext.more (fun b _ => by rw [h1]) (by rw [h1]; exact Nat.le_refl _) h2 h3 h4⟩
      · refine (h _ n k w hnk hn (fun e => by cases e)).mono fun en w' he => ?_
        obtain ⟨rfl, h1, h2, h3, h4⟩ := he
        have : VR σ (.slice (some ⟨B, o, none⟩) n m) (.slice (some ⟨b, d + o, none⟩) n n) := by
          have := VR.gsMk (lo := lo) (n := n) (k := n) hσ hG (Nat.le_refl _) (by omega)
          rwa [← eo] at this
        exact ⟨_, σ, rfl, this, R.more (fun b _ => by rw [h1]) (by rw [h1]; exact Nat.le_refl _), Ext.more (fun b _ => by rw [h1]) (by rw [h1]; exact Nat.le_refl _) h2 h3 h4⟩
  · cases hr
end
end Go.AM

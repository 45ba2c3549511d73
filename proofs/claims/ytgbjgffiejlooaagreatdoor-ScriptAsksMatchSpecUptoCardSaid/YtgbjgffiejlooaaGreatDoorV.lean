/- A part of the proof. -/
import Derived.Test.YtgbjgffiejlooaaGreatDoorF
import Derived.Shelf.Strings.Builder1
import Derived.Shelf.Strings.Split
import Derived.Shelf.Strings.Replace
import Derived.Shelf.Strings.Fold
import Derived.Test.YtgbjgffiejlooaaGreatDoorC
set_option linter.unusedVariables false
set_option linter.unusedSimpArgs false
namespace Go.Proofs
open Go.Shelf Go.RowKit
variable {P : Program} {ρ : Ren}
set_option maxHeartbeats 2000000 in
set_option maxRecDepth 100000 in
theorem Any.bld_text (L : Lays.n169 P ρ) (hc : P.cellsOf (ρ.t 5) = 1) (b g cap cells : Nat) (l : List UInt8) (w : World) (h1 : w.cell? ⟨b, 1, none⟩ = some (.slice (some ⟨g, 0, none⟩) l.length cap)) (hcap : cap ≠ 0) (hsh : w.shape? g = some (ρ.t 5, cells)) (hn : l.length ≤ cells) (h0 : l ≠ []) (h63 : l.length ≤ 9223372036854775807)
 (hcell : ∀ j x, l[j]? = some x → w.cell? ((⟨g, 0, none⟩ : Addr).add j) = some (.int .u8 x.toNat)) :
 Calls P (ρ.f 169) #[.pointer (some ⟨b, 0, none⟩)] w fun e w' => e = .returned (.string ⟨l.toArray⟩) ∧ w' = w.drew.freeze ⟨g, 0, none⟩ l.length := by
 have c1 : w.drew.cell? ⟨b, 1, none⟩ = some (.slice (some ⟨g, 0, none⟩) l.length cap) := h1
 have hSD : (Builtin.unsafeSliceData_ #[(ρ.t 37)] (ρ.t 127) #[.slice (some ⟨g, 0, none⟩) l.length cap]).run P w.drew = .ok (.pointer (some ⟨g, 0, none⟩)) w.drew :=
  Lib.run_unsafeSliceData_row _ _ _ _ _ _ hcap
 have hUS : (Builtin.unsafeString_ #[(ρ.t 127), (ρ.t 3)] (ρ.t 9) #[.pointer (some ⟨g, 0, none⟩), .int .i64 l.length]).run P w.drew = .ok (.string ⟨l.toArray⟩) (w.drew.freeze ⟨g, 0, none⟩ l.length) :=
  Lib.run_unsafeString_row w.drew (ρ.t 127) (ρ.t 3) (ρ.t 9) (ρ.t 5) L.t127 hc g cells hsh l h0 hn h63 hcell
 have mixed := L.mixed
 have t72 := L.t72; have a72 := L.a72; have z72 := L.z72; have v72 := L.v72; have u72 := run_underlying L.t72
 have t70 := L.t70; have a70 := L.a70; have z70 := L.z70; have v70 := L.v70; have u70 := run_underlying L.t70
 have t37 := L.t37; have a37 := L.a37; have z37 := L.z37; have v37 := L.v37; have u37 := run_underlying L.t37
 have t127 := L.t127; have a127 := L.a127; have z127 := L.z127; have v127 := L.v127; have u127 := run_underlying L.t127
 have t3 := L.t3; have a3 := L.a3; have z3 := L.z3; have v3 := L.v3; have u3 := run_underlying L.t3
 have t9 := L.t9; have a9 := L.a9; have z9 := L.z9; have v9 := L.v9; have u9 := run_underlying L.t9
 go_enter L.f169, Body.n169_ntmps ρ
 go_wp2
 go_region_o
 all_goals (go_wp2; go_ret; exact ⟨rfl, rfl⟩)
set_option maxHeartbeats 2000000 in
set_option maxRecDepth 100000 in
theorem Any.bld_none (L : Lays.n169 P ρ) (b : Nat) (w : World) (h1 : w.cell? ⟨b, 1, none⟩ = some (.slice none 0 0)) :
 Calls P (ρ.f 169) #[.pointer (some ⟨b, 0, none⟩)] w fun e w' => e = .returned (.string ByteArray.empty) ∧ w' = w.drew := by
 have c1 : w.drew.cell? ⟨b, 1, none⟩ = some (.slice none 0 0) := h1
 have hSD : (Builtin.unsafeSliceData_ #[(ρ.t 37)] (ρ.t 127) #[.slice none 0 0]).run P w.drew = .ok (.pointer none) w.drew := rfl
 have hUS : (Builtin.unsafeString_ #[(ρ.t 127), (ρ.t 3)] (ρ.t 9) #[.pointer none, .int .i64 0]).run P w.drew = .ok (.string ByteArray.empty) w.drew :=
  Lib.run_unsafeString_none w.drew (ρ.t 127) (ρ.t 3) (ρ.t 9) none
 have mixed := L.mixed
 have t72 := L.t72; have a72 := L.a72; have z72 := L.z72; have v72 := L.v72; have u72 := run_underlying L.t72
 have t70 := L.t70; have a70 := L.a70; have z70 := L.z70; have v70 := L.v70; have u70 := run_underlying L.t70
 have t37 := L.t37; have a37 := L.a37; have z37 := L.z37; have v37 := L.v37; have u37 := run_underlying L.t37
 have t127 := L.t127; have a127 := L.a127; have z127 := L.z127; have v127 := L.v127; have u127 := run_underlying L.t127
 have t3 := L.t3; have a3 := L.a3; have z3 := L.z3; have v3 := L.v3; have u3 := run_underlying L.t3
 have t9 := L.t9; have a9 := L.a9; have z9 := L.z9; have v9 := L.v9; have u9 := run_underlying L.t9
 go_enter L.f169, Body.n169_ntmps ρ
 go_wp2
 go_region_o
 all_goals (go_wp2; go_ret; exact ⟨rfl, rfl⟩)
end Go.Proofs
namespace Go.AM
open Go.Shelf
noncomputable section
def strR (tb : TypeId) : RunF := fun args A => match args with
 | [.pointer (some ⟨B0, 0, none⟩)] => (match A.t.get B0 with
   | some (.cells [p, .slice none 0 0] _) => some (none, .string ByteArray.empty, A)
   | some (.cells [p, .slice (some ⟨B, 0, none⟩) n k] _) => (match A.t.get B, T.set FU A.t B .dead with
     | some (.cells c e), some t => bif Nat.beq k unk && Nat.beq e tb then some (some (IsB c 0 n ∧ 0 < n ∧ n ≤ 9223372036854775807), .string (aa (u8L c 0 n)), ⟨t, A.next⟩) else none
     | _, _ => none)
   | _ => none)
 | _ => none
theorem vr {E : Env} {ρ : Ren} (Ly : Proofs.Lays.n169 E.P ρ) {f : FuncId} (hf : ρ.f 169 = f) {tb : TypeId} (ht : ρ.t 5 = tb) (hc : E.P.cellsOf tb = 1) :
 ∀ args A p v A', strR tb args A = some (p, v, A') → PH p → an E f args A v A' := by
 intro args A p v A' hr hp
 subst hf
 unfold strR at hr
 split at hr
 · rename_i B0
   split at hr
   · rename_i p0 e0 hB0
     simp only [osI, Prod.mk.injEq] at hr
     obtain ⟨rfl, rfl, rfl⟩ := hr
     intro σ w args' R hg ha
     cases ha with
     | cons hx ht2 =>
     cases ht2
     cases hx with
     | ptr _ hσ =>
     rename_i b d k
     obtain ⟨c', lo, hi, hb, _, hcl, _, hd0⟩ := R.at hB0 rfl hσ
     subst hd0
     obtain ⟨v', g1, g2⟩ := hcl 1 _ rfl
     cases g2
     have h1 : w.cell? ⟨b, 1, none⟩ = some (.slice none 0 0) := by
      simp only [World.cell?, hb, Option.isSome_none, Bool.false_eq_true, if_false]
      simpa using g1
     refine (Proofs.Any.bld_none Ly b w h1).mono fun en w' he => ?_
     obtain ⟨rfl, rfl⟩ := he
     exact ⟨_, σ, rfl, .string _, Rel.more R (fun _ _ => rfl) (Nat.le_refl _), Ext.more (fun _ _ => rfl) (Nat.le_refl _) rfl rfl rfl⟩
   · rename_i p0 B n k e0 hB0
     split at hr
     · rename_i c e t hB ht2
       cases hbq : Nat.beq k unk && Nat.beq e tb with
       | false => rw [hbq] at hr; cases hr
       | true =>
         rw [hbq] at hr
         simp only [Bool.and_eq_true, Nat.beq_eq] at hbq
         obtain ⟨rfl, rfl⟩ := hbq
         simp only [cond_true, osI, Prod.mk.injEq] at hr
         obtain ⟨rfl, rfl, rfl⟩ := hr
         obtain ⟨hq, hn0, hn1⟩ : IsB c 0 n ∧ 0 < n ∧ n ≤ 9223372036854775807 := hp
         obtain ⟨bs, q1, q2, q3⟩ := iD hq
         rw [q3]
         intro σ w args' R hg ha
         cases ha with
         | cons hx hts =>
         cases hts
         cases hx with
         | ptr _ hσ0 =>
         rename_i b d k0
         obtain ⟨c', lo, hi, hb, _, hcl, _, hd0⟩ := R.at hB0 rfl hσ0
         subst hd0
         obtain ⟨v', g1, g2⟩ := hcl 1 _ rfl
         have key : ∃ g dd cc, σ B = some (g, dd, cc) ∧ n ≤ cc ∧ v' = .slice (some ⟨g, dd, none⟩) n cc := by
          generalize hu : unk = u at g2
          cases g2 with
          | slice i n' k' hσ hk => omega
          | sliceU n' hσ hn => exact ⟨_, _, _, hσ, hn, rfl⟩
          | sliceV i n' k' hσ hn => omega
          | sliceE a a' k' => omega
          | gs0 B o m a hm => omega
          | gs lo o n' k' m hσ hn hc ho hm => omega
         obtain ⟨g, dd, cc, hσ, hnc, rfl⟩ := key
         obtain ⟨c2, lo2, hi2, hb2, _, hcl2, hsz2, hd2⟩ := R.at hB rfl hσ
         subst hd2
         subst q2
         have h1 : w.cell? ⟨b, 1, none⟩ = some (.slice (some ⟨g, 0, none⟩) bs.length cc) := by
          simp only [World.cell?, hb, Option.isSome_none, Bool.false_eq_true, if_false]
          simpa using g1
         rw [hc] at hsz2
         have hcell : ∀ j x, bs[j]? = some x → w.cell? ((⟨g, 0, none⟩ : Addr).add j) = some (.int .u8 x.toNat) := by
          intro j x hx
          have hj : j < bs.length := (List.getElem?_eq_some_iff.1 hx).1
          have hcj : c[j]? = some (.int .u8 x.toNat) := by
           have : ((c.drop 0).take bs.length)[j]? = some (Value.int .u8 x.toNat) := by rw [q1]; simp [hx]
           rw [List.getElem?_take, if_pos hj, List.drop_zero] at this
           exact this
          obtain ⟨v2, k1, k2⟩ := hcl2 j _ hcj
          cases k2
          rw [aA]
          simp only [World.cell?, hb2, Option.isSome_none, Bool.false_eq_true, if_false]
          simpa using k1
         have hm0 : bs.length ≠ 0 := by omega
         refine (Proofs.Any.bld_text Ly (by rw [ht]; exact hc) b g cc c2.size bs w h1 (by omega) (by rw [ht]; simp [World.shape?, hb2]) (by omega) (by intro e; subst e; simp at hn0) hn1 hcell).mono fun en w' he => ?_
         obtain ⟨rfl, rfl⟩ := he
         refine ⟨_, σ, rfl, .string _, ?_, ?_⟩
         · refine Rel.kill R hB rfl hσ ht2 ?_ ?_
           · simp only [World.freeze, hm0, if_false, Array.size_modify]; rfl
           · intro b' hb'
             simp only [World.freeze, hm0, if_false, Array.getElem?_modify]
             rw [if_neg (fun e => hb' e.symm)]
             rfl
         · refine Ext.kill hB rfl hσ ht2 ?_ ?_ ?_ ?_ ?_
           · simp only [World.freeze, hm0, if_false, Array.size_modify]; rfl
           · intro b' hb'
             simp only [World.freeze, hm0, if_false, Array.getElem?_modify]
             rw [if_neg (fun e => hb' e.symm)]
             rfl
           all_goals (simp only [World.freeze, hm0, if_false]; rfl)
     · cases hr
   · cases hr
 · cases hr
def ixB (s : ByteArray) (c : Int) : Int := match dG c.toNat.toUInt8 s.data.toList 0 with
 | some i => (i : Int)
 | none => -1
def xIdx : ExtF := fun vs A => match vs with
 | [.string s, .int .u8 c] => some (.int .i64 (ixB s c), A)
 | _ => none
theorem uE {P : Program} {f : FuncId} (h : mE P f Extern.BytealgIndexByte.indexByte) : pT P f xIdx := by
 intro vs A v A' hx σ w vs' R hv
 refine dK h vs A v A' ?_ σ w vs' R hv
 unfold xIdx at hx
 unfold cY
 split at hx
 · rename_i s c
   rw [← hx]
   cases hf : dG c.toNat.toUInt8 s.data.toList 0 <;> simp only [ixB, hf] <;> rfl
 · cases hx
theorem gS {c : UInt8} : ∀ {l : List UInt8} {k i : Nat}, dG c l k = some i → k ≤ i ∧ ∃ x, l[i - k]? = some x ∧ x.toNat = c.toNat
 | [], k, i, h => by simp [dG] at h
 | x :: l, k, i, h => by
   unfold dG at h
   cases hb : Nat.beq x.toNat c.toNat with
   | true =>
     rw [hb] at h
     simp only [cond_true, osI] at h
     subst h
     exact ⟨Nat.le_refl _, x, by simp, Nat.eq_of_beq_eq_true hb⟩
   | false =>
     rw [hb] at h
     simp only [cond_false] at h
     obtain ⟨h1, y, h2, h3⟩ := gS h
     refine ⟨by omega, y, ?_, h3⟩
     rw [show i - k = (i - (k + 1)) + 1 by omega, List.getElem?_cons_succ]
     exact h2
theorem ixB_in {s : ByteArray} {c : Int} (h0 : 0 ≤ c) (h1 : c < 256) (h : ¬ ixB s c < 0) : ixB s c < s.size ∧ ac s (ixB s c) = c := by
  unfold ixB at h ⊢
  split at h
  · rename_i i hi
    obtain ⟨_, x, g1, g2⟩ := gS hi
    have g1 : s.data.toList[i]? = some x := g1
    have hl : i < s.data.toList.length := (List.getElem?_eq_some_iff.1 g1).1
    refine ⟨by have : s.data.toList.length = s.size := by simp
               omega, ?_⟩
    simp only [ac, Int.toNat_natCast, aI, g1]
    rw [g2]
    have : c.toNat.toUInt8.toNat = c.toNat := by
      show c.toNat % 256 = _
      exact Nat.mod_eq_of_lt (by omega)
    rw [this]; omega
  · exact absurd (by decide) h
def bAt (s : ByteArray) (i : Nat) : UInt8 := s.data.toList.getD i 0
theorem bk {s : ByteArray} {i : Nat} (h : i < s.size) : ac s (i : Int) = ((bAt s i).toNat : Int) := by
  have hl : i < s.data.toList.length := by have : s.data.toList.length = s.size := by simp
                                           omega
  simp only [ac, Int.toNat_natCast, aI, List.getElem?_eq_getElem hl, bAt, List.getD_eq_getElem?_getD, Option.getD_some]
theorem dO (s : ByteArray) (a b : Nat) : (subB s a b).data.toList = (s.data.toList.drop a).take (b - a) := by simp [subB, aa]
theorem bD {s : ByteArray} {a b : Nat} (h : a ≤ b) (hb : b ≤ s.size) : (subB s a b).size = b - a := by
 have h1 : (subB s a b).data.toList.length = (subB s a b).size := by simp
 have h2 : s.data.toList.length = s.size := by simp
 rw [← h1, dO, List.length_take, List.length_drop]; omega
theorem gY {s : ByteArray} {a b j : Nat} (h : a + j < b) (hb : b ≤ s.size) : ac (subB s a b) (j : Int) = ac s ((a + j : Nat) : Int) := by
 simp only [ac, Int.toNat_natCast, aI, dO, List.getElem?_take, List.getElem?_drop]
 rw [if_pos (by omega)]
end
end Go.AM
namespace Go.AM
noncomputable section
open Classical in
open Classical in
end
end Go.AM
namespace Go.AM
noncomputable section
def stV (ks : List (List UInt8)) : List Value := ks.map fun k => Value.string (aa k)
theorem ny (ks : List (List UInt8)) : (stV ks).length = ks.length := List.length_map _
theorem db : ∀ ks : List (List UInt8), ao (stV ks) = stV ks
 | [] => rfl
 | k :: ks => by
   have h := db ks
   show (Value.string (aa k)).cells.toList ++ ao (stV ks) = _ :: stV ks
   rw [h]; rfl
end
end Go.AM
namespace Go.Proofs
open Go.Shelf Go.RowKit Go.Lib
variable {P : Program} {ρ : Ren}
set_option maxHeartbeats 1000000 in
theorem Any.split_byte (L : Lays.n146 P ρ) (hi9 : (P.info? (ρ.t 9)).map (fun i => (i.zero, i.size, i.bytes)) = some (some (.string ByteArray.empty), 1, 16)) (s : ByteArray) (c0 : UInt8) (w : World)
 (hs : s.size < 4294967281) :
 Calls P (ρ.f 146) #[.string s, .string ⟨#[c0]⟩] w fun e w' =>
  e = .returned (.slice (some ⟨w.heap.size, 0, none⟩) (Lib.countB s ⟨#[c0]⟩ + 1) (Lib.countB s ⟨#[c0]⟩ + 1)) ∧ w' = w.alloc (.cells ((Lib.splitB ⟨#[c0]⟩ 0 (Lib.countB s ⟨#[c0]⟩) s).map Value.string).toArray (ρ.t 9)) := by
 have h1 : 1 ≤ (ByteArray.mk #[c0]).size := Nat.le_refl 1
 have hle := Lib.countB_le ⟨#[c0]⟩ h1 s.size s (Nat.le_refl _)
 have hlen := Lib.splitB_all ⟨#[c0]⟩ h1 0 _ s rfl
 have hC : Calls P (ρ.f 138) #[.string s, .string ⟨#[c0]⟩] w fun e w' => e = .returned (.int .i64 (Lib.countB s ⟨#[c0]⟩)) ∧ w' = w := by
  refine (Any.strings_Count_one { L with } s c0 w).mono fun e w' ⟨he, hw⟩ => ⟨?_, hw⟩
  rw [he]
  show _ = Ending.returned (Value.int .i64 ((Lib.count s.data.toList [c0] : Nat) : Int))
  rw [Lib.count_one]
  rfl
 have hI : ∀ (x : ByteArray) (c : Array Value), x.size ≤ s.size → Calls P (ρ.f 143) #[.string x, .string ⟨#[c0]⟩] (w.alloc (.cells c (ρ.t 9))) fun e w' => e = .returned (.int .i64 (Lib.indexB x ⟨#[c0]⟩)) ∧ w' = w.alloc (.cells c (ρ.t 9)) := fun x c hx => by
  refine (Any.strings_Index_one { L with } x c0 _).mono fun e w' ⟨he, hw⟩ => ⟨?_, hw⟩
  rw [he]
  show _ = Ending.returned (Value.int .i64 (Lib.index x.data.toList [c0]))
  rw [Lib.index_one]
 have c := Any.strings_genSplit_core { L with } hi9 s ⟨#[c0]⟩ 0 (-1) (Lib.countB s ⟨#[c0]⟩ + 1) w hs h1 (Nat.zero_le _) hI hC (by decide) (by decide) (by rw [if_pos (by decide)]; omega)
 rw [Nat.add_sub_cancel, hlen] at c
 have e2 : Lib.cellsOf (Lib.splitB ⟨#[c0]⟩ 0 (Lib.countB s ⟨#[c0]⟩) s) (Lib.countB s ⟨#[c0]⟩ + 1) = ((Lib.splitB ⟨#[c0]⟩ 0 (Lib.countB s ⟨#[c0]⟩) s).map Value.string).toArray := by rw [← hlen]; exact Lib.cellsOf_full _
 rw [e2] at c
 clear hI hC
 have t3 := L.t3; have t9 := L.t9; have t31 := L.t31
 have a3 := L.a3; have a9 := L.a9; have a31 := L.a31
 have z3 := L.z3; have v3 := L.v3; have z9 := L.z9; have v9 := L.v9; have z31 := L.z31; have v31 := L.v31
 have e221 : ∀ args w, (callFunc (ρ.f 221) args).run P w = .ok (.enter (ρ.f 221) args) w := enters_of L.f221 (by kernel_rfl) rfl
 go_enter L.f146, Body.n146_ntmps ρ
 go_wp2_with (go_at_fn (ρ.f 221); refine c.mono ?_; rintro e w' ⟨rfl, hw⟩; rw [hw])
 go_ret
 exact ⟨rfl, rfl⟩
end Go.Proofs
namespace Go.AM
open Go.Shelf Go.Proofs
noncomputable section
def rR : List Value → Option Value
 | [.string s, .string t] => some (.bool (Lib.equalFold s.data.toList t.data.toList))
 | _ => none
def ka : List Value → Option Prop
 | [.string s, .string t] => some (s.size < 4294967281 ∧ (∀ b ∈ s.data.toList, b.toNat < 128) ∧ ∀ b ∈ t.data.toList, b.toNat < 128)
 | _ => none
theorem zi {E : Env} {ρ : Ren} (Ly : Proofs.Lays.n164 E.P ρ) {f : FuncId} (hf : ρ.f 164 = f) : ∀ args A p v A', aj ka rR args A = some (p, v, A') → PH p → an E f args A v A' := fk fun args v h hp A => by
 subst hf
 unfold rR at h
 split at h
 · rename_i s t
   simp only [osI] at h
   subst h
   obtain ⟨h1, h2, h3⟩ : s.size < 4294967281 ∧ (∀ b ∈ s.data.toList, b.toNat < 128) ∧ ∀ b ∈ t.data.toList, b.toNat < 128 := hp
   intro σ w args' R hg ha
   cases ha with
   | cons hx ht2 =>
   cases ht2 with
   | cons hy ht3 =>
   cases ht3
   cases hx
   cases hy
   refine (Proofs.Any.strings_EqualFold Ly s t w h1 (fun j b hb => h2 b (List.mem_of_getElem? hb)) (fun j b hb => h3 b (List.mem_of_getElem? hb))).mono fun en w' he => ?_
   obtain ⟨rfl, rfl⟩ := he
   exact ⟨_, σ, rfl, .bool _, R, Ext.refl _ _ _⟩
 · cases h
def splX (s sep : ByteArray) : List (List UInt8) := (Lib.splitB sep 0 (Lib.countB s sep) s).map fun b => b.data.toList
def splR (ts : TypeId) : RunF := fun args A => match args with
 | [.string s, .string sep] => (match T.set FU A.t A.next (.gro (stV (splX s sep)) [] ts) with
   | some t => some (some (s.size < 4294967281 ∧ sep.size = 1), .slice (some ⟨A.next, 0, none⟩) (splX s sep).length (unk + 3 + 1), ⟨t, A.next + 1⟩)
   | none => none)
 | _ => none
theorem nz (l : List ByteArray) : stV (l.map fun b => b.data.toList) = l.map Value.string := by
 unfold stV
 rw [List.map_map]
 refine List.map_congr_left fun b _ => ?_
 show Value.string (aa b.data.toList) = Value.string b
 congr 1
theorem vF {E : Env} {ρ : Ren} (Ly : Proofs.Lays.n146 E.P ρ) {f : FuncId} (hf : ρ.f 146 = f) {ts : TypeId} (ht : ρ.t 9 = ts) (hi9 : (E.P.info? (ρ.t 9)).map (fun i => (i.zero, i.size, i.bytes)) = some (some (.string ByteArray.empty), 1, 16)) (h1 : E.P.cellsOf ts = 1) : ∀ args A p v A', splR ts args A = some (p, v, A') → PH p → an E f args A v A' := by
 intro args A p v A' hr hp
 subst hf
 unfold splR at hr
 split at hr
 · rename_i s sep
   split at hr
   · rename_i t2 ht2
     simp only [osI, Prod.mk.injEq] at hr
     obtain ⟨rfl, rfl, rfl⟩ := hr
     obtain ⟨hs, hsep⟩ : s.size < 4294967281 ∧ sep.size = 1 := hp
     obtain ⟨c0, rfl⟩ := Lib.one_byte sep hsep
     intro σ w args' R hg ha
     cases ha with
     | cons hx hts =>
     cases hts with
     | cons hy hts2 =>
     cases hts2
     cases hx
     cases hy
     refine (Proofs.Any.split_byte Ly hi9 s c0 w hs).mono fun en w' he => ?_
     obtain ⟨rfl, rfl⟩ := he
     have hlen : (splX s ⟨#[c0]⟩).length = Lib.countB s ⟨#[c0]⟩ + 1 := by
      unfold splX; rw [List.length_map]; exact Lib.splitB_all ⟨#[c0]⟩ (Nat.le_refl 1) 0 _ s rfl
     have hcells : stV (splX s ⟨#[c0]⟩) = (Lib.splitB ⟨#[c0]⟩ 0 (Lib.countB s ⟨#[c0]⟩) s).map Value.string := nz _
     have hid : σ A.next = none := R.fresh _ (Nat.le_refl _)
     have hor : OR E.P (upd σ A.next (w.heap.size, 0, Lib.countB s ⟨#[c0]⟩ + 1)) (some (.cells ((Lib.splitB ⟨#[c0]⟩ 0 (Lib.countB s ⟨#[c0]⟩) s).map Value.string).toArray (ρ.t 9))) 0 (Lib.countB s ⟨#[c0]⟩ + 1) (.gro (stV (splX s ⟨#[c0]⟩)) [] ts) := by
      refine ⟨_, 0, 0, by rw [ht], fun i _ h => by omega, fun i v hv => ?_, fun x hx => ?_, ?_, ?_⟩
      · rw [List.append_nil, db, hcells, List.getElem?_map] at hv
        cases hq : (Lib.splitB ⟨#[c0]⟩ 0 (Lib.countB s ⟨#[c0]⟩) s)[i]? with
        | none => rw [hq] at hv; cases hv
        | some q =>
          rw [hq] at hv
          simp only [Option.map_some, osI] at hv
          subst hv
          exact ⟨.string q, by simp [hq], .string _⟩
      · rw [List.append_nil] at hx
        obtain ⟨z, _, rfl⟩ := List.mem_map.1 hx
        rw [h1]; rfl
      · rw [h1]
        have := Lib.splitB_all ⟨#[c0]⟩ (Nat.le_refl 1) 0 _ s rfl
        simp [this]
      · rw [List.append_nil, ny, hlen]; exact Nat.le_refl _
     have R2 := R.alloc ht2 hid (Nat.lt_succ_self _) (Nat.le_succ _) hor (w' := w.alloc (.cells ((Lib.splitB ⟨#[c0]⟩ 0 (Lib.countB s ⟨#[c0]⟩) s).map Value.string).toArray (ρ.t 9))) rfl
     have X2 : Ext σ A w (upd σ A.next (w.heap.size, 0, Lib.countB s ⟨#[c0]⟩ + 1)) ⟨t2, A.next + 1⟩ (w.alloc (.cells ((Lib.splitB ⟨#[c0]⟩ 0 (Lib.countB s ⟨#[c0]⟩) s).map Value.string).toArray (ρ.t 9))) := Ext.alloc R ht2 (Nat.le_succ _) rfl rfl rfl rfl
     refine ⟨_, _, rfl, ?_, R2, X2⟩
     rw [hlen]
     have := VR.gs (σ := upd σ A.next (w.heap.size, 0, Lib.countB s ⟨#[c0]⟩ + 1)) (B := A.next) (b := w.heap.size) (d := 0) (c := Lib.countB s ⟨#[c0]⟩ + 1) 0 0 (Lib.countB s ⟨#[c0]⟩ + 1) (Lib.countB s ⟨#[c0]⟩ + 1) (unk + 3 + 1) aQ (Nat.le_refl _) (by omega) (by omega) (by omega)
     simpa using this
   · cases hr
 · cases hr
def repX : List Value → Option Value
 | [.string s, .string old, .string new] => some (.string (aa (Lib.replaceAll s.data.toList old.data.toList new.data.toList)))
 | _ => none
def nK : List Value → Option Prop
 | [.string s, .string old, .string new] => some (s.size < 4294967281 ∧ 1 ≤ old.size ∧ s.size + Lib.countB s old * new.size ≤ 140737488355328)
 | _ => none
theorem rep_ok {E : Env} {ρ : Ren} (Ly : Proofs.Lays.n155 E.P ρ) (X : Proofs.Builder.Extra E.P ρ) {f : FuncId} (hf : ρ.f 155 = f) {m : Int} (hgl : E.gl (ρ.g 1) = some [.int .i64 m]) : ∀ args A p v A', aj nK repX args A = some (p, v, A') → PH p → an E f args A v A' := fk fun args v h hp A => by
 subst hf
 unfold repX at h
 split at h
 · rename_i s old new
   simp only [osI] at h
   subst h
   obtain ⟨h1, h2, h3⟩ : s.size < 4294967281 ∧ 1 ≤ old.size ∧ s.size + Lib.countB s old * new.size ≤ 140737488355328 := hp
   intro σ w args' R hg ha
   cases ha with
   | cons hx ht2 =>
   cases ht2 with
   | cons hy ht3 =>
   cases ht3 with
   | cons hz ht4 =>
   cases ht4
   cases hx
   cases hy
   cases hz
   have hm : w.cell? ⟨ρ.g 1, 0, none⟩ = some (.int .i64 m) := by
    obtain ⟨_, _, c, e, fz, q1, q2⟩ := hg _ _ hgl
    have hro := R.ro _ _ q1
    have h0 : c.toList[0]? = some (.int .i64 m) := by
     have := congrArg (fun l => l[0]?) q2
     simpa using this
    simp only [World.cell?, hro, Option.isSome_none, Bool.false_eq_true, if_false]
    simpa using h0
   refine (Proofs.Any.strings_ReplaceAll Ly X s old new m w h1 hm h2 h3).mono fun en w' he => ?_
   obtain ⟨rfl, k1, k2, k3, k4, k5⟩ := he
   exact ⟨_, σ, rfl, .string _, R.more k5 k4, Ext.more k5 k4 k1 k2 k3⟩
 · cases h
def mp (ts : TypeId) (pre : List (List UInt8) → Prop) (val : List Value → Option Value) : RunF := fun args A => match args with
 | [.slice (some ⟨B, 0, none⟩) n m] => (match A.t.get B with
   | some (.gro els tl e) => bif Nat.beq m (unk + 3 + 1) && Nat.beq e ts then (match val (glue els tl) with
     | some v => some (some (∃ ks : List (List UInt8), glue els tl = stV ks ∧ n = ks.length ∧ pre ks), v, A)
     | none => none) else none
   | _ => none)
 | _ => none
theorem kX {E : Env} {f : FuncId} {ts : TypeId} (h1 : E.P.cellsOf ts = 1) (hgl : ∀ w, Glob E (sig0 w)) {val : List Value → Option Value} {pre : List (List UInt8) → Prop}
 (h : ∀ ks v, pre ks → val (stV ks) = some v → (∀ (σ' σ : Sig) (v' : Value), VR σ' v v' → VR σ v v') ∧ Con E f (ck (one [.func (.yield 1) ⟨stV ks⟩ ⟨[]⟩] v))) :
 ∀ args A p v A', mp ts pre val args A = some (p, v, A') → PH p → an E f args A v A' := by
 intro args A p v A' hr hp
 unfold mp at hr
 split at hr
 · rename_i B n m
   split at hr
   · rename_i els tl e hB
     cases hb : Nat.beq m (unk + 3 + 1) && Nat.beq e ts with
     | false => rw [hb] at hr; cases hr
     | true =>
       rw [hb] at hr
       simp only [cond_true] at hr
       simp only [Bool.and_eq_true, Nat.beq_eq] at hb
       obtain ⟨hm, rfl⟩ := hb
       split at hr
       · rename_i v0 hv0
         simp only [osI, Prod.mk.injEq] at hr
         obtain ⟨rfl, rfl, rfl⟩ := hr
         obtain ⟨ks, hk, hn, hpre⟩ : ∃ ks : List (List UInt8), glue els tl = stV ks ∧ n = ks.length ∧ pre ks := hp
         rw [hk] at hv0
         have hE : els ++ tl = stV ks := by rw [← bR]; exact hk
         obtain ⟨hfl, hcon⟩ := h ks v0 hpre hv0
         intro σ w args' R hg ha
         have hG : isG m = true := by rw [isG_iff, hm]; omega
         have hgs : gsz m = 1 := by rw [hm]; exact tN (by decide)
         cases ha with
         | cons hx ht2 =>
         cases ht2
         rename_i y
         have hy : VR (sig0 w) (.func (.yield 1) ⟨stV ks⟩ ⟨[]⟩) y := by
          rcases br hx hG with ⟨e0, a, rfl⟩ | ⟨b, d, c, lo, k, hσ, rfl, hnk, hc, eo⟩
          · have hk0 : ks = [] := List.eq_nil_of_length_eq_zero (by omega)
            subst hk0
            cases a with
            | none => exact .datN 1
            | some a => exact .datE 1 a 0
          · have hlo : lo = 0 := by rw [hgs] at eo; omega
            subst hlo
            obtain ⟨c', l0, h0, g1, g2, g3, g4, g5, g6⟩ := R.at hB rfl hσ
            rw [hE] at g3 g6
            rw [db] at g3
            have hlen := ny ks
            have hcs : VRs (sig0 w) (stV ks) ((c'.toList.drop (d + 0)).take (stV ks).length) := by
             have hget : ∀ i, i < (stV ks).length → c'[d + i]? = (stV ks)[i]? := fun i hi => by
              have hi2 : i < ks.length := by omega
              have e1 : (stV ks)[i]? = some (.string (aa ks[i])) := by rw [stV, List.getElem?_map, List.getElem?_eq_getElem hi2]; rfl
              obtain ⟨v', a1, a2⟩ := g3 i _ e1
              cases a2
              rw [a1, e1]
             have : (c'.toList.drop (d + 0)).take (stV ks).length = stV ks := by
              apply List.ext_getElem?
              intro i
              rw [List.getElem?_take]
              by_cases hi : i < (stV ks).length
              · rw [if_pos hi, List.getElem?_drop, Nat.add_zero, ← hget i hi]; simp
              · rw [if_neg hi, List.getElem?_eq_none (by omega)]
             rw [this]
             generalize ks = l
             induction l with
             | nil => exact .nil
             | cons z l ih => exact .cons (.string _) ih
            have := VR.dat (σ := sig0 w) (b := b) (o := d + 0) (k := k) (sz := 1) (e := e) (fz := (l0, h0)) (c := c') (els := stV ks) g1 (fun x hx => by obtain ⟨z, _, rfl⟩ := List.mem_map.1 hx; rfl) (by omega) (by rw [db, Nat.mul_one]; exact hcs)
            have hnl : n = (stV ks).length := by omega
            rw [hnl]; exact this
         refine (hcon [.func (.yield 1) ⟨stV ks⟩ ⟨[]⟩] ⟨.leaf, 0⟩ v0 ⟨.leaf, 0⟩ (by simp [ck, iv]) (sig0 w) w _ (rel0 E.P w) (hgl w) (.cons hy .nil)).mono fun en w' he => ?_
         obtain ⟨v', σ', rfl, k3, k4, k5⟩ := he
         have hold : ∀ b, b < w.heap.size → w'.heap[b]? = w.heap[b]? := fun b hb => k5.frame b hb fun B o x hB => by simp [T.get] at hB
         exact ⟨_, σ, rfl, hfl σ' σ v' k3, R.more hold k5.size, Ext.more hold k5.size k5.os k5.tape k5.output⟩
       · cases hr
   · cases hr
 · cases hr
end
end Go.AM
namespace Go.AM
noncomputable section
def lY (E : Env) (fn : Func) (e : TypeId) (c : List Value) (y1 y2 v : Value) (c2 : List Value) : Prop :=
 ∃ code F, fn.body = some code ∧ Nat.ble [y1, y2, ptr0].length fn.ntmps = true ∧ bK [y1, y2, ptr0] 0 .leaf = some F ∧
   W E (oneH c e) fn.ntmps code (Fin E fn fun v2 A2 => v2 = v ∧ A2.t.get 0 = some (.cells c2 e)) F (oneH c e)
theorem iL {E : Env} (ok : E.Ok) (hgl : GlOk E) {f : FuncId} {fn : Func} (hfn : E.fn f = some fn) {e : TypeId} {c c2 : List Value} {y1 y2 v : Value} (hx : ∀ x ∈ [y1, y2], HF x) (hc : ∀ x ∈ c, HF x) (hc2 : ∀ x ∈ c2, HF x) (hv : HF v)
 (hw : lY E fn e c y1 y2 v c2) {A : AH} {B : Nat} {t' : T AObj} (hB : A.t.get B = some (.cells c e)) (ht : T.set FU A.t B (.cells c2 e) = some t') : an E f [y1, y2, .pointer (some ⟨B, 0, none⟩)] A v ⟨t', A.next⟩ := by
 intro σ w args' R hg ha
 obtain ⟨code, F, hbody, hble, hframe, hW⟩ := hw
 cases ha with
 | cons hy1 ha2 =>
 cases ha2 with
 | cons hy2 ha3 =>
 cases ha3 with
 | cons hp ha4 =>
 cases ha4
 rename_i z1 z2 _
 cases hp with
 | ptr i hσ =>
 rename_i b d k
 let σ1 : Sig := ⟨fun B' => if B' = 0 then some (b, d, k) else none, σ.ro, fun _ => False⟩
 have e0 : σ1 0 = some (b, d, k) := by show (if (0 : Nat) = 0 then some (b, d, k) else none) = _; rw [if_pos rfl]
 have eq1 : ∀ B' x, σ1 B' = some x → B' = 0 ∧ x = (b, d, k) := fun B' x h => by
  have h : (if B' = 0 then some (b, d, k) else none) = some x := h
  by_cases h0 : B' = 0
  · rw [if_pos h0] at h; cases h; exact ⟨h0, rfl⟩
  · rw [if_neg h0] at h; cases h
 obtain ⟨b1, d1, k1, hσ1, hOR⟩ := R.obj B _ hB rfl
 rw [hσ] at hσ1
 cases hσ1
 have hsepB : σ.ro b = none := R.sep B _ _ hB rfl hσ
 have R1 : Rel E.P σ1 (oneH c e) w := by
  refine ⟨fun B' o h hh => ?_, fun B1 B2 o1 o2 x1 x2 h1 h2 _ _ hne => ?_, fun B' x h => ?_, fun B' h => ?_, R.ro, fun B' o x h ho hx => ?_, fun _ h => h.elim⟩
  · obtain ⟨rfl, rfl⟩ := iw h
    exact .inl ⟨b, d, k, e0, OR.cells_move (σ := σ) (σ' := σ1) (fun _ _ h => h) hc hOR⟩
  · exact absurd ((iw h1).1.trans (iw h2).1.symm) hne
  · obtain ⟨_, rfl⟩ := eq1 B' x h; exact R.lt B _ hσ
  · have h : 1 ≤ B' := h
    show (if B' = 0 then some (b, d, k) else none) = none
    rw [if_neg (by omega)]
  · obtain ⟨_, rfl⟩ := eq1 B' x hx; exact hsepB
 have ha1 : VRs σ1 [y1, y2, ptr0] [z1, z2, .pointer (some ⟨b, d + 0, none⟩)] := .cons ((hx y1 (by simp)).move (σ := σ) (σ' := σ1) (fun _ _ h => h) _ hy1) (.cons ((hx y2 (by simp)).move (σ := σ) (σ' := σ1) (fun _ _ h => h) _ hy2) (.cons (.ptr 0 e0) .nil))
 refine (gg ok hfn hbody hframe (Nat.le_of_ble_eq_true hble) hW R1 (fun g cs h => hg g cs h) ha1).mono fun en w' he => ?_
 obtain ⟨v2, v', A2, σ2, rfl, ⟨rfl, hA2⟩, hVR, R2, X⟩ := he
 have e2 : σ2 0 = some (b, d, k) := by rw [X.sig 0 (by show 0 < 1; omega)]; exact e0
 have hold : ∀ b', b' < w.heap.size → b' ≠ b → w'.heap[b']? = w.heap[b']? := fun b' hb' hne => X.frame b' hb' fun B0 o x h1 h2 h3 => by
  obtain ⟨_, rfl⟩ := eq1 B0 x h3
  exact fun e => hne e.symm
 have hro2 : ∀ b' o, σ2.ro b' = some o → (sigB σ w w').ro b' = some o := fun b' o h => by
  show (if b' < w.heap.size then σ.ro b' else w'.heap[b']?) = some o
  rcases X.rog b' o h with q | q | ⟨B0, o0, x0, q1, q2, q3, q4⟩
  · have q : σ.ro b' = some o := q
    rw [if_pos (gP (R.ro b' o q))]; exact q
  · rw [if_neg (by omega)]; exact R2.ro b' o h
  · obtain ⟨_, rfl⟩ := eq1 B0 x0 q3
    have q4 : b = b' := q4
    subst q4
    rw [R2.sep 0 _ _ hA2 rfl e2] at h
    cases h
 have hsub : σ.sub (sigB σ w w') := ⟨fun _ _ h => h, fun b' o h => by
  show (if b' < w.heap.size then σ.ro b' else w'.heap[b']?) = some o
  rw [if_pos (gP (R.ro b' o h))]; exact h⟩
 have hget : ∀ B', (⟨t', A.next⟩ : AH).t.get B' = if B' = B then some (.cells c2 e) else A.t.get B' := fun B' => T.get_set ht B'
 have horg : ∀ B' o, (⟨t', A.next⟩ : AH).t.get B' = some o → ∃ o0, A.t.get B' = some o0 ∧ o0.own = o.own ∧ o0.here = o.here := fun B' o h => by
  rw [hget] at h
  by_cases hB' : B' = B
  · subst hB'; rw [if_pos rfl] at h; cases h; exact ⟨_, hB, rfl, rfl⟩
  · rw [if_neg hB'] at h; exact ⟨o, h, rfl, rfl⟩
 refine ⟨v', sigB σ w w', rfl, hv.move hro2 v' hVR, ⟨fun B' o h hh => ?_, fun B1 B2 o1 o2 x1 x2 h1 h2 ho hh hne hx1 hx2 => ?_, fun B' x h => Nat.lt_of_lt_of_le (R.lt B' x h) X.size, R.fresh, fun b' o h => ?_, fun B' o x h ho hx => ?_, R.nl⟩,
  ⟨fun _ _ => rfl, Nat.le_refl _, X.size, fun b' hb' hn => hold b' hb' (fun e => hn B _ _ hB rfl hσ e.symm), fun B' o x h ho hx => ?_, fun B' o x h ho hx => ?_, X.os, X.tape, X.output, fun b' o h => hsub.ro b' o h, fun b' o h => ?_, fun _ _ => Iff.rfl⟩⟩
 · rw [hget] at h
   by_cases hB' : B' = B
   · subst hB'
     rw [if_pos rfl] at h
     cases h
     obtain ⟨b3, d3, k3, q1, q2⟩ := R2.obj 0 _ hA2 rfl
     rw [e2] at q1
     cases q1
     exact .inl ⟨b, d, k, hσ, q2.cells_move hro2 hc2⟩
   · rw [if_neg hB'] at h
     rcases R.obj0 B' o h hh with ⟨b3, d3, k3, q1, q2⟩ | q
     rotate_left
     · exact .inr q
     have hne : b3 ≠ b := fun e => R.inj B B' _ o _ _ hB h rfl hh (fun e => hB' e.symm) hσ q1 e.symm
     exact .inl ⟨b3, d3, k3, q1, by rw [hold b3 (R.lt B' _ q1) hne]; exact q2.mono hsub⟩
 · obtain ⟨p1, a1, a2, a3⟩ := horg B1 o1 h1
   obtain ⟨p2, c1, c2', c3⟩ := horg B2 o2 h2
   exact R.inj B1 B2 p1 p2 x1 x2 a1 c1 (a2.trans ho) (c3.trans hh) hne hx1 hx2
 · have h : (if b' < w.heap.size then σ.ro b' else w'.heap[b']?) = some o := h
   by_cases hlt : b' < w.heap.size
   · rw [if_pos hlt] at h
     rw [hold b' hlt (fun e => by subst e; rw [hsepB] at h; cases h)]
     exact R.ro b' o h
   · rw [if_neg hlt] at h; exact h
 · obtain ⟨p1, a1, a2, _⟩ := horg B' o h
   show (if x.1 < w.heap.size then σ.ro x.1 else w'.heap[x.1]?) = none
   rw [if_pos (R.lt B' x hx)]
   exact R.sep B' p1 x a1 (a2.trans ho) hx
 · obtain ⟨p1, a1, a2, _⟩ := horg B' o h
   exact .inr ⟨B', p1, x, a1, a2.trans ho, hx, rfl⟩
 · obtain ⟨p1, a1, _, a3⟩ := horg B' o h
   exact .inr ⟨B', p1, x, a1, a3.trans ho, hx, rfl⟩
 · have h : (if b' < w.heap.size then σ.ro b' else w'.heap[b']?) = some o := h
   by_cases hlt : b' < w.heap.size
   · rw [if_pos hlt] at h; exact .inl h
   · exact .inr (.inl (by omega))
def iM (e : TypeId) (f : List Value → Value → Value → Option (Option Prop × Value × List Value)) : RunF := fun args A => match args with
 | [y1, y2, .pointer (some ⟨B, 0, none⟩)] => (match A.t.get B with
   | some (.cells c e') => bif Nat.beq e' e then (match f c y1 y2 with
     | some r => (match T.set FU A.t B (.cells r.2.2 e) with | some t' => some (r.1, r.2.1, ⟨t', A.next⟩) | none => none)
     | none => none) else none
   | _ => none)
 | _ => none
theorem m5 {E : Env} (ok : E.Ok) (hgl : GlOk E) {g : FuncId} {fn : Func} (hfn : E.fn g = some fn) {e : TypeId} {f : List Value → Value → Value → Option (Option Prop × Value × List Value)}
 (h : ∀ c y1 y2 p v c2, f c y1 y2 = some (p, v, c2) → PH p → (∀ x ∈ [y1, y2], HF x) ∧ (∀ x ∈ c, HF x) ∧ (∀ x ∈ c2, HF x) ∧ HF v ∧ lY E fn e c y1 y2 v c2) : ∀ args A p v A', iM e f args A = some (p, v, A') → PH p → an E g args A v A' := by
 intro args A p v A' hr hp
 unfold iM at hr
 split at hr
 · rename_i y1 y2 B
   split at hr
   · rename_i c e' hB
     cases he : Nat.beq e' e with
     | false => rw [he] at hr; cases hr
     | true =>
       rw [he] at hr
       obtain rfl := Nat.eq_of_beq_eq_true he
       simp only [cond_true] at hr
       split at hr
       · rename_i r hf
         split at hr
         · rename_i t' ht
           simp only [osI, Prod.mk.injEq] at hr
           obtain ⟨rfl, rfl, rfl⟩ := hr
           obtain ⟨h1, h2, h3, h4, h5⟩ := h c y1 y2 r.1 r.2.1 r.2.2 hf hp
           exact iL ok hgl hfn h1 h2 h3 h4 h5 hB ht
         · cases hr
       · cases hr
   · cases hr
 · cases hr
def np (X : SX) (d : Nat) (fn : Func) (e : TypeId) (c : List Value) (y1 y2 : Value) (K : KV) : Prop := match fn.body with
 | some code => mZ X (inlN X d) (oneH c e) fn code [y1, y2, ptr0] K
 | none => False
theorem jJ {X : SX} (hX : X.Ok) {d : Nat} {fn : Func} {e : TypeId} {c : List Value} {y1 y2 v : Value} {c2 : List Value} (h : np X d fn e c y1 y2 (rp e fun v' c' => v' = v ∧ c' = c2)) : lY X.E fn e c y1 y2 v c2 := by
 unfold np at h
 split at h
 · rename_i code hc
   unfold mZ at h
   split at h
   · rename_i F hF
     cases hb : Nat.ble [y1, y2, ptr0].length fn.ntmps with
     | false => rw [hb] at h; exact h.elim
     | true =>
       rw [hb] at h
       refine ⟨code, F, hc, hb, hF, (jI hX (d := d) h).mono fun ex F' A' q => ?_⟩
       obtain ⟨q1, v2, q2, q3⟩ := gh q
       obtain ⟨c3, h3, rfl, rfl⟩ := rn q3
       exact ⟨q1, _, q2, rfl, h3⟩
   · exact h.elim
 · exact h.elim
theorem ar {X : SX} (hX : X.Ok) {d : Nat} {fn : Func} {args : List Value} {A1 : AH} {v : Value} (hv : HF v) (h : ay X d fn args A1 (au (fun v2 => v2 = v) (fun v2 A2 => Frz A2 v2 v))) : bt X.E fn args A1 v := by
 unfold ay at h
 split at h
 · rename_i c hc
   split at h
   · rename_i F hF
     cases hb : Nat.ble args.length fn.ntmps with
     | false => rw [hb] at h; exact h.elim
     | true =>
       rw [hb] at h
       refine ⟨c, F, hc, hb, hF, (jI hX (d := d) h).mono fun ex F' A' q => ?_⟩
       obtain ⟨q1, v2, q2, q3⟩ := gh q
       refine ⟨q1, v2, q2, ?_⟩
       rcases lr q3 with q3 | q3
       · rw [q3]; exact .same hv
       · exact q3
   · exact h.elim
 · exact h.elim
end
end Go.AM
namespace Go.AM
open Go.ChangeShapes
structure Bk where
 f : {H : Type} → DataW H → Nat
 fs : {H : Type} → List (DataW H) → Nat
 str : ∀ {H : Type} (l : List UInt8), f (DataW.lit (H := H) (.string l)) = l.length + 1
 agg : ∀ {H : Type} (l : List (DataW H)), f (DataW.agg l) = fs l + 1
 slice : ∀ {H : Type} (u v : List (DataW H)), f (DataW.slice u v) = fs u + fs v + 1
 nil : ∀ {H : Type}, f (DataW.nil (H := H)) = 1
 none : ∀ {H : Type}, fs ([] : List (DataW H)) = 0
 cons : ∀ {H : Type} (d : DataW H) (l : List (DataW H)), fs (d :: l) = f d + fs l
def OpensK (B : Bk) (P : Program) (t : TypeId) (R : Nat → List Value → Prop) (k : Nat) : Prop := ∀ (H : Type) (enc : TypeId × Value → H) (w : World) (base : Nat) (sp : Nat → Bool) (held : Bool) (fuel : Nat) (cs : List Value) (x : DataW H × List MemPlace),
 fuel ≤ k → DataW.trod enc P w base sp held fuel t cs = some x → ∃ acs, R (B.f x.1) acs ∧ VRs (sig0 w) acs cs
theorem OpensK.le {B : Bk} {P : Program} {t : TypeId} {R : Nat → List Value → Prop} {k j : Nat} (h : OpensK B P t R k) (hj : j ≤ k) : OpensK B P t R j := fun H enc w base sp held fuel cs x hf hx => h H enc w base sp held fuel cs x (by omega) hx
theorem OpensK.mono {B : Bk} {P : Program} {t : TypeId} {R S : Nat → List Value → Prop} {k : Nat} (h : OpensK B P t R k) (hS : ∀ b acs, R b acs → S b acs) : OpensK B P t S k := fun H enc w base sp held fuel cs x hf hx => by
 obtain ⟨acs, h1, h2⟩ := h H enc w base sp held fuel cs x hf hx
 exact ⟨acs, hS _ _ h1, h2⟩
theorem mt {B : Bk} {P : Program} {t : TypeId} {k : IntKind} (ht : P.underlying t = some (.int k)) (m : Nat) : OpensK B P t (fun _ acs => ∃ n, acs = [.int k n] ∧ (Lit.int k n).wf = true) m := by
 intro H enc w base sp held fuel cs x _ h
 obtain ⟨n, rfl, _, hw⟩ := DataW.trod_int ht h
 exact ⟨_, ⟨n, rfl, hw⟩, .cons (.int _ _) .nil⟩
theorem iu {B : Bk} {P : Program} {t : TypeId} (ht : P.underlying t = some .string) (m : Nat) : OpensK B P t (fun b acs => ∃ s : ByteArray, acs = [.string s] ∧ s.size < b ∧ s.size ≤ maxLen) m := by
 intro H enc w base sp held fuel cs x _ h
 obtain ⟨s, rfl, hx, hs⟩ := DataW.trod_string ht h
 refine ⟨_, ⟨s, rfl, ?_, hs⟩, .cons (.string _) .nil⟩
 rw [hx]
 have e : B.f (DataW.lit (H := H) (.string s.data.toList)) = s.data.toList.length + 1 := B.str _
 have h1 : s.data.toList.length = s.size := by simp
 show s.size < B.f (DataW.lit (H := H) (.string s.data.toList))
 omega
inductive OpensAllK (B : Bk) (P : Program) (k : Nat) : List Field → Nat → (Nat → List Value → Prop) → Prop
 | nil {o : Nat} : OpensAllK B P k [] o (fun _ acs => acs = [])
 | cons {f : Field} {fs : List Field} {o : Nat} {R S : Nat → List Value → Prop} (ho : f.offset = o) (h : OpensK B P f.type R k) (t : OpensAllK B P k fs (o + P.cellsOf f.type) S) : OpensAllK B P k (f :: fs) o (fun b acs => ∃ a c ba bc, R ba a ∧ S bc c ∧ acs = a ++ c ∧ ba + bc = b)
theorem dQ {B : Bk} {P : Program} {k : Nat} {H : Type} {enc : TypeId × Value → H} {w : World} {base : Nat} {sp : Nat → Bool} {held : Bool} {n : Nat} (hn : n ≤ k) {cs : List Value} : ∀ {fs : List Field} {o : Nat} {R : Nat → List Value → Prop} {xs : List (DataW H × List MemPlace)}, OpensAllK B P k fs o R →
 xs.length = fs.length → (∀ (i : Nat) (f : Field), fs[i]? = some f → DataW.trod enc P w base sp held n f.type ((cs.drop f.offset).take (P.cellsOf f.type)) = xs[i]?) → cs.length = o + (fs.map fun f => P.cellsOf f.type).sum → ∃ acs, R (B.fs (xs.map (·.1))) acs ∧ VRs (sig0 w) acs (cs.drop o)
 | _, o, _, [], .nil, _, _, hl => ⟨[], rfl, by
  have : cs.drop o = [] := List.drop_eq_nil_of_le (by simp at hl; omega)
  rw [this]; exact .nil⟩
 | _, o, _, x :: xs, .cons (f := f) (fs := fs) ho h t, hxl, hf, hl => by
   have h0 := hf 0 f rfl
   obtain ⟨a, ha, va⟩ := h _ enc w base sp held n _ x hn h0
   obtain ⟨b, hb, vb⟩ := dQ hn t (by simpa using hxl) (fun i g hg => hf (i + 1) g hg) (by simp only [List.map_cons, List.sum_cons] at hl; omega)
   refine ⟨a ++ b, ⟨a, b, _, _, ha, hb, rfl, (B.cons _ _).symm⟩, ?_⟩
   rw [ho] at va
   have e : cs.drop o = (cs.drop o).take (P.cellsOf f.type) ++ cs.drop (o + P.cellsOf f.type) := by
    conv => lhs; rw [← List.take_append_drop (P.cellsOf f.type) (cs.drop o)]
    rw [List.drop_drop]
   rw [e]
   exact va.append vb
 | _, o, _, [], .cons _ _ _, hxl, _, _ => by simp at hxl
theorem bq {B : Bk} {P : Program} {t : TypeId} {fs : Array Field} {R : Nat → List Value → Prop} {k : Nat} (ht : P.underlying t = some (.struct fs)) (hc : P.cellsOf t = (fs.toList.map fun f => P.cellsOf f.type).sum) (h : OpensAllK B P k fs.toList 0 R) : OpensK B P t (fun b acs => ∃ c, c + 1 = b ∧ R c acs) (k + 1) := by
 intro H enc w base sp held fuel cs x hfu hx
 obtain ⟨xs, n, rfl, hx2, hl, hn, hall⟩ := DataW.trod_struct ht hx
 obtain ⟨acs, h1, h2⟩ := dQ (B := B) (enc := enc) (w := w) (base := base) (sp := sp) (held := held) (n := n) (cs := cs) (xs := xs) (by omega) h (by rw [hn]; simp) (fun i f hf => hall i f (by simpa using hf)) (by rw [hl, hc]; simp)
 refine ⟨acs, ⟨_, ?_, h1⟩, by simpa using h2⟩
 rw [hx2]; exact (B.agg _).symm
inductive SumR {α : Type} (R : Nat → α → Prop) : Nat → List α → Prop
 | nil : SumR R 0 []
 | cons {b c : Nat} {x : α} {l : List α} (h : R b x) (t : SumR R c l) : SumR R (b + c) (x :: l)
theorem SumR.of_get {α β : Type} {R : Nat → α → Prop} {f : β → Nat} : ∀ {xs : List α} {ds : List β}, xs.length = ds.length → (∀ (i : Nat) (x : α) (d : β), xs[i]? = some x → ds[i]? = some d → R (f d) x) → SumR R (ds.map f).sum xs
 | [], [], _, _ => .nil
 | x :: xs, d :: ds, hl, h => by
   rw [List.map_cons, List.sum_cons]
   exact .cons (h 0 x d rfl rfl) (SumR.of_get (by simpa using hl) fun i y e hy he => h (i + 1) y e hy he)
 | [], _ :: _, hl, _ => by simp at hl
 | _ :: _, [], hl, _ => by simp at hl
theorem qP {P : Program} {w : World} {a : Addr} {len sz base : Nat} {α : Type} {ev : α → Value} {Q : Nat → α → Prop} (hsz : 0 < sz) (hev : ∀ x, (ev x).cells.toList.length = sz)
 (h : ∀ i, i < len → ∃ cs' x, w.cells? base (a.add (i * sz)) sz = some cs' ∧ VRs (sig0 w) (ev x).cells.toList cs' ∧ Q i x) (hlen : 0 < len) :
 ∃ (c : Array Value) (e : TypeId) (fz : Nat × Nat) (xs : List α), a.spot = none ∧ w.heap[a.block]? = some (.cells c e fz) ∧ xs.length = len ∧ VRs (sig0 w) (ao (xs.map ev)) ((c.toList.drop a.off).take (len * sz)) ∧ ∀ i x, xs[i]? = some x → Q i x := by
 have hcell : ∀ i, i < len → ∃ cs' x, (∀ j, j < sz → w.cell? ((a.add (i * sz)).add j) = cs'[j]?) ∧ cs'.length = sz ∧ VRs (sig0 w) (ev x).cells.toList cs' ∧ Q i x := fun i hi => by
  obtain ⟨cs', x, h1, h2, h3⟩ := h i hi
  obtain ⟨g1, g2, g3⟩ := World.cells?_some h1
  exact ⟨cs', x, g3, g2, h2, h3⟩
 obtain ⟨cs0, x0, g0, l0, _⟩ := hcell 0 hlen
 have hc0 : ∃ v, w.cell? a = some v := by
  have := g0 0 hsz
  simp only [Nat.zero_mul, Addr.add, if_true] at this
  exact ⟨cs0[0], by rw [this, List.getElem?_eq_getElem (by omega)]⟩
 obtain ⟨v0, hv0⟩ := hc0
 unfold World.cell? at hv0
 split at hv0
 case h_2 => cases hv0
 rename_i c e fz hb
 have hsp : a.spot = none := by
  split at hv0
  · cases hv0
  · rename_i hh; simpa using hh
 have hget : ∀ i j, i < len → j < sz → ∀ cs' : List Value, (∀ j, j < sz → w.cell? ((a.add (i * sz)).add j) = cs'[j]?) → c.toList[a.off + i * sz + j]? = cs'[j]? := fun i j hi hj cs' hcs => by
  rw [← hcs j hj]
  have e1 := sm (a := a) hsp (i * sz) j
  rw [e1]
  unfold World.cell?
  simp [hb]
 have key : ∀ k, k ≤ len → ∃ xs : List α, xs.length = k ∧ VRs (sig0 w) (ao (xs.map ev)) ((c.toList.drop a.off).take (k * sz)) ∧ ∀ i x, xs[i]? = some x → Q i x := by
  intro k
  induction k with
  | zero => intro _; exact ⟨[], rfl, by simp [ao]; exact .nil, fun i x hx => by simp at hx⟩
  | succ k ih =>
    intro hk
    obtain ⟨xs, hl, hv, hq⟩ := ih (by omega)
    obtain ⟨cs', x, g1, g2, g3, g4⟩ := hcell k (by omega)
    refine ⟨xs ++ [x], by simp [hl], ?_, fun i y hy => ?_⟩
    · have e1 : ao ((xs ++ [x]).map ev) = ao (xs.map ev) ++ (ev x).cells.toList := by simp [ao]
      have e2 : (c.toList.drop a.off).take ((k + 1) * sz) = (c.toList.drop a.off).take (k * sz) ++ cs' := by
       rw [Nat.succ_mul, List.take_add]
       congr 1
       apply List.ext_getElem?
       intro j
       by_cases hj : j < sz
       · rw [List.getElem?_take, if_pos hj, List.getElem?_drop, List.getElem?_drop, ← hget k j (by omega) hj cs' g1]
         congr 1; omega
       · rw [List.getElem?_eq_none (by simp; omega), List.getElem?_eq_none (by omega)]
      rw [e1, e2]
      exact hv.append g3
    · by_cases hi : i < xs.length
      · rw [List.getElem?_append_left hi] at hy; exact hq i y hy
      · rw [List.getElem?_append_right (by omega)] at hy
        have : i - xs.length = 0 := by
         cases hh : i - xs.length with
         | zero => rfl
         | succ m => rw [hh] at hy; simp at hy
        rw [this] at hy
        simp only [List.getElem?_cons_zero, osI] at hy
        subst hy
        have : i = k := by omega
        subst this; exact g4
 obtain ⟨xs, hl, hv, hq⟩ := key len (Nat.le_refl _)
 exact ⟨c, e, fz, xs, hsp, hb, hl, hv, hq⟩
theorem Bk.sum (B : Bk) {H : Type} : ∀ l : List (DataW H), B.fs l = (l.map B.f).sum
 | [] => by rw [B.none]; rfl
 | d :: l => by rw [B.cons, B.sum l]; simp
theorem bF {B : Bk} {P : Program} {t e : TypeId} {R : Nat → List Value → Prop} {α : Type} {S : Nat → α → Prop} {ev : α → Value} {sz k : Nat} (ht : P.underlying t = some (.slice e)) (hc : P.cellsOf e = sz) (hsz : 0 < sz) (hev : ∀ x, (ev x).cells.toList.length = sz) (h : OpensK B P e R k)
 (hR : ∀ b acs, R b acs → ∃ x, acs = (ev x).cells.toList ∧ S b x) : OpensK B P t (fun b acs => ∃ (xs : List α) (c : Nat), acs = [.func (.yield sz) ⟨xs.map ev⟩ ⟨[]⟩] ∧ xs.length ≤ maxLen ∧ SumR S c xs ∧ c < b) (k + 1) := by
 intro H enc w base sp held fuel cs x hfu hx
 rcases DataW.trod_slice ht hx with ⟨rfl, rfl⟩ | ⟨a, len, cap, elems, rest, n, rfl, rfl, rfl, hb, hl, hm, hlen, hel, _, _⟩
 · exact ⟨_, ⟨[], 0, rfl, by simp, .nil, by show 0 < B.f DataW.nil; rw [B.nil]; omega⟩, .cons (.datN _) .nil⟩
 · rw [hc] at hel
   have helem : ∀ i, i < len → ∃ cs' x, w.cells? base (a.add (i * sz)) sz = some cs' ∧ VRs (sig0 w) (ev x).cells.toList cs' ∧ ∀ d, elems[i]? = some d → S (B.f d.1) x := fun i hi => by
    have h1 := hel i hi
    rw [List.getElem?_eq_getElem (by omega : i < elems.length)] at h1
    obtain ⟨cs', h2, h3⟩ := Option.bind_eq_some_iff.1 h1
    obtain ⟨acs, r1, r2⟩ := h _ enc w base sp held n cs' _ (by omega) h3
    obtain ⟨x, rfl, r3⟩ := hR _ _ r1
    refine ⟨cs', x, h2, r2, fun d hd => ?_⟩
    rw [List.getElem?_eq_getElem (by omega : i < elems.length)] at hd
    cases hd; exact r3
   have hbulk : ((elems.map fun d => B.f d.1)).sum < B.f (DataW.slice (elems.map (·.1)) (rest.map (·.1))) := by
    rw [B.slice, B.sum, List.map_map]
    show _ < (elems.map fun d => B.f d.1).sum + _ + 1
    omega
   by_cases h0 : len = 0
   · subst h0
     have : elems = [] := List.eq_nil_of_length_eq_zero hlen
     subst this
     exact ⟨_, ⟨[], 0, rfl, by simp, .nil, by simpa using hbulk⟩, .cons (.datE _ _ _) .nil⟩
   · obtain ⟨c, e', fz, xs, g1, g2, g3, g4, g5⟩ := qP (P := P) hsz hev helem (by omega)
     refine ⟨_, ⟨xs, _, rfl, by omega, SumR.of_get (f := fun d : DataW H × List MemPlace => B.f d.1) (ds := elems) (by omega) (fun i x d hx hd => g5 i x hx d hd), hbulk⟩, .cons ?_ .nil⟩
     have ea : a = ⟨a.block, a.off, none⟩ := by cases a; simp_all
     rw [ea, ← g3]
     have : (sig0 w).ro a.block = some (.cells c e' fz) := g2
     have h5 := VR.dat (σ := sig0 w) (b := a.block) (o := a.off) (k := cap) (sz := sz) (e := e') (fz := fz) (c := c) (els := xs.map ev) this (fun y hy => by
      obtain ⟨z, _, rfl⟩ := List.mem_map.1 hy
      rw [← hev z]; rfl) (by simp; omega) (by simp only [List.length_map]; rw [g3]; exact g4)
     simpa using h5
theorem m7 {B : Bk} {P : Program} {t e : TypeId} {α : Type} {S : Nat → Nat → List α → Prop} {ev : α → Value} {sz : Nat} (ht : P.underlying t = some (.slice e)) (h : ∀ k, OpensK B P t (fun b acs => ∃ (xs : List α), acs = [.func (.yield sz) ⟨xs.map ev⟩ ⟨[]⟩] ∧ S k b xs) k) {H : Type} {enc : TypeId × Value → H} {w : World} {r : Reach} {b0 base : Nat} {sp : Nat → Bool} {held : Bool} {v : Value} {d : DataW H} {ps : List MemPlace}
 (hv : Value.okWide P w r b0 t v) (hT : DataW.Trod enc P w base sp held t v d ps) : ∃ (k : Nat) (xs : List α), VR (sig0 w) (.func (.yield sz) ⟨xs.map ev⟩ ⟨[]⟩) v ∧ S k (B.f d) xs := by
 obtain ⟨a, len, cap, rfl⟩ := WideShapes.okWide_slice ht hv
 obtain ⟨fuel, hf⟩ := hT
 obtain ⟨acs, ⟨xs, rfl, hl⟩, hx⟩ := h fuel _ enc w base sp held fuel _ _ (Nat.le_refl _) hf
 have e : (Value.slice a len cap).cells.toList = [.slice a len cap] := rfl
 rw [e] at hx
 cases hx with
 | cons h1 h2 => exact ⟨fuel, xs, h1, hl⟩
theorem nG {P : Program} {w : World} {g : Nat} {t : TypeId} {zero : Array Value} {k : IntKind} (h : w.ShapedOpen P) (hg : g < P.globals.size)
 (h0 : ((begin P (fun _ _ => 0) default).world.heap[g]?).bind Obj.row? = some (zero, t)) (hz : zero.size = 1)
 (hb : P.buildable t = true) (hc : P.cellTypes P.depth t = some [t]) (hu : P.underlying t = some (.int k)) : ∃ m fz, w.heap[g]? = some (.cells #[.int k m] t fz) := by
 obtain ⟨cs, hh, hs, hr⟩ := h.1 g zero t hg h0
 obtain ⟨ts, hts, _, hall⟩ := hr hb
 rw [hc] at hts
 cases hts
 have h1 : 0 < cs.size := by omega
 obtain ⟨u, hu', hok⟩ := hall 0 cs[0] (by simp [h1])
 have : u = t := by simpa using hu'.symm
 subst this
 unfold Cell.ok at hok
 rw [hu] at hok
 have hcs : cs = #[cs[0]] := by
  apply Array.ext
  · simp; omega
  · intro i h1 h2
    have : i = 0 := by simp at h2; omega
    subst this; rfl
 cases hv : cs[0] <;> rw [hv] at hok <;> first | (rw [hv] at hcs; simp at hok; obtain ⟨rfl, _⟩ := hok; rw [hcs] at hh; exact ⟨_, _, hh⟩) | simp at hok
end Go.AM

/- A part of the proof. -/
import Derived.Test.YtcplcanaonmmpaaGreatDoorQ1
set_option linter.unusedVariables false
set_option linter.unusedSimpArgs false
namespace Go.T9
def cntN (p : Nat → Bool) : Nat → Nat
 | 0 => 0
 | n + 1 => if p n then cntN p n + 1 else cntN p n
theorem cntN_le {p q : Nat → Bool} : ∀ {n : Nat}, (∀ k, k < n → p k = true → q k = true) → cntN p n ≤ cntN q n
 | 0, h => Nat.le_refl _
 | n + 1, h => by
   have ih := cntN_le (n := n) fun k hk => h k (by omega)
   have hn := h n (by omega)
   unfold cntN
   by_cases c : p n = true
   · rw [if_pos c, if_pos (hn c)]; omega
   · rw [if_neg c]
     split <;> omega
theorem cntN_list {p : Nat → Bool} : ∀ {n : Nat} {l : List Nat}, (∀ k, k < n → p k = true → k ∈ l) → cntN p n ≤ l.length
 | 0, l, h => Nat.zero_le _
 | n + 1, l, h => by
   unfold cntN
   by_cases c : p n = true
   · rw [if_pos c]
     have hm := h n (by omega) c
     have ih := cntN_list (n := n) (l := l.erase n) fun k hk hp => (List.mem_erase_of_ne (by omega)).2 (h k (by omega) hp)
     rw [List.length_erase_of_mem hm] at ih
     have := List.length_pos_of_mem hm
     omega
   · rw [if_neg c]
     exact cntN_list fun k hk => h k (by omega)
def bgn (o : List Sv) (k : Nat) : Prop := (oAt o k).1 ≠ -1
def busyB (o : List Sv) (x : Int) (k : Nat) : Bool := !decide ((oAt o k).1 = -1) && (decide ((oAt o k).1 ≤ x) && decide (x < (oAt o k).2))
def waitB (o : List Sv) (t : Int) (k : Nat) : Bool := !decide ((oAt o k).1 = -1) && decide (t < (oAt o k).1)
def Gd (tm tk : List Int) (sv rm : Nat) (o : List Sv) (i : Nat) : Prop := oAt o i = (-1, -1) ∨
 (bgn o i ∧ tm.getD i 0 ≤ (oAt o i).1 ∧ (oAt o i).2 = (oAt o i).1 + tk.getD i 0 ∧ (∀ k, k < i → bgn o k → (oAt o k).1 ≤ (oAt o i).1) ∧ cntN (busyB o (oAt o i).1) i + 1 ≤ sv ∧ (tm.getD i 0 < (oAt o i).1 → cntN (waitB o (tm.getD i 0)) i < rm))
theorem cntN_congr {p q : Nat → Bool} {n : Nat} (h : ∀ k, k < n → p k = q k) : cntN p n = cntN q n :=
 Nat.le_antisymm (cntN_le fun k hk hp => by rw [← h k hk]; exact hp) (cntN_le fun k hk hp => by rw [h k hk]; exact hp)
theorem Gd.congr {tm tk : List Int} {sv rm : Nat} {o o2 : List Sv} {i : Nat} (h : ∀ k, k ≤ i → oAt o2 k = oAt o k) (g : Gd tm tk sv rm o i) : Gd tm tk sv rm o2 i := by
 have hi := h i (Nat.le_refl _)
 rcases g with g | ⟨g1, g2, g3, g4, g5, g6⟩
 · exact .inl (hi.trans g)
 · refine .inr ?_
   unfold bgn
   rw [hi]
   refine ⟨g1, g2, g3, fun k hk hb => ?_, ?_, fun hx => ?_⟩
   · rw [h k (by omega)] at hb ⊢
     exact g4 k hk hb
   · rw [cntN_congr (q := busyB o (oAt o i).1) fun k hk => by unfold busyB; rw [h k (by omega)]]; exact g5
   · rw [cntN_congr (q := waitB o (tm.getD i 0)) fun k hk => by unfold waitB; rw [h k (by omega)]]; exact g6 hx
theorem oAt_set {o : List Sv} {n : Nat} (x : Sv) (h : n < o.length) (k : Nat) : oAt (o.set n x) k = if k = n then x else oAt o k := by
 unfold oAt
 rw [List.getD_eq_getElem?_getD, List.getElem?_set]
 by_cases e : n = k
 · subst e; simp [h]
 · have e2 : ¬ k = n := fun h => e h.symm
   rw [if_neg e, if_neg e2, List.getD_eq_getElem?_getD]
theorem oAt_ne {o : List Sv} {n : Nat} (x : Sv) {k : Nat} (h : k ≠ n) : oAt (o.set n x) k = oAt o k := by
 unfold oAt
 rw [List.getD_eq_getElem?_getD, List.getElem?_set, if_neg (fun e => h e.symm), List.getD_eq_getElem?_getD]
def ahead (w : List Nat) (o : List Sv) (t : Int) (k : Nat) : Bool := decide (k ∈ w) || waitB o t k
structure LI (tm tk : List Int) (sv rm N i : Nat) (τ : Int) (r : RS) : Prop where
 len : r.o.length = N
 low : ∀ n, n ∈ r.sv ∨ n ∈ r.w → n < i
 ws : r.w.Pairwise (· < ·)
 svw : ∀ n, n ∈ r.sv → ¬ n ∈ r.w ∧ bgn r.o n
 full : r.w ≠ [] → sv ≤ r.sv.length
 le : r.sv.length ≤ sv
 fifo : ∀ j, j < i → ¬ j ∈ r.w → bgn r.o j → ∀ n, n ∈ r.w → j < n
 beta : ∀ j, j < i → ¬ j ∈ r.w → bgn r.o j → (oAt r.o j).1 ≤ τ
 t0 : 0 ≤ τ
 ends : ∀ n, n ∈ r.sv → τ ≤ lft r.o n
 endw : ∀ n, n ∈ r.sv → ∀ m, m ∈ r.w → tm.getD m 0 ≤ lft r.o n
 fin : ∀ j, j < i → ¬ j ∈ r.w → bgn r.o j → ¬ j ∈ r.sv → lft r.o j ≤ τ
 good : ∀ j, j < i → ¬ j ∈ r.w → Gd tm tk sv rm r.o j
 wt : ∀ n, n ∈ r.w → cntN (ahead r.w r.o (tm.getD n 0)) n < rm
theorem busyB_iff {o : List Sv} {x : Int} {k : Nat} : busyB o x k = true ↔ bgn o k ∧ (oAt o k).1 ≤ x ∧ x < (oAt o k).2 := by
 unfold busyB bgn
 simp only [Bool.and_eq_true, Bool.not_eq_true', decide_eq_false_iff_not, decide_eq_true_eq, ne_eq]
theorem waitB_iff {o : List Sv} {t : Int} {k : Nat} : waitB o t k = true ↔ bgn o k ∧ t < (oAt o k).1 := by
 unfold waitB bgn
 simp only [Bool.and_eq_true, Bool.not_eq_true', decide_eq_false_iff_not, decide_eq_true_eq, ne_eq]
theorem ahead_iff {w : List Nat} {o : List Sv} {t : Int} {k : Nat} : ahead w o t k = true ↔ k ∈ w ∨ (bgn o k ∧ t < (oAt o k).1) := by
 unfold ahead
 rw [Bool.or_eq_true, decide_eq_true_eq, waitB_iff]
section
variable {tm tk : List Int} {sv rm N i : Nat} {τ : Int} {r : RS}
theorem LI.end0 (h : LI tm tk sv rm N i τ r) (hw : r.w = []) {a : Nat} (ha : a ∈ r.sv) (hmin : ∀ m, m ∈ r.sv → lft r.o a ≤ lft r.o m) {sv2 : List Nat} (h1 : ∀ m, m ∈ sv2 → m ∈ r.sv) (h2 : ∀ m, m ∈ r.sv → m ≠ a → m ∈ sv2) (hl : sv2.length ≤ r.sv.length) : LI tm tk sv rm N i (lft r.o a) ⟨sv2, [], r.o⟩ := by
 have ht := h.ends a ha
 have t0 := h.t0
 have nw : ∀ j, ¬ j ∈ r.w := fun j hj => by rw [hw] at hj; simp at hj
 refine ⟨h.len, fun n hn => ?_, .nil, fun n hn => ⟨by simp, (h.svw n (h1 n hn)).2⟩, fun e => absurd rfl e, Nat.le_trans hl h.le, fun j _ _ _ n hn => by simp at hn, fun j hj _ hb => ?_, by omega, fun n hn => hmin n (h1 n hn), fun n _ m hm => by simp at hm, fun j hj _ hb hs => ?_, fun j hj _ => h.good j hj (nw j), fun n hn => by simp at hn⟩
 · rcases hn with hn | hn
   · exact h.low n (.inl (h1 n hn))
   · simp at hn
 · have := h.beta j hj (nw j) hb
   show (oAt r.o j).1 ≤ _
   omega
 · show lft r.o j ≤ lft r.o a
   by_cases e : j = a
   · subst e; exact Int.le_refl _
   · have := h.fin j hj (nw j) hb (fun hx => hs (h2 j hx e))
     omega
theorem LI.end1 (htk : TkOk tk) (h : LI tm tk sv rm N i τ r) (hi : i ≤ N) {n : Nat} {w : List Nat} (hw : r.w = n :: w) {a : Nat} (ha : a ∈ r.sv) (hmin : ∀ m, m ∈ r.sv → lft r.o a ≤ lft r.o m) {sv2 : List Nat} (h1 : ∀ m, m ∈ sv2 → m = n ∨ m ∈ r.sv) (h2 : ∀ m, m ∈ r.sv → m ≠ a → m ∈ sv2) (hn2 : n ∈ sv2) (hl : sv2.length = r.sv.length) :
 LI tm tk sv rm N i (lft r.o a) ⟨sv2, w, r.o.set n (lft r.o a, lft r.o a + tk.getD n 0)⟩ := by
 have ht := h.ends a ha
 have t0 := h.t0
 have tkn := htk n
 have nw : n ∈ r.w := by rw [hw]; simp
 have nlt := h.low n (.inr nw)
 have nlen : n < r.o.length := by have := h.len; omega
 have ws := h.ws
 rw [hw, List.pairwise_cons] at ws
 obtain ⟨ws1, ws2⟩ := ws
 have wsub : ∀ m, m ∈ w → m ∈ r.w := fun m hm => by rw [hw]; exact List.mem_cons_of_mem _ hm
 have wcas : ∀ m, m ∈ r.w → m = n ∨ m ∈ w := fun m hm => by rw [hw] at hm; exact List.mem_cons.1 hm
 have nnw : ¬ n ∈ w := fun hm => by have := ws1 n hm; omega
 have wge : ∀ m, m ∈ r.w → n ≤ m := fun m hm => by
  rcases wcas m hm with e | hm
  · omega
  · have := ws1 m hm; omega
 have osame : ∀ k, k ≠ n → oAt (r.o.set n (lft r.o a, lft r.o a + tk.getD n 0)) k = oAt r.o k := fun k hk => oAt_ne _ hk
 have oself : oAt (r.o.set n (lft r.o a, lft r.o a + tk.getD n 0)) n = (lft r.o a, lft r.o a + tk.getD n 0) := by rw [oAt_set _ nlen, if_pos rfl]
 generalize hat : lft r.o a = at' at *
 generalize ho2 : r.o.set n (at', at' + tk.getD n 0) = o2 at *
 have bsame : ∀ k, k ≠ n → (bgn o2 k ↔ bgn r.o k) := fun k hk => by unfold bgn; rw [osame k hk]
 have svn : ∀ m, m ∈ r.sv → m ≠ n := fun m hm e => (h.svw m hm).1 (e ▸ nw)
 have lsame : ∀ k, k ≠ n → lft o2 k = lft r.o k := fun k hk => by unfold lft; rw [osame k hk]
 have lself : lft o2 n = at' + tk.getD n 0 := by unfold lft; rw [oself]
 refine ⟨by rw [← ho2, List.length_set]; exact h.len, fun m hm => ?_, ws2, fun m hm => ⟨fun hx => ?_, ?_⟩, fun _ => ?_, by show sv2.length ≤ sv; rw [hl]; exact h.le, fun j hj hjw hb m hm => ?_, fun j hj hjw hb => ?_, by omega, fun m hm => ?_, fun m hm q hq => ?_, fun j hj hjw hb hs => ?_, fun j hj hjw => ?_, fun q hq => ?_⟩
 · rcases hm with hm | hm
   · rcases h1 m hm with e | hm
     · omega
     · exact h.low m (.inl hm)
   · exact h.low m (.inr (wsub m hm))
 · rcases h1 m hm with e | hm
   · subst e; exact nnw hx
   · exact (h.svw m hm).1 (wsub m hx)
 · rcases h1 m hm with e | hm
   · subst e
     show (oAt o2 m).1 ≠ -1
     rw [oself]
     show at' ≠ -1
     omega
   · exact (bsame m (svn m hm)).2 (h.svw m hm).2
 · show sv ≤ sv2.length
   rw [hl]; exact h.full (by rw [hw]; simp)
 · by_cases e : j = n
   · subst e; exact ws1 m hm
   · refine h.fifo j hj (fun hx => ?_) ((bsame j e).1 hb) m (wsub m hm)
     rcases wcas j hx with e2 | hx
     · exact e e2
     · exact hjw hx
 · show (oAt o2 j).1 ≤ at'
   by_cases e : j = n
   · subst e; rw [oself]; exact Int.le_refl _
   · have := h.beta j hj (fun hx => by
      rcases wcas j hx with e2 | hx
      · exact e e2
      · exact hjw hx) ((bsame j e).1 hb)
     rw [osame j e]; omega
 · show at' ≤ lft o2 m
   rcases h1 m hm with e | hm
   · subst e; rw [lself]; omega
   · rw [lsame m (svn m hm)]; exact hmin m hm
 · show tm.getD q 0 ≤ lft o2 m
   have hq2 := h.endw a ha q (wsub q hq)
   rw [hat] at hq2
   rcases h1 m hm with e | hm
   · subst e; rw [lself]; omega
   · rw [lsame m (svn m hm)]; exact h.endw m hm q (wsub q hq)
 · show lft o2 j ≤ at'
   have e : j ≠ n := fun e => hs (e ▸ hn2)
   rw [lsame j e]
   by_cases ej : j = a
   · subst ej; omega
   · have := h.fin j hj (fun hx => by
      rcases wcas j hx with e2 | hx
      · exact e e2
      · exact hjw hx) ((bsame j e).1 hb) (fun hx => hs (h2 j hx ej))
     omega
 · by_cases e : j = n
   · subst e
     refine .inr ⟨?_, ?_, ?_, fun k hk hb => ?_, ?_, fun hx => ?_⟩
     · show (oAt o2 j).1 ≠ -1
       rw [oself]
       show at' ≠ -1
       omega
     · rw [oself]
       have := h.endw a ha j nw
       rw [hat] at this; exact this
     · rw [oself]
     · rw [oself, osame k (by omega)]
       have := h.beta k (by omega) (fun hx => by have := wge k hx; omega) ((bsame k (by omega)).1 hb)
       show (oAt r.o k).1 ≤ at'
       omega
     · rw [oself]
       have hc := cntN_list (p := busyB o2 at') (n := j) (l := r.sv.erase a) fun k hk hb => by
        rw [busyB_iff, osame k (by omega)] at hb
        obtain ⟨b1, b2, b3⟩ := hb
        have b1 := (bsame k (by omega)).1 b1
        have hlf : lft r.o k = (oAt r.o k).2 := rfl
        have hkw : ¬ k ∈ r.w := fun hx => by have := wge k hx; omega
        have hks : k ∈ r.sv := Classical.byContradiction fun hx => by
         have := h.fin k (by omega) hkw b1 hx
         omega
        exact (List.mem_erase_of_ne (fun e2 => by subst e2; omega)).2 hks
       rw [List.length_erase_of_mem ha] at hc
       have := List.length_pos_of_mem ha
       have := h.le
       show cntN (busyB o2 at') j + 1 ≤ sv
       omega
     · refine Nat.lt_of_le_of_lt (cntN_le fun k hk hb => ?_) (h.wt j nw)
       rw [waitB_iff, osame k (by omega), bsame k (by omega)] at hb
       exact ahead_iff.2 (.inr hb)
   · have hjw2 : ¬ j ∈ r.w := fun hx => by
      rcases wcas j hx with e2 | hx
      · exact e e2
      · exact hjw hx
     rcases h.good j hj hjw2 with g | g
     · exact .inl ((osame j e).trans g)
     · have hjn := h.fifo j hj hjw2 g.1 n nw
       exact Gd.congr (fun k hk => osame k (by omega)) (.inr g)
 · refine Nat.lt_of_le_of_lt (cntN_le fun k hk hb => ?_) (h.wt q (wsub q hq))
   rw [ahead_iff] at hb ⊢
   by_cases e : k = n
   · subst e; exact .inl nw
   · rcases hb with hb | ⟨hb1, hb2⟩
     · exact .inl (wsub k hb)
     · rw [osame k e] at hb2
       exact .inr ⟨(bsame k e).1 hb1, hb2⟩
def Past (t : Int) (r : RS) : Prop := ∀ n, n ∈ r.sv → t < lft r.o n
theorem LI.beg (htk : TkOk tk) (h : LI tm tk sv rm N i τ r) (hi : i < N) {t : Int} (ht : tm.getD i 0 = t) (hτ : τ ≤ t) (hp : Past t r) (hs : r.sv.length < sv) : LI tm tk sv rm N (i + 1) t ⟨r.sv ++ [i], r.w, r.o.set i (t, t + tk.getD i 0)⟩ := by
 have t0 := h.t0
 have tkn := htk i
 have hw : r.w = [] := Classical.byContradiction fun hx => by have := h.full hx; omega
 have nw : ∀ j, ¬ j ∈ r.w := fun j hj => by rw [hw] at hj; simp at hj
 have nlen : i < r.o.length := by have := h.len; omega
 have osame : ∀ k, k ≠ i → oAt (r.o.set i (t, t + tk.getD i 0)) k = oAt r.o k := fun k hk => oAt_ne _ hk
 have oself : oAt (r.o.set i (t, t + tk.getD i 0)) i = (t, t + tk.getD i 0) := by rw [oAt_set _ nlen, if_pos rfl]
 generalize ho2 : r.o.set i (t, t + tk.getD i 0) = o2 at *
 have bsame : ∀ k, k ≠ i → (bgn o2 k ↔ bgn r.o k) := fun k hk => by unfold bgn; rw [osame k hk]
 have lsame : ∀ k, k ≠ i → lft o2 k = lft r.o k := fun k hk => by unfold lft; rw [osame k hk]
 have lself : lft o2 i = t + tk.getD i 0 := by unfold lft; rw [oself]
 have svn : ∀ m, m ∈ r.sv → m < i := fun m hm => h.low m (.inl hm)
 have mem : ∀ m, m ∈ r.sv ++ [i] → m = i ∨ m ∈ r.sv := fun m hm => by
  rcases List.mem_append.1 hm with hm | hm
  · exact .inr hm
  · exact .inl (by simpa using hm)
 refine ⟨by rw [← ho2, List.length_set]; exact h.len, fun m hm => ?_, h.ws, fun m hm => ⟨nw m, ?_⟩, fun hx => absurd hw hx, ?_, fun j _ _ _ n hn => absurd hn (nw n), fun j hj _ hb => ?_, by omega, fun m hm => ?_, fun m _ q hq => absurd hq (nw q), fun j hj _ hb hs2 => ?_, fun j hj _ => ?_, fun q hq => absurd hq (nw q)⟩
 · rcases hm with hm | hm
   · rcases mem m hm with e | hm
     · omega
     · have := svn m hm; omega
   · exact absurd hm (nw m)
 · rcases mem m hm with e | hm
   · subst e
     show (oAt o2 m).1 ≠ -1
     rw [oself]
     show t ≠ -1
     omega
   · exact (bsame m (by have := svn m hm; omega)).2 (h.svw m hm).2
 · show (r.sv ++ [i]).length ≤ sv
   rw [List.length_append]; simp only [List.length_cons, List.length_nil]; omega
 · show (oAt o2 j).1 ≤ t
   by_cases e : j = i
   · subst e; rw [oself]; exact Int.le_refl _
   · rw [osame j e]
     have := h.beta j (by omega) (nw j) ((bsame j e).1 hb)
     omega
 · show t ≤ lft o2 m
   rcases mem m hm with e | hm
   · subst e; rw [lself]; omega
   · rw [lsame m (by have := svn m hm; omega)]
     have := hp m hm; omega
 · show lft o2 j ≤ t
   have e : j ≠ i := fun e => hs2 (by subst e; simp)
   rw [lsame j e]
   have := h.fin j (by omega) (nw j) ((bsame j e).1 hb) (fun hx => hs2 (List.mem_append.2 (.inl hx)))
   omega
 · by_cases e : j = i
   · subst e
     refine .inr ⟨?_, ?_, ?_, fun k hk hb => ?_, ?_, fun hx => ?_⟩
     · show (oAt o2 j).1 ≠ -1
       rw [oself]
       show t ≠ -1
       omega
     · rw [oself, ht]; exact Int.le_refl _
     · rw [oself]
     · rw [oself, osame k (by omega)]
       have := h.beta k (by omega) (nw k) ((bsame k (by omega)).1 hb)
       show (oAt r.o k).1 ≤ t
       omega
     · rw [oself]
       have hc := cntN_list (p := busyB o2 t) (n := j) (l := r.sv) fun k hk hb => by
        rw [busyB_iff, osame k (by omega)] at hb
        obtain ⟨b1, b2, b3⟩ := hb
        have b1 := (bsame k (by omega)).1 b1
        have hlf : lft r.o k = (oAt r.o k).2 := rfl
        exact Classical.byContradiction fun hx => by
         have := h.fin k (by omega) (nw k) b1 hx
         omega
       show cntN (busyB o2 t) j + 1 ≤ sv
       omega
     · rw [oself, ht] at hx
       exact absurd hx (Int.lt_irrefl _)
   · exact Gd.congr (fun k hk => osame k (by omega)) (h.good j (by omega) (nw j))
theorem LI.wait (h : LI tm tk sv rm N i τ r) {t : Int} (ht : tm.getD i 0 = t) (hτ : τ ≤ t) (hp : Past t r) (hs : ¬ r.sv.length < sv) (hr : r.w.length < rm) : LI tm tk sv rm N (i + 1) t ⟨r.sv, r.w ++ [i], r.o⟩ := by
 have t0 := h.t0
 have mem : ∀ m, m ∈ r.w ++ [i] → m = i ∨ m ∈ r.w := fun m hm => by
  rcases List.mem_append.1 hm with hm | hm
  · exact .inr hm
  · exact .inl (by simpa using hm)
 have sub : ∀ m, m ∈ r.w → m ∈ r.w ++ [i] := fun m hm => List.mem_append.2 (.inl hm)
 have self : i ∈ r.w ++ [i] := by simp
 have old : ∀ j, j < i + 1 → ¬ j ∈ r.w ++ [i] → j < i ∧ ¬ j ∈ r.w := fun j hj hn => by
  have : j ≠ i := fun e => hn (e ▸ self)
  exact ⟨by omega, fun hx => hn (sub j hx)⟩
 refine ⟨h.len, fun m hm => ?_, ?_, fun m hm => ⟨fun hx => ?_, (h.svw m hm).2⟩, fun _ => by show sv ≤ r.sv.length; omega, h.le, fun j hj hn hb m hm => ?_, fun j hj hn hb => ?_, by omega, fun m hm => ?_, fun m hm q hq => ?_, fun j hj hn hb hs2 => ?_, fun j hj hn => h.good j (old j hj hn).1 (old j hj hn).2, fun q hq => ?_⟩
 · rcases hm with hm | hm
   · exact Nat.lt_succ_of_lt (h.low m (.inl hm))
   · rcases mem m hm with e | hm
     · omega
     · exact Nat.lt_succ_of_lt (h.low m (.inr hm))
 · refine List.pairwise_append.2 ⟨h.ws, by simp, fun a ha b hb => ?_⟩
   have : b = i := by simpa using hb
   have := h.low a (.inr ha)
   omega
 · rcases mem m hx with e | hx
   · have := h.low m (.inl hm); omega
   · exact (h.svw m hm).1 hx
 · obtain ⟨o1, o2⟩ := old j hj hn
   rcases mem m hm with e | hm
   · omega
   · exact h.fifo j o1 o2 hb m hm
 · obtain ⟨o1, o2⟩ := old j hj hn
   have := h.beta j o1 o2 hb
   show (oAt r.o j).1 ≤ t
   omega
 · have := hp m hm
   show t ≤ lft r.o m
   omega
 · show tm.getD q 0 ≤ lft r.o m
   rcases mem q hq with e | hq
   · subst e; have := hp m hm; omega
   · exact h.endw m hm q hq
 · obtain ⟨o1, o2⟩ := old j hj hn
   have := h.fin j o1 o2 hb hs2
   show lft r.o j ≤ t
   omega
 · rcases mem q hq with e | hq
   · subst e
     refine Nat.lt_of_le_of_lt (cntN_list (l := r.w) fun k hk hb => ?_) hr
     rw [ahead_iff] at hb
     rcases hb with hb | ⟨b1, b2⟩
     · rcases mem k hb with e | hb
       · omega
       · exact hb
     · exact Classical.byContradiction fun hx => by
        have := h.beta k hk hx b1
        rw [ht] at b2
        have b2 : t < (oAt r.o k).1 := b2
        omega
   · have hqi := h.low q (.inr hq)
     refine Nat.lt_of_le_of_lt (cntN_le fun k hk hb => ?_) (h.wt q hq)
     rw [ahead_iff] at hb ⊢
     rcases hb with hb | hb
     · rcases mem k hb with e | hb
       · omega
       · exact .inl hb
     · exact .inr hb
theorem LI.refuse (h : LI tm tk sv rm N i τ r) (hi : i < N) {t : Int} (hτ : τ ≤ t) (hp : Past t r) : LI tm tk sv rm N (i + 1) t ⟨r.sv, r.w, r.o.set i (-1, -1)⟩ := by
 have t0 := h.t0
 have nlen : i < r.o.length := by have := h.len; omega
 have osame : ∀ k, k ≠ i → oAt (r.o.set i (-1, -1)) k = oAt r.o k := fun k hk => oAt_ne _ hk
 have oself : oAt (r.o.set i (-1, -1)) i = (-1, -1) := by rw [oAt_set _ nlen, if_pos rfl]
 generalize ho2 : r.o.set i (-1, -1) = o2 at *
 have bsame : ∀ k, k ≠ i → (bgn o2 k ↔ bgn r.o k) := fun k hk => by unfold bgn; rw [osame k hk]
 have bself : ¬ bgn o2 i := by unfold bgn; rw [oself]; simp
 have lsame : ∀ k, k ≠ i → lft o2 k = lft r.o k := fun k hk => by unfold lft; rw [osame k hk]
 have svn : ∀ m, m ∈ r.sv → m ≠ i := fun m hm => by have := h.low m (.inl hm); omega
 have bi : ∀ j, j < i + 1 → bgn o2 j → j < i ∧ bgn r.o j := fun j hj hb => by
  have : j ≠ i := fun e => bself (e ▸ hb)
  exact ⟨by omega, (bsame j this).1 hb⟩
 refine ⟨by rw [← ho2, List.length_set]; exact h.len, fun m hm => Nat.lt_succ_of_lt (h.low m hm), h.ws, fun m hm => ⟨(h.svw m hm).1, (bsame m (svn m hm)).2 (h.svw m hm).2⟩, h.full, h.le, fun j hj hn hb m hm => ?_, fun j hj hn hb => ?_, by omega, fun m hm => ?_, fun m hm q hq => ?_, fun j hj hn hb hs2 => ?_, fun j hj hn => ?_, fun q hq => ?_⟩
 · exact h.fifo j (bi j hj hb).1 hn (bi j hj hb).2 m hm
 · have := h.beta j (bi j hj hb).1 hn (bi j hj hb).2
   show (oAt o2 j).1 ≤ t
   rw [osame j (by have := (bi j hj hb).1; omega)]
   omega
 · show t ≤ lft o2 m
   rw [lsame m (svn m hm)]
   have := hp m hm; omega
 · show tm.getD q 0 ≤ lft o2 m
   rw [lsame m (svn m hm)]
   exact h.endw m hm q hq
 · have := h.fin j (bi j hj hb).1 hn (bi j hj hb).2 hs2
   show lft o2 j ≤ t
   rw [lsame j (by have := (bi j hj hb).1; omega)]
   omega
 · by_cases e : j = i
   · subst e; exact .inl oself
   · exact Gd.congr (fun k hk => osame k (by omega)) (h.good j (by omega) hn)
 · have hqi := h.low q (.inr hq)
   refine Nat.lt_of_le_of_lt (cntN_le fun k hk hb => ?_) (h.wt q hq)
   rw [ahead_iff] at hb ⊢
   rcases hb with hb | ⟨b1, b2⟩
   · exact .inl hb
   · have e : k ≠ i := by omega
     rw [osame k e] at b2
     exact .inr ⟨(bsame k e).1 b1, b2⟩
end
theorem mem_er : ∀ {l : List Nat} {k m : Nat}, m ∈ l → m ≠ l.getD k 0 → m ∈ l.eraseIdx k
 | [], k, m, h, _ => by simp at h
 | x :: l, 0, m, h, hn => by
   have hn : m ≠ x := by simpa using hn
   exact (List.mem_cons.1 h).resolve_left hn
 | x :: l, k + 1, m, h, hn => by
   have hn : m ≠ l.getD k 0 := by simpa [List.getD_eq_getElem?_getD] using hn
   show m ∈ x :: l.eraseIdx k
   rcases List.mem_cons.1 h with e | h
   · subst e; exact List.mem_cons_self
   · exact List.mem_cons_of_mem _ (mem_er h hn)
theorem getN_mem {l : List Nat} {k : Nat} (h : k < l.length) : l.getD k 0 ∈ l := by rw [gN h]; exact List.getElem_mem h
theorem minN {o : List Sv} {l : List Nat} {b : Nat} (h : ∀ j, j < l.length → lft o (l.getD b 0) ≤ lft o (l.getD j 0)) : ∀ m, m ∈ l → lft o (l.getD b 0) ≤ lft o m := fun m hm => by
 obtain ⟨j, hj, e⟩ := List.mem_iff_getElem.1 hm
 have := h j hj
 rw [gN hj, e] at this; exact this
section
variable {tm tk : List Int} {sv rm N : Nat}
theorem LI.free (htk : TkOk tk) {i : Nat} (hi : i ≤ N) : ∀ (f : Nat) (t : Int) {τ : Int} {r : RS}, LI tm tk sv rm N i τ r → τ ≤ t → ∃ τ2, τ2 ≤ t ∧ LI tm tk sv rm N i τ2 (rfree tk f t r) ∧ (rms r < f → Past t (rfree tk f t r))
 | 0, t, τ, r, h, ht => ⟨τ, ht, h, fun h => by omega⟩
 | f + 1, t, τ, r, h, ht => by
   unfold rfree
   rcases endS_ok r.o r.sv t r.sv.length with ⟨e, g⟩ | ⟨b, e, h1, h2, h3⟩
   · have e : endg r.o r.sv t = none := e
     rw [e]
     refine ⟨τ, ht, h, fun _ n hn => ?_⟩
     obtain ⟨j, hj, e⟩ := List.mem_iff_getElem.1 hn
     have := g j hj
     rw [gN hj, e] at this; exact this
   · have e : endg r.o r.sv t = some b := e
     rw [e]
     have ha := getN_mem h1
     have hmin := minN h3
     cases hw : r.w with
     | nil =>
       have hl : (r.sv.eraseIdx b).length = r.sv.length - 1 := List.length_eraseIdx_of_lt h1
       obtain ⟨τ2, q1, q2, q3⟩ := LI.free htk hi f t (h.end0 hw ha hmin (sv2 := r.sv.eraseIdx b) (fun m hm => mem_eraseIdx hm) (fun m hm hne => mem_er hm hne) (by omega)) h2
       refine ⟨τ2, q1, q2, fun hf => q3 ?_⟩
       unfold rms at hf ⊢
       rw [hw] at hf
       simp only [List.length_nil] at hf ⊢
       omega
     | cons n w =>
       have hl : (r.sv.eraseIdx b).length = r.sv.length - 1 := List.length_eraseIdx_of_lt h1
       obtain ⟨τ2, q1, q2, q3⟩ := LI.free htk hi f t (h.end1 htk hi hw ha hmin (sv2 := r.sv.eraseIdx b ++ [n]) (fun m hm => by
        rcases List.mem_append.1 hm with hm | hm
        · exact .inr (mem_eraseIdx hm)
        · exact .inl (by simpa using hm)) (fun m hm hne => List.mem_append.2 (.inl (mem_er hm hne))) (by simp) (by rw [List.length_append]; simp only [List.length_cons, List.length_nil]; omega)) h2
       refine ⟨τ2, q1, q2, fun hf => q3 ?_⟩
       unfold rms at hf ⊢
       rw [hw] at hf
       simp only [List.length_cons, List.length_append, List.length_nil] at hf ⊢
       omega
theorem LI.arr (htk : TkOk tk) {i : Nat} (hi : i < N) {t : Int} (hti : tm.getD i 0 = t) {τ : Int} {r : RS} (h : LI tm tk sv rm N i τ r) (ht : τ ≤ t) : LI tm tk sv rm N (i + 1) t (rarr tk sv rm i t r) := by
 obtain ⟨τ2, h1, h2, h3⟩ := LI.free htk (Nat.le_of_lt hi) (rms r + 1) t h ht
 have h3 := h3 (Nat.lt_succ_self _)
 unfold rarr
 generalize rfree tk (rms r + 1) t r = r1 at *
 simp only
 by_cases c1 : r1.sv.length < sv
 · rw [if_pos c1]
   have := h2.beg htk hi hti h1 h3 c1
   have hw : r1.w = [] := Classical.byContradiction fun hx => by have := h2.full hx; omega
   exact this
 · rw [if_neg c1]
   by_cases c2 : r1.w.length < rm
   · rw [if_pos c2]; exact h2.wait hti h1 h3 c1 c2
   · rw [if_neg c2]; exact h2.refuse hi h1 h3
theorem LI.all (htk : TkOk tk) : ∀ (l : List Int) {i : Nat} {τ : Int} {r : RS}, LI tm tk sv rm N i τ r → (∀ j, j < l.length → tm.getD (i + j) 0 = l.getD j 0) → l.Pairwise (· ≤ ·) → (∀ t, t ∈ l → τ ≤ t) → i + l.length ≤ N → ∃ τ2, LI tm tk sv rm N (i + l.length) τ2 (rall tk sv rm i l r)
 | [], i, τ, r, h, _, _, _, _ => ⟨τ, h⟩
 | t :: l, i, τ, r, h, hl, hs, ht, hN => by
   rw [List.length_cons] at hN
   rw [List.pairwise_cons] at hs
   have h0 : tm.getD i 0 = t := by have := hl 0 (by simp); simpa [List.getD_eq_getElem?_getD] using this
   have h1 := h.arr htk (by omega) h0 (ht t List.mem_cons_self)
   obtain ⟨τ2, q⟩ := LI.all htk l h1 (fun j hj => by
    have := hl (j + 1) (by rw [List.length_cons]; omega)
    rw [show i + 1 + j = i + (j + 1) by omega, this]
    simp [List.getD_eq_getElem?_getD]) hs.2 hs.1 (by omega)
   refine ⟨τ2, ?_⟩
   rw [List.length_cons, show i + (l.length + 1) = i + 1 + l.length by omega]
   exact q
theorem LI.drain (htk : TkOk tk) {top : Int} (htop : 1000000000000 + (N : Int) * 1000000000 ≤ top) : ∀ (f : Nat) {τ : Int} {s : QS} {r : RS}, LI tm tk sv rm N N τ r → Sim s r → PI N N s → r.w.length < f → ∃ τ2 r2, LI tm tk sv rm N N τ2 r2 ∧ r2.w = [] ∧ r2.o = (rend tk top f r).o
 | 0, τ, s, r, _, _, _, h => by omega
 | f + 1, τ, s, r, h, hs, hp, hf => by
   unfold rend
   cases hw : r.w with
   | nil => exact ⟨τ, r, h, hw, rfl⟩
   | cons n w =>
     have hw2 : s.w = n :: w := by rw [hs.w, hw]
     simp only
     rcases hs.first top with ⟨e, hn⟩ | ⟨k, e, hk, h0, hm⟩
     · have h0 := hp.q (by rw [hw2]; simp)
       have := hp.first h0
       exact absurd ⟨h0, by omega⟩ hn
     · rw [e]
       simp only
       rw [hw, List.length_cons] at hf
       have hpm := set_perm n hk
       have hmin : ∀ m, m ∈ r.sv → lft r.o (r.sv.getD k 0) ≤ lft r.o m := fun m hmm => by
        rw [hm]
        obtain ⟨j, hj, ej⟩ := List.mem_iff_getElem.1 (hs.p.mem_iff.2 (List.mem_map.2 ⟨m, hmm, rfl⟩))
        have := heap_min hs.h j hj
        rw [gI hj, ej] at this; exact this
       have h1 := h.end1 htk (Nat.le_refl _) hw (getN_mem hk) hmin (sv2 := r.sv.set k n) (fun m hmm => (List.mem_or_eq_of_mem_set hmm).symm) (fun m hmm hne => hpm.mem_iff.1 (List.mem_append.2 (.inl (mem_er hmm hne)))) (hpm.mem_iff.1 (by simp)) (List.length_set ..)
       exact LI.drain htk htop f h1 (hs.end2 tk hw hk h0.1 hm) (hp.end1 htk h0.1 hw2) (by show w.length < f; omega)
theorem LI.init : LI tm tk sv rm N 0 0 ⟨[], [], List.replicate N (0, 0)⟩ :=
 ⟨by simp, fun n hn => by simp at hn, .nil, fun n hn => by simp at hn, fun h => absurd rfl h, Nat.zero_le _, fun j hj => by omega, fun j hj => by omega, Int.le_refl _, fun n hn => by simp at hn, fun n hn => by simp at hn, fun j hj => by omega, fun j hj => by omega, fun n hn => by simp at hn⟩
end
theorem queue_good {tm tk : List Int} {sv rm : Nat} (hsv : 1 ≤ sv) (hm : TmOk tm) (ht : TkOk tk) (hs : tm.Pairwise (· ≤ ·)) : (pqueue tm tk sv rm).length = tm.length ∧ ∀ i, i < tm.length → Gd tm tk sv rm (pqueue tm tk sv rm) i := by
 rw [queue_same (top := 1000000000000 + (tm.length : Int) * 1000000000) hsv hm ht (Int.le_refl _)]
 unfold rqueue
 have hp := PI.all ht (rm := rm) hsv tm hm (PI.init tm.length)
 have hsim := sim_all tk sv rm tm (i := 0) (sim_init tm.length) (fun n hn => by simp at hn) (by simp)
 obtain ⟨τ, hl⟩ := LI.all (tm := tm) (sv := sv) (rm := rm) (N := tm.length) ht tm LI.init (fun j hj => by rw [Nat.zero_add]) hs (fun t hx => (hm t hx).1) (by omega)
 rw [Nat.zero_add] at hp hl
 obtain ⟨τ2, r2, g1, g2, g3⟩ := LI.drain ht (Int.le_refl _) _ hl hsim hp (Nat.lt_succ_self _)
 show (rend tk _ _ _).o.length = _ ∧ ∀ i, i < tm.length → Gd tm tk sv rm (rend tk _ _ _).o i
 rw [← g3]
 exact ⟨g1.len, fun i hi => g1.good i hi (by rw [g2]; simp)⟩
def pB (o : List Sv) (i k : Nat) : Bool := (!decide ((oAt o k).1 = -1) && decide ((oAt o k).1 ≤ (oAt o i).1)) && (decide ((oAt o i).1 < (oAt o k).2) || decide ((k : Int) = (i : Int)))
def pW (tm : List Int) (o : List Sv) (i k : Nat) : Bool := (decide ((k : Int) < (i : Int)) && !decide ((oAt o k).1 = -1)) && decide (tm.getD i 0 < (oAt o k).1)
theorem cntN_succ (p : Nat → Bool) (n : Nat) : cntN p (n + 1) = if p n then cntN p n + 1 else cntN p n := rfl
theorem gd_law {tm tk : List Int} {sv rm : Nat} {o : List Sv} {i : Nat} (g : Gd tm tk sv rm o i) : ((oAt o i).1 = -1 ∧ (oAt o i).2 = -1) ∨
 (¬ (oAt o i).1 = -1 ∧ tm.getD i 0 ≤ (oAt o i).1 ∧ (oAt o i).2 = (oAt o i).1 + tk.getD i 0 ∧ (∀ k, k < i → bgn o k → (oAt o k).1 ≤ (oAt o i).1) ∧ cntN (pB o i) (i + 1) ≤ sv ∧ (tm.getD i 0 < (oAt o i).1 → cntN (pW tm o i) (i + 1) < rm)) := by
 rcases g with g | ⟨g1, g2, g3, g4, g5, g6⟩
 · rw [g]; exact .inl ⟨rfl, rfl⟩
 · refine .inr ⟨g1, g2, g3, g4, ?_, fun h => ?_⟩
   · refine Nat.le_trans ?_ g5
     rw [cntN_succ]
     have : cntN (pB o i) i ≤ cntN (busyB o (oAt o i).1) i := cntN_le fun k hk hb => by
      have hki : ¬ ((k : Int) = (i : Int)) := by omega
      unfold pB at hb
      simp only [Bool.and_eq_true, Bool.or_eq_true, Bool.not_eq_true', decide_eq_false_iff_not, decide_eq_true_eq, hki, or_false] at hb
      exact busyB_iff.2 ⟨hb.1.1, hb.1.2, hb.2⟩
     split <;> omega
   · refine Nat.lt_of_le_of_lt ?_ (g6 h)
     rw [cntN_succ]
     have h0 : ¬ pW tm o i i = true := by
      unfold pW
      simp
     rw [if_neg h0]
     refine cntN_le fun k hk hb => ?_
     unfold pW at hb
     simp only [Bool.and_eq_true, Bool.not_eq_true', decide_eq_false_iff_not, decide_eq_true_eq] at hb
     exact waitB_iff.2 ⟨hb.1.2, hb.2⟩
theorem cntN_le_n (p : Nat → Bool) : ∀ n, cntN p n ≤ n
 | 0 => Nat.le_refl _
 | n + 1 => by
   have := cntN_le_n p n
   rw [cntN_succ]
   split <;> omega
def outI (lo hi x : Int) : Bool := decide (x < lo) || decide (hi < x)
def dscN (l : List Int) : Nat → Bool
 | 0 => false
 | n + 1 => dscN l n || (bif decide (0 < (n : Int)) then decide (l.getD n 0 < l.getD (n - 1) 0) else false)
def qF (tm tk : List Int) (sv rm : Int) : Int :=
 bif decide (20000 < (tm.length : Int)) then 3 else bif !decide ((tk.length : Int) = (tm.length : Int)) then 2 else
 bif tm.any (outI 0 1000000000000) then 9 else bif tk.any (outI 0 1000000000) then 9 else bif dscN tm tm.length then 10 else
 bif outI 1 1000 sv || outI 0 10000 rm then 9 else 0
theorem outI_no {lo hi x : Int} (h : outI lo hi x = false) : lo ≤ x ∧ x ≤ hi := by
 unfold outI at h
 simp only [Bool.or_eq_false_iff, decide_eq_false_iff_not] at h
 omega
theorem dsc_no {l : List Int} : ∀ {n : Nat}, dscN l n = false → ∀ j, j + 1 < n → l.getD j 0 ≤ l.getD (j + 1) 0
 | 0, _, j, h => by omega
 | n + 1, h, j, hj => by
   unfold dscN at h
   rw [Bool.or_eq_false_iff] at h
   by_cases e : j + 1 = n
   · subst e
     have h2 := h.2
     rw [decide_eq_true (by omega : (0 : Int) < ((j + 1 : Nat) : Int)), cond_true, decide_eq_false_iff_not, Nat.add_sub_cancel] at h2
     omega
   · exact dsc_no h.1 j (by omega)
theorem sorted_of {l : List Int} (h : ∀ j, j + 1 < l.length → l.getD j 0 ≤ l.getD (j + 1) 0) : l.Pairwise (· ≤ ·) := by
 induction l with
 | nil => exact .nil
 | cons x l ih =>
   have ih := ih fun j hj => by
    have := h (j + 1) (by rw [List.length_cons]; omega)
    simpa [List.getD_eq_getElem?_getD] using this
   refine List.pairwise_cons.2 ⟨fun y hy => ?_, ih⟩
   cases l with
   | nil => simp at hy
   | cons z l =>
     have h0 : x ≤ z := by have := h 0 (by simp); simpa [List.getD_eq_getElem?_getD] using this
     rcases List.mem_cons.1 hy with rfl | hy
     · exact h0
     · have := (List.pairwise_cons.1 ih).1 y hy; omega
structure QOk (tm tk : List Int) (sv rm : Int) : Prop where
 n : tm.length ≤ 20000
 k : tk.length = tm.length
 htm : TmOk tm
 htk : TkOk tk
 s : tm.Pairwise (· ≤ ·)
 hsv : 1 ≤ sv ∧ sv ≤ 1000
 hrm : 0 ≤ rm ∧ rm ≤ 10000
theorem qF_ok {tm tk : List Int} {sv rm : Int} (h : qF tm tk sv rm = 0) : QOk tm tk sv rm := by
 unfold qF at h
 cases c1 : decide (20000 < (tm.length : Int)) with
 | true => rw [c1] at h; cases h
 | false =>
 rw [c1] at h
 cases c2 : !decide ((tk.length : Int) = (tm.length : Int)) with
 | true => rw [c2] at h; cases h
 | false =>
 rw [c2] at h
 cases c3 : tm.any (outI 0 1000000000000) with
 | true => rw [c3] at h; cases h
 | false =>
 rw [c3] at h
 cases c4 : tk.any (outI 0 1000000000) with
 | true => rw [c4] at h; cases h
 | false =>
 rw [c4] at h
 cases c5 : dscN tm tm.length with
 | true => rw [c5] at h; cases h
 | false =>
 rw [c5] at h
 cases c6 : outI 1 1000 sv || outI 0 10000 rm with
 | true => rw [c6] at h; cases h
 | false =>
 simp only [Bool.or_eq_false_iff, decide_eq_false_iff_not, Bool.not_eq_false', decide_eq_true_eq] at c1 c2 c6
 have c3 := List.any_eq_false.1 c3
 have c4 := List.any_eq_false.1 c4
 refine ⟨by omega, by omega, fun t ht => outI_no (Bool.eq_false_iff.2 (c3 t ht)), fun n => ?_, sorted_of (dsc_no c5), outI_no c6.1, outI_no c6.2⟩
 by_cases hn : n < tk.length
 · rw [gI hn]
   exact outI_no (Bool.eq_false_iff.2 (c4 _ (List.getElem_mem hn)))
 · rw [List.getD_eq_getElem?_getD, List.getElem?_eq_none (by omega)]
   exact ⟨by decide, by decide⟩
def OB (M : Int) (o : List Sv) : Prop := ∀ j, (oAt o j).1 ≤ M
theorem OB.set {M : Int} {o : List Sv} (h : OB M o) {x : Sv} (hx : x.1 ≤ M) (n : Nat) : OB M (o.set n x) := fun j => by
 by_cases hn : n < o.length
 · rw [oAt_set x hn]
   split
   · exact hx
   · exact h j
 · have e : o.set n x = o := by rw [List.set_eq_of_length_le (by omega)]
   rw [e]; exact h j
theorem OB.free {tk : List Int} (ht : TkOk tk) {M : Int} {N i : Nat} (hM : 1000000000000 + (i : Int) * 1000000000 ≤ M) : ∀ (f : Nat) (t : Int) {s : QS}, PI N i s → OB M s.o → OB M (pfree tk f t s).o
 | 0, t, s, hP, h => h
 | f + 1, t, s, hP, h => by
   unfold pfree
   by_cases c : 0 < s.l.length ∧ s.l.getD 0 0 ≤ t
   · rw [if_pos c]
     have hb := hP.first c.1
     cases hw : s.w with
     | nil => exact OB.free ht hM f t (hP.end0 c.1 hw) h
     | cons n w => exact OB.free ht hM f t (hP.end1 ht c.1 hw) (h.set (by show s.l.getD 0 0 ≤ M; omega) n)
   · rw [if_neg c]; exact h
theorem OB.arr {tk : List Int} (ht : TkOk tk) {M : Int} {N i sv rm : Nat} (hM : 1000000000000 + (i : Int) * 1000000000 ≤ M) {s : QS} (hP : PI N i s) (h : OB M s.o) {t : Int} (h2 : t ≤ 1000000000000) : OB M (parr tk sv rm i t s).o := by
 have h1 := OB.free ht hM (qms s + 1) t hP h
 unfold parr
 generalize pfree tk (qms s + 1) t s = s1 at *
 simp only
 split
 · exact h1.set (by show t ≤ M; omega) i
 · split
   · exact h1
   · exact h1.set (by show (-1 : Int) ≤ M; omega) i
theorem OB.all {tk : List Int} (ht : TkOk tk) {M : Int} {N sv rm : Nat} (hsv : 1 ≤ sv) (tm : List Int) : ∀ {i : Nat} {s : QS}, TmOk tm → PI N i s → 1000000000000 + ((i + tm.length : Nat) : Int) * 1000000000 ≤ M → OB M s.o → OB M (pall tk sv rm i tm s).o := by
 induction tm with
 | nil => intro i s _ _ _ h; exact h
 | cons t tm ih =>
   intro i s hm hP hM h
   rw [List.length_cons] at hM
   have h1 := hm t (by simp)
   have e1 : 1000000000000 + (i : Int) * 1000000000 ≤ M := by omega
   have e2 : 1000000000000 + ((i + 1 + tm.length : Nat) : Int) * 1000000000 ≤ M := by omega
   have h3 := OB.arr (sv := sv) (rm := rm) ht e1 hP h h1.2
   have h4 : PI N (i + 1) (parr tk sv rm i t s) := hP.arr ht hsv h1.1 h1.2
   exact ih (fun x hx => hm x (by simp [hx])) h4 e2 h3
theorem OB.pend {tk : List Int} (ht : TkOk tk) {M : Int} {N i : Nat} (hM : 1000000000000 + (i : Int) * 1000000000 ≤ M) : ∀ (f : Nat) {s : QS}, PI N i s → OB M s.o → OB M (pend tk f s).o
 | 0, s, _, h => h
 | f + 1, s, hP, h => by
   unfold Go.T9.pend
   split
   · exact h
   · exact OB.pend ht hM f (hP.free ht _ _) (OB.free ht hM _ _ hP h)
theorem queue_bnd {tm tk : List Int} {sv rm : Nat} (hsv : 1 ≤ sv) (hm : TmOk tm) (ht : TkOk tk) (hN : tm.length ≤ 20000) : OB 1000000000000000 (pqueue tm tk sv rm) := by
 have h0 : OB 1000000000000000 (List.replicate tm.length ((0, 0) : Sv)) := fun j => by
  unfold oAt
  rw [List.getD_eq_getElem?_getD, List.getElem?_replicate]
  split <;> simp
 have hP := PI.all (N := tm.length) (rm := rm) ht hsv tm hm (PI.init tm.length)
 have h1 := OB.all (N := tm.length) (sv := sv) (rm := rm) (M := 1000000000000000) ht hsv tm hm (PI.init tm.length) (by omega) h0
 rw [Nat.zero_add] at hP
 exact OB.pend ht (by omega) _ hP h1
end Go.T9

/- A part of the proof. -/

set_option linter.unusedVariables false
set_option linter.unusedSimpArgs false
namespace Go.T9
section
def sw (l : List Int) (i j : Nat) : List Int := (l.set i (l.getD j 0)).set j (l.getD i 0)
def hup : Nat → List Int → Nat → List Int
 | 0, l, _ => l
 | f + 1, l, i => if i = 0 then l else if l.getD i 0 < l.getD ((i - 1) / 2) 0 then hup f (sw l i ((i - 1) / 2)) ((i - 1) / 2) else l
def hpush (l : List Int) (x : Int) : List Int := hup (l.length + 1) (l ++ [x]) l.length
def hls1 (l : List Int) (i : Nat) : Nat := if 2 * i + 1 < l.length ∧ l.getD (2 * i + 1) 0 < l.getD i 0 then 2 * i + 1 else i
def hlst (l : List Int) (i : Nat) : Nat := if 2 * i + 2 < l.length ∧ l.getD (2 * i + 2) 0 < l.getD (hls1 l i) 0 then 2 * i + 2 else hls1 l i
def hdown : Nat → List Int → Nat → List Int
 | 0, l, _ => l
 | f + 1, l, i => if hlst l i = i then l else hdown f (sw l i (hlst l i)) (hlst l i)
def hcut (l : List Int) : List Int := (l.set 0 (l.getD (l.length - 1) 0)).take (l.length - 1)
def hpop (l : List Int) : List Int := hdown (l.length + 1) (hcut l) 0
def HeapL (l : List Int) : Prop := ∀ j, 0 < j → j < l.length → l.getD ((j - 1) / 2) 0 ≤ l.getD j 0
theorem gI {l : List Int} {i : Nat} (h : i < l.length) : l.getD i 0 = l[i] := by rw [List.getD_eq_getElem?_getD, List.getElem?_eq_getElem h]; rfl
theorem sw_len (l : List Int) (i j : Nat) : (sw l i j).length = l.length := by simp [sw]
theorem sw_perm {l : List Int} {i j : Nat} (hi : i < l.length) (hj : j < l.length) : (sw l i j).Perm l := by
 unfold sw
 rw [gI hi, gI hj]
 exact List.set_set_perm hi hj
theorem sw_at {l : List Int} {i j : Nat} (hi : i < l.length) (hj : j < l.length) (k : Nat) : (sw l i j).getD k 0 = if k = j then l.getD i 0 else if k = i then l.getD j 0 else l.getD k 0 := by
 unfold sw
 rw [List.getD_eq_getElem?_getD, List.getElem?_set, List.getElem?_set]
 by_cases h1 : j = k
 · subst h1; simp [hj]
 · have h1' : ¬ k = j := fun e => h1 e.symm
   rw [if_neg h1, if_neg h1']
   by_cases h2 : i = k
   · subst h2; simp [hi]
   · have h2' : ¬ k = i := fun e => h2 e.symm
     rw [if_neg h2, if_neg h2', List.getD_eq_getElem?_getD]
structure HeapX (l : List Int) (i : Nat) : Prop where
 a : ∀ j, 0 < j → j < l.length → j ≠ i → l.getD ((j - 1) / 2) 0 ≤ l.getD j 0
 b : 0 < i → ∀ j, 0 < j → j < l.length → (j - 1) / 2 = i → l.getD ((i - 1) / 2) 0 ≤ l.getD j 0
theorem hup_ok : ∀ (f : Nat) {l : List Int} {i : Nat}, i < l.length → i < f → HeapX l i → HeapL (hup f l i) ∧ (hup f l i).Perm l
 | 0, l, i, _, h, _ => by omega
 | f + 1, l, i, hi, hf, h => by
   unfold hup
   by_cases h0 : i = 0
   · rw [if_pos h0]
     exact ⟨fun j h1 h2 => h.a j h1 h2 (by omega), List.Perm.refl _⟩
   · rw [if_neg h0]
     have hp : (i - 1) / 2 < l.length := by omega
     have hpi : (i - 1) / 2 < i := by omega
     by_cases hc : l.getD i 0 < l.getD ((i - 1) / 2) 0
     · rw [if_pos hc]
       generalize hpe : (i - 1) / 2 = p at *
       have hx : HeapX (sw l i p) p := by
        refine ⟨fun j j0 jl jne => ?_, fun p0 j j0 jl je => ?_⟩
        · rw [sw_len] at jl
          rw [sw_at hi hp, sw_at hi hp]
          by_cases e1 : j = i
          · subst e1
            rw [hpe, if_pos rfl, if_neg (by omega), if_pos rfl]; omega
          · rw [if_neg (show ¬ j = p from jne), if_neg e1]
            have := h.a j j0 jl e1
            by_cases e2 : (j - 1) / 2 = i
            · rw [e2, if_neg (by omega), if_pos rfl]
              have := h.b (by omega) j j0 jl e2
              rw [hpe] at this; exact this
            · by_cases e3 : (j - 1) / 2 = p
              · rw [e3, if_pos rfl]; rw [e3] at this; omega
              · rw [if_neg e3, if_neg e2]; exact this
        · rw [sw_len] at jl
          rw [sw_at hi hp, sw_at hi hp, if_neg (by omega), if_neg (by omega)]
          have h1 := h.a p p0 hp (by omega)
          by_cases e1 : j = i
          · subst e1
            rw [if_neg (by omega), if_pos rfl]; exact h1
          · rw [if_neg (by omega), if_neg e1]
            have := h.a j j0 jl e1
            rw [je] at this; omega
       obtain ⟨g1, g2⟩ := hup_ok f (by rw [sw_len]; exact hp) (by omega) hx
       exact ⟨g1, g2.trans (sw_perm hi hp)⟩
     · rw [if_neg hc]
       refine ⟨fun j h1 h2 => ?_, List.Perm.refl _⟩
       by_cases e : j = i
       · subst e; omega
       · exact h.a j h1 h2 e
theorem hpush_ok {l : List Int} (h : HeapL l) (x : Int) : HeapL (hpush l x) ∧ (hpush l x).Perm (x :: l) := by
 have hg : ∀ k, k < l.length → (l ++ [x]).getD k 0 = l.getD k 0 := fun k hk => by
  rw [List.getD_eq_getElem?_getD, List.getElem?_append_left hk, List.getD_eq_getElem?_getD]
 obtain ⟨g1, g2⟩ := hup_ok (l.length + 1) (l := l ++ [x]) (i := l.length) (by simp) (by omega) ⟨fun j j0 jl jne => by
  rw [List.length_append] at jl
  simp only [List.length_cons, List.length_nil] at jl
  rw [hg _ (by omega), hg _ (by omega)]
  exact h j j0 (by omega), fun _ j j0 jl je => by
  rw [List.length_append] at jl
  simp only [List.length_cons, List.length_nil] at jl
  omega⟩
 exact ⟨g1, g2.trans (List.perm_append_comm.trans (by simp))⟩
structure HeapY (l : List Int) (i : Nat) : Prop where
 a : ∀ j, 0 < j → j < l.length → (j - 1) / 2 ≠ i → l.getD ((j - 1) / 2) 0 ≤ l.getD j 0
 b : 0 < i → ∀ j, 0 < j → j < l.length → (j - 1) / 2 = i → l.getD ((i - 1) / 2) 0 ≤ l.getD j 0
theorem hlst_cases (l : List Int) (i : Nat) : (hlst l i = i ∧ ∀ j, j < l.length → (j = 2 * i + 1 ∨ j = 2 * i + 2) → l.getD i 0 ≤ l.getD j 0) ∨
 ((hlst l i = 2 * i + 1 ∨ hlst l i = 2 * i + 2) ∧ hlst l i < l.length ∧ l.getD (hlst l i) 0 < l.getD i 0 ∧ ∀ j, j < l.length → (j = 2 * i + 1 ∨ j = 2 * i + 2) → l.getD (hlst l i) 0 ≤ l.getD j 0) := by
 unfold hlst hls1
 by_cases c1 : 2 * i + 1 < l.length ∧ l.getD (2 * i + 1) 0 < l.getD i 0
 · rw [if_pos c1]
   by_cases c2 : 2 * i + 2 < l.length ∧ l.getD (2 * i + 2) 0 < l.getD (2 * i + 1) 0
   · rw [if_pos c2]
     refine .inr ⟨.inr rfl, c2.1, by omega, fun j hj e => ?_⟩
     rcases e with rfl | rfl <;> omega
   · rw [if_neg c2]
     refine .inr ⟨.inl rfl, c1.1, c1.2, fun j hj e => ?_⟩
     rcases e with rfl | rfl
     · omega
     · have : ¬ l.getD (2 * i + 2) 0 < l.getD (2 * i + 1) 0 := fun h => c2 ⟨hj, h⟩
       omega
 · rw [if_neg c1]
   by_cases c2 : 2 * i + 2 < l.length ∧ l.getD (2 * i + 2) 0 < l.getD i 0
   · rw [if_pos c2]
     refine .inr ⟨.inr rfl, c2.1, c2.2, fun j hj e => ?_⟩
     rcases e with rfl | rfl
     · have : ¬ l.getD (2 * i + 1) 0 < l.getD i 0 := fun h => c1 ⟨hj, h⟩
       omega
     · omega
   · rw [if_neg c2]
     refine .inl ⟨rfl, fun j hj e => ?_⟩
     rcases e with rfl | rfl
     · have : ¬ l.getD (2 * i + 1) 0 < l.getD i 0 := fun h => c1 ⟨hj, h⟩
       omega
     · have : ¬ l.getD (2 * i + 2) 0 < l.getD i 0 := fun h => c2 ⟨hj, h⟩
       omega
theorem hdown_ok : ∀ (f : Nat) {l : List Int} {i : Nat}, i < l.length → l.length < f + i → HeapY l i → HeapL (hdown f l i) ∧ (hdown f l i).Perm l
 | 0, l, i, _, h, _ => by omega
 | f + 1, l, i, hi, hf, h => by
   unfold hdown
   rcases hlst_cases l i with ⟨e, g⟩ | ⟨e, hm, hlt, g⟩
   · rw [if_pos e]
     refine ⟨fun j h1 h2 => ?_, List.Perm.refl _⟩
     by_cases ep : (j - 1) / 2 = i
     · rw [ep]; exact g j h2 (by omega)
     · exact h.a j h1 h2 ep
   · generalize hlst l i = m at *
     rw [if_neg (by omega)]
     have hpm : (m - 1) / 2 = i := by omega
     have hy : HeapY (sw l i m) m := by
      refine ⟨fun j j0 jl jne => ?_, fun m0 j j0 jl je => ?_⟩
      · rw [sw_len] at jl
        rw [sw_at hi hm, sw_at hi hm]
        by_cases e1 : j = m
        · subst e1
          rw [hpm, if_neg (by omega), if_pos rfl, if_pos rfl]; omega
        · rw [if_neg (show ¬ (j - 1) / 2 = m from jne), if_neg e1]
          by_cases e2 : j = i
          · subst e2
            rw [if_neg (by omega), if_pos rfl]
            exact h.b j0 m (by omega) hm hpm
          · rw [if_neg e2]
            by_cases e3 : (j - 1) / 2 = i
            · rw [e3, if_pos rfl]; exact g j jl (by omega)
            · rw [if_neg e3]; exact h.a j j0 jl e3
      · rw [sw_len] at jl
        rw [sw_at hi hm, sw_at hi hm, hpm, if_neg (by omega), if_pos rfl, if_neg (by omega), if_neg (by omega)]
        have := h.a j j0 jl (by omega)
        rw [je] at this; exact this
     obtain ⟨g1, g2⟩ := hdown_ok f (by rw [sw_len]; exact hm) (by rw [sw_len]; omega) hy
     exact ⟨g1, g2.trans (sw_perm hi hm)⟩
theorem heap_min {l : List Int} (h : HeapL l) : ∀ j, j < l.length → l.getD 0 0 ≤ l.getD j 0 := by
 intro j
 induction j using Nat.strongRecOn with
 | _ j ih =>
   intro hj
   by_cases h0 : j = 0
   · subst h0; omega
   · have := ih ((j - 1) / 2) (by omega) (by omega)
     have := h j (by omega) hj
     omega
theorem hcut_len (l : List Int) : (hcut l).length = l.length - 1 := by simp [hcut]
theorem hcut_perm {l : List Int} (h : 0 < l.length) : (l.getD 0 0 :: hcut l).Perm l := by
 cases l with
 | nil => simp at h
 | cons x l =>
   rcases List.eq_nil_or_concat l with rfl | ⟨mid, z, rfl⟩
   · simp [hcut]
   · have e : hcut (x :: (mid.concat z)) = z :: mid := by
      unfold hcut
      simp [List.getD_eq_getElem?_getD]
     rw [e]
     simp only [List.concat_eq_append]
     show (x :: z :: mid).Perm (x :: (mid ++ [z]))
     exact List.Perm.cons x (List.perm_append_comm (l₁ := [z]) (l₂ := mid))
theorem hpop_ok {l : List Int} (h : HeapL l) (h0 : 0 < l.length) : HeapL (hpop l) ∧ (l.getD 0 0 :: hpop l).Perm l := by
 have hl := hcut_len l
 by_cases h1 : l.length = 1
 · have e : hcut l = [] := List.eq_nil_of_length_eq_zero (by omega)
   have hd : ∀ f, hdown f [] 0 = [] := fun f => by
    cases f with
    | zero => rfl
    | succ f =>
      unfold hdown
      rw [if_pos (by simp [hlst, hls1])]
   have e2 : hpop l = [] := by unfold hpop; rw [e]; exact hd _
   rw [e2]
   refine ⟨fun j _ hj => by simp at hj, ?_⟩
   have := hcut_perm h0
   rw [e] at this; exact this
 · have hat : ∀ k, 0 < k → k < l.length - 1 → (hcut l).getD k 0 = l.getD k 0 := fun k k0 hk => by
    unfold hcut
    rw [List.getD_eq_getElem?_getD, List.getElem?_take, if_pos hk, List.getElem?_set, if_neg (by omega), List.getD_eq_getElem?_getD]
   obtain ⟨g1, g2⟩ := hdown_ok (l.length + 1) (l := hcut l) (i := 0) (by omega) (by omega) ⟨fun j j0 jl jne => by
    rw [hat j j0 (by omega), hat _ (by omega) (by omega)]
    exact h j j0 (by omega), fun h => by omega⟩
   exact ⟨g1, (List.Perm.cons _ g2).trans (hcut_perm h0)⟩
end
abbrev Sv := Int × Int
def oAt (o : List Sv) (n : Nat) : Sv := o.getD n (0, 0)
def lft (o : List Sv) (n : Nat) : Int := (oAt o n).2
theorem lft_set (o : List Sv) (n : Nat) (x : Sv) {k : Nat} (h : k ≠ n) : lft (o.set n x) k = lft o k := by
 unfold lft oAt
 rw [List.getD_eq_getElem?_getD, List.getElem?_set, if_neg (fun e => h e.symm), List.getD_eq_getElem?_getD]
theorem lft_same {o : List Sv} {n : Nat} (x : Sv) (h : n < o.length) : lft (o.set n x) n = x.2 := by
 unfold lft oAt
 rw [List.getD_eq_getElem?_getD, List.getElem?_set, if_pos rfl, if_pos h]; rfl
structure QS where
 l : List Int
 w : List Nat
 o : List Sv
def qbeg (tk : List Int) (l : List Int) (w : List Nat) (o : List Sv) (i : Nat) (t : Int) : QS := ⟨hpush l (t + tk.getD i 0), w, o.set i (t, t + tk.getD i 0)⟩
def pfree (tk : List Int) : Nat → Int → QS → QS
 | 0, _, s => s
 | f + 1, t, s => if 0 < s.l.length ∧ s.l.getD 0 0 ≤ t then (match s.w with
     | [] => pfree tk f t ⟨hpop s.l, [], s.o⟩
     | n :: w => pfree tk f t (qbeg tk (hpop s.l) w s.o n (s.l.getD 0 0))) else s
def qms (s : QS) : Nat := 2 * s.w.length + s.l.length
def parr (tk : List Int) (sv rm : Nat) (i : Nat) (t : Int) (s : QS) : QS :=
 let s1 := pfree tk (qms s + 1) t s
 if s1.l.length < sv then qbeg tk s1.l s1.w s1.o i t else if s1.w.length < rm then ⟨s1.l, s1.w ++ [i], s1.o⟩ else ⟨s1.l, s1.w, s1.o.set i (-1, -1)⟩
def pall (tk : List Int) (sv rm : Nat) : Nat → List Int → QS → QS
 | _, [], s => s
 | i, t :: l, s => pall tk sv rm (i + 1) l (parr tk sv rm i t s)
def pend (tk : List Int) : Nat → QS → QS
 | 0, s => s
 | f + 1, s => if s.w = [] then s else pend tk f (pfree tk (qms s + 1) (s.l.getD 0 0) s)
def pqueue (tm tk : List Int) (sv rm : Nat) : List Sv :=
 let s := pall tk sv rm 0 tm ⟨[], [], List.replicate tm.length (0, 0)⟩
 (pend tk (s.w.length + 1) s).o
structure RS where
 sv : List Nat
 w : List Nat
 o : List Sv
def endS (o : List Sv) (sv : List Nat) (t : Int) : Nat → Option Nat
 | 0 => none
 | k + 1 => match endS o sv t k with
   | none => if lft o (sv.getD k 0) ≤ t then some k else none
   | some b => if lft o (sv.getD k 0) ≤ t ∧ lft o (sv.getD k 0) < lft o (sv.getD b 0) then some k else some b
def endg (o : List Sv) (sv : List Nat) (t : Int) : Option Nat := endS o sv t sv.length
def rfree (tk : List Int) : Nat → Int → RS → RS
 | 0, _, s => s
 | f + 1, t, s => match endg s.o s.sv t with
   | none => s
   | some k => match s.w with
     | [] => rfree tk f t ⟨s.sv.eraseIdx k, [], s.o⟩
     | n :: w => rfree tk f t ⟨s.sv.eraseIdx k ++ [n], w, s.o.set n (lft s.o (s.sv.getD k 0), lft s.o (s.sv.getD k 0) + tk.getD n 0)⟩
def rms (s : RS) : Nat := 2 * s.w.length + s.sv.length
def rarr (tk : List Int) (sv rm : Nat) (i : Nat) (t : Int) (s : RS) : RS :=
 let s1 := rfree tk (rms s + 1) t s
 if s1.sv.length < sv then ⟨s1.sv ++ [i], s1.w, s1.o.set i (t, t + tk.getD i 0)⟩ else if s1.w.length < rm then ⟨s1.sv, s1.w ++ [i], s1.o⟩ else ⟨s1.sv, s1.w, s1.o.set i (-1, -1)⟩
def rall (tk : List Int) (sv rm : Nat) : Nat → List Int → RS → RS
 | _, [], s => s
 | i, t :: l, s => rall tk sv rm (i + 1) l (rarr tk sv rm i t s)
def rend (tk : List Int) (top : Int) : Nat → RS → RS
 | 0, s => s
 | f + 1, s => match s.w with
   | [] => s
   | n :: w => match endg s.o s.sv top with
     | none => s
     | some k => rend tk top f ⟨s.sv.set k n, w, s.o.set n (lft s.o (s.sv.getD k 0), lft s.o (s.sv.getD k 0) + tk.getD n 0)⟩
def rqueue (top : Int) (tm tk : List Int) (sv rm : Nat) : List Sv :=
 let s := rall tk sv rm 0 tm ⟨[], [], List.replicate tm.length (0, 0)⟩
 (rend tk top (s.w.length + 1) s).o
theorem endS_ok (o : List Sv) (sv : List Nat) (t : Int) : ∀ k, (endS o sv t k = none ∧ ∀ j, j < k → t < lft o (sv.getD j 0)) ∨ ∃ b, endS o sv t k = some b ∧ b < k ∧ lft o (sv.getD b 0) ≤ t ∧ ∀ j, j < k → lft o (sv.getD b 0) ≤ lft o (sv.getD j 0)
 | 0 => .inl ⟨rfl, fun j h => by omega⟩
 | k + 1 => by
   unfold endS
   rcases endS_ok o sv t k with ⟨e, h⟩ | ⟨b, e, h1, h2, h3⟩
   · rw [e]
     simp only
     by_cases c : lft o (sv.getD k 0) ≤ t
     · rw [if_pos c]
       refine .inr ⟨k, rfl, by omega, c, fun j hj => ?_⟩
       by_cases ej : j = k
       · subst ej; omega
       · have := h j (by omega); omega
     · rw [if_neg c]
       refine .inl ⟨rfl, fun j hj => ?_⟩
       by_cases ej : j = k
       · subst ej; omega
       · exact h j (by omega)
   · rw [e]
     simp only
     by_cases c : lft o (sv.getD k 0) ≤ t ∧ lft o (sv.getD k 0) < lft o (sv.getD b 0)
     · rw [if_pos c]
       refine .inr ⟨k, rfl, by omega, c.1, fun j hj => ?_⟩
       by_cases ej : j = k
       · subst ej; omega
       · have := h3 j (by omega); omega
     · rw [if_neg c]
       refine .inr ⟨b, rfl, by omega, h2, fun j hj => ?_⟩
       by_cases ej : j = k
       · subst ej
         by_cases c1 : lft o (sv.getD j 0) ≤ t
         · have : ¬ lft o (sv.getD j 0) < lft o (sv.getD b 0) := fun h => c ⟨c1, h⟩
           omega
         · omega
       · exact h3 j (by omega)
theorem gN {l : List Nat} {i : Nat} (h : i < l.length) : l.getD i 0 = l[i] := by rw [List.getD_eq_getElem?_getD, List.getElem?_eq_getElem h]; rfl
structure Sim (s : QS) (r : RS) : Prop where
 w : s.w = r.w
 o : s.o = r.o
 h : HeapL s.l
 p : s.l.Perm (r.sv.map (lft r.o))
 nd : (r.sv ++ r.w).Nodup
 lt : ∀ n ∈ r.sv ++ r.w, n < r.o.length
theorem Sim.len {s : QS} {r : RS} (h : Sim s r) : s.l.length = r.sv.length := by rw [h.p.length_eq, List.length_map]
theorem Sim.ms {s : QS} {r : RS} (h : Sim s r) : qms s = rms r := by unfold qms rms; rw [h.len, h.w]
theorem Sim.first {s : QS} {r : RS} (h : Sim s r) (t : Int) : (endg r.o r.sv t = none ∧ ¬ (0 < s.l.length ∧ s.l.getD 0 0 ≤ t)) ∨ ∃ k, endg r.o r.sv t = some k ∧ k < r.sv.length ∧ (0 < s.l.length ∧ s.l.getD 0 0 ≤ t) ∧ lft r.o (r.sv.getD k 0) = s.l.getD 0 0 := by
 have hl := h.len
 have hmin := heap_min h.h
 have mem1 : ∀ x, x ∈ s.l → s.l.getD 0 0 ≤ x := fun x hx => by
  obtain ⟨j, hj, e⟩ := List.mem_iff_getElem.1 hx
  have := hmin j hj
  rw [gI hj, e] at this; exact this
 have mem0 : 0 < s.l.length → ∃ j, j < r.sv.length ∧ lft r.o (r.sv.getD j 0) = s.l.getD 0 0 := fun h0 => by
  have : s.l.getD 0 0 ∈ s.l := by rw [gI h0]; exact List.getElem_mem h0
  have := h.p.mem_iff.1 this
  obtain ⟨n, hn, e⟩ := List.mem_map.1 this
  obtain ⟨j, hj, e2⟩ := List.mem_iff_getElem.1 hn
  exact ⟨j, hj, by rw [gN hj, e2, e]⟩
 unfold endg
 rcases endS_ok r.o r.sv t r.sv.length with ⟨e, g⟩ | ⟨b, e, h1, h2, h3⟩
 · refine .inl ⟨e, fun ⟨h0, hle⟩ => ?_⟩
   obtain ⟨j, hj, ej⟩ := mem0 h0
   have := g j hj
   omega
 · have h0 : 0 < s.l.length := by omega
   obtain ⟨j, hj, ej⟩ := mem0 h0
   have hb : lft r.o (r.sv.getD b 0) ∈ s.l := h.p.mem_iff.2 (List.mem_map.2 ⟨_, by rw [gN h1]; exact List.getElem_mem h1, rfl⟩)
   have := mem1 _ hb
   have := h3 j hj
   exact .inr ⟨b, e, h1, ⟨h0, by omega⟩, by omega⟩
theorem map_erase {l : List Nat} (f : Nat → Int) : ∀ {k : Nat}, k < l.length → (f (l.getD k 0) :: (l.eraseIdx k).map f).Perm (l.map f) := by
 induction l with
 | nil => intro k h; simp at h
 | cons x l ih =>
   intro k h
   cases k with
   | zero => simp [List.getD_eq_getElem?_getD]
   | succ k =>
     have h : k < l.length := by simpa using h
     have := ih h
     have e : (x :: l).getD (k + 1) 0 = l.getD k 0 := by simp [List.getD_eq_getElem?_getD]
     rw [e, List.eraseIdx_cons_succ, List.map_cons, List.map_cons]
     exact (List.Perm.swap _ _ _).trans (List.Perm.cons _ this)
theorem mem_eraseIdx {l : List Nat} {k n : Nat} (h : n ∈ l.eraseIdx k) : n ∈ l := List.mem_of_mem_eraseIdx h
theorem Sim.pop {s : QS} {r : RS} (h : Sim s r) {k : Nat} (hk : k < r.sv.length) (h0 : 0 < s.l.length) (e : lft r.o (r.sv.getD k 0) = s.l.getD 0 0) : HeapL (hpop s.l) ∧ (hpop s.l).Perm ((r.sv.eraseIdx k).map (lft r.o)) := by
 obtain ⟨g1, g2⟩ := hpop_ok h.h h0
 have := (g2.trans h.p).trans (map_erase (lft r.o) hk).symm
 rw [e] at this
 exact ⟨g1, this.cons_inv⟩
theorem Sim.end0 {s : QS} {r : RS} (h : Sim s r) (hw : r.w = []) {k : Nat} (hk : k < r.sv.length) (h0 : 0 < s.l.length) (e : lft r.o (r.sv.getD k 0) = s.l.getD 0 0) : Sim ⟨hpop s.l, [], s.o⟩ ⟨r.sv.eraseIdx k, [], r.o⟩ := by
 obtain ⟨g1, g2⟩ := h.pop hk h0 e
 have nd := h.nd
 have lt := h.lt
 rw [hw, List.append_nil] at nd lt
 exact ⟨rfl, h.o, g1, g2, by rw [List.append_nil]; exact nd.sublist (List.eraseIdx_sublist _ _), fun n hn => lt n (mem_eraseIdx (by simpa using hn))⟩
theorem map_lft_set {l : List Nat} {o : List Sv} {n : Nat} (x : Sv) (h : ¬ n ∈ l) : l.map (lft (o.set n x)) = l.map (lft o) :=
 List.map_congr_left fun k hk => lft_set o n x fun e => h (e ▸ hk)
theorem Sim.end1 {s : QS} {r : RS} (tk : List Int) (h : Sim s r) {n : Nat} {w : List Nat} (hw : r.w = n :: w) {k : Nat} (hk : k < r.sv.length) (h0 : 0 < s.l.length) (e : lft r.o (r.sv.getD k 0) = s.l.getD 0 0) :
 Sim (qbeg tk (hpop s.l) w s.o n (s.l.getD 0 0)) ⟨r.sv.eraseIdx k ++ [n], w, r.o.set n (lft r.o (r.sv.getD k 0), lft r.o (r.sv.getD k 0) + tk.getD n 0)⟩ := by
 obtain ⟨g1, g2⟩ := h.pop hk h0 e
 have nd := h.nd
 have lt := h.lt
 rw [hw] at nd lt
 rw [List.nodup_append] at nd
 obtain ⟨n1, n2, n3⟩ := nd
 rw [List.nodup_cons] at n2
 have hnl : n < r.o.length := lt n (by simp)
 have hn : ¬ n ∈ r.sv.eraseIdx k := fun hx => n3 n (mem_eraseIdx hx) n (by simp) rfl
 obtain ⟨p1, p2⟩ := hpush_ok g1 (s.l.getD 0 0 + tk.getD n 0)
 refine ⟨rfl, ?_, p1, ?_, ?_, fun m hm => ?_⟩
 · show s.o.set n _ = r.o.set n _
   rw [h.o, e]
 · show (hpush (hpop s.l) _).Perm _
   rw [List.map_append, map_lft_set _ hn]
   refine p2.trans ((List.Perm.cons _ g2).trans ?_)
   rw [List.map_cons, List.map_nil, lft_same _ hnl, e]
   exact List.perm_append_comm (l₁ := [_])
 · rw [List.append_assoc]
   refine List.nodup_append.2 ⟨n1.sublist (List.eraseIdx_sublist _ _), by simpa using n2, fun a ha b hb => ?_⟩
   exact n3 a (mem_eraseIdx ha) b (by simpa using hb)
 · rw [List.length_set]
   refine lt m ?_
   rcases List.mem_append.1 hm with hm | hm
   · rcases List.mem_append.1 hm with hm | hm
     · exact List.mem_append.2 (.inl (mem_eraseIdx hm))
     · have : m = n := by simpa using hm
       subst this; simp
   · exact List.mem_append.2 (.inr (by simp [show m ∈ w from hm]))
theorem sim_free (tk : List Int) : ∀ (f : Nat) (t : Int) {s : QS} {r : RS}, Sim s r → Sim (pfree tk f t s) (rfree tk f t r)
 | 0, t, s, r, h => h
 | f + 1, t, s, r, h => by
   unfold pfree rfree
   rcases h.first t with ⟨e, hn⟩ | ⟨k, e, hk, h0, hm⟩
   · rw [e, if_neg hn]; exact h
   · rw [e, if_pos h0]
     simp only
     cases hw : r.w with
     | nil =>
       have hw2 : s.w = [] := by rw [h.w, hw]
       rw [hw2]
       exact sim_free tk f t (h.end0 hw hk h0.1 hm)
     | cons n w =>
       have hw2 : s.w = n :: w := by rw [h.w, hw]
       rw [hw2]
       exact sim_free tk f t (h.end1 tk hw hk h0.1 hm)
def Low (r : RS) (i : Nat) : Prop := ∀ n ∈ r.sv ++ r.w, n < i
theorem low_free (tk : List Int) : ∀ (f : Nat) (t : Int) {r : RS} {i : Nat}, Low r i → Low (rfree tk f t r) i ∧ (rfree tk f t r).o.length = r.o.length
 | 0, t, r, i, h => ⟨h, rfl⟩
 | f + 1, t, r, i, h => by
   unfold rfree
   cases endg r.o r.sv t with
   | none => exact ⟨h, rfl⟩
   | some k =>
     simp only
     cases hw : r.w with
     | nil =>
       simp only
       exact low_free tk f t fun n hn => h n (List.mem_append.2 (.inl (mem_eraseIdx (by simpa using hn))))
     | cons n w =>
       simp only
       obtain ⟨g1, g2⟩ := low_free tk f t (r := ⟨r.sv.eraseIdx k ++ [n], w, r.o.set n (lft r.o (r.sv.getD k 0), lft r.o (r.sv.getD k 0) + tk.getD n 0)⟩) (i := i) fun m hm => by
        refine h m ?_
        rw [hw]
        rcases List.mem_append.1 hm with hm | hm
        · rcases List.mem_append.1 hm with hm | hm
          · exact List.mem_append.2 (.inl (mem_eraseIdx hm))
          · have : m = n := by simpa using hm
            subst this; simp
        · exact List.mem_append.2 (.inr (by simp [show m ∈ w from hm]))
       exact ⟨g1, by rw [g2]; simp⟩
theorem sim_arr (tk : List Int) (sv rm : Nat) {i : Nat} (t : Int) {s : QS} {r : RS} (h : Sim s r) (hl : Low r i) (hi : i < r.o.length) : Sim (parr tk sv rm i t s) (rarr tk sv rm i t r) ∧ Low (rarr tk sv rm i t r) (i + 1) ∧ (rarr tk sv rm i t r).o.length = r.o.length := by
 unfold parr rarr
 rw [h.ms]
 have h1 := sim_free tk (rms r + 1) t h
 obtain ⟨l1, l2⟩ := low_free tk (rms r + 1) t hl
 generalize pfree tk (rms r + 1) t s = s1 at *
 generalize rfree tk (rms r + 1) t r = r1 at *
 simp only
 rw [h1.len, h1.w]
 have hni : ∀ m ∈ r1.sv ++ r1.w, m ≠ i := fun m hm e => by have := l1 m hm; omega
 have hnd := h1.nd
 have hlt := h1.lt
 have hil : i < r1.o.length := by omega
 by_cases c1 : r1.sv.length < sv
 · rw [if_pos c1, if_pos c1]
   obtain ⟨p1, p2⟩ := hpush_ok h1.h (t + tk.getD i 0)
   refine ⟨⟨rfl, ?_, p1, ?_, ?_, fun m hm => ?_⟩, fun m hm => ?_, by simp only [List.length_set]; exact l2⟩
   · show s1.o.set i _ = r1.o.set i _
     rw [h1.o]
   · show (hpush s1.l _).Perm _
     rw [List.map_append, map_lft_set _ (fun hx => hni i (List.mem_append.2 (.inl hx)) rfl)]
     refine p2.trans ((List.Perm.cons _ h1.p).trans ?_)
     rw [List.map_cons, List.map_nil, lft_same _ hil]
     exact List.perm_append_comm (l₁ := [_])
   · rw [List.nodup_append] at hnd
     obtain ⟨n1, n2, n3⟩ := hnd
     rw [List.append_assoc]
     refine List.nodup_append.2 ⟨n1, ?_, fun a ha b hb => ?_⟩
     · simp only [List.cons_append, List.nil_append, List.nodup_cons]
       exact ⟨fun hx => hni i (List.mem_append.2 (.inr hx)) rfl, n2⟩
     · rcases List.mem_append.1 hb with hb | hb
       · have : b = i := by simpa using hb
         subst this
         exact hni a (List.mem_append.2 (.inl ha))
       · exact n3 a ha b hb
   · rw [List.length_set]
     rcases List.mem_append.1 hm with hm | hm
     · rcases List.mem_append.1 hm with hm | hm
       · exact hlt m (List.mem_append.2 (.inl hm))
       · have : m = i := by simpa using hm
         omega
     · exact hlt m (List.mem_append.2 (.inr hm))
   · rcases List.mem_append.1 hm with hm | hm
     · rcases List.mem_append.1 hm with hm | hm
       · have := l1 m (List.mem_append.2 (.inl hm)); omega
       · have : m = i := by simpa using hm
         omega
     · have := l1 m (List.mem_append.2 (.inr hm)); omega
 · rw [if_neg c1, if_neg c1]
   by_cases c2 : r1.w.length < rm
   · rw [if_pos c2, if_pos c2]
     refine ⟨⟨rfl, h1.o, h1.h, h1.p, ?_, fun m hm => ?_⟩, fun m hm => ?_, l2⟩
     · rw [← List.append_assoc]
       exact List.nodup_append.2 ⟨hnd, by simp, fun a ha b hb => by
        have : b = i := by simpa using hb
        subst this; exact hni a ha⟩
     · have hm : m ∈ (r1.sv ++ r1.w) ++ [i] := by simpa [List.append_assoc] using hm
       rcases List.mem_append.1 hm with hm | hm
       · exact hlt m hm
       · have : m = i := by simpa using hm
         show m < r1.o.length
         omega
     · have hm : m ∈ (r1.sv ++ r1.w) ++ [i] := by simpa [List.append_assoc] using hm
       rcases List.mem_append.1 hm with hm | hm
       · have := l1 m hm; omega
       · have : m = i := by simpa using hm
         omega
   · rw [if_neg c2, if_neg c2]
     refine ⟨⟨rfl, ?_, h1.h, ?_, hnd, fun m hm => ?_⟩, fun m hm => ?_, by simp only [List.length_set]; exact l2⟩
     · show s1.o.set i _ = r1.o.set i _
       rw [h1.o]
     · show s1.l.Perm _
       rw [map_lft_set _ (fun hx => hni i (List.mem_append.2 (.inl hx)) rfl)]
       exact h1.p
     · rw [List.length_set]; exact hlt m hm
     · have := l1 m hm; omega
theorem sim_all (tk : List Int) (sv rm : Nat) : ∀ (tm : List Int) {i : Nat} {s : QS} {r : RS}, Sim s r → Low r i → i + tm.length ≤ r.o.length → Sim (pall tk sv rm i tm s) (rall tk sv rm i tm r)
 | [], i, s, r, h, _, _ => h
 | t :: tm, i, s, r, h, hl, hi => by
   rw [List.length_cons] at hi
   obtain ⟨h1, h2, h3⟩ := sim_arr tk sv rm t h hl (by omega)
   exact sim_all tk sv rm tm h1 h2 (by omega)
theorem hup_len : ∀ (f : Nat) (l : List Int) (i : Nat), (hup f l i).length = l.length
 | 0, l, i => rfl
 | f + 1, l, i => by
   unfold hup
   split
   · rfl
   · split
     · rw [hup_len f, sw_len]
     · rfl
theorem hpush_len (l : List Int) (x : Int) : (hpush l x).length = l.length + 1 := by unfold hpush; rw [hup_len]; simp
theorem hdown_len : ∀ (f : Nat) (l : List Int) (i : Nat), (hdown f l i).length = l.length
 | 0, l, i => rfl
 | f + 1, l, i => by
   unfold hdown
   split
   · rfl
   · rw [hdown_len f, sw_len]
theorem hpop_len (l : List Int) : (hpop l).length = l.length - 1 := by unfold hpop; rw [hdown_len, hcut_len]
theorem hpop_mem {l : List Int} (h : HeapL l) (h0 : 0 < l.length) {x : Int} (hx : x ∈ hpop l) : x ∈ l := (hpop_ok h h0).2.mem_iff.1 (List.mem_cons_of_mem _ hx)
theorem hpush_mem {l : List Int} (h : HeapL l) {x y : Int} (hx : y ∈ hpush l x) : y = x ∨ y ∈ l := List.mem_cons.1 ((hpush_ok h x).2.mem_iff.1 hx)
theorem head_mem {l : List Int} (h0 : 0 < l.length) : l.getD 0 0 ∈ l := by rw [gI h0]; exact List.getElem_mem h0
def TkOk (tk : List Int) : Prop := ∀ n, 0 ≤ tk.getD n 0 ∧ tk.getD n 0 ≤ 1000000000
structure PI (N i : Nat) (s : QS) : Prop where
 h : HeapL s.l
 c : ∃ c : Nat, c + s.w.length ≤ i ∧ s.l.length ≤ c ∧ ∀ x ∈ s.l, 0 ≤ x ∧ x ≤ 1000000000000 + (c : Int) * 1000000000
 w : ∀ n ∈ s.w, n < i
 o : s.o.length = N
 q : s.w ≠ [] → 0 < s.l.length
theorem PI.first {N i : Nat} {s : QS} (h : PI N i s) (h0 : 0 < s.l.length) : 0 ≤ s.l.getD 0 0 ∧ s.l.getD 0 0 ≤ 1000000000000 + (i : Int) * 1000000000 := by
 obtain ⟨c, h1, h2, h3⟩ := h.c
 have := h3 _ (head_mem h0)
 omega
theorem PI.end0 {N i : Nat} {s : QS} (h : PI N i s) (h0 : 0 < s.l.length) (o : s.w = []) : PI N i ⟨hpop s.l, [], s.o⟩ := by
 obtain ⟨c, h1, h2, h3⟩ := h.c
 refine ⟨(hpop_ok h.h h0).1, ⟨c, ?_, ?_, fun x hx => h3 x (hpop_mem h.h h0 hx)⟩, fun n hn => by simp at hn, h.o, fun e => absurd rfl e⟩
 · show c + 0 ≤ i
   omega
 · show (hpop s.l).length ≤ c
   rw [hpop_len]; omega
theorem PI.end1 {tk : List Int} (ht : TkOk tk) {N i : Nat} {s : QS} (h : PI N i s) (h0 : 0 < s.l.length) {n : Nat} {w : List Nat} (hw : s.w = n :: w) : PI N i (qbeg tk (hpop s.l) w s.o n (s.l.getD 0 0)) := by
 obtain ⟨c, h1, h2, h3⟩ := h.c
 rw [hw, List.length_cons] at h1
 have hp := (hpop_ok h.h h0).1
 have hn := ht n
 have hf := h3 _ (head_mem h0)
 refine ⟨(hpush_ok hp _).1, ⟨c + 1, ?_, ?_, fun x hx => ?_⟩, fun m hm => h.w m (by rw [hw]; exact List.mem_cons_of_mem _ hm), ?_, fun _ => ?_⟩
 · show c + 1 + w.length ≤ i
   omega
 · show (hpush _ _).length ≤ c + 1
   rw [hpush_len, hpop_len]; omega
 · rcases hpush_mem hp hx with rfl | hx
   · omega
   · have := h3 x (hpop_mem h.h h0 hx); omega
 · show (s.o.set n _).length = N
   rw [List.length_set]; exact h.o
 · show 0 < (hpush _ _).length
   rw [hpush_len]; omega
theorem PI.free {tk : List Int} (ht : TkOk tk) {N i : Nat} : ∀ (f : Nat) (t : Int) {s : QS}, PI N i s → PI N i (pfree tk f t s)
 | 0, t, s, h => h
 | f + 1, t, s, h => by
   unfold pfree
   by_cases h0 : 0 < s.l.length ∧ s.l.getD 0 0 ≤ t
   · rw [if_pos h0]
     cases hw : s.w with
     | nil => exact PI.free ht f t (h.end0 h0.1 hw)
     | cons n w => exact PI.free ht f t (h.end1 ht h0.1 hw)
   · rw [if_neg h0]; exact h
theorem PI.beg {tk : List Int} (ht : TkOk tk) {N i : Nat} {s : QS} (h : PI N i s) {t : Int} (h1 : 0 ≤ t) (h2 : t ≤ 1000000000000) : PI N (i + 1) (qbeg tk s.l s.w s.o i t) := by
 obtain ⟨c, k1, k2, k3⟩ := h.c
 have hn := ht i
 refine ⟨(hpush_ok h.h _).1, ⟨c + 1, ?_, ?_, fun x hx => ?_⟩, fun m hm => Nat.lt_succ_of_lt (h.w m hm), ?_, fun _ => ?_⟩
 · show c + 1 + s.w.length ≤ i + 1
   omega
 · show (hpush _ _).length ≤ c + 1
   rw [hpush_len]; omega
 · rcases hpush_mem h.h hx with rfl | hx
   · omega
   · have := k3 x hx; omega
 · show (s.o.set i _).length = N
   rw [List.length_set]; exact h.o
 · show 0 < (hpush _ _).length
   rw [hpush_len]; omega
theorem PI.wait {N i : Nat} {s : QS} (h : PI N i s) (h0 : 0 < s.l.length) : PI N (i + 1) ⟨s.l, s.w ++ [i], s.o⟩ := by
 obtain ⟨c, k1, k2, k3⟩ := h.c
 refine ⟨h.h, ⟨c, ?_, k2, k3⟩, fun m hm => ?_, h.o, fun _ => h0⟩
 · show c + (s.w ++ [i]).length ≤ i + 1
   rw [List.length_append]; simp only [List.length_cons, List.length_nil]; omega
 · rcases List.mem_append.1 hm with hm | hm
   · exact Nat.lt_succ_of_lt (h.w m hm)
   · have : m = i := by simpa using hm
     omega
theorem PI.refuse {N i : Nat} {s : QS} (h : PI N i s) (x : Sv) : PI N (i + 1) ⟨s.l, s.w, s.o.set i x⟩ := by
 obtain ⟨c, k1, k2, k3⟩ := h.c
 exact ⟨h.h, ⟨c, by show c + s.w.length ≤ i + 1; omega, k2, k3⟩, fun m hm => Nat.lt_succ_of_lt (h.w m hm), by show (s.o.set i x).length = N; rw [List.length_set]; exact h.o, h.q⟩
theorem PI.arr {tk : List Int} (ht : TkOk tk) {N i sv rm : Nat} (hsv : 1 ≤ sv) {s : QS} (h : PI N i s) {t : Int} (h1 : 0 ≤ t) (h2 : t ≤ 1000000000000) : PI N (i + 1) (parr tk sv rm i t s) := by
 unfold parr
 have hf := PI.free ht (qms s + 1) t h
 generalize pfree tk (qms s + 1) t s = s1 at *
 simp only
 by_cases c1 : s1.l.length < sv
 · rw [if_pos c1]; exact hf.beg ht h1 h2
 · rw [if_neg c1]
   by_cases c2 : s1.w.length < rm
   · rw [if_pos c2]; exact hf.wait (by omega)
   · rw [if_neg c2]; exact hf.refuse _
theorem PI.init (N : Nat) : PI N 0 ⟨[], [], List.replicate N (0, 0)⟩ :=
 ⟨fun j _ h => by simp at h, ⟨0, by simp, by simp, fun x hx => by simp at hx⟩, fun n hn => by simp at hn, by simp, fun h => absurd rfl h⟩
def TmOk (tm : List Int) : Prop := ∀ t ∈ tm, 0 ≤ t ∧ t ≤ 1000000000000
theorem PI.all {tk : List Int} (ht : TkOk tk) {N sv rm : Nat} (hsv : 1 ≤ sv) : ∀ (tm : List Int) {i : Nat} {s : QS}, TmOk tm → PI N i s → PI N (i + tm.length) (pall tk sv rm i tm s)
 | [], i, s, _, h => h
 | t :: tm, i, s, hm, h => by
   have ht1 := hm t List.mem_cons_self
   have := PI.all ht (rm := rm) hsv tm (i := i + 1) (fun x hx => hm x (List.mem_cons_of_mem _ hx)) (h.arr ht (rm := rm) hsv ht1.1 ht1.2)
   rw [List.length_cons, show i + (tm.length + 1) = i + 1 + tm.length by omega]
   exact this
def drain (tk : List Int) : Nat → QS → List Sv
 | 0, s => s.o
 | f + 1, s => match s.w with
   | [] => s.o
   | n :: w => drain tk f (qbeg tk (hpop s.l) w s.o n (s.l.getD 0 0))
theorem drain_step {tk : List Int} {s : QS} {n : Nat} {w : List Nat} (hw : s.w = n :: w) : drain tk s.w.length s = drain tk w.length (qbeg tk (hpop s.l) w s.o n (s.l.getD 0 0)) := by
 rw [hw]
 show drain tk (w.length + 1) s = _
 rw [drain, hw]
theorem drain_nil {tk : List Int} {s : QS} (hw : s.w = []) : drain tk s.w.length s = s.o := by rw [hw]; rfl
theorem drain_free (tk : List Int) : ∀ (f : Nat) (t : Int) (s : QS), drain tk (pfree tk f t s).w.length (pfree tk f t s) = drain tk s.w.length s
 | 0, t, s => rfl
 | f + 1, t, s => by
   unfold pfree
   by_cases h0 : 0 < s.l.length ∧ s.l.getD 0 0 ≤ t
   · rw [if_pos h0]
     cases hw : s.w with
     | nil =>
       simp only
       rw [drain_free tk f t ⟨hpop s.l, [], s.o⟩]; rfl
     | cons n w =>
       simp only
       rw [drain_free tk f t (qbeg tk (hpop s.l) w s.o n (s.l.getD 0 0))]
       have := drain_step (tk := tk) hw
       rw [hw] at this
       exact this.symm
   · rw [if_neg h0]
theorem free_wle (tk : List Int) : ∀ (f : Nat) (t : Int) (s : QS), (pfree tk f t s).w.length ≤ s.w.length
 | 0, t, s => Nat.le_refl _
 | f + 1, t, s => by
   unfold pfree
   by_cases h0 : 0 < s.l.length ∧ s.l.getD 0 0 ≤ t
   · rw [if_pos h0]
     cases hw : s.w with
     | nil => exact free_wle tk f t ⟨hpop s.l, [], s.o⟩
     | cons n w => exact Nat.le_succ_of_le (free_wle tk f t (qbeg tk (hpop s.l) w s.o n (s.l.getD 0 0)))
   · rw [if_neg h0]; exact Nat.le_refl _
theorem free_wlt (tk : List Int) (f : Nat) {t : Int} {s : QS} (hw : s.w ≠ []) (h0 : 0 < s.l.length ∧ s.l.getD 0 0 ≤ t) : (pfree tk (f + 1) t s).w.length < s.w.length := by
 unfold pfree
 rw [if_pos h0]
 cases h : s.w with
 | nil => exact absurd h hw
 | cons n w => exact Nat.lt_succ_of_le (free_wle tk f t (qbeg tk (hpop s.l) w s.o n (s.l.getD 0 0)))
theorem pend_ok {tk : List Int} (ht : TkOk tk) {N i : Nat} : ∀ (f : Nat) {s : QS}, PI N i s → s.w.length < f → (pend tk f s).o = drain tk s.w.length s
 | 0, s, _, h => by omega
 | f + 1, s, h, hf => by
   unfold pend
   by_cases hw : s.w = []
   · rw [if_pos hw, drain_nil hw]
   · rw [if_neg hw]
     have lt := free_wlt tk (qms s) (t := s.l.getD 0 0) hw ⟨h.q hw, Int.le_refl _⟩
     rw [pend_ok ht f (PI.free ht (qms s + 1) (s.l.getD 0 0) h) (by omega)]
     exact drain_free tk _ _ _
theorem Sim.permSv {s : QS} {sv1 sv2 w : List Nat} {o : List Sv} (h : Sim s ⟨sv1, w, o⟩) (hp : sv1.Perm sv2) : Sim s ⟨sv2, w, o⟩ := by
 have ha : (sv1 ++ w).Perm (sv2 ++ w) := hp.append_right w
 exact ⟨h.w, h.o, h.h, h.p.trans (hp.map _), ha.nodup_iff.1 h.nd, fun n hn => h.lt n (ha.mem_iff.2 hn)⟩
theorem set_perm (n : Nat) : ∀ {l : List Nat} {k : Nat}, k < l.length → (l.eraseIdx k ++ [n]).Perm (l.set k n)
 | [], k, h => by simp at h
 | x :: l, 0, h => List.perm_append_singleton n l
 | x :: l, k + 1, h => by
   have := set_perm n (l := l) (k := k) (by simpa using h)
   exact List.Perm.cons x this
theorem Sim.end2 {s : QS} {r : RS} (tk : List Int) (h : Sim s r) {n : Nat} {w : List Nat} (hw : r.w = n :: w) {k : Nat} (hk : k < r.sv.length) (h0 : 0 < s.l.length) (e : lft r.o (r.sv.getD k 0) = s.l.getD 0 0) :
 Sim (qbeg tk (hpop s.l) w s.o n (s.l.getD 0 0)) ⟨r.sv.set k n, w, r.o.set n (lft r.o (r.sv.getD k 0), lft r.o (r.sv.getD k 0) + tk.getD n 0)⟩ :=
 (h.end1 tk hw hk h0 e).permSv (set_perm n hk)
theorem rend_ok {tk : List Int} (ht : TkOk tk) {top : Int} {N i : Nat} (htop : 1000000000000 + (i : Int) * 1000000000 ≤ top) : ∀ (f : Nat) {s : QS} {r : RS}, Sim s r → PI N i s → r.w.length < f → (rend tk top f r).o = drain tk s.w.length s
 | 0, s, r, _, _, h => by omega
 | f + 1, s, r, h, hi, hf => by
   unfold rend
   cases hw : r.w with
   | nil =>
     simp only
     rw [drain_nil (by rw [h.w, hw])]
     exact h.o.symm
   | cons n w =>
     have hw2 : s.w = n :: w := by rw [h.w, hw]
     simp only
     rcases h.first top with ⟨e, hn⟩ | ⟨k, e, hk, h0, hm⟩
     · have h0 := hi.q (by rw [hw2]; simp)
       have := hi.first h0
       exact absurd ⟨h0, by omega⟩ hn
     · rw [e]
       simp only
       rw [hw, List.length_cons] at hf
       rw [rend_ok ht htop f (h.end2 tk hw hk h0.1 hm) (hi.end1 ht h0.1 hw2) (by show w.length < f; omega)]
       exact (drain_step hw2).symm
theorem sim_init (N : Nat) : Sim ⟨[], [], List.replicate N (0, 0)⟩ ⟨[], [], List.replicate N (0, 0)⟩ :=
 ⟨rfl, rfl, fun j _ h => by simp at h, List.Perm.refl _, by simp, fun n hn => by simp at hn⟩
theorem queue_same {top : Int} {tm tk : List Int} {sv rm : Nat} (hsv : 1 ≤ sv) (hm : TmOk tm) (ht : TkOk tk) (htop : 1000000000000 + (tm.length : Int) * 1000000000 ≤ top) : pqueue tm tk sv rm = rqueue top tm tk sv rm := by
 unfold pqueue rqueue
 have hp := PI.all ht (rm := rm) hsv tm hm (PI.init tm.length)
 have hs := sim_all tk sv rm tm (i := 0) (sim_init tm.length) (fun n hn => by simp at hn) (by simp)
 rw [Nat.zero_add] at hp
 simp only
 rw [pend_ok ht _ hp (Nat.lt_succ_self _), rend_ok ht htop _ hs hp (Nat.lt_succ_self _)]
end Go.T9

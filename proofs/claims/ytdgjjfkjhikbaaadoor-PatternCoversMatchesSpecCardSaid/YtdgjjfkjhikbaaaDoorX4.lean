/- A part of the proof. -/
import Derived.Test.YtdgjjfkjhikbaaaDoorX2
import Derived.Test.YtdgjjfkjhikbaaaDoorX3
set_option linter.unusedVariables false
set_option linter.unusedSimpArgs false
set_option linter.unusedSectionVars false
namespace Go.T9
abbrev QW := List (Int × List UInt8)
def qs (q : QW) : List Int := q.map (·.1)
theorem qs_app (q r : QW) : qs (q ++ r) = qs q ++ qs r := List.map_append
theorem qs_len (q : QW) : (qs q).length = q.length := List.length_map _
structure SQ (n : Nat) (q : QW) (sn : List Bool) : Prop where
 ls : sn.length = n
 rng : ∀ x ∈ q, 0 ≤ x.1 ∧ x.1 < n
 nd : (qs q).Nodup
 se : ∀ s : Nat, s < n → sn.getD s false = decide ((s : Int) ∈ qs q)
 wl : ∀ x ∈ q, x.2.length ≤ q.length
theorem getD_set {α : Type} (l : List α) (i j : Nat) (x d : α) (h : i < l.length) : (l.set i x).getD j d = if i = j then x else l.getD j d := by
 rw [List.getD_eq_getElem?_getD, List.getElem?_set, List.getD_eq_getElem?_getD]
 by_cases e : i = j
 · subst e; simp [h]
 · simp [e]
theorem SQ.add {n : Nat} {q : QW} {sn : List Bool} (h : SQ n q sn) {t : Int} (h0 : 0 ≤ t) (h1 : t < n) (hn : ¬ t ∈ qs q) (w : List UInt8) (hw : w.length ≤ q.length + 1) : SQ n (q ++ [(t, w)]) (sn.set t.toNat true) := by
 have ht : t.toNat < sn.length := by rw [h.ls]; omega
 have et : (t.toNat : Int) = t := by omega
 refine ⟨by rw [List.length_set]; exact h.ls, fun x hx => ?_, ?_, fun s hs => ?_, fun x hx => ?_⟩
 rotate_right
 · rw [List.length_append]
   rcases List.mem_append.1 hx with hx | hx
   · have := h.wl x hx; simp; omega
   · simp only [List.mem_singleton] at hx; subst hx; simpa using hw
 · rcases List.mem_append.1 hx with hx | hx
   · exact h.rng x hx
   · simp only [List.mem_singleton] at hx; subst hx; exact ⟨h0, h1⟩
 · rw [qs_app]
   refine List.nodup_append.2 ⟨h.nd, by simp [qs], fun a ha b hb => ?_⟩
   simp only [qs, List.map_cons, List.map_nil, List.mem_singleton] at hb
   subst hb
   exact fun e => hn (e ▸ ha)
 · rw [getD_set _ _ _ _ _ ht, qs_app]
   by_cases e : t.toNat = s
   · subst e; rw [if_pos rfl, et]; simp [qs]
   · rw [if_neg e, h.se s hs]
     have : ¬ (s : Int) = t := by omega
     congr 1
     simp only [List.mem_append, qs, List.map_cons, List.map_nil, List.mem_singleton, this, or_false]
theorem SQ.seen {n : Nat} {q : QW} {sn : List Bool} (h : SQ n q sn) {t : Int} (h0 : 0 ≤ t) (h1 : t < n) : sn.getD t.toNat false = decide (t ∈ qs q) := by
 have et : (t.toNat : Int) = t := by omega
 rw [h.se _ (by omega), et]
theorem SQ.le {n : Nat} {q : QW} {sn : List Bool} (h : SQ n q sn) : q.length ≤ n := by
 have := nodup_le n ((qs q).map Int.toNat) ?_ fun x hx => ?_
 · simpa [qs] using this
 · refine List.Pairwise.map _ ?_ (List.Pairwise.and_mem.1 h.nd)
   rintro a b ⟨ha, hb, hne⟩ e
   obtain ⟨x, hx, rfl⟩ := List.mem_map.1 ha
   obtain ⟨y, hy, rfl⟩ := List.mem_map.1 hb
   have := h.rng x hx
   have := h.rng y hy
   omega
 · obtain ⟨y, hy, rfl⟩ := List.mem_map.1 hx
   obtain ⟨z, hz, rfl⟩ := List.mem_map.1 hy
   have := h.rng z hz
   omega
theorem SQ.init (n : Nat) {s : Int} (h0 : 0 ≤ s) (h1 : s < n) : SQ n [(s, [])] ((List.replicate n false).set s.toNat true) := by
 have := (SQ.add (n := n) (q := []) (sn := List.replicate n false) ⟨by simp, by simp, by simp [qs], fun s hs => by simp [qs, List.getD_eq_getElem?_getD, List.getElem?_replicate, hs], by simp⟩ h0 h1 (by simp [qs]) [] (by simp))
 simpa using this
structure BQ (n : Nat) (q : QW) (fr by' : List Int) : Prop where
 lf : fr.length = n
 lb : by'.length = n
 hd : (0, []) ∈ q
 wd : ∀ x ∈ q, x = (0, []) ∨ (x.1 ≠ 0 ∧ ∃ y ∈ q, ∃ b : UInt8, fr.getD x.1.toNat 0 = y.1 ∧ by'.getD x.1.toNat 0 = (b.toNat : Int) ∧ x.2 = y.2 ++ [b])
theorem BQ.add {n : Nat} {q : QW} {sn : List Bool} {fr by' : List Int} (hq : SQ n q sn) (h : BQ n q fr by') {t : Int} (h0 : 0 ≤ t) (h1 : t < n) (hn : ¬ t ∈ qs q) {y : Int × List UInt8} (hy : y ∈ q) (b : UInt8) :
 BQ n (q ++ [(t, y.2 ++ [b])]) (fr.set t.toNat y.1) (by'.set t.toNat (b.toNat : Int)) := by
 have hf : t.toNat < fr.length := by rw [h.lf]; omega
 have hb : t.toNat < by'.length := by rw [h.lb]; omega
 refine ⟨by rw [List.length_set]; exact h.lf, by rw [List.length_set]; exact h.lb, List.mem_append.2 (.inl h.hd), fun x hx => ?_⟩
 rcases List.mem_append.1 hx with hx | hx
 · rcases h.wd x hx with e | ⟨e, z, hz, c, g1, g2, g3⟩
   · exact .inl e
   · have hne : ¬ t.toNat = x.1.toNat := fun e2 => by
      have := hq.rng x hx
      have : t = x.1 := by omega
      exact hn (this ▸ List.mem_map.2 ⟨x, hx, rfl⟩)
     refine .inr ⟨e, z, List.mem_append.2 (.inl hz), c, ?_, ?_, g3⟩
     · rw [getD_set _ _ _ _ _ hf, if_neg hne]; exact g1
     · rw [getD_set _ _ _ _ _ hb, if_neg hne]; exact g2
 · simp only [List.mem_singleton] at hx
   subst hx
   refine .inr ⟨fun e => hn ?_, y, List.mem_append.2 (.inl hy), b, ?_, ?_, rfl⟩
   · dsimp only at e
     rw [e]
     exact List.mem_map.2 ⟨_, h.hd, rfl⟩
   · rw [getD_set _ _ _ _ _ hf, if_pos rfl]
   · rw [getD_set _ _ _ _ _ hb, if_pos rfl]
theorem nodup_fst {q : QW} (h : (qs q).Nodup) {s : Int} {w w' : List UInt8} (h1 : (s, w) ∈ q) (h2 : (s, w') ∈ q) : w = w' := by
 induction q with
 | nil => simp at h1
 | cons x q ih =>
   simp only [qs, List.map_cons, List.nodup_cons] at h
   rcases List.mem_cons.1 h1 with e1 | e1
   · rcases List.mem_cons.1 h2 with e2 | e2
     · rw [← e2] at e1; exact (Prod.mk.inj e1).2
     · rw [← e1] at h
       exact absurd (List.mem_map.2 ⟨_, e2, rfl⟩) h.1
   · rcases List.mem_cons.1 h2 with e2 | e2
     · rw [← e2] at h
       exact absurd (List.mem_map.2 ⟨_, e1, rfl⟩) h.1
     · exact ih h.2 e1 e2
theorem BQ.zero {n : Nat} {q : QW} {sn : List Bool} {fr by' : List Int} (hq : SQ n q sn) (h : BQ n q fr by') {w : List UInt8} (hx : ((0 : Int), w) ∈ q) : w = [] := nodup_fst hq.nd hx h.hd
theorem BQ.back {n : Nat} {q : QW} {fr by' : List Int} (h : BQ n q fr by') {s : Int} {w : List UInt8} (hx : (s, w) ∈ q) (hs : s ≠ 0) : ∃ s' w' b, (s', w') ∈ q ∧ fr.getD s.toNat 0 = s' ∧ by'.getD s.toNat 0 = ((b : UInt8).toNat : Int) ∧ w = w' ++ [b] := by
 rcases h.wd _ hx with e | ⟨_, y, hy, b, g1, g2, g3⟩
 · exact absurd (Prod.mk.inj e).1 hs
 · exact ⟨y.1, y.2, b, hy, g1, g2, g3⟩
theorem BQ.init (n : Nat) : BQ n [(0, [])] (List.replicate n 0) (List.replicate n 0) := ⟨by simp, by simp, by simp, fun x hx => .inl (by simpa using hx)⟩
structure WQ (n : Nat) (q : QW) (wd : List (List UInt8)) : Prop where
 lw : wd.length = n
 ww : ∀ x ∈ q, wd.getD x.1.toNat [] = x.2
theorem WQ.add {n : Nat} {q : QW} {sn : List Bool} {wd : List (List UInt8)} (hq : SQ n q sn) (h : WQ n q wd) {t : Int} (h0 : 0 ≤ t) (h1 : t < n) (hn : ¬ t ∈ qs q) (w : List UInt8) : WQ n (q ++ [(t, w)]) (wd.set t.toNat w) := by
 have hw : t.toNat < wd.length := by rw [h.lw]; omega
 refine ⟨by rw [List.length_set]; exact h.lw, fun x hx => ?_⟩
 rw [getD_set _ _ _ _ _ hw]
 rcases List.mem_append.1 hx with hx | hx
 · have hne : ¬ t.toNat = x.1.toNat := fun e2 => by
    have := hq.rng x hx
    have : t = x.1 := by omega
    exact hn (this ▸ List.mem_map.2 ⟨x, hx, rfl⟩)
   rw [if_neg hne]; exact h.ww x hx
 · simp only [List.mem_singleton] at hx
   subst hx
   rw [if_pos rfl]
theorem WQ.init (n : Nat) {s : Int} (h1 : s.toNat < n) : WQ n [(s, [])] (List.replicate n []) := ⟨by simp, fun x hx => by
 simp only [List.mem_singleton] at hx
 subst hx
 simp [List.getD_eq_getElem?_getD, List.getElem?_replicate, h1]⟩
structure RevI {α : Type} (l l' : List α) (k : Nat) : Prop where
 len : l'.length = l.length
 at' : ∀ t, t < l.length → l'[t]? = if t < k ∨ l.length ≤ t + k then l[l.length - 1 - t]? else l[t]?
theorem RevI.init {α : Type} (l : List α) : RevI l l 0 := ⟨rfl, fun t h => by rw [if_neg (by omega)]⟩
theorem RevI.step {α : Type} {l l' : List α} {k : Nat} (h : RevI l l' k) (hk : k + 1 < l.length - k) {x y : α} (hx : l'[k]? = some x) (hy : l'[l.length - 1 - k]? = some y) : RevI l ((l'.set k y).set (l.length - 1 - k) x) (k + 1) := by
 have e1 := h.at' k (by omega)
 rw [if_neg (by omega), hx] at e1
 have e2 := h.at' (l.length - 1 - k) (by omega)
 rw [if_neg (by omega), hy] at e2
 refine ⟨by rw [List.length_set, List.length_set]; exact h.len, fun t ht => ?_⟩
 have hl := h.len
 rw [List.getElem?_set, List.length_set]
 by_cases c1 : l.length - 1 - k = t
 · rw [if_pos c1, if_pos (by omega), if_pos (by omega), e1]
   congr 1; omega
 · rw [if_neg c1, List.getElem?_set]
   by_cases c2 : k = t
   · subst c2
     rw [if_pos rfl, if_pos (by omega), if_pos (by omega), e2]
   · rw [if_neg c2, h.at' t ht]
     by_cases c3 : t < k ∨ l.length ≤ t + k
     · rw [if_pos c3, if_pos (by omega)]
     · rw [if_neg c3, if_neg (by omega)]
theorem RevI.done {α : Type} {l l' : List α} {k : Nat} (h : RevI l l' k) (hk : l.length ≤ 2 * k + 1) : l' = l.reverse := by
 refine List.ext_getElem? fun t => ?_
 have hl := h.len
 rcases Nat.lt_or_ge t l.length with ht | ht
 · rw [h.at' t ht, List.getElem?_reverse ht]
   by_cases c : t < k ∨ l.length ≤ t + k
   · rw [if_pos c]
   · rw [if_neg c]; congr 1; omega
 · rw [List.getElem?_eq_none (by omega), List.getElem?_eq_none (by rw [List.length_reverse]; exact ht)]
section
variable {S : Type} [DecidableEq S] {B : Type}
theorem addW_snoc (w : List B) (x : B × S) (l : List (B × S)) (q : List (S × List B)) : addW w q (l ++ [x]) = if x.2 ∈ (addW w q l).map (·.1) then addW w q l else addW w q l ++ [(x.2, w ++ [x.1])] := by
 rw [addW_append]; rfl
theorem addW_pre (w : List B) : ∀ (l : List (B × S)) (q : List (S × List B)), ∃ r, addW w q l = q ++ r
 | [], q => ⟨[], by simp [addW]⟩
 | x :: l, q => by
   simp only [addW]
   split
   · exact addW_pre w l q
   · obtain ⟨r, h⟩ := addW_pre w l (q ++ [(x.2, w ++ [x.1])]); exact ⟨(x.2, w ++ [x.1]) :: r, by rw [h]; simp⟩
theorem bfs_at {sc : S → List (B × S)} {ac : S → Bool} {m : Nat} {q : List (S × List B)} {i : Nat} {x : S × List B} (h : q[i]? = some x) : bfs sc ac (m + 1) q i = if ac x.1 then some x.2 else bfs sc ac m (addW x.2 q (sc x.1)) (i + 1) := by simp only [bfs, h]
theorem bfs_end {sc : S → List (B × S)} {ac : S → Bool} (m : Nat) {q : List (S × List B)} {i : Nat} (h : q.length ≤ i) : bfs sc ac m q i = none := by
 cases m with
 | zero => rfl
 | succ m => simp only [bfs, List.getElem?_eq_none h]
end
theorem idN_inj {K : Type} [DecidableEq K] {l : List K} {a b : K} (ha : a ∈ l) (hb : b ∈ l) (h : idN l a = idN l b) : a = b := by
 have h1 := idN_at ha
 rw [h, idN_at hb] at h1
 exact (Option.some.inj h1).symm
section
variable {S : Type} [DecidableEq S]
theorem EI.run {sc : S → List S} {P : S → Prop} {N : Nat} {st : S} (hp : ∀ k, P k → ∀ s ∈ sc k, P s) (hb : ∀ l : List S, l.Nodup → (∀ k ∈ l, P k) → l.length < N) : ∀ (m : Nat) {ks : List S} {i : Nat}, EI sc P N st ks i → N - i = m → EI sc P N st (exS sc N [st] 0) (exS sc N [st] 0).length
 | m, ks, i, h, hm => by
   have hl := hb ks h.nd h.inp
   rcases Nat.lt_or_ge i ks.length with hi | hi
   · cases m with
     | zero => omega
     | succ m => exact EI.run hp hb m (h.step hp (List.getElem?_eq_getElem hi) (by omega)).1 (by omega)
   · obtain ⟨e1, e2⟩ := h.done hi hl
     rw [← e2, ← e1]; exact h
def scW (st : S → Nat → S) (F : List Nat) (s : S) : List (UInt8 × S) := F.map fun c => (UInt8.ofNat c, st s c)
def scD (F : List Nat) (rw : List (List Int)) (s : Int) : List (UInt8 × Int) := (F.map UInt8.ofNat).zip (rw.getD s.toNat [])
def acD (ac : List Bool) (s : Int) : Bool := ac.getD s.toNat false
theorem bfs_num {st : S → Nat → S} {F : List Nat} {sc : S → List S} (hsc : ∀ k, sc k = F.map (st k)) {P : S → Prop} {N : Nat} {s0 : S} {ks : List S} (h : EI sc P N s0 ks ks.length) (ac : S → Bool) (k : Nat) :
 bfs (scD F (rowsT sc ks ks.length)) (acD (ks.map ac)) k [(0, [])] 0 = bfs (scW st F) ac k [(s0, [])] 0 := by
 have h0 : s0 ∈ ks := List.mem_of_getElem? h.hd
 have e0 : ((idN ks s0 : Nat) : Int) = 0 := by
  have hd := h.hd
  cases ks with
  | nil => simp at hd
  | cons x ks => simp at hd; subst hd; simp [idN]
 have := bfs_map (f := fun s => ((idN ks s : Nat) : Int)) (P := fun s => s ∈ ks) (fun a b ha hb e => idN_inj ha hb (Int.ofNat.inj e)) (sc := scW st F) (sc2 := scD F (rowsT sc ks ks.length)) (ac := ac) (ac2 := acD (ks.map ac)) (fun s hs => ?_) (fun s hs => ?_) k [(s0, [])] 0 (fun x hx => ?_)
 · rw [List.map_cons, List.map_nil] at this
   dsimp only at this
   rw [e0] at this
   exact this
 · have hat := idN_at hs
   have hlt := idN_lt hs
   refine ⟨?_, fun x hx => ?_⟩
   · unfold scD rowsT scW
     rw [Int.toNat_natCast, List.take_length, List.getD_eq_getElem?_getD, List.getElem?_map, hat]
     simp only [Option.map_some, Option.getD_some, hsc, nums, List.map_map]
     rw [List.zip_map', ]
     rfl
   · obtain ⟨c, hc, rfl⟩ := List.mem_map.1 hx
     exact h.cl (idN ks s) s hlt hat _ (by rw [hsc]; exact List.mem_map.2 ⟨c, hc, rfl⟩)
 · unfold acD
   rw [Int.toNat_natCast, List.getD_eq_getElem?_getD, List.getElem?_map, idN_at hs]; rfl
 · simp only [List.mem_singleton] at hx
   subst hx; exact h0
end
end Go.T9
set_option maxRecDepth 100000
namespace Go.T9
open Go Go.AM Go.MK
def ftC (key : Nat → LB) (c : Nat) : Bool := !decide (key c ∈ (clsF key c).map key)
theorem clsF_filter (key : Nat → LB) : ∀ n, clsF key n = (List.range n).filter (ftC key)
 | 0 => rfl
 | n + 1 => by
   rw [List.range_succ, List.filter_append, ← clsF_filter key n]
   show (if key n ∈ (clsF key n).map key then clsF key n else clsF key n ++ [n]) = _
   by_cases h : key n ∈ (clsF key n).map key
   · rw [if_pos h]; simp [List.filter_cons, ftC, h]
   · rw [if_neg h, List.filter_cons, List.filter_nil, if_pos (by simp [ftC, h])]
theorem addW_cls {S : Type} [DecidableEq S] {key : Nat → LB} {g : Nat → S} (hg : ∀ c c', c < 256 → c' < 256 → key c' = key c → g c' = g c) (w : LB) (q : List (S × LB)) :
 addW w q ((List.range 256).map fun c => (UInt8.ofNat c, g c)) = addW w q ((clsF key 256).map fun c => (UInt8.ofNat c, g c)) := by
 rw [clsF_filter]
 refine addW_first w q 256 fun c hc h => ?_
 simp only [ftC, Bool.not_eq_false', decide_eq_true_eq] at h
 obtain ⟨c', h1, h2⟩ := List.mem_map.1 h
 have := clsF_lt key c c' h1
 exact ⟨c', this, hg c c' hc (by omega) h2⟩
theorem bfs_cls {S : Type} [DecidableEq S] {key : Nat → LB} {st : S → Nat → S} {P : S → Prop} (hg : ∀ s, P s → ∀ c c', c < 256 → c' < 256 → key c' = key c → st s c' = st s c) (hp : ∀ s, P s → ∀ c, c < 256 → P (st s c)) (ac : S → Bool) (k : Nat) (s0 : S) (h0 : P s0) :
 bfs (scW st (clsF key 256)) ac k [(s0, [])] 0 = bfs (scW st (List.range 256)) ac k [(s0, [])] 0 :=
 bfs_congr (P := P) (fun s hs w q => (addW_cls (hg s hs) w q).symm) (fun s hs x hx => by
  obtain ⟨c, hc, rfl⟩ := List.mem_map.1 hx
  exact hp s hs c (clsF_lt key 256 c hc)) (fun s hs => rfl) k _ _ fun x hx => by
  simp only [List.mem_singleton] at hx
  subst hx; exact h0
theorem colB_inj : ∀ {nx : List (List Int)} {c c' : Nat}, (∀ r ∈ nx, ∀ d, 0 ≤ r.getD d 0 ∧ r.getD d 0 < 65536) → colB nx c' = colB nx c → ∀ r ∈ nx, r.getD c' 0 = r.getD c 0
 | [], _, _, _, _, r, hr => by simp at hr
 | x :: nx, c, c', h, he, r, hr => by
   have he : b2 (x.getD c' 0) ++ colB nx c' = b2 (x.getD c 0) ++ colB nx c := he
   obtain ⟨e1, e2⟩ := List.append_inj he rfl
   rcases List.mem_cons.1 hr with rfl | hr
   · have g1 := h r (by simp) c'
     have g2 := h r (by simp) c
     exact b2_inj g1.1 g1.2 g2.1 g2.2 e1
   · exact colB_inj (fun r hr => h r (by simp [hr])) e2 r hr
theorem ent_lt {a : AU} (h : OkA a) : ∀ r ∈ a.2.2, ∀ d, 0 ≤ r.getD d 0 ∧ r.getD d 0 < 65536 := fun r hr d => by
 have h1 := h.n1
 rw [List.getD_eq_getElem?_getD]
 cases hd : r[d]? with
 | none => simp
 | some x =>
   have := h.ent r hr x (List.mem_of_getElem? hd)
   simp only [Option.getD_some]
   omega
theorem stp_key {a : AU} (h : OkA a) {q : Int} {c c' : Nat} (he : colB a.2.2 c' = colB a.2.2 c) : stp a.2.2 q c' = stp a.2.2 q c := by
 show (a.2.2.getD q.toNat []).getD c' 0 = (a.2.2.getD q.toNat []).getD c 0
 have key : ∀ r, a.2.2.getD q.toNat [] = r → r.getD c' 0 = r.getD c 0 := fun r hr => by
  rw [List.getD_eq_getElem?_getD] at hr
  cases hq : a.2.2[q.toNat]? with
  | none => rw [hq] at hr; subst hr; rfl
  | some x => rw [hq] at hr; subst hr; exact colB_inj (ent_lt h) he _ (List.mem_of_getElem? hq)
 exact key _ rfl
theorem stP_key {a b : AU} (h : OkA a) (h2 : OkA b) (k : PR) {c c' : Nat} (he : keyP a.2.2 b.2.2 c' = keyP a.2.2 b.2.2 c) : stP a b k c' = stP a b k c := by
 unfold keyP at he
 obtain ⟨e1, e2⟩ := List.append_inj he (by rw [b2_len, b2_len])
 unfold stP
 rw [stp_key h e1, stp_key h2 e2]
theorem stS_key {a : AU} (h : OkA a) (k : PR) {c c' : Nat} (he : keyS a.2.2 c' = keyS a.2.2 c) : stS a k c' = stS a k c := by
 unfold stS
 rw [stp_key h he]
def wordP (a b : AU) : Option LB := bfs (scW (stP a b) (List.range 256)) (acP2 a b) 90001 [((a.1, b.1), [])] 0
def wordS (a : AU) : Option LB := bfs (scW (stS a) (List.range 256)) (acS a) 90001 [((a.1, 0), [])] 0
theorem inP_st {a b : AU} (h : OkA a) (h2 : OkA b) (k : PR) (hk : inP2 a b k) (c : Nat) (hc : c < 256) : inP2 a b (stP a b k c) :=
 ⟨stp_in h hk.1.1 hk.1.2 hc, stp_in h2 hk.2.1 hk.2.2 hc⟩
theorem inS_st {a : AU} (h : OkA a) (k : PR) (hk : inS a k) (c : Nat) (hc : c < 256) : inS a (stS a k c) :=
 ⟨stp_in h hk.1.1 hk.1.2 hc, rfl⟩
theorem ei_P {a b : AU} (h : OkA a) (h2 : OkA b) {F : List Nat} (hF : ∀ c ∈ F, c < 256) : EI (scF F (stP a b)) (inP2 a b) 90001 (a.1, b.1) (reP F a b) (reP F a b).length :=
 EI.run (inP_step h h2 hF) (fun l hd hp => by have := inP_le h h2 l hd hp; omega) _ (EI.init ⟨h.st, h2.st⟩) rfl
theorem ei_S {a : AU} (h : OkA a) {F : List Nat} (hF : ∀ c ∈ F, c < 256) : EI (scF F (stS a)) (inS a) 90001 (a.1, 0) (reS F a) (reS F a).length :=
 EI.run (inS_step h hF) (fun l hd hp => by have := inS_le h l hd hp; omega) _ (EI.init ⟨h.st, rfl⟩) rfl
theorem word_P {a b : AU} (h : OkA a) (h2 : OkA b) (F : List Nat) (hF : F = clsF (keyP a.2.2 b.2.2) 256) :
 bfs (scD F (rowsT (scF F (stP a b)) (reP F a b) (reP F a b).length)) (acD ((reP F a b).map (acP2 a b))) 90001 [(0, [])] 0 = wordP a b := by
 have hlt : ∀ c ∈ F, c < 256 := fun c hc => by rw [hF] at hc; exact clsF_lt _ _ _ hc
 have e1 := bfs_num (sc := scF F (stP a b)) (st := stP a b) (fun k => rfl) (ei_P h h2 hlt) (acP2 a b) 90001
 have e2 := bfs_cls (key := keyP a.2.2 b.2.2) (st := stP a b) (P := inP2 a b) (fun s hs c c' _ _ he => stP_key h h2 s he) (inP_st h h2) (acP2 a b) 90001 (a.1, b.1) ⟨h.st, h2.st⟩
 rw [← hF] at e2
 unfold wordP
 exact e1.trans e2
theorem word_S {a : AU} (h : OkA a) (F : List Nat) (hF : F = clsF (keyS a.2.2) 256) :
 bfs (scD F (rowsT (scF F (stS a)) (reS F a) (reS F a).length)) (acD ((reS F a).map (acS a))) 90001 [(0, [])] 0 = wordS a := by
 have hlt : ∀ c ∈ F, c < 256 := fun c hc => by rw [hF] at hc; exact clsF_lt _ _ _ hc
 have e1 := bfs_num (sc := scF F (stS a)) (st := stS a) (fun k => rfl) (ei_S h hlt) (acS a) 90001
 have e2 := bfs_cls (key := keyS a.2.2) (st := stS a) (P := inS a) (fun s hs c c' _ _ he => stS_key h s he) (inS_st h) (acS a) 90001 (a.1, 0) ⟨h.st, rfl⟩
 rw [← hF] at e2
 unfold wordS
 exact e1.trans e2
theorem word_R {a b : AU} (h : OkA a) (h2 : OkA b) (acR : PR → Bool) (hac : ∀ k, acR (k.2, k.1) = acP2 a b k) :
 bfs (scD (List.range 256) (rowsT (scF (List.range 256) (stP b a)) (reP (List.range 256) b a) (reP (List.range 256) b a).length)) (acD ((reP (List.range 256) b a).map acR)) 90001 [(0, [])] 0 = wordP a b := by
 have hlt : ∀ c ∈ List.range 256, c < 256 := fun c hc => List.mem_range.1 hc
 rw [bfs_num (sc := scF (List.range 256) (stP b a)) (st := stP b a) (fun k => rfl) (ei_P h2 h hlt)]
 have := bfs_map (f := fun k : PR => (k.2, k.1)) (P := fun _ => True) (fun x y _ _ e => by
  obtain ⟨x1, x2⟩ := x
  obtain ⟨y1, y2⟩ := y
  simp only [Prod.mk.injEq] at e
  rw [e.1, e.2]) (sc := scW (stP a b) (List.range 256)) (sc2 := scW (stP b a) (List.range 256)) (ac := acP2 a b) (ac2 := acR) (fun s _ => ⟨by
   unfold scW
   rw [List.map_map]
   rfl, fun _ _ => trivial⟩) (fun s _ => hac s) 90001 [((a.1, b.1), [])] 0 (fun _ _ => trivial)
 exact this
theorem scD_stp {nx : List (List Int)} {s : Int} (h : (nx.getD s.toNat []).length = 256) : scD (List.range 256) nx s = (List.range 256).map fun c => (UInt8.ofNat c, stp nx s c) := by
 unfold scD stp
 refine List.ext_getElem ?_ fun i h1 h2 => ?_
 · rw [List.length_zip, List.length_map, List.length_map, List.length_range, h]; rfl
 · simp only [List.length_zip, List.length_map, List.length_range] at h1
   rw [List.getElem_zip, List.getElem_map, List.getElem_map, List.getElem_range]
   rw [gD (show i < (nx.getD s.toNat []).length by omega)]
theorem word_E {a : AU} (h : OkA a) : bfs (scD (List.range 256) a.2.2) (acD a.2.1) 90001 [(a.1, [])] 0 = wordS a := by
 have := bfs_map (f := fun s : Int => ((s, 0) : PR)) (P := fun s => inA a s) (fun x y _ _ e => (Prod.mk.inj e).1) (sc := scD (List.range 256) a.2.2) (sc2 := scW (stS a) (List.range 256)) (ac := acD a.2.1) (ac2 := acS a) (fun s hs => ?_) (fun s _ => rfl) 90001 [(a.1, [])] 0 (fun x hx => by
  simp only [List.mem_singleton] at hx
  subst hx; exact h.st)
 · exact this.symm
 · have hl : s.toNat < a.2.2.length := by have := hs.1; have := hs.2; omega
   have hr : (a.2.2.getD s.toNat []).length = 256 := by rw [gD hl]; exact h.row _ (List.getElem_mem hl)
   rw [scD_stp hr]
   refine ⟨by unfold scW; rw [List.map_map]; rfl, fun x hx => ?_⟩
   obtain ⟨c, hc, rfl⟩ := List.mem_map.1 hx
   exact stp_in h hs.1 hs.2 (List.mem_range.1 hc)
end Go.T9
set_option maxRecDepth 1000000
namespace Go.T9
open Go Go.AM Go.MK
noncomputable section
def groI (l : List Int) : AObj := .gro (inV l) [] 3
def groB (l : List Bool) : AObj := .gro (blV l) [] 4
def groR (l : List (List Int)) : AObj := .gro (roV l) [] 50
def spCsG (C I : AU → List Int) : List Value → List AObj → Option (Option Prop × Value × List AObj)
 | [.pointer (some ⟨B, o, none⟩), .func (.func g) ⟨[]⟩ ⟨[.pointer (some ⟨B1, o1, none⟩)]⟩], [.arr els [.slice none 0 0, .slice none 0 0, .slice none 0 0] n e, u] => (match auO u with
   | some a => bif ((Nat.beq B 0 && Nat.beq o 0) && (Nat.beq B1 1 && Nat.beq o1 0)) && (Nat.beq g 70 && (Nat.beq n 256 && Nat.beq e 68)) then
    some (some (els = inV z256 ∧ okO u a), .tuple ⟨[]⟩, [dfO (C a) [groS 2 (I a).length, nilS, nilS], u, groI (I a)]) else none
   | _ => none)
 | _, _ => none
def spCs := spCsG (fun a => clsC (keyS a.2.2) 256) (fun a => clsI (keyS a.2.2) 256)
def spCpG (C I : AU → AU → List Int) : List Value → List AObj → Option (Option Prop × Value × List AObj)
 | [.pointer (some ⟨B, o, none⟩), .func (.func g) ⟨[]⟩ ⟨[.pointer (some ⟨B1, o1, none⟩), .pointer (some ⟨B2, o2, none⟩)]⟩], [.arr els [.slice none 0 0, .slice none 0 0, .slice none 0 0] n e, u, v] => (match auO u, auO v with
   | some a, some b => bif ((Nat.beq B 0 && Nat.beq o 0) && ((Nat.beq B1 1 && Nat.beq o1 0) && (Nat.beq B2 2 && Nat.beq o2 0))) && (Nat.beq g 63 && (Nat.beq n 256 && Nat.beq e 68)) then
    some (some (els = inV z256 ∧ okO u a ∧ okO v b), .tuple ⟨[]⟩, [dfO (C a b) [groS 3 (I a b).length, nilS, nilS], u, v, groI (I a b)]) else none
   | _, _ => none)
 | _, _ => none
def spCp := spCpG (fun a b => clsC (keyP a.2.2 b.2.2) 256) (fun a b => clsI (keyP a.2.2 b.2.2) 256)
theorem heap_cs (C : List Int) (a : AU) : heapN [dfO C [nilS, nilS, nilS], auCo a] = hCs0 C a.1 a.2.1 a.2.2 := by kernel_rfl
theorem heap_cs2 (C F : List Int) (a : AU) : heapN [dfO C [groS 2 F.length, nilS, nilS], auCo a, groI F] = hCsE C F a.1 a.2.1 a.2.2 := by kernel_rfl
theorem heap_cp (C : List Int) (a b : AU) : heapN [dfO C [nilS, nilS, nilS], auCo a, auCo b] = hCp0 C a.1 a.2.1 a.2.2 b.1 b.2.1 b.2.2 := by kernel_rfl
theorem heap_cp2 (C F : List Int) (a b : AU) : heapN [dfO C [groS 3 F.length, nilS, nilS], auCo a, auCo b, groI F] = hCpE C F a.1 a.2.1 a.2.2 b.1 b.2.1 b.2.2 := by kernel_rfl
theorem cs_tab : ∀ args A p v A', frmR arD spCs args A = some (p, v, A') → PH p → CallAt env 23 args A v A' := frmR_ok env_ok (fn := Proofs.Tryd.f23) rfl fun args objs p v objs' h hp => by
 unfold spCs spCsG at h
 split at h
 · rename_i B o g B1 o1 els n e u
   split at h
   · rename_i a ha
     cases hb : ((Nat.beq B 0 && Nat.beq o 0) && (Nat.beq B1 1 && Nat.beq o1 0)) && (Nat.beq g 70 && (Nat.beq n 256 && Nat.beq e 68)) with
     | false => rw [hb] at h; cases h
     | true =>
       rw [hb] at h
       simp only [cond_true, Option.some.injEq, Prod.mk.injEq] at h
       obtain ⟨rfl, rfl, rfl⟩ := h
       simp only [Bool.and_eq_true, Nat.beq_eq] at hb
       obtain ⟨⟨⟨rfl, rfl⟩, rfl, rfl⟩, rfl, rfl, rfl⟩ := hb
       obtain ⟨rfl, rfl, h2⟩ : els = inV z256 ∧ okO u a := hp
       rw [heap_cs2]
       exact (heap_cs z256 a) ▸ cs_walk h2
   · cases h
 · cases h
theorem cp_tab : ∀ args A p v A', frmR arD spCp args A = some (p, v, A') → PH p → CallAt env 23 args A v A' := frmR_ok env_ok (fn := Proofs.Tryd.f23) rfl fun args objs p v objs' h hp => by
 unfold spCp spCpG at h
 split at h
 · rename_i B o g B1 o1 B2 o2 els n e u w
   split at h
   · rename_i a b ha hb0
     cases hb : ((Nat.beq B 0 && Nat.beq o 0) && ((Nat.beq B1 1 && Nat.beq o1 0) && (Nat.beq B2 2 && Nat.beq o2 0))) && (Nat.beq g 63 && (Nat.beq n 256 && Nat.beq e 68)) with
     | false => rw [hb] at h; cases h
     | true =>
       rw [hb] at h
       simp only [cond_true, Option.some.injEq, Prod.mk.injEq] at h
       obtain ⟨rfl, rfl, rfl⟩ := h
       simp only [Bool.and_eq_true, Nat.beq_eq] at hb
       obtain ⟨⟨⟨rfl, rfl⟩, ⟨rfl, rfl⟩, rfl, rfl⟩, rfl, rfl, rfl⟩ := hb
       obtain ⟨rfl, ⟨rfl, h2⟩, rfl, h3⟩ : els = inV z256 ∧ okO u a ∧ okO w b := hp
       rw [heap_cp2]
       exact (heap_cp z256 a b) ▸ cp_walk h2 h3
   · cases h
 · cases h
def deN (l : List Value) : List Nat := l.map fun v => (deI v).toNat
theorem deN_in (F : List Nat) : deN (inV (inF F)) = F := by
 unfold deN inV inF
 rw [List.map_map, List.map_map]
 conv => rhs; rw [← List.map_id F]
 exact List.map_congr_left fun x _ => rfl
def IsF (l : List Value) (n : Nat) : Prop := l = inV (inF (deN l)) ∧ (∀ c ∈ deN l, c < 256) ∧ (deN l).length ≤ 256 ∧ n = (deN l).length
def spEsG (Ac : List Nat → AU → List Bool) (Rw : List Nat → AU → List (List Int)) : List Value → List AObj → Option (Option Prop × Value × List AObj)
 | [.pointer (some ⟨B, o, none⟩), .agg ⟨[.int .i64 x, .int .i64 y]⟩, .func (.func g) ⟨[]⟩ ⟨[.pointer (some ⟨B1, o1, none⟩)]⟩, .func (.func g2) ⟨[]⟩ ⟨[.pointer (some ⟨B2, o2, none⟩)]⟩], [.arr els [.slice (some ⟨B3, o3, none⟩) n m, .slice none 0 0, .slice none 0 0] q e, u, .gro l tl e2] => (match auO u with
   | some a => bif ((Nat.beq B 0 && Nat.beq o 0) && ((Nat.beq B1 1 && Nat.beq o1 0) && (Nat.beq B2 1 && Nat.beq o2 0))) && (((Nat.beq g 71 && Nat.beq g2 72) && (Nat.beq q 256 && Nat.beq e 68)) && ((Nat.beq B3 2 && Nat.beq o3 0) && (Nat.beq m (unk + 3 + 1) && Nat.beq e2 3))) then
    some (some (els = inV (els.map deI) ∧ tl = [] ∧ IsF l n ∧ okO u a ∧ x = a.1 ∧ y = 0), .tuple ⟨[]⟩, [.arr els [groS 2 n, groS 3 (Ac (deN l) a).length, groS 4 (Rw (deN l) a).length] q e, u, .gro l [] e2, groB (Ac (deN l) a), groR (Rw (deN l) a)]) else none
   | _ => none)
 | _, _ => none
def aceS (F : List Nat) (a : AU) : List Bool := (reS F a).map (acS a)
def rweS (F : List Nat) (a : AU) : List (List Int) := rowsT (scF F (stS a)) (reS F a) (reS F a).length
def spEs := spEsG aceS rweS
def spEpG (Ac : List Nat → AU → AU → List Bool) (Rw : List Nat → AU → AU → List (List Int)) : List Value → List AObj → Option (Option Prop × Value × List AObj)
 | [.pointer (some ⟨B, o, none⟩), .agg ⟨[.int .i64 x, .int .i64 y]⟩, .func (.func g) ⟨[]⟩ ⟨[.pointer (some ⟨B0, o0, none⟩), .pointer (some ⟨B1, o1, none⟩), .pointer (some ⟨B2, o2, none⟩)]⟩, .func (.func g2) ⟨[]⟩ ⟨[.pointer (some ⟨B4, o4, none⟩), .pointer (some ⟨B5, o5, none⟩)]⟩], [.arr els [.slice (some ⟨B3, o3, none⟩) n m, .slice none 0 0, .slice none 0 0] q e, f, u, w, .gro l tl e2] => (match auO u, auO w with
   | some a, some b => bif ((Nat.beq B 0 && Nat.beq o 0) && (((Nat.beq B0 1 && Nat.beq o0 0) && ((Nat.beq B1 2 && Nat.beq o1 0) && (Nat.beq B2 3 && Nat.beq o2 0))) && ((Nat.beq B4 2 && Nat.beq o4 0) && (Nat.beq B5 3 && Nat.beq o5 0)))) && (((Nat.beq g 65 && Nat.beq g2 67) && (Nat.beq q 256 && Nat.beq e 68)) && ((Nat.beq B3 4 && Nat.beq o3 0) && (Nat.beq m (unk + 3 + 1) && Nat.beq e2 3))) then
    some (some (els = inV (els.map deI) ∧ tl = [] ∧ IsF l n ∧ f = fnO ∧ okO u a ∧ okO w b ∧ x = a.1 ∧ y = b.1), .tuple ⟨[]⟩, [.arr els [groS 4 n, groS 5 (Ac (deN l) a b).length, groS 6 (Rw (deN l) a b).length] q e, f, u, w, .gro l [] e2, groB (Ac (deN l) a b), groR (Rw (deN l) a b)]) else none
   | _, _ => none)
 | _, _ => none
def aceP (F : List Nat) (a b : AU) : List Bool := (reP F a b).map (acP2 a b)
def rweP (F : List Nat) (a b : AU) : List (List Int) := rowsT (scF F (stP a b)) (reP F a b) (reP F a b).length
def spEp := spEpG aceP rweP
theorem heap_es (C F : List Int) (a : AU) : heapN [dfO C [groS 2 F.length, nilS, nilS], auCo a, groI F] = hEs0 C F a.1 a.2.1 a.2.2 := by kernel_rfl
theorem heap_es2 (C F : List Int) (ac : List Bool) (rw : List (List Int)) (a : AU) : heapN [dfO C [groS 2 F.length, groS 3 ac.length, groS 4 rw.length], auCo a, groI F, groB ac, groR rw] = hEsE C F ac rw a.1 a.2.1 a.2.2 := by kernel_rfl
theorem heap_ep (C F : List Int) (a b : AU) : heapN [dfO C [groS 4 F.length, nilS, nilS], fnO, auCo a, auCo b, groI F] = hEp0 C F a.1 a.2.1 a.2.2 b.1 b.2.1 b.2.2 := by kernel_rfl
theorem heap_ep2 (C F : List Int) (ac : List Bool) (rw : List (List Int)) (a b : AU) : heapN [dfO C [groS 4 F.length, groS 5 ac.length, groS 6 rw.length], fnO, auCo a, auCo b, groI F, groB ac, groR rw] = hEpE C F ac rw a.1 a.2.1 a.2.2 b.1 b.2.1 b.2.2 := by kernel_rfl
theorem bif_some {α : Type} {b : Bool} {x y : α} (h : (bif b then some x else none) = some y) : b = true ∧ x = y := by
 cases b with
 | true => exact ⟨rfl, Option.some.inj h⟩
 | false => cases h
theorem es_tab : ∀ args A p v A', frmR arD spEs args A = some (p, v, A') → PH p → CallAt env 66 args A v A' := frmR_ok env_ok (fn := Proofs.Tryd.f66) rfl fun args objs p v objs' h hp => by
 unfold spEs spEsG at h
 split at h
 · rename_i B o x y g B1 o1 g2 B2 o2 els B3 o3 n m q e u l tl e2
   split at h
   · rename_i a ha
     obtain ⟨hb, h⟩ := bif_some h
     simp only [Prod.mk.injEq] at h
     obtain ⟨rfl, rfl, rfl⟩ := h
     simp only [Bool.and_eq_true, Nat.beq_eq] at hb
     obtain ⟨⟨⟨rfl, rfl⟩, ⟨rfl, rfl⟩, rfl, rfl⟩, ⟨⟨rfl, rfl⟩, rfl, rfl⟩, ⟨rfl, rfl⟩, rfl, rfl⟩ := hb
     obtain ⟨h1, rfl, ⟨h2, h3, h4, rfl⟩, ⟨rfl, h5⟩, rfl, rfl⟩ : els = inV (els.map deI) ∧ tl = [] ∧ IsF l n ∧ okO u a ∧ x = a.1 ∧ y = 0 := hp
     generalize els.map deI = C at h1
     subst h1
     generalize deN l = F at *
     subst h2
     have := es_walk C F h3 h4 h5
     rw [← heap_es, ← heap_es2, inF_len] at this
     exact this
   · cases h
 · cases h
theorem ep_tab : ∀ args A p v A', frmR arD spEp args A = some (p, v, A') → PH p → CallAt env 66 args A v A' := frmR_ok env_ok (fn := Proofs.Tryd.f66) rfl fun args objs p v objs' h hp => by
 unfold spEp spEpG at h
 split at h
 · rename_i B o x y g B0 o0 B1 o1 B2 o2 g2 B4 o4 B5 o5 els B3 o3 n m q e f u w l tl e2
   split at h
   · rename_i a b ha hb0
     obtain ⟨hb, h⟩ := bif_some h
     simp only [Prod.mk.injEq] at h
     obtain ⟨rfl, rfl, rfl⟩ := h
     simp only [Bool.and_eq_true, Nat.beq_eq] at hb
     obtain ⟨⟨⟨rfl, rfl⟩, ⟨⟨rfl, rfl⟩, ⟨rfl, rfl⟩, rfl, rfl⟩, ⟨rfl, rfl⟩, rfl, rfl⟩, ⟨⟨rfl, rfl⟩, rfl, rfl⟩, ⟨rfl, rfl⟩, rfl, rfl⟩ := hb
     obtain ⟨h1, rfl, ⟨h2, h3, h4, rfl⟩, rfl, ⟨rfl, h5⟩, ⟨rfl, h6⟩, rfl, rfl⟩ : els = inV (els.map deI) ∧ tl = [] ∧ IsF l n ∧ f = fnO ∧ okO u a ∧ okO w b ∧ x = a.1 ∧ y = b.1 := hp
     generalize els.map deI = C at h1
     subst h1
     generalize deN l = F at *
     subst h2
     have := ep_walk C F h3 h4 h5 h6
     rw [← heap_ep, ← heap_ep2, inF_len] at this
     exact this
   · cases h
 · cases h
def XSiG (C I : AU → List Int) (Ac : List Nat → AU → List Bool) (Rw : List Nat → AU → List (List Int)) : SX := ⟨env, [(23, frmR arD (spCsG C I)), (66, frmR arD (spEsG Ac Rw))], noEl, fun _ => .unroll 0⟩
def XSi : SX := XSiG (fun a => clsC (keyS a.2.2) 256) (fun a => clsI (keyS a.2.2) 256) aceS rweS
theorem XSi_ok : XSi.Ok := ⟨env_ok, env_sym, env_gl, .cons cs_tab (.cons es_tab .nil)⟩
def XPaG (C I : AU → AU → List Int) (Ac : List Nat → AU → AU → List Bool) (Rw : List Nat → AU → AU → List (List Int)) : SX := ⟨env, [(23, frmR arD (spCpG C I)), (66, frmR arD (spEpG Ac Rw))], noEl, fun _ => .unroll 0⟩
def XPa : SX := XPaG (fun a b => clsC (keyP a.2.2 b.2.2) 256) (fun a b => clsI (keyP a.2.2 b.2.2) 256) aceP rweP
theorem XPa_ok : XPa.Ok := ⟨env_ok, env_sym, env_gl, .cons cp_tab (.cons ep_tab .nil)⟩
def jSi (Q : Value → AH → Prop) (C I : AU → List Int) (Ac : List Nat → AU → List Bool) (Rw : List Nat → AU → List (List Int)) (s : Int) (acc : List Bool) (nx : List (List Int)) : Prop := sxFnF (XSiG C I Ac Rw) 1 Proofs.Tryd.f41 [.agg ⟨[.int .i64 s, dat 1 (blV acc), dat 1 (roV nx)]⟩] ⟨.leaf, 0⟩ (endF env ⟨.leaf, 0⟩ [] [] [] Q)
def jPa (Q : Value → AH → Prop) (C I : AU → AU → List Int) (Ac : List Nat → AU → AU → List Bool) (Rw : List Nat → AU → AU → List (List Int)) (s : Int) (acc : List Bool) (nx : List (List Int)) (s2 : Int) (acc2 : List Bool) (nx2 : List (List Int)) : Prop := sxFnF (XPaG C I Ac Rw) 1 Proofs.Tryd.f33 [.agg ⟨[.int .i64 s, dat 1 (blV acc), dat 1 (roV nx)]⟩, .agg ⟨[.int .i64 s2, dat 1 (blV acc2), dat 1 (roV nx2)]⟩, .func (.func 34) ⟨[]⟩ ⟨[]⟩] ⟨.leaf, 0⟩ (endF env ⟨.leaf, 0⟩ [] [] [] Q)
theorem jSi_nf (Q : Value → AH → Prop) (C : AU → List Int) (I : AU → List Int) (Ac : List Nat → AU → List Bool) (Rw : List Nat → AU → List (List Int)) (s : Int) (acc : List Bool) (nx : List (List Int)) : jSi Q C I Ac Rw s acc nx = (HFs [Value.agg ⟨inV z256⟩, Vd 1 (blV acc), Vd 1 (roV nx), Value.agg (Array.mk (inV (I (s, List.map deB (blV acc), List.map deR (roV nx))))), Value.agg (Array.mk (inV (C (s, List.map deB (blV acc), List.map deR (roV nx))))), Vd 1 (blV acc), Vd 1 (roV nx)] (PH (Prod.fst (some ((inV z256) = (inV z256) ∧ okO (AObj.cells [Vi s, Vd 1 (blV acc), Vd 1 (roV nx)] 29) (s, List.map deB (blV acc), List.map deR (roV nx))), Value.tuple ⟨[]⟩, [AObj.arr (inV (C (s, List.map deB (blV acc), List.map deR (roV nx)))) [Value.slice (some ⟨2, 0, none⟩) (List.length (I (s, List.map deB (blV acc), List.map deR (roV nx)))) 18446744073709551620, Value.slice none 0 0, Value.slice none 0 0] 256 68, AObj.cells [Vi s, Vd 1 (blV acc), Vd 1 (roV nx)] 29, AObj.gro (inV (I (s, List.map deB (blV acc), List.map deR (roV nx)))) [] 3]))) ∧ HFs [Value.agg (Array.mk (inV (C (s, List.map deB (blV acc), List.map deR (roV nx))))), Vd 1 (blV acc), Vd 1 (roV nx), Value.agg (Array.mk (inV (I (s, List.map deB (blV acc), List.map deR (roV nx))))), Value.agg (Array.mk (roV (Rw (deN (glue (glue (inV (I (s, List.map deB (blV acc), List.map deR (roV nx)))) []) [])) (s, List.map deB (blV acc), List.map deR (roV nx))))), Value.agg (Array.mk (blV (Ac (deN (glue (glue (inV (I (s, List.map deB (blV acc), List.map deR (roV nx)))) []) [])) (s, List.map deB (blV acc), List.map deR (roV nx))))), Value.agg (Array.mk (inV (C (s, List.map deB (blV acc), List.map deR (roV nx))))), Vd 1 (blV acc), Vd 1 (roV nx), Value.agg (Array.mk (inV (I (s, List.map deB (blV acc), List.map deR (roV nx)))))] (PH (Prod.fst (some (inV (C (s, List.map deB (blV acc), List.map deR (roV nx))) = inV (List.map deI (inV (C (s, List.map deB (blV acc), List.map deR (roV nx))))) ∧ ([] : List Value) = [] ∧ IsF (inV (I (s, List.map deB (blV acc), List.map deR (roV nx)))) (List.length (I (s, List.map deB (blV acc), List.map deR (roV nx)))) ∧ okO (AObj.cells [Vi s, Vd 1 (blV acc), Vd 1 (roV nx)] 29) (s, List.map deB (blV acc), List.map deR (roV nx)) ∧ s = s ∧ (0 : Int) = (0 : Int)), Value.tuple ⟨[]⟩, [AObj.arr (inV (C (s, List.map deB (blV acc), List.map deR (roV nx)))) [Value.slice (some ⟨2, 0, none⟩) (List.length (I (s, List.map deB (blV acc), List.map deR (roV nx)))) 18446744073709551620, Value.slice (some ⟨3, 0, none⟩) (List.length (Ac (deN (glue (glue (inV (I (s, List.map deB (blV acc), List.map deR (roV nx)))) []) [])) (s, List.map deB (blV acc), List.map deR (roV nx)))) 18446744073709551620, Value.slice (some ⟨4, 0, none⟩) (List.length (Rw (deN (glue (glue (inV (I (s, List.map deB (blV acc), List.map deR (roV nx)))) []) [])) (s, List.map deB (blV acc), List.map deR (roV nx)))) 18446744073709551620] 256 68, AObj.cells [Vi s, Vd 1 (blV acc), Vd 1 (roV nx)] 29, AObj.gro (inV (I (s, List.map deB (blV acc), List.map deR (roV nx)))) [] 3, AObj.gro (blV (Ac (deN (glue (glue (inV (I (s, List.map deB (blV acc), List.map deR (roV nx)))) []) [])) (s, List.map deB (blV acc), List.map deR (roV nx)))) [] 4, AObj.gro (roV (Rw (deN (glue (glue (inV (I (s, List.map deB (blV acc), List.map deR (roV nx)))) []) [])) (s, List.map deB (blV acc), List.map deR (roV nx)))) [] 50]))) ∧ HF (Value.agg (Array.mk (inV (C (s, List.map deB (blV acc), List.map deR (roV nx)))))) ∧ HF (Value.agg (Array.mk (inV (I (s, List.map deB (blV acc), List.map deR (roV nx)))))) ∧ HF (Value.agg (Array.mk (blV (Ac (deN (glue (glue (inV (I (s, List.map deB (blV acc), List.map deR (roV nx)))) []) [])) (s, List.map deB (blV acc), List.map deR (roV nx)))))) ∧ HF (Value.agg (Array.mk (roV (Rw (deN (glue (glue (inV (I (s, List.map deB (blV acc), List.map deR (roV nx)))) []) [])) (s, List.map deB (blV acc), List.map deR (roV nx)))))) ∧ Q (Value.pointer (some ⟨0, 0, none⟩)) (AH.mk (Nd (Nd (Nd Lf (some (AObj.gro (roV (Rw (deN (glue (glue (inV (I (s, List.map deB (blV acc), List.map deR (roV nx)))) []) [])) (s, List.map deB (blV acc), List.map deR (roV nx)))) [] 50)) Lf) (some (AObj.gro (inV (I (s, List.map deB (blV acc), List.map deR (roV nx)))) [] 3)) Lf) (some (AObj.arr (inV (C (s, List.map deB (blV acc), List.map deR (roV nx)))) [Value.slice (some ⟨1, 0, none⟩) (List.length (I (s, List.map deB (blV acc), List.map deR (roV nx)))) 18446744073709551620, Value.slice (some ⟨2, 0, none⟩) (List.length (Ac (deN (glue (glue (inV (I (s, List.map deB (blV acc), List.map deR (roV nx)))) []) [])) (s, List.map deB (blV acc), List.map deR (roV nx)))) 18446744073709551620, Value.slice (some ⟨3, 0, none⟩) (List.length (Rw (deN (glue (glue (inV (I (s, List.map deB (blV acc), List.map deR (roV nx)))) []) [])) (s, List.map deB (blV acc), List.map deR (roV nx)))) 18446744073709551620] 256 68)) (Nd Lf (some (AObj.gro (blV (Ac (deN (glue (glue (inV (I (s, List.map deB (blV acc), List.map deR (roV nx)))) []) [])) (s, List.map deB (blV acc), List.map deR (roV nx)))) [] 4)) Lf)) 4)) := by kernel_rfl
theorem jPa_nf (Q : Value → AH → Prop) (C : AU → AU → List Int) (I : AU → AU → List Int) (Ac : List Nat → AU → AU → List Bool) (Rw : List Nat → AU → AU → List (List Int)) (s : Int) (acc : List Bool) (nx : List (List Int)) (s2 : Int) (acc2 : List Bool) (nx2 : List (List Int)) : jPa Q C I Ac Rw s acc nx s2 acc2 nx2 = (HFs [Value.agg ⟨inV z256⟩, Vd 1 (blV acc), Vd 1 (roV nx), Vd 1 (blV acc2), Vd 1 (roV nx2), Value.agg (Array.mk (inV (I (s, List.map deB (blV acc), List.map deR (roV nx)) (s2, List.map deB (blV acc2), List.map deR (roV nx2))))), Value.agg (Array.mk (inV (C (s, List.map deB (blV acc), List.map deR (roV nx)) (s2, List.map deB (blV acc2), List.map deR (roV nx2))))), Vd 1 (blV acc), Vd 1 (roV nx), Vd 1 (blV acc2), Vd 1 (roV nx2)] (PH (Prod.fst (some ((inV z256) = (inV z256) ∧ okO (AObj.cells [Vi s, Vd 1 (blV acc), Vd 1 (roV nx)] 29) (s, List.map deB (blV acc), List.map deR (roV nx)) ∧ okO (AObj.cells [Vi s2, Vd 1 (blV acc2), Vd 1 (roV nx2)] 29) (s2, List.map deB (blV acc2), List.map deR (roV nx2))), Value.tuple ⟨[]⟩, [AObj.arr (inV (C (s, List.map deB (blV acc), List.map deR (roV nx)) (s2, List.map deB (blV acc2), List.map deR (roV nx2)))) [Value.slice (some ⟨3, 0, none⟩) (List.length (I (s, List.map deB (blV acc), List.map deR (roV nx)) (s2, List.map deB (blV acc2), List.map deR (roV nx2)))) 18446744073709551620, Value.slice none 0 0, Value.slice none 0 0] 256 68, AObj.cells [Vi s, Vd 1 (blV acc), Vd 1 (roV nx)] 29, AObj.cells [Vi s2, Vd 1 (blV acc2), Vd 1 (roV nx2)] 29, AObj.gro (inV (I (s, List.map deB (blV acc), List.map deR (roV nx)) (s2, List.map deB (blV acc2), List.map deR (roV nx2)))) [] 3]))) ∧ HFs [Value.agg (Array.mk (inV (C (s, List.map deB (blV acc), List.map deR (roV nx)) (s2, List.map deB (blV acc2), List.map deR (roV nx2))))), Vd 1 (blV acc), Vd 1 (roV nx), Vd 1 (blV acc2), Vd 1 (roV nx2), Value.agg (Array.mk (inV (I (s, List.map deB (blV acc), List.map deR (roV nx)) (s2, List.map deB (blV acc2), List.map deR (roV nx2))))), Value.agg (Array.mk (roV (Rw (deN (glue (glue (inV (I (s, List.map deB (blV acc), List.map deR (roV nx)) (s2, List.map deB (blV acc2), List.map deR (roV nx2)))) []) [])) (s, List.map deB (blV acc), List.map deR (roV nx)) (s2, List.map deB (blV acc2), List.map deR (roV nx2))))), Value.agg (Array.mk (blV (Ac (deN (glue (glue (inV (I (s, List.map deB (blV acc), List.map deR (roV nx)) (s2, List.map deB (blV acc2), List.map deR (roV nx2)))) []) [])) (s, List.map deB (blV acc), List.map deR (roV nx)) (s2, List.map deB (blV acc2), List.map deR (roV nx2))))), Value.agg (Array.mk (inV (C (s, List.map deB (blV acc), List.map deR (roV nx)) (s2, List.map deB (blV acc2), List.map deR (roV nx2))))), Vd 1 (blV acc), Vd 1 (roV nx), Vd 1 (blV acc2), Vd 1 (roV nx2), Value.agg (Array.mk (inV (I (s, List.map deB (blV acc), List.map deR (roV nx)) (s2, List.map deB (blV acc2), List.map deR (roV nx2)))))] (PH (Prod.fst (some (inV (C (s, List.map deB (blV acc), List.map deR (roV nx)) (s2, List.map deB (blV acc2), List.map deR (roV nx2))) = inV (List.map deI (inV (C (s, List.map deB (blV acc), List.map deR (roV nx)) (s2, List.map deB (blV acc2), List.map deR (roV nx2))))) ∧ ([] : List Value) = [] ∧ IsF (inV (I (s, List.map deB (blV acc), List.map deR (roV nx)) (s2, List.map deB (blV acc2), List.map deR (roV nx2)))) (List.length (I (s, List.map deB (blV acc), List.map deR (roV nx)) (s2, List.map deB (blV acc2), List.map deR (roV nx2)))) ∧ AObj.cells [Value.func (Go.Fn.func 34) ⟨[]⟩ ⟨[]⟩] 87 = AObj.cells [Value.func (Go.Fn.func 34) ⟨[]⟩ ⟨[]⟩] 87 ∧ okO (AObj.cells [Vi s, Vd 1 (blV acc), Vd 1 (roV nx)] 29) (s, List.map deB (blV acc), List.map deR (roV nx)) ∧ okO (AObj.cells [Vi s2, Vd 1 (blV acc2), Vd 1 (roV nx2)] 29) (s2, List.map deB (blV acc2), List.map deR (roV nx2)) ∧ s = s ∧ s2 = s2), Value.tuple ⟨[]⟩, [AObj.arr (inV (C (s, List.map deB (blV acc), List.map deR (roV nx)) (s2, List.map deB (blV acc2), List.map deR (roV nx2)))) [Value.slice (some ⟨4, 0, none⟩) (List.length (I (s, List.map deB (blV acc), List.map deR (roV nx)) (s2, List.map deB (blV acc2), List.map deR (roV nx2)))) 18446744073709551620, Value.slice (some ⟨5, 0, none⟩) (List.length (Ac (deN (glue (glue (inV (I (s, List.map deB (blV acc), List.map deR (roV nx)) (s2, List.map deB (blV acc2), List.map deR (roV nx2)))) []) [])) (s, List.map deB (blV acc), List.map deR (roV nx)) (s2, List.map deB (blV acc2), List.map deR (roV nx2)))) 18446744073709551620, Value.slice (some ⟨6, 0, none⟩) (List.length (Rw (deN (glue (glue (inV (I (s, List.map deB (blV acc), List.map deR (roV nx)) (s2, List.map deB (blV acc2), List.map deR (roV nx2)))) []) [])) (s, List.map deB (blV acc), List.map deR (roV nx)) (s2, List.map deB (blV acc2), List.map deR (roV nx2)))) 18446744073709551620] 256 68, AObj.cells [Value.func (Go.Fn.func 34) ⟨[]⟩ ⟨[]⟩] 87, AObj.cells [Vi s, Vd 1 (blV acc), Vd 1 (roV nx)] 29, AObj.cells [Vi s2, Vd 1 (blV acc2), Vd 1 (roV nx2)] 29, AObj.gro (inV (I (s, List.map deB (blV acc), List.map deR (roV nx)) (s2, List.map deB (blV acc2), List.map deR (roV nx2)))) [] 3, AObj.gro (blV (Ac (deN (glue (glue (inV (I (s, List.map deB (blV acc), List.map deR (roV nx)) (s2, List.map deB (blV acc2), List.map deR (roV nx2)))) []) [])) (s, List.map deB (blV acc), List.map deR (roV nx)) (s2, List.map deB (blV acc2), List.map deR (roV nx2)))) [] 4, AObj.gro (roV (Rw (deN (glue (glue (inV (I (s, List.map deB (blV acc), List.map deR (roV nx)) (s2, List.map deB (blV acc2), List.map deR (roV nx2)))) []) [])) (s, List.map deB (blV acc), List.map deR (roV nx)) (s2, List.map deB (blV acc2), List.map deR (roV nx2)))) [] 50]))) ∧ HF (Value.agg (Array.mk (inV (C (s, List.map deB (blV acc), List.map deR (roV nx)) (s2, List.map deB (blV acc2), List.map deR (roV nx2)))))) ∧ HF (Value.agg (Array.mk (inV (I (s, List.map deB (blV acc), List.map deR (roV nx)) (s2, List.map deB (blV acc2), List.map deR (roV nx2)))))) ∧ HF (Value.agg (Array.mk (blV (Ac (deN (glue (glue (inV (I (s, List.map deB (blV acc), List.map deR (roV nx)) (s2, List.map deB (blV acc2), List.map deR (roV nx2)))) []) [])) (s, List.map deB (blV acc), List.map deR (roV nx)) (s2, List.map deB (blV acc2), List.map deR (roV nx2)))))) ∧ HF (Value.agg (Array.mk (roV (Rw (deN (glue (glue (inV (I (s, List.map deB (blV acc), List.map deR (roV nx)) (s2, List.map deB (blV acc2), List.map deR (roV nx2)))) []) [])) (s, List.map deB (blV acc), List.map deR (roV nx)) (s2, List.map deB (blV acc2), List.map deR (roV nx2)))))) ∧ Q (Value.pointer (some ⟨0, 0, none⟩)) (AH.mk (Nd (Nd (Nd Lf (some (AObj.gro (roV (Rw (deN (glue (glue (inV (I (s, List.map deB (blV acc), List.map deR (roV nx)) (s2, List.map deB (blV acc2), List.map deR (roV nx2)))) []) [])) (s, List.map deB (blV acc), List.map deR (roV nx)) (s2, List.map deB (blV acc2), List.map deR (roV nx2)))) [] 50)) Lf) (some (AObj.gro (inV (I (s, List.map deB (blV acc), List.map deR (roV nx)) (s2, List.map deB (blV acc2), List.map deR (roV nx2)))) [] 3)) Lf) (some (AObj.arr (inV (C (s, List.map deB (blV acc), List.map deR (roV nx)) (s2, List.map deB (blV acc2), List.map deR (roV nx2)))) [Value.slice (some ⟨1, 0, none⟩) (List.length (I (s, List.map deB (blV acc), List.map deR (roV nx)) (s2, List.map deB (blV acc2), List.map deR (roV nx2)))) 18446744073709551620, Value.slice (some ⟨2, 0, none⟩) (List.length (Ac (deN (glue (glue (inV (I (s, List.map deB (blV acc), List.map deR (roV nx)) (s2, List.map deB (blV acc2), List.map deR (roV nx2)))) []) [])) (s, List.map deB (blV acc), List.map deR (roV nx)) (s2, List.map deB (blV acc2), List.map deR (roV nx2)))) 18446744073709551620, Value.slice (some ⟨3, 0, none⟩) (List.length (Rw (deN (glue (glue (inV (I (s, List.map deB (blV acc), List.map deR (roV nx)) (s2, List.map deB (blV acc2), List.map deR (roV nx2)))) []) [])) (s, List.map deB (blV acc), List.map deR (roV nx)) (s2, List.map deB (blV acc2), List.map deR (roV nx2)))) 18446744073709551620] 256 68)) (Nd Lf (some (AObj.gro (blV (Ac (deN (glue (glue (inV (I (s, List.map deB (blV acc), List.map deR (roV nx)) (s2, List.map deB (blV acc2), List.map deR (roV nx2)))) []) [])) (s, List.map deB (blV acc), List.map deR (roV nx)) (s2, List.map deB (blV acc2), List.map deR (roV nx2)))) [] 4)) Lf)) 4)) := by kernel_rfl
def dfB (C F : List Int) (ac : List Bool) (rw : List (List Int)) : List AObj := [dfO C [groS 1 F.length, groS 2 ac.length, groS 3 rw.length], groI F, groB ac, groR rw]
def hDf (C F : List Int) (ac : List Bool) (rw : List (List Int)) : AH := ⟨(.node (.node (.node .leaf (some (groR rw)) .leaf) (some (groI F)) .leaf) (some (dfO C [groS 1 F.length, groS 2 ac.length, groS 3 rw.length])) (.node .leaf (some (groB ac)) .leaf)), 4⟩
theorem heap_df (C F : List Int) (ac : List Bool) (rw : List (List Int)) : heapN (dfB C F ac rw) = hDf C F ac rw := by kernel_rfl
theorem okO_au {a : AU} (h : OkA a) : okO (auCo a) a := ⟨rfl, h⟩
theorem si_gen (Q : Value → AH → Prop) (C I : AU → List Int) (Ac : List Nat → AU → List Bool) (Rw : List Nat → AU → List (List Int)) {a : AU} (h : OkA a) (F : List Nat) (hI : I a = inF F) (hF : ∀ c ∈ F, c < 256) (hFl : F.length ≤ 256)
 (hQ : Q (.pointer (some ⟨0, 0, none⟩)) (heapN (dfB (C a) (inF F) (Ac F a) (Rw F a)))) : jSi Q C I Ac Rw a.1 a.2.1 a.2.2 := by
 obtain ⟨s, acc, nx⟩ := a
 refine (jSi_nf Q C I Ac Rw s acc nx).mpr ?_
 rw [blV_de, roV_de, hI]
 have e : deN (glue (glue (inV (inF F)) []) []) = F := by
  exact deN_in F
 rw [e]
 rw [heap_df] at hQ
 refine ⟨⟨HF_inA _, .dat (HF_bl _), .dat (HF_ro _), HF_inA _, HF_inA _, .dat (HF_bl _), .dat (HF_ro _), rfl, okO_au h⟩, ⟨HF_inA _, .dat (HF_bl _), .dat (HF_ro _), HF_inA _, HF_roA _, HF_blA _, HF_inA _, .dat (HF_bl _), .dat (HF_ro _), HF_inA _, ?_⟩, HF_inA _, HF_inA _, HF_blA _, HF_roA _, hQ⟩
 exact ⟨by rw [inV_de], rfl, ⟨by rw [deN_in], by rw [deN_in]; exact hF, by rw [deN_in]; exact hFl, by rw [deN_in, inF_len]⟩, okO_au h, rfl, rfl⟩
theorem pa_gen (Q : Value → AH → Prop) (C I : AU → AU → List Int) (Ac : List Nat → AU → AU → List Bool) (Rw : List Nat → AU → AU → List (List Int)) {a b : AU} (h : OkA a) (h2 : OkA b) (F : List Nat) (hI : I a b = inF F) (hF : ∀ c ∈ F, c < 256) (hFl : F.length ≤ 256)
 (hQ : Q (.pointer (some ⟨0, 0, none⟩)) (heapN (dfB (C a b) (inF F) (Ac F a b) (Rw F a b)))) : jPa Q C I Ac Rw a.1 a.2.1 a.2.2 b.1 b.2.1 b.2.2 := by
 obtain ⟨s, acc, nx⟩ := a
 obtain ⟨s2, acc2, nx2⟩ := b
 refine (jPa_nf Q C I Ac Rw s acc nx s2 acc2 nx2).mpr ?_
 rw [blV_de, roV_de, blV_de, roV_de, hI]
 have e : deN (glue (glue (inV (inF F)) []) []) = F := by
  exact deN_in F
 rw [e]
 rw [heap_df] at hQ
 refine ⟨⟨HF_inA _, .dat (HF_bl _), .dat (HF_ro _), .dat (HF_bl _), .dat (HF_ro _), HF_inA _, HF_inA _, .dat (HF_bl _), .dat (HF_ro _), .dat (HF_bl _), .dat (HF_ro _), rfl, okO_au h, okO_au h2⟩, ⟨HF_inA _, .dat (HF_bl _), .dat (HF_ro _), .dat (HF_bl _), .dat (HF_ro _), HF_inA _, HF_roA _, HF_blA _, HF_inA _, .dat (HF_bl _), .dat (HF_ro _), .dat (HF_bl _), .dat (HF_ro _), HF_inA _, ?_⟩, HF_inA _, HF_inA _, HF_blA _, HF_roA _, hQ⟩
 exact ⟨by rw [inV_de], rfl, ⟨by rw [deN_in], by rw [deN_in]; exact hF, by rw [deN_in]; exact hFl, by rw [deN_in, inF_len]⟩, rfl, okO_au h, okO_au h2, rfl, rfl⟩
def fsS (a : AU) : List Nat := clsF (keyS a.2.2) 256
def fsP (a b : AU) : List Nat := clsF (keyP a.2.2 b.2.2) 256
def caS (a : AU) : List Int := clsC (keyS a.2.2) 256
def caP2 (a b : AU) : List Int := clsC (keyP a.2.2 b.2.2) 256
def accS (a : AU) : List Bool := aceS (fsS a) a
def accP (a b : AU) : List Bool := aceP (fsP a b) a b
def rowS (a : AU) : List (List Int) := rweS (fsS a) a
def rowP (a b : AU) : List (List Int) := rweP (fsP a b) a b
theorem si_walk {a : AU} (h : OkA a) : WalkF env Proofs.Tryd.f41 [auV a] ⟨.leaf, 0⟩ (.pointer (some ⟨0, 0, none⟩)) (heapN (dfB (caS a) (inF (fsS a)) (accS a) (rowS a))) :=
 sxFnF_walk XSi_ok (d := 1) (ns := []) (zs := []) (ws := []) (si_gen _ caS (fun a => clsI (keyS a.2.2) 256) aceS rweS h (fsS a) rfl (clsF_lt _ _) (clsF_len _ _) ⟨rfl, rfl⟩)
theorem pa_walk {a b : AU} (h : OkA a) (h2 : OkA b) : WalkF env Proofs.Tryd.f33 [auV a, auV b, .func (.func 34) ⟨[]⟩ ⟨[]⟩] ⟨.leaf, 0⟩ (.pointer (some ⟨0, 0, none⟩)) (heapN (dfB (caP2 a b) (inF (fsP a b)) (accP a b) (rowP a b))) :=
 sxFnF_walk XPa_ok (d := 1) (ns := []) (zs := []) (ws := []) (pa_gen _ caP2 (fun a b => clsI (keyP a.2.2 b.2.2) 256) aceP rweP h h2 (fsP a b) rfl (clsF_lt _ _) (clsF_len _ _) ⟨rfl, rfl⟩)
def spSiG (C Fs : AU → List Int) (Ac : AU → List Bool) (Rw : AU → List (List Int)) : List Value → List AObj → Option (Option Prop × Value × List AObj)
 | [u], [] => (match auQ u with
   | some a => some (some (u = auV a ∧ OkA a), .pointer (some ⟨0, 0, none⟩), dfB (C a) (Fs a) (Ac a) (Rw a))
   | none => none)
 | _, _ => none
def spPaG (C Fs : AU → AU → List Int) (Ac : AU → AU → List Bool) (Rw : AU → AU → List (List Int)) : List Value → List AObj → Option (Option Prop × Value × List AObj)
 | [u, v, .func (.func g) ⟨[]⟩ ⟨[]⟩], [] => (match auQ u, auQ v with
   | some a, some b => bif Nat.beq g 34 then some (some (u = auV a ∧ OkA a ∧ v = auV b ∧ OkA b), .pointer (some ⟨0, 0, none⟩), dfB (C a b) (Fs a b) (Ac a b) (Rw a b)) else none
   | _, _ => none)
 | _, _ => none
def spSi := spSiG caS (fun a => inF (fsS a)) accS rowS
def spPa := spPaG caP2 (fun a b => inF (fsP a b)) accP rowP
theorem si_tab : ∀ args A p v A', frmR noAr spSi args A = some (p, v, A') → PH p → CallAt env 41 args A v A' := frmR_ok env_ok (fn := Proofs.Tryd.f41) rfl fun args objs p v objs' h hp => by
 unfold spSi spSiG at h
 split at h
 · rename_i u
   split at h
   · rename_i a ha
     simp only [Option.some.injEq, Prod.mk.injEq] at h
     obtain ⟨rfl, rfl, rfl⟩ := h
     obtain ⟨rfl, h2⟩ : u = auV a ∧ OkA a := hp
     exact si_walk h2
   · cases h
 · cases h
theorem pa_tab : ∀ args A p v A', frmR noAr spPa args A = some (p, v, A') → PH p → CallAt env 33 args A v A' := frmR_ok env_ok (fn := Proofs.Tryd.f33) rfl fun args objs p v objs' h hp => by
 unfold spPa spPaG at h
 split at h
 · rename_i u w g
   split at h
   · rename_i a b ha hb0
     obtain ⟨hb, h⟩ := bif_some h
     simp only [Prod.mk.injEq] at h
     obtain ⟨rfl, rfl, rfl⟩ := h
     rw [Nat.beq_eq] at hb
     subst hb
     obtain ⟨rfl, h2, rfl, h3⟩ : u = auV a ∧ OkA a ∧ w = auV b ∧ OkA b := hp
     exact pa_walk h2 h3
   · cases h
 · cases h
def elRv : El := { El.of (fun _ _ els i => some (.int .u8 (intAt els i))) with app := true, gm := fun _ => true }
def XRv : SX := ⟨env, [], elRv, fun _ => .autoN [] [] [] [0, 2, 3]⟩
theorem XRv_ok : XRv.Ok := ⟨env_ok, env_sym, env_gl, .nil⟩
def hRv1 (l : LB) : AH := ⟨.node .leaf (some (.gro (u8v l) [] 5)) .leaf, 1⟩
def frRv (n i : Nat) (j : Int) : T Value := (.node (.node (.node .leaf (some (.int .i64 j)) .leaf) none .leaf) (some (groS 0 n)) (.node .leaf (some (.int .i64 i)) .leaf))
def kFinRv (K : KV) : KX := finK XRv.E (Proofs.Tryd.f68.results).toList K
def jRv (K : KV) (l : LB) : Prop := sxFnF XRv 1 Proofs.Tryd.f68 [groS 0 l.length] (hRv1 l) K
def jRvL (K : KV) (again : KF) (l0 l : LB) (n i : Nat) (j : Int) : Prop := sxStepF XRv 1 (Func.ntmps Proofs.Tryd.f68) (hRv1 l0) (bodyOf Proofs.Tryd.f68) [1, 0] (kFinRv K) [] [] [] [0, 2, 3] again (frRv n i j) (hRv1 l)
theorem jRv_nf (K : KV) (l : LB) : jRv K l = (HF (Value.agg (Array.mk (u8v l))) ∧ LAtZ XRv 1 (Func.ntmps Proofs.Tryd.f68) (hRv1 l) (bodyOf Proofs.Tryd.f68) [1, 0] (finK (SX.E XRv) (Array.toList (Func.results Proofs.Tryd.f68)) K) (Nd (Nd (Nd Lf (some (Vi (IntKind.wrap .i64 ((↑(List.length l) : Int) - 1)))) Lf) none Lf) (some (Value.slice (some ⟨0, 0, none⟩) (List.length l) 18446744073709551620)) (Nd Lf (some (Vi 0)) Lf)) (AH.mk (Nd Lf (some (AObj.gro (u8v l) [] 5)) Lf) 1)) := by kernel_rfl
theorem jRvL_nf (K : KV) (again : KF) (l0 : LB) (l : LB) (n i : Nat) (j : Int) : jRvL K again l0 l n i j = (Sp (decide ((i : Int) < j)) ((0 ≤ j ∧ j < (n : Int)) ∧ nth (u8v l) (Int.toNat (↑(Int.toNat j + 0) : Int)) = some (Value.int .u8 (intAt (u8v l) (↑(Int.toNat j + 0) : Int))) ∧ (0 ≤ (i : Int) ∧ (i : Int) < (n : Int)) ∧ nth (u8v l) (i) = some (Value.int .u8 (intAt (u8v l) (i : Int))) ∧ (0 ≤ (i : Int) ∧ (i : Int) < (n : Int)) ∧ i < List.length (u8v l) ∧ (0 ≤ j ∧ j < (n : Int)) ∧ Int.toNat (↑(Int.toNat j + 0) : Int) < List.length (List.set (u8v l) (i) (Value.int .u8 (intAt (u8v l) (↑(Int.toNat j + 0) : Int)))) ∧ HF (Value.agg (Array.mk (List.set (List.set (u8v l) (i) (Value.int .u8 (intAt (u8v l) (↑(Int.toNat j + 0) : Int)))) (Int.toNat (↑(Int.toNat j + 0) : Int)) (Value.int .u8 (intAt (u8v l) (i : Int)))))) ∧ again (Nd (Nd (Nd Lf (some (Vi (IntKind.wrap .i64 (j - 1)))) Lf) none Lf) (some (Value.slice (some ⟨0, 0, none⟩) n 18446744073709551620)) (Nd Lf (some (Vi (IntKind.wrap .i64 ((i : Int) + 1)))) Lf)) (AH.mk (Nd Lf (some (AObj.gro (List.set (List.set (u8v l) (i) (Value.int .u8 (intAt (u8v l) (↑(Int.toNat j + 0) : Int)))) (Int.toNat (↑(Int.toNat j + 0) : Int)) (Value.int .u8 (intAt (u8v l) (i : Int)))) [] 5)) Lf) 1)) (K (Value.tuple ⟨[]⟩) (AH.mk (Nd Lf (some (AObj.gro (u8v l) [] 5)) Lf) 1))) := by kernel_rfl
theorem nth_u8 {l : LB} {i : Nat} (h : i < l.length) : nth (u8v l) i = some (.int .u8 (l[i].toNat : Int)) := by
 rw [nth_eq]; unfold u8v; rw [List.getElem?_map, List.getElem?_eq_getElem h]; rfl
theorem u8_at {l : LB} {i : Nat} (h : i < l.length) : intAt (u8v l) (i : Int) = (l[i].toNat : Int) := by
 unfold intAt; rw [Int.toNat_natCast, nth_u8 h]
theorem u8_set (l : LB) (i : Nat) (x : UInt8) : (u8v l).set i (.int .u8 (x.toNat : Int)) = u8v (l.set i x) := by unfold u8v; rw [List.map_set]
theorem end_rv (Q : Value → AH → Prop) (l0 l : LB) : endF env (hRv1 l0) [] [] [] Q (.tuple ⟨[]⟩) (hRv1 l) = (HF (.agg ⟨u8v l⟩) ∧ Q (.tuple ⟨[]⟩) (hRv1 l)) := by kernel_rfl
theorem rv_walk (l : LB) (hl : l.length < 4611686018427387904) : WalkF env Proofs.Tryd.f68 [groS 0 l.length] (hRv1 l) (.tuple ⟨[]⟩) (hRv1 l.reverse) := by
 refine sxFnF_walk XRv_ok (d := 1) (ns := []) (zs := []) (ws := []) ((jRv_nf _ l).mpr ⟨HF_u8 l, ?_⟩)
 refine LAtZ.stepF XRv_ok [] [] [] [0, 2, 3] (by kernel_rfl) (fun m G A => ∃ (i : Nat) (l' : LB), G = frRv l.length i ((l.length : Int) - 1 - i) ∧ A = hRv1 l' ∧ RevI l l' i ∧ 2 * i ≤ l.length + 1 ∧ i + m = l.length + 1) ?_ (k := l.length + 1) ⟨0, l, ?_, rfl, RevI.init l, by omega, by omega⟩
 rotate_left
 · rw [i64_in (x := (l.length : Int) - 1) (by omega) (by omega)]
   show _ = frRv l.length 0 ((l.length : Int) - 1 - (0 : Nat))
   rw [show (l.length : Int) - 1 - ((0 : Nat) : Int) = (l.length : Int) - 1 by omega]; rfl
 rintro m G A ⟨i, l', rfl, rfl, hR, hi2, him⟩
 have hlen := hR.len
 refine (jRvL_nf _ _ l l' l.length i _).mpr (Sp.intro (fun c => ?_) (fun c => ?_))
 · have c := of_decide_eq_true c
   have ej : Int.toNat ((l.length : Int) - 1 - i) + 0 = l.length - 1 - i := by omega
   have hi : i < l'.length := by omega
   have hj : l.length - 1 - i < l'.length := by omega
   rw [ej, Int.toNat_natCast, u8_at hj, u8_at hi, u8_set, u8_set, u8v_len, u8v_len, List.length_set]
   refine ⟨⟨by omega, by omega⟩, nth_u8 hj, ⟨by omega, by omega⟩, nth_u8 hi, ⟨by omega, by omega⟩, hi, ⟨by omega, by omega⟩, hj, HF_u8 _, m - 1, by omega, i + 1, _, ?_, rfl, hR.step (by omega) (List.getElem?_eq_getElem hi) (List.getElem?_eq_getElem hj), by omega, by omega⟩
   rw [i64_in (x := (l.length : Int) - 1 - i - 1) (by omega) (by omega), i64_in (x := (i : Int) + 1) (by omega) (by omega)]
   show _ = frRv l.length (i + 1) ((l.length : Int) - 1 - (i + 1 : Nat))
   rw [show (l.length : Int) - 1 - ((i + 1 : Nat) : Int) = (l.length : Int) - 1 - i - 1 by omega]; rfl
 · have c := of_decide_eq_false c
   rw [hR.done (by omega)]
   exact (end_rv _ l l.reverse).mpr ⟨HF_u8 _, rfl, rfl⟩
def deU (v : Value) : UInt8 := UInt8.ofNat (deI v).toNat
theorem u8_de (l : LB) : (u8v l).map deU = l := by
 unfold u8v
 rw [List.map_map]
 conv => rhs; rw [← List.map_id l]
 refine List.map_congr_left fun b _ => ?_
 show UInt8.ofNat (Int.toNat ((b.toNat : Nat) : Int)) = b
 rw [Int.toNat_natCast]; simp
def spRv : List Value → List AObj → Option (Option Prop × Value × List AObj)
 | [.slice (some ⟨B, o, none⟩) n k], [.gro l tl e] => bif (Nat.beq B 0 && Nat.beq o 0) && (Nat.beq k (unk + 3 + 1) && Nat.beq e 5) then
  some (some (tl = [] ∧ l = u8v (l.map deU) ∧ n = l.length ∧ l.length < 4611686018427387904), .tuple ⟨[]⟩, [.gro l.reverse [] e]) else none
 | _, _ => none
theorem heap_rv (l : LB) : heapN [.gro (u8v l) [] 5] = hRv1 l := by kernel_rfl
theorem rv_tab : ∀ args A p v A', frmR noAr spRv args A = some (p, v, A') → PH p → CallAt env 68 args A v A' := frmR_ok env_ok (fn := Proofs.Tryd.f68) rfl fun args objs p v objs' h hp => by
 unfold spRv at h
 split at h
 · rename_i B o n k l tl e
   obtain ⟨hb, h⟩ := bif_some h
   simp only [Prod.mk.injEq] at h
   obtain ⟨rfl, rfl, rfl⟩ := h
   simp only [Bool.and_eq_true, Nat.beq_eq] at hb
   obtain ⟨⟨rfl, rfl⟩, rfl, rfl⟩ := hb
   obtain ⟨rfl, h2, rfl, h3⟩ : tl = [] ∧ l = u8v (l.map deU) ∧ n = l.length ∧ l.length < 4611686018427387904 := hp
   generalize l.map deU = w at h2
   subst h2
   rw [u8v_len] at h3 ⊢
   have e : (u8v w).reverse = u8v w.reverse := by unfold u8v; rw [List.map_reverse]
   rw [e, heap_rv, heap_rv]
   exact rv_walk w h3
 · cases h
def nsSh : List (NPos × TypeId × Nat) := [(.made 4, 3, 1), (.made 5, 3, 1), (.slot 7, 3, 1)]
def elSh : El := { elT [85] [50, 92] with app := true, gm := fun _ => true }
def XSh : SX := ⟨env, [(68, frmR noAr spRv)], elSh, fun k => bif Nat.beq k 6 then .autoN nsSh [] [] [0, 4, 5, 6, 7, 8] else bif Nat.beq k 11 then .autoN [(.slot 10, 5, 1)] [] [] [4, 5, 9, 10] else .autoN [] [] [] [0, 4, 5, 6, 7, 8, 9, 73, 74, 75]⟩
theorem XSh_ok : XSh.Ok := ⟨env_ok, env_sym, env_gl, .cons rv_tab .nil⟩
def kFinSh (K : KV) : KX := finK XSh.E (Proofs.Tryd.f35.results).toList K
def hSh (C F : List Int) (ac : List Bool) (rw : List (List Int)) (fr bt : List Int) (sn : List Bool) (q : List Int) : AH := ⟨(.node (.node (.node (.node .leaf (some (groI q)) .leaf) (some (groR rw)) .leaf) (some (groI F)) (.node .leaf (some (groI bt)) .leaf)) (some (dfO C [groS 1 F.length, groS 2 ac.length, groS 3 rw.length])) (.node (.node .leaf (some (groI fr)) .leaf) (some (groB ac)) (.node .leaf (some (groB sn)) .leaf))), 8⟩
def hShB (C F : List Int) (ac : List Bool) (rw : List (List Int)) (fr bt : List Int) (out : LB) : AH := ⟨(.node (.node (.node .leaf (some (groR rw)) .leaf) (some (groI F)) (.node .leaf (some (groI bt)) .leaf)) (some (dfO C [groS 1 F.length, groS 2 ac.length, groS 3 rw.length])) (.node (.node .leaf (some (groI fr)) .leaf) (some (groB ac)) (.node .leaf (some (.gro (u8v out) [] 5)) .leaf))), 7⟩
def frSh (n m i : Nat) : T Value := (.node (.node (.node (.node .leaf (some (groS 7 m)) .leaf) none .leaf) none (.node .leaf (some (groS 5 n)) .leaf)) (some (.pointer (some ⟨0, 0, none⟩))) (.node (.node (.node .leaf (some (.int .i64 i)) .leaf) (some (groS 4 n)) .leaf) none (.node .leaf (some (groS 6 n)) .leaf)))
def frShI (n m i : Nat) (s : Int) (nF c : Nat) : T Value := (.node (.node (.node (.node .leaf (some (groS 7 m)) .leaf) none (.node .leaf none (.node (.node (.node .leaf (some (.int .i64 c)) .leaf) none .leaf) none .leaf))) none (.node (.node .leaf (some (.int .i64 s)) (.node (.node (.node .leaf (some (groS 1 nF)) .leaf) none .leaf) none .leaf)) (some (groS 5 n)) .leaf)) (some (.pointer (some ⟨0, 0, none⟩))) (.node (.node (.node .leaf (some (.int .i64 i)) .leaf) (some (groS 4 n)) .leaf) none (.node (.node .leaf none (.node (.node (.node .leaf (some (.int .i64 nF)) .leaf) none .leaf) none .leaf)) (some (groS 6 n)) .leaf)))
def frShB (n : Nat) (s : Int) (k : Nat) : T Value := (.node (.node .leaf none (.node (.node .leaf (some (.int .i64 s)) .leaf) (some (groS 5 n)) .leaf)) none (.node (.node .leaf (some (groS 4 n)) .leaf) none (.node (.node .leaf (some (groS 6 k)) .leaf) none .leaf)))
def jSh (K : KV) (C F : List Int) (ac : List Bool) (rw : List (List Int)) : Prop := sxFnF XSh 1 Proofs.Tryd.f35 [.pointer (some ⟨0, 0, none⟩)] (hDf C F ac rw) K
def jShL (K : KV) (again : KF) (C F : List Int) (ac : List Bool) (rw : List (List Int)) (fr bt : List Int) (sn : List Bool) (q : List Int) (n m i : Nat) : Prop := sxStepF XSh 1 (Func.ntmps Proofs.Tryd.f35) (hDf C F ac rw) (bodyOf Proofs.Tryd.f35) [1, 1, 1, 1, 1, 0, 1, 0] (kFinSh K) nsSh [] [] [0, 4, 5, 6, 7, 8] again (frSh n m i) (hSh C F ac rw fr bt sn q)
def kSh2 (K : KV) (again2 : KF) (C F : List Int) (ac : List Bool) (rw : List (List Int)) : KX := stepF XSh 1 (Func.ntmps Proofs.Tryd.f35) (hDf C F ac rw) (bodyOf Proofs.Tryd.f35) [1, 1, 1, 1, 1, 0, 1, 0] (kFinSh K) nsSh [] [] [0, 4, 5, 6, 7, 8] again2
def jShI (K : KV) (again2 again : KF) (C F : List Int) (ac : List Bool) (rw : List (List Int)) (fr bt : List Int) (sn : List Bool) (q : List Int) (n m i : Nat) (s : Int) (nF c : Nat) : Prop := sxStepF XSh 1 (Func.ntmps Proofs.Tryd.f35) (hDf C F ac rw) (loopBody (subC [1, 1, 1, 1, 1, 0, 1, 0] (bodyOf Proofs.Tryd.f35))) [1, 0, 0, 1, 1, 1, 0] (kSh2 K again2 C F ac rw) [] [] [] [0, 4, 5, 6, 7, 8, 9, 73, 74, 75] again (frShI n m i s nF c) (hSh C F ac rw fr bt sn q)
def jShB (K : KV) (again2 again : KF) (C F : List Int) (ac : List Bool) (rw : List (List Int)) (fr bt : List Int) (out : LB) (n : Nat) (s : Int) (k : Nat) : Prop := sxStepF XSh 1 (Func.ntmps Proofs.Tryd.f35) (hDf C F ac rw) (loopBody (subC [1, 1, 1, 1, 1, 0, 1, 0] (bodyOf Proofs.Tryd.f35))) [1, 0, 0, 1, 0, 1, 0, 1, 0, 0] (kSh2 K again2 C F ac rw) [(.slot 10, 5, 1)] [] [] [4, 5, 9, 10] again (frShB n s k) (hShB C F ac rw fr bt out)
set_option maxHeartbeats 1000000
theorem jSh_nf (K : KV) (C : List Int) (F : List Int) (ac : List Bool) (rw : List (List Int)) : jSh K C F ac rw = ((0 ≤ (↑(List.length rw) : Int) ∧ (↑(List.length rw) : Int) ≤ (↑(List.length rw) : Int) ∧ (↑(List.length rw) : Int) ≤ 281474976710656 ∧ 8 * List.length rw ≤ 281474976710656) ∧ (0 ≤ (↑(List.length rw) : Int) ∧ (↑(List.length rw) : Int) ≤ (↑(List.length rw) : Int) ∧ (↑(List.length rw) : Int) ≤ 281474976710656 ∧ 8 * List.length rw ≤ 281474976710656) ∧ (0 ≤ (↑(List.length rw) : Int) ∧ (↑(List.length rw) : Int) ≤ (↑(List.length rw) : Int) ∧ (↑(List.length rw) : Int) ≤ 281474976710656 ∧ 1 * List.length rw ≤ 281474976710656) ∧ ((0 : Int) ≤ (0 : Int) ∧ 0 < (↑(List.length rw) : Int)) ∧ 0 < List.length (List.replicate (List.length rw) (Value.bool false)) ∧ (List.length rw = List.length rw ∧ 0 < List.length rw ∧ List.length rw < 18446744073709551616 ∧ List.length (rep (Array.toList (Value.cells (Vi 0))) (List.length rw)) = List.length rw ∧ List.all (rep (Array.toList (Value.cells (Vi 0))) (List.length rw)) cellv = true) ∧ (List.length rw = List.length rw ∧ 0 < List.length rw ∧ List.length rw < 18446744073709551616 ∧ List.length (rep (Array.toList (Value.cells (Vi 0))) (List.length rw)) = List.length rw ∧ List.all (rep (Array.toList (Value.cells (Vi 0))) (List.length rw)) cellv = true) ∧ HF (Value.agg (Array.mk (inV C))) ∧ HF (Value.agg (Array.mk (inV F))) ∧ HF (Value.agg (Array.mk (blV ac))) ∧ HF (Value.agg (Array.mk (roV rw))) ∧ HF (Value.agg (Array.mk (rep (Array.toList (Value.cells (Vi 0))) (List.length rw)))) ∧ HF (Value.agg (Array.mk (rep (Array.toList (Value.cells (Vi 0))) (List.length rw)))) ∧ HF (Value.agg (Array.mk (List.set (List.replicate (List.length rw) (Value.bool false)) 0 (Value.bool true)))) ∧ HF (Value.agg (Array.mk [Vi 0])) ∧ LAtZ XSh 1 (Func.ntmps Proofs.Tryd.f35) (hDf C F ac rw) (bodyOf Proofs.Tryd.f35) [1, 1, 1, 1, 1, 0, 1, 0] (finK (SX.E XSh) (Array.toList (Func.results Proofs.Tryd.f35)) K) (Nd (Nd (Nd (Nd Lf (some (Value.slice (some ⟨7, 0, none⟩) 1 18446744073709551620)) Lf) none Lf) none (Nd Lf (some (Value.slice (some ⟨5, 0, none⟩) (List.length rw) 18446744073709551620)) Lf)) (some (Value.pointer (some ⟨0, 0, none⟩))) (Nd (Nd (Nd Lf (some (Vi 0)) Lf) (some (Value.slice (some ⟨4, 0, none⟩) (List.length rw) 18446744073709551620)) Lf) none (Nd Lf (some (Value.slice (some ⟨6, 0, none⟩) (List.length rw) 18446744073709551620)) Lf))) (AH.mk (Nd (Nd (Nd (Nd Lf (some (AObj.gro [Vi 0] [] 3)) Lf) (some (AObj.gro (roV rw) [] 50)) Lf) (some (AObj.gro (inV F) [] 3)) (Nd Lf (some (AObj.gro (rep (Array.toList (Value.cells (Vi 0))) (List.length rw)) [] 3)) Lf)) (some (AObj.arr (inV C) [Value.slice (some ⟨1, 0, none⟩) (List.length F) 18446744073709551620, Value.slice (some ⟨2, 0, none⟩) (List.length ac) 18446744073709551620, Value.slice (some ⟨3, 0, none⟩) (List.length rw) 18446744073709551620] 256 68)) (Nd (Nd Lf (some (AObj.gro (rep (Array.toList (Value.cells (Vi 0))) (List.length rw)) [] 3)) Lf) (some (AObj.gro (blV ac) [] 4)) (Nd Lf (some (AObj.gro (List.set (List.replicate (List.length rw) (Value.bool false)) 0 (Value.bool true)) [] 4)) Lf))) 8)) := by kernel_rfl
theorem jShL_nf (K : KV) (again : KF) (C : List Int) (F : List Int) (ac : List Bool) (rw : List (List Int)) (fr : List Int) (bt : List Int) (sn : List Bool) (q : List Int) (n m i : Nat) : jShL K again C F ac rw fr bt sn q n m i = (Sp (decide ((i : Int) < (m : Int))) ((0 ≤ (i : Int) ∧ (i : Int) < (m : Int)) ∧ nth (inV q) (i) = some (Vi (intAt (inV q) (i : Int))) ∧ (0 ≤ intAt (inV q) (i : Int) ∧ intAt (inV q) (i : Int) < (↑(List.length ac) : Int)) ∧ nth (blV ac) (Int.toNat (↑(Int.toNat (intAt (inV q) (i : Int)) + 0) : Int)) = some (Value.bool (boolAt (blV ac) (↑(Int.toNat (intAt (inV q) (i : Int)) + 0) : Int))) ∧ Sp (boolAt (blV ac) (↑(Int.toNat (intAt (inV q) (i : Int)) + 0) : Int)) (HF (Value.agg (Array.mk (inV C))) ∧ HF (Value.agg (Array.mk (inV F))) ∧ HF (Value.agg (Array.mk (blV ac))) ∧ HF (Value.agg (Array.mk (roV rw))) ∧ HF (Value.agg (Array.mk (inV fr))) ∧ HF (Value.agg (Array.mk (inV bt))) ∧ HF (Value.agg ⟨[]⟩) ∧ LAtZ XSh 1 (Func.ntmps Proofs.Tryd.f35) (hDf C F ac rw) (loopBody (subC [1, 1, 1, 1, 1, 0, 1, 0] (bodyOf Proofs.Tryd.f35))) [1, 0, 0, 1, 0, 1, 0, 1, 0, 0] (stepF XSh 1 (Func.ntmps Proofs.Tryd.f35) (hDf C F ac rw) (bodyOf Proofs.Tryd.f35) [1, 1, 1, 1, 1, 0, 1, 0] (kFinSh K) nsSh [] [] [0, 4, 5, 6, 7, 8] again) (Nd (Nd Lf none (Nd (Nd Lf (some (Vi (intAt (inV q) (i : Int)))) Lf) (some (Value.slice (some ⟨5, 0, none⟩) n 18446744073709551620)) Lf)) none (Nd (Nd Lf (some (Value.slice (some ⟨4, 0, none⟩) n 18446744073709551620)) Lf) none (Nd (Nd Lf (some (Value.slice (some ⟨6, 0, none⟩) 0 18446744073709551620)) Lf) none Lf))) (AH.mk (Nd (Nd (Nd Lf (some (AObj.gro (roV rw) [] 50)) Lf) (some (AObj.gro (inV F) [] 3)) (Nd Lf (some (AObj.gro (inV bt) [] 3)) Lf)) (some (AObj.arr (inV C) [Value.slice (some ⟨1, 0, none⟩) (List.length F) 18446744073709551620, Value.slice (some ⟨2, 0, none⟩) (List.length ac) 18446744073709551620, Value.slice (some ⟨3, 0, none⟩) (List.length rw) 18446744073709551620] 256 68)) (Nd (Nd Lf (some (AObj.gro (inV fr) [] 3)) Lf) (some (AObj.gro (blV ac) [] 4)) (Nd Lf (some (AObj.gro [] [] 5)) Lf))) 7)) (HF (Value.agg (Array.mk (inV C))) ∧ HF (Value.agg (Array.mk (inV F))) ∧ HF (Value.agg (Array.mk (blV ac))) ∧ HF (Value.agg (Array.mk (roV rw))) ∧ HF (Value.agg (Array.mk (inV fr))) ∧ HF (Value.agg (Array.mk (inV bt))) ∧ HF (Value.agg (Array.mk (blV sn))) ∧ HF (Value.agg (Array.mk (inV q))) ∧ LAtZ XSh 1 (Func.ntmps Proofs.Tryd.f35) (hDf C F ac rw) (loopBody (subC [1, 1, 1, 1, 1, 0, 1, 0] (bodyOf Proofs.Tryd.f35))) [1, 0, 0, 1, 1, 1, 0] (stepF XSh 1 (Func.ntmps Proofs.Tryd.f35) (hDf C F ac rw) (bodyOf Proofs.Tryd.f35) [1, 1, 1, 1, 1, 0, 1, 0] (kFinSh K) nsSh [] [] [0, 4, 5, 6, 7, 8] again) (Nd (Nd (Nd (Nd Lf (some (Value.slice (some ⟨7, 0, none⟩) m 18446744073709551620)) Lf) none (Nd Lf none (Nd (Nd (Nd Lf (some (Vi 0)) Lf) none Lf) none Lf))) none (Nd (Nd Lf (some (Vi (intAt (inV q) (i : Int)))) (Nd (Nd (Nd Lf (some (Value.slice (some ⟨1, 0, none⟩) (List.length F) 18446744073709551620)) Lf) none Lf) none Lf)) (some (Value.slice (some ⟨5, 0, none⟩) n 18446744073709551620)) Lf)) (some (Value.pointer (some ⟨0, 0, none⟩))) (Nd (Nd (Nd Lf (some (Vi (i : Int))) Lf) (some (Value.slice (some ⟨4, 0, none⟩) n 18446744073709551620)) Lf) none (Nd (Nd Lf none (Nd (Nd (Nd Lf (some (Vi (↑(List.length F) : Int))) Lf) none Lf) none Lf)) (some (Value.slice (some ⟨6, 0, none⟩) n 18446744073709551620)) Lf))) (AH.mk (Nd (Nd (Nd (Nd Lf (some (AObj.gro (inV q) [] 3)) Lf) (some (AObj.gro (roV rw) [] 50)) Lf) (some (AObj.gro (inV F) [] 3)) (Nd Lf (some (AObj.gro (inV bt) [] 3)) Lf)) (some (AObj.arr (inV C) [Value.slice (some ⟨1, 0, none⟩) (List.length F) 18446744073709551620, Value.slice (some ⟨2, 0, none⟩) (List.length ac) 18446744073709551620, Value.slice (some ⟨3, 0, none⟩) (List.length rw) 18446744073709551620] 256 68)) (Nd (Nd Lf (some (AObj.gro (inV fr) [] 3)) Lf) (some (AObj.gro (blV ac) [] 4)) (Nd Lf (some (AObj.gro (blV sn) [] 4)) Lf))) 8))) (K (Value.tuple (Array.mk [Vs (ByteArray.mk ⟨[]⟩), Value.bool false])) (AH.mk (Nd (Nd (Nd (Nd Lf (some (AObj.gro (inV q) [] 3)) Lf) (some (AObj.gro (roV rw) [] 50)) Lf) (some (AObj.gro (inV F) [] 3)) (Nd Lf (some (AObj.gro (inV bt) [] 3)) Lf)) (some (AObj.arr (inV C) [Value.slice (some ⟨1, 0, none⟩) (List.length F) 18446744073709551620, Value.slice (some ⟨2, 0, none⟩) (List.length ac) 18446744073709551620, Value.slice (some ⟨3, 0, none⟩) (List.length rw) 18446744073709551620] 256 68)) (Nd (Nd Lf (some (AObj.gro (inV fr) [] 3)) Lf) (some (AObj.gro (blV ac) [] 4)) (Nd Lf (some (AObj.gro (blV sn) [] 4)) Lf))) 8))) := by kernel_rfl
theorem jShI_nf (K : KV) (again2 : KF) (again : KF) (C : List Int) (F : List Int) (ac : List Bool) (rw : List (List Int)) (fr : List Int) (bt : List Int) (sn : List Bool) (q : List Int) (n m i : Nat) (s : Int) (nF c : Nat) : jShI K again2 again C F ac rw fr bt sn q n m i s nF c = (Sp (decide ((c : Int) < (nF : Int))) ((0 ≤ (c : Int) ∧ (c : Int) < (nF : Int)) ∧ nth (inV F) (c) = some (Vi (intAt (inV F) (c : Int))) ∧ (0 ≤ s ∧ s < (↑(List.length rw) : Int)) ∧ nth (roV rw) (Int.toNat (↑(Int.toNat s + 0) : Int)) = some (Vd 1 (rowAt (roV rw) (↑(Int.toNat s + 0) : Int))) ∧ (0 ≤ (c : Int) ∧ (c : Int) < (↑(List.length (rowAt (roV rw) (↑(Int.toNat s + 0) : Int))) : Int)) ∧ nth (rowAt (roV rw) (↑(Int.toNat s + 0) : Int)) (c) = some (Vi (intAt (rowAt (roV rw) (↑(Int.toNat s + 0) : Int)) (c : Int))) ∧ (0 ≤ intAt (rowAt (roV rw) (↑(Int.toNat s + 0) : Int)) (c : Int) ∧ intAt (rowAt (roV rw) (↑(Int.toNat s + 0) : Int)) (c : Int) < (n : Int)) ∧ nth (blV sn) (Int.toNat (↑(Int.toNat (intAt (rowAt (roV rw) (↑(Int.toNat s + 0) : Int)) (c : Int)) + 0) : Int)) = some (Value.bool (boolAt (blV sn) (↑(Int.toNat (intAt (rowAt (roV rw) (↑(Int.toNat s + 0) : Int)) (c : Int)) + 0) : Int))) ∧ Sp (!boolAt (blV sn) (↑(Int.toNat (intAt (rowAt (roV rw) (↑(Int.toNat s + 0) : Int)) (c : Int)) + 0) : Int)) ((0 ≤ intAt (rowAt (roV rw) (↑(Int.toNat s + 0) : Int)) (c : Int) ∧ intAt (rowAt (roV rw) (↑(Int.toNat s + 0) : Int)) (c : Int) < (n : Int)) ∧ Int.toNat (↑(Int.toNat (intAt (rowAt (roV rw) (↑(Int.toNat s + 0) : Int)) (c : Int)) + 0) : Int) < List.length (blV sn) ∧ (0 ≤ intAt (rowAt (roV rw) (↑(Int.toNat s + 0) : Int)) (c : Int) ∧ intAt (rowAt (roV rw) (↑(Int.toNat s + 0) : Int)) (c : Int) < (n : Int)) ∧ Int.toNat (↑(Int.toNat (intAt (rowAt (roV rw) (↑(Int.toNat s + 0) : Int)) (c : Int)) + 0) : Int) < List.length (inV fr) ∧ (0 ≤ intAt (rowAt (roV rw) (↑(Int.toNat s + 0) : Int)) (c : Int) ∧ intAt (rowAt (roV rw) (↑(Int.toNat s + 0) : Int)) (c : Int) < (n : Int)) ∧ Int.toNat (↑(Int.toNat (intAt (rowAt (roV rw) (↑(Int.toNat s + 0) : Int)) (c : Int)) + 0) : Int) < List.length (inV bt) ∧ (List.all [Vi (intAt (rowAt (roV rw) (↑(Int.toNat s + 0) : Int)) (c : Int))] cellv = true ∧ m + 0 = List.length (inV q) ∧ m + (1 : Nat) ≤ (70368744177664 : Nat) ∧ (m + 1) * (8 : Nat) ≤ (140737488355328 : Nat)) ∧ HF (Value.agg (Array.mk (inV C))) ∧ HF (Value.agg (Array.mk (inV F))) ∧ HF (Value.agg (Array.mk (blV ac))) ∧ HF (Value.agg (Array.mk (roV rw))) ∧ HF (Value.agg (Array.mk (List.set (inV fr) (Int.toNat (↑(Int.toNat (intAt (rowAt (roV rw) (↑(Int.toNat s + 0) : Int)) (c : Int)) + 0) : Int)) (Vi s)))) ∧ HF (Value.agg (Array.mk (List.set (inV bt) (Int.toNat (↑(Int.toNat (intAt (rowAt (roV rw) (↑(Int.toNat s + 0) : Int)) (c : Int)) + 0) : Int)) (Vi (intAt (inV F) (c : Int)))))) ∧ HF (Value.agg (Array.mk (List.set (blV sn) (Int.toNat (↑(Int.toNat (intAt (rowAt (roV rw) (↑(Int.toNat s + 0) : Int)) (c : Int)) + 0) : Int)) (Value.bool true)))) ∧ HF (Value.agg (Array.mk (inV q ++ [Vi (intAt (rowAt (roV rw) (↑(Int.toNat s + 0) : Int)) (c : Int))]))) ∧ again (Nd (Nd (Nd (Nd Lf (some (Value.slice (some ⟨7, 0, none⟩) (m + 1) 18446744073709551620)) Lf) none (Nd Lf none (Nd (Nd (Nd Lf (some (Vi (IntKind.wrap .i64 ((c : Int) + 1)))) Lf) none Lf) none Lf))) none (Nd (Nd Lf (some (Vi s)) (Nd (Nd (Nd Lf (some (Value.slice (some ⟨1, 0, none⟩) nF 18446744073709551620)) Lf) none Lf) none Lf)) (some (Value.slice (some ⟨5, 0, none⟩) n 18446744073709551620)) Lf)) (some (Value.pointer (some ⟨0, 0, none⟩))) (Nd (Nd (Nd Lf (some (Vi (i : Int))) Lf) (some (Value.slice (some ⟨4, 0, none⟩) n 18446744073709551620)) Lf) none (Nd (Nd Lf none (Nd (Nd (Nd Lf (some (Vi (nF : Int))) Lf) none Lf) none Lf)) (some (Value.slice (some ⟨6, 0, none⟩) n 18446744073709551620)) Lf))) (AH.mk (Nd (Nd (Nd (Nd Lf (some (AObj.gro (inV q ++ [Vi (intAt (rowAt (roV rw) (↑(Int.toNat s + 0) : Int)) (c : Int))]) [] 3)) Lf) (some (AObj.gro (roV rw) [] 50)) Lf) (some (AObj.gro (inV F) [] 3)) (Nd Lf (some (AObj.gro (List.set (inV bt) (Int.toNat (↑(Int.toNat (intAt (rowAt (roV rw) (↑(Int.toNat s + 0) : Int)) (c : Int)) + 0) : Int)) (Vi (intAt (inV F) (c : Int)))) [] 3)) Lf)) (some (AObj.arr (inV C) [Value.slice (some ⟨1, 0, none⟩) (List.length F) 18446744073709551620, Value.slice (some ⟨2, 0, none⟩) (List.length ac) 18446744073709551620, Value.slice (some ⟨3, 0, none⟩) (List.length rw) 18446744073709551620] 256 68)) (Nd (Nd Lf (some (AObj.gro (List.set (inV fr) (Int.toNat (↑(Int.toNat (intAt (rowAt (roV rw) (↑(Int.toNat s + 0) : Int)) (c : Int)) + 0) : Int)) (Vi s)) [] 3)) Lf) (some (AObj.gro (blV ac) [] 4)) (Nd Lf (some (AObj.gro (List.set (blV sn) (Int.toNat (↑(Int.toNat (intAt (rowAt (roV rw) (↑(Int.toNat s + 0) : Int)) (c : Int)) + 0) : Int)) (Value.bool true)) [] 4)) Lf))) 8)) (HF (Value.agg (Array.mk (inV C))) ∧ HF (Value.agg (Array.mk (inV F))) ∧ HF (Value.agg (Array.mk (blV ac))) ∧ HF (Value.agg (Array.mk (roV rw))) ∧ HF (Value.agg (Array.mk (inV fr))) ∧ HF (Value.agg (Array.mk (inV bt))) ∧ HF (Value.agg (Array.mk (blV sn))) ∧ HF (Value.agg (Array.mk (inV q))) ∧ again (Nd (Nd (Nd (Nd Lf (some (Value.slice (some ⟨7, 0, none⟩) m 18446744073709551620)) Lf) none (Nd Lf none (Nd (Nd (Nd Lf (some (Vi (IntKind.wrap .i64 ((c : Int) + 1)))) Lf) none Lf) none Lf))) none (Nd (Nd Lf (some (Vi s)) (Nd (Nd (Nd Lf (some (Value.slice (some ⟨1, 0, none⟩) nF 18446744073709551620)) Lf) none Lf) none Lf)) (some (Value.slice (some ⟨5, 0, none⟩) n 18446744073709551620)) Lf)) (some (Value.pointer (some ⟨0, 0, none⟩))) (Nd (Nd (Nd Lf (some (Vi (i : Int))) Lf) (some (Value.slice (some ⟨4, 0, none⟩) n 18446744073709551620)) Lf) none (Nd (Nd Lf none (Nd (Nd (Nd Lf (some (Vi (nF : Int))) Lf) none Lf) none Lf)) (some (Value.slice (some ⟨6, 0, none⟩) n 18446744073709551620)) Lf))) (AH.mk (Nd (Nd (Nd (Nd Lf (some (AObj.gro (inV q) [] 3)) Lf) (some (AObj.gro (roV rw) [] 50)) Lf) (some (AObj.gro (inV F) [] 3)) (Nd Lf (some (AObj.gro (inV bt) [] 3)) Lf)) (some (AObj.arr (inV C) [Value.slice (some ⟨1, 0, none⟩) (List.length F) 18446744073709551620, Value.slice (some ⟨2, 0, none⟩) (List.length ac) 18446744073709551620, Value.slice (some ⟨3, 0, none⟩) (List.length rw) 18446744073709551620] 256 68)) (Nd (Nd Lf (some (AObj.gro (inV fr) [] 3)) Lf) (some (AObj.gro (blV ac) [] 4)) (Nd Lf (some (AObj.gro (blV sn) [] 4)) Lf))) 8))) (HF (Value.agg (Array.mk (inV C))) ∧ HF (Value.agg (Array.mk (inV F))) ∧ HF (Value.agg (Array.mk (blV ac))) ∧ HF (Value.agg (Array.mk (roV rw))) ∧ HF (Value.agg (Array.mk (inV fr))) ∧ HF (Value.agg (Array.mk (inV bt))) ∧ HF (Value.agg (Array.mk (blV sn))) ∧ HF (Value.agg (Array.mk (inV q))) ∧ again2 (Nd (Nd (Nd (Nd Lf (some (Value.slice (some ⟨7, 0, none⟩) m 18446744073709551620)) Lf) none Lf) none (Nd Lf (some (Value.slice (some ⟨5, 0, none⟩) n 18446744073709551620)) Lf)) (some (Value.pointer (some ⟨0, 0, none⟩))) (Nd (Nd (Nd Lf (some (Vi (IntKind.wrap .i64 ((i : Int) + 1)))) Lf) (some (Value.slice (some ⟨4, 0, none⟩) n 18446744073709551620)) Lf) none (Nd Lf (some (Value.slice (some ⟨6, 0, none⟩) n 18446744073709551620)) Lf))) (AH.mk (Nd (Nd (Nd (Nd Lf (some (AObj.gro (inV q) [] 3)) Lf) (some (AObj.gro (roV rw) [] 50)) Lf) (some (AObj.gro (inV F) [] 3)) (Nd Lf (some (AObj.gro (inV bt) [] 3)) Lf)) (some (AObj.arr (inV C) [Value.slice (some ⟨1, 0, none⟩) (List.length F) 18446744073709551620, Value.slice (some ⟨2, 0, none⟩) (List.length ac) 18446744073709551620, Value.slice (some ⟨3, 0, none⟩) (List.length rw) 18446744073709551620] 256 68)) (Nd (Nd Lf (some (AObj.gro (inV fr) [] 3)) Lf) (some (AObj.gro (blV ac) [] 4)) (Nd Lf (some (AObj.gro (blV sn) [] 4)) Lf))) 8))) := by kernel_rfl
theorem jShB_nf (K : KV) (again2 : KF) (again : KF) (C : List Int) (F : List Int) (ac : List Bool) (rw : List (List Int)) (fr : List Int) (bt : List Int) (out : LB) (n : Nat) (s : Int) (k : Nat) : jShB K again2 again C F ac rw fr bt out n s k = (Sp (!decide (s = 0)) ((0 ≤ s ∧ s < (n : Int)) ∧ nth (inV bt) (Int.toNat (↑(Int.toNat s + 0) : Int)) = some (Vi (intAt (inV bt) (↑(Int.toNat s + 0) : Int))) ∧ (List.all [Value.int .u8 (IntKind.wrap .u8 (intAt (inV bt) (↑(Int.toNat s + 0) : Int)))] cellv = true ∧ k + 0 = List.length (u8v out) ∧ k + (1 : Nat) ≤ (70368744177664 : Nat) ∧ (k + 1) * (1 : Nat) ≤ (140737488355328 : Nat)) ∧ (0 ≤ s ∧ s < (n : Int)) ∧ nth (inV fr) (Int.toNat (↑(Int.toNat s + 0) : Int)) = some (Vi (intAt (inV fr) (↑(Int.toNat s + 0) : Int))) ∧ HF (Value.agg (Array.mk (inV C))) ∧ HF (Value.agg (Array.mk (inV F))) ∧ HF (Value.agg (Array.mk (blV ac))) ∧ HF (Value.agg (Array.mk (roV rw))) ∧ HF (Value.agg (Array.mk (inV fr))) ∧ HF (Value.agg (Array.mk (inV bt))) ∧ HF (Value.agg (Array.mk (u8v out ++ [Value.int .u8 (IntKind.wrap .u8 (intAt (inV bt) (↑(Int.toNat s + 0) : Int)))]))) ∧ again (Nd (Nd Lf none (Nd (Nd Lf (some (Vi (intAt (inV fr) (↑(Int.toNat s + 0) : Int)))) Lf) (some (Value.slice (some ⟨5, 0, none⟩) n 18446744073709551620)) Lf)) none (Nd (Nd Lf (some (Value.slice (some ⟨4, 0, none⟩) n 18446744073709551620)) Lf) none (Nd (Nd Lf (some (Value.slice (some ⟨6, 0, none⟩) (k + 1) 18446744073709551620)) Lf) none Lf))) (AH.mk (Nd (Nd (Nd Lf (some (AObj.gro (roV rw) [] 50)) Lf) (some (AObj.gro (inV F) [] 3)) (Nd Lf (some (AObj.gro (inV bt) [] 3)) Lf)) (some (AObj.arr (inV C) [Value.slice (some ⟨1, 0, none⟩) (List.length F) 18446744073709551620, Value.slice (some ⟨2, 0, none⟩) (List.length ac) 18446744073709551620, Value.slice (some ⟨3, 0, none⟩) (List.length rw) 18446744073709551620] 256 68)) (Nd (Nd Lf (some (AObj.gro (inV fr) [] 3)) Lf) (some (AObj.gro (blV ac) [] 4)) (Nd Lf (some (AObj.gro (u8v out ++ [Value.int .u8 (IntKind.wrap .u8 (intAt (inV bt) (↑(Int.toNat s + 0) : Int)))]) [] 5)) Lf))) 7)) (HFs [Value.agg (Array.mk (u8v out)), Value.agg (Array.mk (List.reverse (u8v out)))] (PH (Prod.fst (some (([] : List Value) = [] ∧ u8v out = u8v (List.map deU (u8v out)) ∧ k = List.length (u8v out) ∧ List.length (u8v out) < 4611686018427387904), Value.tuple ⟨[]⟩, [AObj.gro (List.reverse (u8v out)) [] 5]))) ∧ IsB (List.reverse (u8v out)) 0 k ∧ K (Value.tuple (Array.mk [Vs (mkBytes (u8L (List.reverse (u8v out)) 0 k)), Value.bool true])) (AH.mk (Nd (Nd (Nd Lf (some (AObj.gro (roV rw) [] 50)) Lf) (some (AObj.gro (inV F) [] 3)) (Nd Lf (some (AObj.gro (inV bt) [] 3)) Lf)) (some (AObj.arr (inV C) [Value.slice (some ⟨1, 0, none⟩) (List.length F) 18446744073709551620, Value.slice (some ⟨2, 0, none⟩) (List.length ac) 18446744073709551620, Value.slice (some ⟨3, 0, none⟩) (List.length rw) 18446744073709551620] 256 68)) (Nd (Nd Lf (some (AObj.gro (inV fr) [] 3)) Lf) (some (AObj.gro (blV ac) [] 4)) (Nd Lf (some (AObj.gro (List.reverse (u8v out)) [] 5)) Lf))) 7))) := by kernel_rfl
structure DW (F : List Nat) (ac : List Bool) (rw : List (List Int)) : Prop where
 n0 : 0 < rw.length
 n1 : rw.length ≤ 90000
 acl : ac.length = rw.length
 row : ∀ r ∈ rw, r.length = F.length
 ent : ∀ r ∈ rw, ∀ x ∈ r, 0 ≤ x ∧ x < rw.length
 fl : F.length ≤ 256
 fb : ∀ c ∈ F, c < 256
def shW (F : List Nat) (ac : List Bool) (rw : List (List Int)) : Option LB := bfs (scD F rw) (acD ac) 90001 [(0, [])] 0
def shV (w : Option LB) : Value := .tuple ⟨[.string (mkBytes (w.getD [])), .bool w.isSome]⟩
theorem blV_set (l : List Bool) (i : Nat) (b : Bool) : (blV l).set i (.bool b) = blV (l.set i b) := by unfold blV; rw [List.map_set]
theorem u8_byte (b : UInt8) : IntKind.wrap .u8 ((b.toNat : Nat) : Int) = (b.toNat : Int) := by
 rw [u8_wrap (by omega), Int.toNat_natCast]; simp
theorem end_shB (Q : Value → AH → Prop) (C F : List Int) (ac : List Bool) (rw : List (List Int)) (fr bt : List Int) (out : LB) (t : ByteArray) (b : Bool) : endF env (hDf C F ac rw) [] [] [] Q (.tuple ⟨[.string t, .bool b]⟩) (hShB C F ac rw fr bt out) = (HF (.agg ⟨inV C⟩) ∧ HF (.agg ⟨inV F⟩) ∧ HF (.agg ⟨blV ac⟩) ∧ HF (.agg ⟨roV rw⟩) ∧ Q (.tuple ⟨[.string t, .bool b]⟩) (hDf C F ac rw)) := by kernel_rfl
theorem end_sh (Q : Value → AH → Prop) (C F : List Int) (ac : List Bool) (rw : List (List Int)) (fr bt : List Int) (sn : List Bool) (q : List Int) (t : ByteArray) (b : Bool) : endF env (hDf C F ac rw) [] [] [] Q (.tuple ⟨[.string t, .bool b]⟩) (hSh C F ac rw fr bt sn q) = (HF (.agg ⟨inV C⟩) ∧ HF (.agg ⟨inV F⟩) ∧ HF (.agg ⟨blV ac⟩) ∧ HF (.agg ⟨roV rw⟩) ∧ Q (.tuple ⟨[.string t, .bool b]⟩) (hDf C F ac rw)) := by kernel_rfl
theorem sh_back (K : KV) (again2 : KF) (C F : List Int) (ac : List Bool) (rw : List (List Int)) {fr bt : List Int} {n : Nat} {q : QW} {sn : List Bool} (hS : SQ n q sn) (hB : BQ n q fr bt) (hn : n ≤ 90000) {s : Int} {w0 : LB} (hx : (s, w0) ∈ q)
 (hK : K (.tuple ⟨[.string (mkBytes w0), .bool true]⟩) (hShB C F ac rw fr bt w0)) :
 LAtZ XSh 1 (Func.ntmps Proofs.Tryd.f35) (hDf C F ac rw) (loopBody (subC [1, 1, 1, 1, 1, 0, 1, 0] (bodyOf Proofs.Tryd.f35))) [1, 0, 0, 1, 0, 1, 0, 1, 0, 0] (kSh2 K again2 C F ac rw) (frShB n s 0) (hShB C F ac rw fr bt []) := by
 have hql := hS.le
 have hw00 := hS.wl _ hx
 dsimp only at hw00
 refine LAtZ.stepF XSh_ok [(.slot 10, 5, 1)] [] [] [4, 5, 9, 10] (by kernel_rfl) (fun m G A => ∃ (s : Int) (out w : LB), G = frShB n s out.length ∧ A = hShB C F ac rw fr bt out ∧ (s, w) ∈ q ∧ w ++ out.reverse = w0 ∧ w.length = m) ?_ (k := w0.length) ⟨s, [], w0, rfl, rfl, hx, by simp, rfl⟩
 rintro m G A ⟨s, out, w, rfl, rfl, hx, hw, hm⟩
 have hr := hS.rng _ hx
 have hwl := hS.wl _ hx
 have hw0 : w0.length = w.length + out.length := by rw [← hw]; simp
 dsimp only at hr hwl
 obtain ⟨k, rfl⟩ := Int.eq_ofNat_of_zero_le hr.1
 have hkf : k < fr.length := by rw [hB.lf]; omega
 have hkb : k < bt.length := by rw [hB.lb]; omega
 refine (jShB_nf K again2 _ C F ac rw fr bt out n k out.length).mpr ?_
 rw [Int.toNat_natCast, Nat.add_zero, Int.toNat_natCast, intAt_in hkf, intAt_in hkb]
 refine Sp.intro (fun c => ?_) (fun c => ?_)
 · have c : ¬ (k : Int) = 0 := by simpa using c
   obtain ⟨s', w', b, g1, g2, g3, g4⟩ := hB.back hx c
   rw [Int.toNat_natCast, gD hkf] at g2
   rw [Int.toNat_natCast, gD hkb] at g3
   subst g4
   rw [List.length_append, List.length_singleton] at hm hwl hw0
   rw [g2, g3, u8_byte, show [Value.int .u8 (b.toNat : Int)] = u8v [b] from rfl, ← u8v_app, u8v_len]
   refine ⟨hr, by rw [nth_in hkb, g3], ⟨rfl, by omega, by omega, by omega⟩, hr, by rw [nth_in hkf, g2], HF_inA _, HF_inA _, HF_blA _, HF_roA _, HF_inA _, HF_inA _, HF_u8 _, w'.length, by omega, s', out ++ [b], w', ?_, rfl, g1, ?_, rfl⟩
   · rw [List.length_append]; rfl
   · rw [← hw]; simp
 · have c : (k : Int) = 0 := by simpa using c
   rw [c] at hx
   have e := hB.zero hS hx
   subst e
   have e2 : out = w0.reverse := by rw [← hw]; simp
   have e3 : (u8v out).reverse = u8v w0 := by rw [e2]; unfold u8v; rw [← List.map_reverse, List.reverse_reverse]
   have hl2 : out.length = w0.length := by rw [e2]; simp
   rw [e3, u8_de, hl2, u8_L, u8v_len]
   refine ⟨⟨HF_u8 _, HF_u8 _, rfl, rfl, by rw [hl2], by omega⟩, u8_isB _, hK⟩
theorem boolAt_bl0 {l : List Bool} {i : Nat} (h : i < l.length) : boolAt (blV l) (i : Int) = l.getD i false := by rw [boolAt_bl h, gD h]
theorem qs_get {q : QW} {i : Nat} (h : i < q.length) (h2 : i < (qs q).length) : (qs q)[i] = q[i].1 := List.getElem_map _
theorem sh_inner (K : KV) (again2 : KF) (C : List Int) {F : List Nat} {ac : List Bool} {rw : List (List Int)} (hD : DW F ac rw) {fr bt : List Int} {sn : List Bool} {q0 : QW} (hS : SQ rw.length q0 sn) (hB : BQ rw.length q0 fr bt) {i : Nat} (hi : i < q0.length) {s : Int} {w : LB} (hx : q0[i]? = some (s, w))
 (hK : ∀ fr bt sn, SQ rw.length (addW w q0 (scD F rw s)) sn → BQ rw.length (addW w q0 (scD F rw s)) fr bt → again2 (frSh rw.length (addW w q0 (scD F rw s)).length (i + 1)) (hSh C (inF F) ac rw fr bt sn (qs (addW w q0 (scD F rw s))))) :
 LAtZ XSh 1 (Func.ntmps Proofs.Tryd.f35) (hDf C (inF F) ac rw) (loopBody (subC [1, 1, 1, 1, 1, 0, 1, 0] (bodyOf Proofs.Tryd.f35))) [1, 0, 0, 1, 1, 1, 0] (kSh2 K again2 C (inF F) ac rw) (frShI rw.length q0.length i s (inF F).length 0) (hSh C (inF F) ac rw fr bt sn (qs q0)) := by
 have hn := hD.n1
 have hxm := List.mem_of_getElem? hx
 have hql0 := hS.le
 have hs := hS.rng _ hxm
 dsimp only at hs
 obtain ⟨k, rfl⟩ := Int.eq_ofNat_of_zero_le hs.1
 have hk : k < rw.length := by omega
 have hrl : rw[k].length = F.length := hD.row _ (List.getElem_mem hk)
 have hFi := inF_len F
 have hfl := hD.fl
 rw [show frShI rw.length q0.length i (k : Int) (inF F).length 0 = frShI rw.length q0.length i (k : Int) F.length 0 by rw [hFi]]
 have hLl : (scD F rw (k : Int)).length = F.length := by
  unfold scD
  rw [List.length_zip, List.length_map, Int.toNat_natCast, gD hk, hrl]; omega
 have hLc : ∀ c (hc : c < F.length), (scD F rw (k : Int))[c]'(by rw [hLl]; exact hc) = (UInt8.ofNat F[c], rw[k][c]'(by omega)) := fun c hc => by
  unfold scD
  rw [List.getElem_zip, List.getElem_map]
  congr 1
  simp only [Int.toNat_natCast, gD hk]
 refine LAtZ.stepF XSh_ok [] [] [] [0, 4, 5, 6, 7, 8, 9, 73, 74, 75] (by kernel_rfl) (fun m G A => ∃ (c : Nat) (fr bt : List Int) (sn : List Bool) (q : QW), G = frShI rw.length q.length i k F.length c ∧ A = hSh C (inF F) ac rw fr bt sn (qs q) ∧ q = addW w q0 ((scD F rw k).take c) ∧ SQ rw.length q sn ∧ BQ rw.length q fr bt ∧ ((k : Int), w) ∈ q ∧ c + m = F.length) ?_ (k := F.length) ⟨0, fr, bt, sn, q0, rfl, rfl, by simp [addW], hS, hB, hxm, by omega⟩
 rintro m G A ⟨c, fr, bt, sn, q, rfl, rfl, hq, hS, hB, hxm, hcm⟩
 have hql := hS.le
 refine (jShI_nf K again2 _ C (inF F) ac rw fr bt sn (qs q) rw.length q.length i k F.length c).mpr ?_
 rw [Int.toNat_natCast, Nat.add_zero, Int.toNat_natCast, rowAt_ro hk]
 refine Sp.intro (fun h => ?_) (fun h => ?_)
 · have h := of_decide_eq_true h
   have hc : c < F.length := by omega
   have hcr : c < rw[k].length := by omega
   have hcF : c < (inF F).length := by omega
   have ht := hD.ent _ (List.getElem_mem hk) _ (List.getElem_mem hcr)
   have hb := hD.fb _ (List.getElem_mem hc)
   rw [intAt_in hcr, intAt_in hcF, inF_at hc]
   have hsnoc : addW w q0 ((scD F rw k).take (c + 1)) = if rw[k][c] ∈ qs q then q else q ++ [(rw[k][c], w ++ [UInt8.ofNat F[c]])] := by
    rw [List.take_succ_eq_append_getElem (by rw [hLl]; exact hc), hLc c hc, addW_snoc, ← hq]; rfl
   generalize hte : rw[k][c] = t at *
   obtain ⟨j, rfl⟩ := Int.eq_ofNat_of_zero_le ht.1
   have hjs : j < sn.length := by rw [hS.ls]; omega
   have hjf : j < fr.length := by rw [hB.lf]; omega
   have hjb : j < bt.length := by rw [hB.lb]; omega
   have hseen := hS.seen ht.1 ht.2
   rw [Int.toNat_natCast] at hseen
   rw [Int.toNat_natCast, Nat.add_zero, Int.toNat_natCast, boolAt_bl0 hjs, hseen]
   refine ⟨⟨by omega, h⟩, by rw [nth_in hcF, inF_at hc], hs, nth_ro hk, ⟨by omega, by rw [inV_len]; omega⟩, by rw [nth_in hcr, hte], ht, ?_, Sp.intro (fun g => ?_) (fun g => ?_)⟩
   · rw [nth_bl hjs, ← hseen, gD hjs]
   · have g : ¬ (j : Int) ∈ qs q := by simpa using g
     rw [if_neg g] at hsnoc
     rw [inV_set, inV_set, blV_set, blV_len, inV_len, inV_len, show [Vi (j : Int)] = inV [(j : Int)] from rfl, inV_app, inV_len, i64_in (x := (c : Int) + 1) (by omega) (by omega)]
     refine ⟨ht, hjs, ht, hjf, ht, hjb, ⟨rfl, by rw [qs_len]; omega, by omega, by omega⟩, HF_inA _, HF_inA _, HF_blA _, HF_roA _, HF_inA _, HF_inA _, HF_blA _, HF_inA _, m - 1, by omega, c + 1, fr.set j k, bt.set j (F[c] : Int), sn.set j true, q ++ [((j : Int), w ++ [UInt8.ofNat F[c]])], ?_, ?_, hsnoc.symm, ?_, ?_, List.mem_append.2 (.inl hxm), by omega⟩
     · rw [List.length_append]; rfl
     · rw [qs_app]; rfl
     · have := hS.add ht.1 ht.2 g (w ++ [UInt8.ofNat F[c]]) (by have := hS.wl _ hxm; dsimp only at this; rw [List.length_append]; simp; omega)
       rw [Int.toNat_natCast] at this
       exact this
     · have := BQ.add hS hB ht.1 ht.2 g hxm (UInt8.ofNat F[c])
       rw [Int.toNat_natCast, show ((UInt8.ofNat F[c]).toNat : Int) = (F[c] : Int) by simp; omega] at this
       exact this
   · have g : (j : Int) ∈ qs q := by simpa using g
     rw [if_pos g] at hsnoc
     rw [i64_in (x := (c : Int) + 1) (by omega) (by omega)]
     exact ⟨HF_inA _, HF_inA _, HF_blA _, HF_roA _, HF_inA _, HF_inA _, HF_blA _, HF_inA _, m - 1, by omega, c + 1, fr, bt, sn, q, rfl, rfl, hsnoc.symm, hS, hB, hxm, by omega⟩
 · have h := of_decide_eq_false h
   rw [List.take_of_length_le (by omega)] at hq
   subst hq
   rw [i64_in (x := (i : Int) + 1) (by omega) (by omega)]
   exact ⟨HF_inA _, HF_inA _, HF_blA _, HF_roA _, HF_inA _, HF_inA _, HF_blA _, HF_inA _, hK fr bt sn hS hB⟩
theorem sh_walk (C : List Int) {F : List Nat} {ac : List Bool} {rw : List (List Int)} (hD : DW F ac rw) : WalkF env Proofs.Tryd.f35 [.pointer (some ⟨0, 0, none⟩)] (hDf C (inF F) ac rw) (shV (shW F ac rw)) (hDf C (inF F) ac rw) := by
 have hn0 := hD.n0
 have hn := hD.n1
 have hal := hD.acl
 refine sxFnF_walk XSh_ok (d := 1) (ns := []) (zs := []) (ws := []) ((jSh_nf _ C (inF F) ac rw).mpr ?_)
 rw [show (Value.cells (Vi 0)).toList = [Vi 0] from rfl, rep_one, inV_rep, show List.replicate rw.length (Value.bool false) = blV (List.replicate rw.length false) by unfold blV; rw [List.map_replicate], blV_set, inV_len, blV_len, List.length_replicate, List.length_replicate]
 have hcv : (inV (List.replicate rw.length 0)).all cellv = true := by
  rw [List.all_eq_true]
  intro x hx
  obtain ⟨y, _, rfl⟩ := List.mem_map.1 hx
  rfl
 refine ⟨⟨by omega, by omega, by omega, by omega⟩, ⟨by omega, by omega, by omega, by omega⟩, ⟨by omega, by omega, by omega, by omega⟩, ⟨by omega, by omega⟩, hn0, ⟨rfl, hn0, by omega, rfl, hcv⟩, ⟨rfl, hn0, by omega, rfl, hcv⟩, HF_inA _, HF_inA _, HF_blA _, HF_roA _, HF_inA _, HF_inA _, HF_blA _, HF_inA [0], ?_⟩
 refine LAtZ.stepF XSh_ok nsSh [] [] [0, 4, 5, 6, 7, 8] (by kernel_rfl) (fun m G A => ∃ (i : Nat) (fr bt : List Int) (sn : List Bool) (q : QW), G = frSh rw.length q.length i ∧ A = hSh C (inF F) ac rw fr bt sn (qs q) ∧ SQ rw.length q sn ∧ BQ rw.length q fr bt ∧ i ≤ q.length ∧ bfs (scD F rw) (acD ac) m q i = shW F ac rw ∧ i + m = 90001) ?_ (k := 90001) ⟨0, _, _, _, [(0, [])], rfl, rfl, SQ.init rw.length (Int.le_refl 0) (by omega), BQ.init rw.length, by simp, rfl, by omega⟩
 rintro m G A ⟨i, fr, bt, sn, q, rfl, rfl, hS, hB, hil, hW, him⟩
 have hql := hS.le
 refine (jShL_nf _ _ C (inF F) ac rw fr bt sn (qs q) rw.length q.length i).mpr (Sp.intro (fun c => ?_) (fun c => ?_))
 · have c := of_decide_eq_true c
   have hi : i < q.length := by omega
   have hi2 : i < (qs q).length := by rw [qs_len]; exact hi
   have hqi : q[i]? = some q[i] := List.getElem?_eq_getElem hi
   have hat : (qs q)[i] = q[i].1 := qs_get hi hi2
   obtain ⟨m, rfl⟩ : ∃ m', m = m' + 1 := ⟨m - 1, by omega⟩
   have hr := hS.rng _ (List.getElem_mem hi)
   rw [bfs_at hqi] at hW
   rw [intAt_in hi2, hat]
   generalize q[i] = x at *
   obtain ⟨s, w⟩ := x
   dsimp only at hr hW ⊢
   obtain ⟨k, rfl⟩ := Int.eq_ofNat_of_zero_le hr.1
   have hk : k < ac.length := by omega
   have hac : acD ac (k : Int) = ac.getD k false := by unfold acD; rw [Int.toNat_natCast]
   rw [Int.toNat_natCast, Nat.add_zero, Int.toNat_natCast, boolAt_bl0 hk]
   refine ⟨⟨by omega, c⟩, by rw [nth_in hi2, hat], ⟨by omega, by omega⟩, by rw [nth_bl hk, gD hk], Sp.intro (fun g => ?_) (fun g => ?_)⟩
   · rw [hac, g, if_pos rfl] at hW
     refine ⟨HF_inA _, HF_inA _, HF_blA _, HF_roA _, HF_inA _, HF_inA _, HF_u8 [], ?_⟩
     refine sh_back _ _ C (inF F) ac rw hS hB hn (List.mem_of_getElem? hqi) ?_
     refine (end_shB _ C (inF F) ac rw fr bt w _ _).mpr ⟨HF_inA _, HF_inA _, HF_blA _, HF_roA _, ?_, rfl⟩
     rw [← hW]; rfl
   · rw [hac, g, if_neg (by simp)] at hW
     refine ⟨HF_inA _, HF_inA _, HF_blA _, HF_roA _, HF_inA _, HF_inA _, HF_blA _, HF_inA _, ?_⟩
     refine sh_inner _ _ C hD hS hB hi hqi fun fr bt sn hS hB => ?_
     refine ⟨m, by omega, i + 1, fr, bt, sn, _, rfl, rfl, hS, hB, ?_, hW, by omega⟩
     obtain ⟨r, hr⟩ := addW_pre w (scD F rw (k : Int)) q
     rw [hr, List.length_append]; omega
 · have c := of_decide_eq_false c
   rw [bfs_end m (by omega)] at hW
   refine (end_sh _ C (inF F) ac rw fr bt sn (qs q) _ _).mpr ⟨HF_inA _, HF_inA _, HF_blA _, HF_roA _, ?_, rfl⟩
   rw [← hW]; rfl
def spShG (W : List Nat → List Bool → List (List Int) → Option LB) : List Value → List AObj → Option (Option Prop × Value × List AObj)
 | [.pointer (some ⟨B, o, none⟩)], [.arr els [.slice (some ⟨B1, o1, none⟩) n1 k1, .slice (some ⟨B2, o2, none⟩) n2 k2, .slice (some ⟨B3, o3, none⟩) n3 k3] q e, .gro l1 t1 e1, .gro l2 t2 e2, .gro l3 t3 e3] =>
   bif ((Nat.beq B 0 && Nat.beq o 0) && ((Nat.beq B1 1 && Nat.beq o1 0) && ((Nat.beq B2 2 && Nat.beq o2 0) && (Nat.beq B3 3 && Nat.beq o3 0)))) && (((Nat.beq k1 (unk + 3 + 1) && Nat.beq k2 (unk + 3 + 1)) && (Nat.beq k3 (unk + 3 + 1) && Nat.beq q 256)) && ((Nat.beq e 68 && Nat.beq e1 3) && (Nat.beq e2 4 && Nat.beq e3 50))) then
    some (some (els = inV (els.map deI) ∧ (t1 = [] ∧ t2 = [] ∧ t3 = []) ∧ (l1 = inV (inF (deN l1)) ∧ l2 = blV (l2.map deB) ∧ l3 = roV (l3.map deR)) ∧ (n1 = l1.length ∧ n2 = l2.length ∧ n3 = l3.length) ∧ DW (deN l1) (l2.map deB) (l3.map deR)),
     shV (W (deN l1) (l2.map deB) (l3.map deR)), [.arr els [.slice (some ⟨1, 0, none⟩) n1 k1, .slice (some ⟨2, 0, none⟩) n2 k2, .slice (some ⟨3, 0, none⟩) n3 k3] q e, .gro l1 [] e1, .gro l2 [] e2, .gro l3 [] e3]) else none
 | _, _ => none
def spSh := spShG shW
theorem sh_tab : ∀ args A p v A', frmR arD spSh args A = some (p, v, A') → PH p → CallAt env 35 args A v A' := frmR_ok env_ok (fn := Proofs.Tryd.f35) rfl fun args objs p v objs' h hp => by
 unfold spSh spShG at h
 split at h
 · rename_i B o els B1 o1 n1 k1 B2 o2 n2 k2 B3 o3 n3 k3 q e l1 t1 e1 l2 t2 e2 l3 t3 e3
   obtain ⟨hb, h⟩ := bif_some h
   simp only [Prod.mk.injEq] at h
   obtain ⟨rfl, rfl, rfl⟩ := h
   simp only [Bool.and_eq_true, Nat.beq_eq] at hb
   obtain ⟨⟨⟨rfl, rfl⟩, ⟨rfl, rfl⟩, ⟨rfl, rfl⟩, rfl, rfl⟩, ⟨⟨rfl, rfl⟩, rfl, rfl⟩, ⟨rfl, rfl⟩, rfl, rfl⟩ := hb
   obtain ⟨h1, ⟨rfl, rfl, rfl⟩, ⟨h2, h3, h4⟩, ⟨rfl, rfl, rfl⟩, hD⟩ : els = inV (els.map deI) ∧ (t1 = [] ∧ t2 = [] ∧ t3 = []) ∧ (l1 = inV (inF (deN l1)) ∧ l2 = blV (l2.map deB) ∧ l3 = roV (l3.map deR)) ∧ (n1 = l1.length ∧ n2 = l2.length ∧ n3 = l3.length) ∧ DW (deN l1) (l2.map deB) (l3.map deR) := hp
   generalize els.map deI = C at h1
   generalize deN l1 = F at *
   generalize l2.map deB = ac at *
   generalize l3.map deR = rw' at *
   subst h1
   subst h2
   subst h3
   subst h4
   rw [inV_len, blV_len, roV_len]
   have := sh_walk C hD
   rw [← heap_df] at this
   exact this
 · cases h
end
end Go.T9

/- A part of the proof. -/
import Derived.Test.YtdgjjfkjhikbaaaDoorX1
set_option linter.unusedVariables false
set_option linter.unusedSimpArgs false
set_option linter.unusedSectionVars false
set_option maxRecDepth 1000000
namespace Go.T9
open Go Go.AM
noncomputable section
theorem jCo_nf (K : KV) (s : Int) (acc : List Bool) (nx : List (List Int)) (c : Int) : jCo K s acc nx c = (((0 : Int) ≤ (0 : Int) ∧ 0 ≤ IntKind.wrap .i64 (2 * (↑(List.length (roV nx)) : Int)) ∧ IntKind.wrap .i64 (2 * (↑(List.length (roV nx)) : Int)) ≤ 281474976710656 ∧ 1 * Int.toNat (IntKind.wrap .i64 (2 * (↑(List.length (roV nx)) : Int))) ≤ 281474976710656) ∧ HF (Vd 1 (roV nx)) ∧ HF (Value.agg ⟨[]⟩) ∧ LAtZ XCo 1 (Func.ntmps Proofs.Tryd.f64) (AH.mk Lf 0) (bodyOf Proofs.Tryd.f64) [1, 1, 0, 1, 0] (finK (SX.E XCo) (Array.toList (Func.results Proofs.Tryd.f64)) K) (Nd (Nd (Nd (Nd (Nd Lf (some (Vi (↑(List.length (roV nx)) : Int))) Lf) none Lf) none Lf) (some (Vi c)) (Nd Lf (some (Value.slice (some ⟨0, 0, none⟩) 0 18446744073709551620)) Lf)) none (Nd (Nd (Nd (Nd Lf (some (Vi 0)) Lf) none Lf) none Lf) none (Nd Lf none (Nd Lf (some (Vd 1 (roV nx))) Lf)))) (AH.mk (Nd Lf (some (AObj.gro [] [] 5)) Lf) 1)) := by kernel_rfl
theorem jCoL_nf (K : KV) (again : KF) (nx : List (List Int)) (c : Int) (l : List UInt8) (i : Nat) : jCoL K again nx c l i = (Sp (decide ((i : Int) < (↑(List.length (roV nx)) : Int))) ((0 ≤ (i : Int) ∧ (i : Int) < (↑(List.length (roV nx)) : Int)) ∧ nth (roV nx) (i) = some (Vd 1 (rowAt (roV nx) (i : Int))) ∧ (0 ≤ c ∧ c < (↑(List.length (rowAt (roV nx) (i : Int))) : Int)) ∧ nth (rowAt (roV nx) (i : Int)) (Int.toNat (↑(Int.toNat c) : Int)) = some (Vi (intAt (rowAt (roV nx) (i : Int)) (↑(Int.toNat c) : Int))) ∧ (0 ≤ c ∧ c < (↑(List.length (rowAt (roV nx) (i : Int))) : Int)) ∧ nth (rowAt (roV nx) (i : Int)) (Int.toNat (↑(Int.toNat c) : Int)) = some (Vi (intAt (rowAt (roV nx) (i : Int)) (↑(Int.toNat c) : Int))) ∧ (List.all [Value.int .u8 (IntKind.wrap .u8 (intAt (rowAt (roV nx) (i : Int)) (↑(Int.toNat c) : Int))), Value.int .u8 (IntKind.wrap .u8 (Int.fdiv (intAt (rowAt (roV nx) (i : Int)) (↑(Int.toNat c) : Int)) 256))] cellv = true ∧ List.length l + 0 = List.length (u8v l) ∧ List.length l + (2 : Nat) ≤ (70368744177664 : Nat) ∧ (List.length l + 2) * (1 : Nat) ≤ (140737488355328 : Nat)) ∧ HF (Vd 1 (roV nx)) ∧ HF (Value.agg (Array.mk (u8v l ++ [Value.int .u8 (IntKind.wrap .u8 (intAt (rowAt (roV nx) (i : Int)) (↑(Int.toNat c) : Int))), Value.int .u8 (IntKind.wrap .u8 (Int.fdiv (intAt (rowAt (roV nx) (i : Int)) (↑(Int.toNat c) : Int)) 256))]))) ∧ again (Nd (Nd (Nd (Nd (Nd Lf (some (Vi (↑(List.length (roV nx)) : Int))) Lf) none Lf) none Lf) (some (Vi c)) (Nd Lf (some (Value.slice (some ⟨0, 0, none⟩) (List.length l + 2) 18446744073709551620)) Lf)) none (Nd (Nd (Nd (Nd Lf (some (Vi (IntKind.wrap .i64 ((i : Int) + 1)))) Lf) none Lf) none Lf) none (Nd Lf none (Nd Lf (some (Vd 1 (roV nx))) Lf)))) (AH.mk (Nd Lf (some (AObj.gro (u8v l ++ [Value.int .u8 (IntKind.wrap .u8 (intAt (rowAt (roV nx) (i : Int)) (↑(Int.toNat c) : Int))), Value.int .u8 (IntKind.wrap .u8 (Int.fdiv (intAt (rowAt (roV nx) (i : Int)) (↑(Int.toNat c) : Int)) 256))]) [] 5)) Lf) 1)) (IsB (u8v l) 0 (List.length l) ∧ K (Vs (mkBytes (u8L (u8v l) 0 (List.length l)))) (AH.mk (Nd Lf (some (AObj.gro (u8v l) [] 5)) Lf) 1))) := by kernel_rfl
theorem u8_wrap {x : Int} (h : 0 ≤ x) : IntKind.u8.wrap x = ((UInt8.ofNat x.toNat).toNat : Int) := by
 have e1 : (2 : Int) ^ IntKind.u8.bits = 256 := by decide
 have e3 : IntKind.u8.signed = false := rfl
 have e4 : (UInt8.ofNat x.toNat).toNat = x.toNat % 256 := by simp
 unfold IntKind.wrap
 rw [e1, e3, e4]
 simp only [Bool.false_and, Bool.false_eq_true, if_false]
 omega
theorem u8v_len (l : List UInt8) : (u8v l).length = l.length := List.length_map _
theorem u8v_app (l r : List UInt8) : u8v (l ++ r) = u8v l ++ u8v r := List.map_append
theorem HF_u8 (l : List UInt8) : HF (.agg ⟨u8v l⟩) := .agg fun x hx => by obtain ⟨b, _, rfl⟩ := List.mem_map.1 hx; exact HFi _ _
theorem u8_isB (l : List UInt8) : IsB (u8v l) 0 l.length := ⟨l, by rw [List.drop_zero, ← u8v_len l, List.take_length]; rfl, rfl⟩
theorem u8_L (l : List UInt8) : u8L (u8v l) 0 l.length = l := by
 unfold u8L
 rw [List.drop_zero, ← u8v_len l, List.take_length]
 exact u8_map l
def b2 (x : Int) : List UInt8 := [UInt8.ofNat x.toNat, UInt8.ofNat (x.fdiv 256).toNat]
def colB (nx : List (List Int)) (c : Nat) : List UInt8 := nx.flatMap fun r => b2 (r.getD c 0)
theorem b2_len (l : List (List Int)) (c : Nat) : (colB l c).length = 2 * l.length := by
 induction l with
 | nil => rfl
 | cons r l ih => unfold colB at *; rw [List.flatMap_cons, List.length_append, ih]; simp [b2]; omega
theorem b2_inj {x y : Int} (hx : 0 ≤ x) (hx2 : x < 65536) (hy : 0 ≤ y) (hy2 : y < 65536) (h : b2 x = b2 y) : x = y := by
 unfold b2 at h
 simp only [List.cons.injEq, and_true] at h
 obtain ⟨h1, h2⟩ := h
 have g1 := congrArg UInt8.toNat h1
 have g2 := congrArg UInt8.toNat h2
 rw [Int.fdiv_eq_ediv_of_nonneg _ (by omega), Int.fdiv_eq_ediv_of_nonneg _ (by omega)] at g2
 simp at g1 g2
 omega
theorem co_walk {a : AU} (h : OkA a) {c : Nat} (hc : c < 256) : Walk env Proofs.Tryd.f64 [auV a, .int .i64 c] (.string (mkBytes (colB a.2.2 c))) := by
 obtain ⟨s, acc, nx⟩ := a
 have hn := h.n1
 have hr := h.row
 have hen := h.ent
 dsimp only at hn hr hen
 refine plainF XCo_ok (d := 1) (.scal rfl) ((jCo_nf _ s acc nx c).mpr ?_)
 rw [roV_len, i64_in (x := 2 * (nx.length : Int)) (by omega) (by omega)]
 refine ⟨⟨by omega, by omega, by omega, by omega⟩, .dat (HF_ro _), HF_u8 [], ?_⟩
 refine LAtZ.stepF XCo_ok [] [] [] [1, 5, 14, 15, 16] (by kernel_rfl) (fun k F A => ∃ i : Nat, F = frCo c nx (colB (nx.take i) c) i ∧ A = hCo (colB (nx.take i) c) ∧ i + k = nx.length) ?_ (k := nx.length) ⟨0, by unfold frCo; rw [roV_len]; rfl, rfl, by omega⟩
 rintro k F A ⟨i, rfl, rfl, hik⟩
 have hbl := b2_len (nx.take i) c
 rw [List.length_take] at hbl
 refine (jCoL_nf _ _ nx c _ i).mpr ?_
 rw [roV_len]
 refine Sp.intro (fun q => ?_) (fun q => ?_)
 · have q := of_decide_eq_true q
   have hi : i < nx.length := by omega
   have hc2 : c < nx[i].length := by rw [hr _ (List.getElem_mem hi)]; exact hc
   have hx := hen _ (List.getElem_mem hi) _ (List.getElem_mem hc2)
   have e0 : (↑(Int.toNat (c : Int)) : Int) = c := by omega
   have ew : [Value.int .u8 (IntKind.wrap .u8 nx[i][c]), Value.int .u8 (IntKind.wrap .u8 (Int.fdiv nx[i][c] 256))] = u8v (b2 nx[i][c]) := by
    have hd : 0 ≤ Int.fdiv nx[i][c] 256 := by rw [Int.fdiv_eq_ediv_of_nonneg _ (by omega)]; omega
    rw [u8_wrap hx.1, u8_wrap hd]; rfl
   have et : colB (nx.take (i + 1)) c = colB (nx.take i) c ++ b2 nx[i][c] := by
    rw [List.take_succ_eq_append_getElem hi]
    unfold colB
    rw [List.flatMap_append, List.flatMap_cons, List.flatMap_nil, List.append_nil, gD hc2]
   rw [rowAt_ro hi, e0, Int.toNat_natCast, intAt_in hc2, inV_len, ew, u8v_len]
   have hb : (b2 nx[i][c]).length = 2 := rfl
   refine ⟨⟨by omega, q⟩, nth_ro hi, ⟨by omega, by omega⟩, nth_in hc2, ⟨by omega, by omega⟩, nth_in hc2, ⟨rfl, by omega, by omega, by omega⟩, .dat (HF_ro _), ?_, k - 1, by omega, i + 1, ?_, ?_, by omega⟩
   · rw [← u8v_app]; exact HF_u8 _
   · rw [i64_in (x := (i : Int) + 1) (by omega) (by omega), et]
     unfold frCo
     rw [roV_len, List.length_append, hb]; rfl
   · rw [← u8v_app, ← et]; rfl
 · have q := of_decide_eq_false q
   refine ⟨u8_isB _, ?_⟩
   rw [u8_L, List.take_of_length_le (by omega)]
   rfl
def coX : List Value → Option Value
 | [v, .int .i64 c] => (match auQ v with | some a => some (.string (mkBytes (colB a.2.2 c.toNat))) | none => none)
 | _ => none
def coP : List Value → Option Prop
 | [v, .int .i64 c] => some (okV v ∧ 0 ≤ c ∧ c < 256)
 | _ => none
theorem co_tab : ∀ args A p v A', pureR coP coX args A = some (p, v, A') → PH p → CallAt env 64 args A v A' := walk_tab env_ok env_gl (fn := Proofs.Tryd.f64) rfl fun args v h hp => by
 unfold coX at h
 split at h
 · rename_i u c
   obtain ⟨⟨h1, h2⟩, h3, h4⟩ : okV u ∧ 0 ≤ c ∧ c < 256 := hp
   split at h
   rotate_left
   · cases h
   rename_i a ha
   simp only [Option.some.injEq] at h
   subst h
   rw [auQ_of h1 ha]
   obtain ⟨n, rfl⟩ := Int.eq_ofNat_of_zero_le h3
   have := co_walk h2 (c := n) (by omega)
   rw [← h1] at this
   exact ⟨HF.cons (by rw [h1]; exact HF_au _) (HF.cons (HFi _ _) HF.nil), this⟩
 · cases h
def auC (s : Int) (acc : List Bool) (nx : List (List Int)) : AObj := .cells [.int .i64 s, dat 1 (blV acc), dat 1 (roV nx)] 29
def hA1 (s : Int) (acc : List Bool) (nx : List (List Int)) : AH := ⟨.node .leaf (some (auC s acc nx)) .leaf, 1⟩
def hA2 (s : Int) (acc : List Bool) (nx : List (List Int)) (s2 : Int) (acc2 : List Bool) (nx2 : List (List Int)) : AH := ⟨.node (.node .leaf (some (auC s2 acc2 nx2)) .leaf) (some (auC s acc nx)) .leaf, 2⟩
def XKy : SX := ⟨env, [(64, pureR coP coX)], noEl, fun _ => .unroll 0⟩
theorem XKy_ok : XKy.Ok := ⟨env_ok, env_sym, env_gl, .cons co_tab .nil⟩
def jKs (K : KV) (c : Int) (s : Int) (acc : List Bool) (nx : List (List Int)) : Prop := sxFnF XKy 1 Proofs.Tryd.f70 [.int .i64 c, .pointer (some ⟨0, 0, none⟩)] (hA1 s acc nx) K
def jKp (K : KV) (c : Int) (s : Int) (acc : List Bool) (nx : List (List Int)) (s2 : Int) (acc2 : List Bool) (nx2 : List (List Int)) : Prop := sxFnF XKy 1 Proofs.Tryd.f63 [.int .i64 c, .pointer (some ⟨0, 0, none⟩), .pointer (some ⟨1, 0, none⟩)] (hA2 s acc nx s2 acc2 nx2) K
end
end Go.T9
namespace Go.T9
section
variable {S U : Type} [DecidableEq S] [DecidableEq U] {B : Type}
def addW (w : List B) : List (S × List B) → List (B × S) → List (S × List B)
 | q, [] => q
 | q, x :: l => if x.2 ∈ q.map (·.1) then addW w q l else addW w (q ++ [(x.2, w ++ [x.1])]) l
def bfs (sc : S → List (B × S)) (ac : S → Bool) : Nat → List (S × List B) → Nat → Option (List B)
 | 0, _, _ => none
 | f + 1, q, i => match q[i]? with
   | none => none
   | some x => if ac x.1 then some x.2 else bfs sc ac f (addW x.2 q (sc x.1)) (i + 1)
def addS : List S → List S → List S
 | q, [] => q
 | q, s :: l => if s ∈ q then addS q l else addS (q ++ [s]) l
def exS (sc : S → List S) : Nat → List S → Nat → List S
 | 0, q, _ => q
 | f + 1, q, i => match q[i]? with
   | none => q
   | some s => exS sc f (addS q (sc s)) (i + 1)
theorem addW_append (w : List B) : ∀ (l1 l2 : List (B × S)) (q : List (S × List B)), addW w q (l1 ++ l2) = addW w (addW w q l1) l2
 | [], l2, q => rfl
 | x :: l1, l2, q => by
   simp only [List.cons_append, addW]
   split <;> exact addW_append w l1 l2 _
theorem addW_fst (w : List B) : ∀ (l : List (B × S)) (q : List (S × List B)), (addW w q l).map (·.1) = addS (q.map (·.1)) (l.map (·.2))
 | [], q => rfl
 | x :: l, q => by
   simp only [addW, addS, List.map_cons]
   split
   · exact addW_fst w l q
   · rw [addW_fst w l]; simp
theorem addS_pre : ∀ (l q : List S), ∃ r, addS q l = q ++ r
 | [], q => ⟨[], by simp [addS]⟩
 | s :: l, q => by
   simp only [addS]
   split
   · exact addS_pre l q
   · obtain ⟨r, h⟩ := addS_pre l (q ++ [s]); exact ⟨s :: r, by rw [h]; simp⟩
theorem addS_old {l q : List S} {s : S} (h : s ∈ q) : s ∈ addS q l := by
 obtain ⟨r, h2⟩ := addS_pre l q; rw [h2]; simp [h]
theorem addS_new : ∀ {l q : List S} {s : S}, s ∈ l → s ∈ addS q l
 | x :: l, q, s, h => by
   simp only [addS]
   rcases List.mem_cons.1 h with rfl | h
   · split
     · rename_i h2; exact addS_old h2
     · exact addS_old (by simp)
   · split <;> exact addS_new h
theorem addS_mem : ∀ {l q : List S} {s : S}, s ∈ addS q l → s ∈ q ∨ s ∈ l
 | [], q, s, h => .inl h
 | x :: l, q, s, h => by
   simp only [addS] at h
   split at h
   · rcases addS_mem h with h | h
     · exact .inl h
     · exact .inr (by simp [h])
   · rcases addS_mem h with h | h
     · rcases List.mem_append.1 h with h | h
       · exact .inl h
       · simp only [List.mem_singleton] at h; subst h; exact .inr (by simp)
     · exact .inr (by simp [h])
theorem addS_nodup : ∀ {l q : List S}, q.Nodup → (addS q l).Nodup
 | [], q, h => h
 | x :: l, q, h => by
   simp only [addS]
   split
   · exact addS_nodup h
   · rename_i h2
     refine addS_nodup (List.nodup_append.2 ⟨h, by simp, fun a ha b hb => ?_⟩)
     simp only [List.mem_singleton] at hb
     subst hb
     exact fun e => h2 (e ▸ ha)
theorem addW_map {f : S → U} {P : S → Prop} (inj : ∀ a b, P a → P b → f a = f b → a = b) (w : List B) : ∀ (l : List (B × S)) (q : List (S × List B)), (∀ x ∈ q, P x.1) → (∀ x ∈ l, P x.2) →
 addW w (q.map fun x => (f x.1, x.2)) (l.map fun x => (x.1, f x.2)) = (addW w q l).map (fun x => (f x.1, x.2)) ∧ ∀ x ∈ addW w q l, P x.1
 | [], q, hq, _ => ⟨rfl, hq⟩
 | x :: l, q, hq, hl => by
   have hx := hl x (by simp)
   have e : f x.2 ∈ (q.map fun x => (f x.1, x.2)).map (·.1) ↔ x.2 ∈ q.map (·.1) := by
    simp only [List.map_map, List.mem_map, Function.comp]
    exact ⟨fun ⟨y, h1, h2⟩ => ⟨y, h1, inj _ _ (hq y h1) hx h2⟩, fun ⟨y, h1, h2⟩ => ⟨y, h1, by rw [h2]⟩⟩
   simp only [List.map_cons, addW]
   by_cases h : x.2 ∈ q.map (·.1)
   · rw [if_pos h, if_pos (e.2 h)]; exact addW_map inj w l q hq fun y hy => hl y (by simp [hy])
   · rw [if_neg h, if_neg (fun h2 => h (e.1 h2))]
     have := addW_map inj w l (q ++ [(x.2, w ++ [x.1])]) (fun y hy => by
      rcases List.mem_append.1 hy with hy | hy
      · exact hq y hy
      · simp only [List.mem_singleton] at hy; subst hy; exact hx) fun y hy => hl y (by simp [hy])
     simpa using this
theorem bfs_map {f : S → U} {P : S → Prop} (inj : ∀ a b, P a → P b → f a = f b → a = b) {sc : S → List (B × S)} {sc2 : U → List (B × U)} {ac : S → Bool} {ac2 : U → Bool}
 (hs : ∀ s, P s → sc2 (f s) = (sc s).map (fun x => (x.1, f x.2)) ∧ ∀ x ∈ sc s, P x.2) (ha : ∀ s, P s → ac2 (f s) = ac s) : ∀ (k : Nat) (q : List (S × List B)) (i : Nat), (∀ x ∈ q, P x.1) →
 bfs sc2 ac2 k (q.map fun x => (f x.1, x.2)) i = bfs sc ac k q i
 | 0, q, i, _ => rfl
 | k + 1, q, i, hq => by
   simp only [bfs, List.getElem?_map]
   cases h : q[i]? with
   | none => rfl
   | some x =>
     have hx := hq x (List.mem_of_getElem? h)
     simp only [Option.map_some, ha _ hx]
     split
     · rfl
     · obtain ⟨h1, h2⟩ := hs _ hx
       obtain ⟨h3, h4⟩ := addW_map inj x.2 (sc x.1) q hq h2
       rw [h1, h3]
       exact bfs_map inj hs ha k _ _ h4
theorem addW_first {g : Nat → S} {bt : Nat → B} {ft : Nat → Bool} (w : List B) (q : List (S × List B)) : ∀ n, (∀ c, c < n → ft c = false → ∃ c', c' < c ∧ g c' = g c) →
 addW w q ((List.range n).map fun c => (bt c, g c)) = addW w q (((List.range n).filter ft).map fun c => (bt c, g c))
 | 0, _ => rfl
 | n + 1, h => by
   have ih := addW_first (g := g) (bt := bt) (ft := ft) w q n fun c hc => h c (by omega)
   rw [List.range_succ, List.map_append, addW_append, ih, List.filter_append, List.map_append, addW_append]
   cases hn : ft n with
   | true => simp [hn]
   | false =>
     obtain ⟨c', hc, e⟩ := h n (by omega) hn
     have hm : g n ∈ (addW w q (((List.range n).filter ft).map fun c => (bt c, g c))).map (·.1) := by
      rw [← ih, addW_fst]
      refine addS_new ?_
      simp only [List.map_map, List.mem_map, List.mem_range, Function.comp]
      exact ⟨c', hc, e⟩
     simp only [List.map_cons, List.map_nil, addW, hm, if_true, hn, List.filter_cons, List.filter_nil, Bool.false_eq_true, if_false]
theorem bfs_congr {sc sc2 : S → List (B × S)} {ac ac2 : S → Bool} {P : S → Prop} (hs : ∀ s, P s → ∀ w q, addW w q (sc s) = addW w q (sc2 s)) (hp : ∀ s, P s → ∀ x ∈ sc s, P x.2) (ha : ∀ s, P s → ac s = ac2 s) : ∀ (k : Nat) (q : List (S × List B)) (i : Nat), (∀ x ∈ q, P x.1) → bfs sc ac k q i = bfs sc2 ac2 k q i
 | 0, q, i, _ => rfl
 | k + 1, q, i, hq => by
   simp only [bfs]
   cases h : q[i]? with
   | none => rfl
   | some x =>
     have hx := hq x (List.mem_of_getElem? h)
     simp only [ha _ hx]
     split
     · rfl
     · rw [hs _ hx]
       refine bfs_congr hs hp ha k _ _ fun y hy => ?_
       rw [← hs _ hx] at hy
       have : y.1 ∈ (addW x.2 q (sc x.1)).map (·.1) := List.mem_map.2 ⟨y, hy, rfl⟩
       rw [addW_fst] at this
       rcases addS_mem this with h1 | h1
       · obtain ⟨z, hz, e⟩ := List.mem_map.1 h1; rw [← e]; exact hq z hz
       · obtain ⟨z, hz, e⟩ := List.mem_map.1 h1; rw [← e]; exact hp _ hx z hz
theorem nodup_le : ∀ (n : Nat) (l : List Nat), l.Nodup → (∀ x ∈ l, x < n) → l.length ≤ n
 | 0, l, _, h => by
   cases l with
   | nil => simp
   | cons x l => exact absurd (h x (by simp)) (by omega)
 | n + 1, l, hd, h => by
   have h1 := nodup_le n (l.filter fun y => !decide (y = n)) (hd.filter _) fun x hx => by
    have h2 := List.mem_filter.1 hx
    have := h x h2.1
    have h3 : ¬ x = n := by simpa using h2.2
    omega
   have key : ∀ l : List Nat, l.Nodup → l.length ≤ (l.filter fun y => !decide (y = n)).length + 1 := by
    intro l
    induction l with
    | nil => intro _; simp
    | cons x l ih =>
      intro hd
      rw [List.nodup_cons] at hd
      by_cases e : x = n
      · have e2 : l.filter (fun y => !decide (y = n)) = l := List.filter_eq_self.2 fun y hy => by
         have : ¬ y = n := fun q => hd.1 (by rw [e, ← q]; exact hy)
         simp [this]
        rw [List.filter_cons, e2, List.length_cons]
        split <;> simp
      · have := ih hd.2
        rw [List.filter_cons, if_pos (by simp [e]), List.length_cons, List.length_cons]
        omega
   have := key l hd
   omega
end
end Go.T9
namespace Go.T9
open Go Go.AM Go.MK
noncomputable section
theorem jKs_nf (K : KV) (c s : Int) (acc : List Bool) (nx : List (List Int)) : jKs K c s acc nx = ((okV (Value.agg (Array.mk [Vi s, Vd 1 (blV acc), Vd 1 (roV nx)])) ∧ 0 ≤ c ∧ c < 256) ∧ K (Vs (ByteArray.mk (Array.mk (colB (List.map deR (roV nx)) (Int.toNat c))))) (AH.mk (Nd Lf (some (AObj.cells [Vi s, Vd 1 (blV acc), Vd 1 (roV nx)] 29)) Lf) 1)) := by kernel_rfl
theorem jKp_nf (K : KV) (c s : Int) (acc : List Bool) (nx : List (List Int)) (s2 : Int) (acc2 : List Bool) (nx2 : List (List Int)) : jKp K c s acc nx s2 acc2 nx2 = ((okV (Value.agg (Array.mk [Vi s, Vd 1 (blV acc), Vd 1 (roV nx)])) ∧ 0 ≤ c ∧ c < 256) ∧ Value.agg (Array.mk [Vi s2, Vd 1 (blV acc2), Vd 1 (roV nx2)]) = Value.agg (Array.mk [Vi s2, Vd 1 (blV acc2), Vd 1 (roV nx2)]) ∧ (okV (Value.agg (Array.mk [Vi s2, Vd 1 (blV acc2), Vd 1 (roV nx2)])) ∧ 0 ≤ c ∧ c < 256) ∧ List.length (Array.toList (ByteArray.data (mkBytes (colB (Prod.snd (Prod.snd (s, List.map deB (blV acc), List.map deR (roV nx)))) (Int.toNat c))))) + List.length (Array.toList (ByteArray.data (mkBytes (colB (Prod.snd (Prod.snd (s2, List.map deB (blV acc2), List.map deR (roV nx2)))) (Int.toNat c))))) ≤ 4611686018427387904 ∧ K (Vs (ByteArray.mk (Array.mk (Array.toList (ByteArray.data (mkBytes (colB (Prod.snd (Prod.snd (s, List.map deB (blV acc), List.map deR (roV nx)))) (Int.toNat c)))) ++ Array.toList (ByteArray.data (mkBytes (colB (Prod.snd (Prod.snd (s2, List.map deB (blV acc2), List.map deR (roV nx2)))) (Int.toNat c)))))))) (AH.mk (Nd (Nd Lf (some (AObj.cells [Vi s2, Vd 1 (blV acc2), Vd 1 (roV nx2)] 29)) Lf) (some (AObj.cells [Vi s, Vd 1 (blV acc), Vd 1 (roV nx)] 29)) Lf) 10)) := by kernel_rfl
abbrev LB := List UInt8
def keyS (nx : List (List Int)) (c : Nat) : LB := colB nx c
def keyP (nx nx2 : List (List Int)) (c : Nat) : LB := colB nx c ++ colB nx2 c
theorem end_a1 (Q : Value → AH → Prop) (s : Int) (acc : List Bool) (nx : List (List Int)) (t : ByteArray) (n : Nat) : endF env (hA1 s acc nx) [] [] [] Q (.string t) ⟨(hA1 s acc nx).t, n⟩ = (HF (dat 1 (blV acc)) ∧ HF (dat 1 (roV nx)) ∧ Q (.string t) (hA1 s acc nx)) := by kernel_rfl
theorem end_a2 (Q : Value → AH → Prop) (s : Int) (acc : List Bool) (nx : List (List Int)) (s2 : Int) (acc2 : List Bool) (nx2 : List (List Int)) (t : ByteArray) (n : Nat) : endF env (hA2 s acc nx s2 acc2 nx2) [] [] [] Q (.string t) ⟨(hA2 s acc nx s2 acc2 nx2).t, n⟩ = (HF (dat 1 (blV acc)) ∧ HF (dat 1 (roV nx)) ∧ HF (dat 1 (blV acc2)) ∧ HF (dat 1 (roV nx2)) ∧ Q (.string t) (hA2 s acc nx s2 acc2 nx2)) := by kernel_rfl
theorem ks_walk {a : AU} (h : OkA a) {c : Nat} (hc : c < 256) : WalkF env Proofs.Tryd.f70 [.int .i64 c, .pointer (some ⟨0, 0, none⟩)] (hA1 a.1 a.2.1 a.2.2) (.string (mkBytes (keyS a.2.2 c))) (hA1 a.1 a.2.1 a.2.2) := by
 obtain ⟨s, acc, nx⟩ := a
 refine sxFnF_walk XKy_ok (d := 1) (ns := []) (zs := []) (ws := []) ((jKs_nf _ c s acc nx).mpr ⟨⟨okV_au h, by omega, by omega⟩, ?_⟩)
 rw [roV_de]
 exact (end_a1 _ s acc nx _ _).mpr ⟨.dat (HF_bl _), .dat (HF_ro _), rfl, rfl⟩
theorem kp_walk {a b : AU} (h : OkA a) (h2 : OkA b) {c : Nat} (hc : c < 256) : WalkF env Proofs.Tryd.f63 [.int .i64 c, .pointer (some ⟨0, 0, none⟩), .pointer (some ⟨1, 0, none⟩)] (hA2 a.1 a.2.1 a.2.2 b.1 b.2.1 b.2.2) (.string (mkBytes (keyP a.2.2 b.2.2 c))) (hA2 a.1 a.2.1 a.2.2 b.1 b.2.1 b.2.2) := by
 obtain ⟨s, acc, nx⟩ := a
 obtain ⟨s2, acc2, nx2⟩ := b
 have hn := h.n1
 have hn2 := h2.n1
 dsimp only at hn hn2
 refine sxFnF_walk XKy_ok (d := 1) (ns := []) (zs := []) (ws := []) ((jKp_nf _ c s acc nx s2 acc2 nx2).mpr ⟨⟨okV_au h, by omega, by omega⟩, rfl, ⟨okV_au h2, by omega, by omega⟩, ?_, ?_⟩)
 · rw [roV_de, roV_de]
   show (colB nx c).length + (colB nx2 c).length ≤ _
   rw [b2_len, b2_len]; omega
 · rw [roV_de, roV_de]
   exact (end_a2 _ s acc nx s2 acc2 nx2 _ _).mpr ⟨.dat (HF_bl _), .dat (HF_ro _), .dat (HF_bl _), .dat (HF_ro _), rfl, rfl⟩
def auO : AObj → Option AU
 | .cells [.int .i64 s, .func (.yield 1) ⟨bs⟩ ⟨[]⟩, .func (.yield 1) ⟨rs⟩ ⟨[]⟩] e => bif Nat.beq e 29 then some (s, bs.map deB, rs.map deR) else none
 | _ => none
def auCo (a : AU) : AObj := auC a.1 a.2.1 a.2.2
def okO (o : AObj) (a : AU) : Prop := o = auCo a ∧ OkA a
def spKs : List Value → List AObj → Option (Option Prop × Value × List AObj)
 | [.int .i64 c, .pointer (some ⟨B, o, none⟩)], [x] => (match auO x with
   | some a => bif Nat.beq B 0 && Nat.beq o 0 then some (some (okO x a ∧ 0 ≤ c ∧ c < 256), .string (mkBytes (keyS a.2.2 c.toNat)), [x]) else none
   | none => none)
 | _, _ => none
def spKp : List Value → List AObj → Option (Option Prop × Value × List AObj)
 | [.int .i64 c, .pointer (some ⟨B, o, none⟩), .pointer (some ⟨B2, o2, none⟩)], [x, y] => (match auO x, auO y with
   | some a, some b => bif (Nat.beq B 0 && Nat.beq o 0) && (Nat.beq B2 1 && Nat.beq o2 0) then some (some (okO x a ∧ okO y b ∧ 0 ≤ c ∧ c < 256), .string (mkBytes (keyP a.2.2 b.2.2 c.toNat)), [x, y]) else none
   | _, _ => none)
 | _, _ => none
theorem heap_a1 (a : AU) : heapN [auCo a] = hA1 a.1 a.2.1 a.2.2 := by kernel_rfl
theorem heap_a2 (a b : AU) : heapN [auCo a, auCo b] = hA2 a.1 a.2.1 a.2.2 b.1 b.2.1 b.2.2 := by kernel_rfl
theorem ks_tab : ∀ args A p v A', frmR noAr spKs args A = some (p, v, A') → PH p → CallAt env 70 args A v A' := frmR_ok env_ok (fn := Proofs.Tryd.f70) rfl fun args objs p v objs' h hp => by
 unfold spKs at h
 split at h
 · rename_i c B o x
   split at h
   · rename_i a ha
     cases hb : Nat.beq B 0 && Nat.beq o 0 with
     | false => rw [hb] at h; cases h
     | true =>
       rw [hb] at h
       simp only [cond_true, Option.some.injEq, Prod.mk.injEq] at h
       obtain ⟨rfl, rfl, rfl⟩ := h
       simp only [Bool.and_eq_true, Nat.beq_eq] at hb
       obtain ⟨rfl, rfl⟩ := hb
       obtain ⟨⟨rfl, h2⟩, h3, h4⟩ : okO x a ∧ 0 ≤ c ∧ c < 256 := hp
       obtain ⟨n, rfl⟩ := Int.eq_ofNat_of_zero_le h3
       rw [heap_a1]
       exact ks_walk h2 (by omega)
   · cases h
 · cases h
theorem kp_tab : ∀ args A p v A', frmR noAr spKp args A = some (p, v, A') → PH p → CallAt env 63 args A v A' := frmR_ok env_ok (fn := Proofs.Tryd.f63) rfl fun args objs p v objs' h hp => by
 unfold spKp at h
 split at h
 · rename_i c B o B2 o2 x y
   split at h
   · rename_i a b ha hb0
     cases hb : (Nat.beq B 0 && Nat.beq o 0) && (Nat.beq B2 1 && Nat.beq o2 0) with
     | false => rw [hb] at h; cases h
     | true =>
       rw [hb] at h
       simp only [cond_true, Option.some.injEq, Prod.mk.injEq] at h
       obtain ⟨rfl, rfl, rfl⟩ := h
       simp only [Bool.and_eq_true, Nat.beq_eq] at hb
       obtain ⟨⟨rfl, rfl⟩, rfl, rfl⟩ := hb
       obtain ⟨⟨rfl, h2⟩, ⟨rfl, h3⟩, h4, h5⟩ : okO x a ∧ okO y b ∧ 0 ≤ c ∧ c < 256 := hp
       obtain ⟨n, rfl⟩ := Int.eq_ofNat_of_zero_le h4
       rw [heap_a2]
       exact kp_walk h2 h3 (by omega)
   · cases h
 · cases h
section
variable {K : Type} [DecidableEq K]
def idN : List K → K → Nat
 | [], _ => 0
 | x :: l, k => if x = k then 0 else idN l k + 1
theorem idN_none {k : K} : ∀ {l : List K}, ¬ k ∈ l → idN l k = l.length
 | [], _ => rfl
 | x :: l, h => by
   have hx : ¬ x = k := fun e => h (by simp [e])
   have hl : ¬ k ∈ l := fun e => h (by simp [e])
   simp only [idN, if_neg hx, List.length_cons, idN_none hl]
theorem idN_at {k : K} : ∀ {l : List K}, k ∈ l → l[idN l k]? = some k
 | x :: l, h => by
   by_cases e : x = k
   · simp [idN, e]
   · have : k ∈ l := by
      rcases List.mem_cons.1 h with h | h
      · exact absurd h.symm e
      · exact h
     simp only [idN, if_neg e, List.getElem?_cons_succ]
     exact idN_at this
theorem idN_lt {k : K} {l : List K} (h : k ∈ l) : idN l k < l.length := (List.getElem?_eq_some_iff.1 (idN_at h)).1
theorem idN_app {k : K} (r : List K) : ∀ {l : List K}, k ∈ l → idN (l ++ r) k = idN l k
 | x :: l, h => by
   by_cases e : x = k
   · simp [idN, e]
   · have : k ∈ l := by
      rcases List.mem_cons.1 h with h | h
      · exact absurd h.symm e
      · exact h
     simp only [List.cons_append, idN, if_neg e, idN_app r this]
def mkF : List K → Nat → List (K × Int)
 | [], _ => []
 | k :: l, i => (k, (i : Int)) :: mkF l (i + 1)
def mkM (l : List K) : List (K × Int) := mkF l 0
theorem mkF_len : ∀ (l : List K) (i : Nat), (mkF l i).length = l.length
 | [], _ => rfl
 | k :: l, i => by simp [mkF, mkF_len l]
theorem mkF_get (k : K) : ∀ (l : List K) (i : Nat), aget (mkF l i) k = if k ∈ l then some (((idN l k + i : Nat)) : Int) else none
 | [], i => rfl
 | x :: l, i => by
   simp only [mkF, aget]
   by_cases e : x = k
   · subst e; simp [idN]
   · rw [if_neg e, mkF_get k l]
     have e2 : k ≠ x := fun h => e h.symm
     by_cases h : k ∈ l
     · have e3 : idN (x :: l) k = idN l k + 1 := if_neg e
       rw [if_pos h, if_pos (by simp [h]), e3]
       congr 2; omega
     · rw [if_neg h, if_neg (by simp [h, e2])]
theorem mkF_set {k : K} : ∀ {l : List K} {i : Nat}, ¬ k ∈ l → aset (mkF l i) k ((l.length + i : Nat) : Int) = mkF (l ++ [k]) i
 | [], i, _ => by simp [mkF, aset]
 | x :: l, i, h => by
   have hx : ¬ x = k := fun e => h (by simp [e])
   have hl : ¬ k ∈ l := fun e => h (by simp [e])
   have := mkF_set (l := l) (i := i + 1) hl
   simp only [mkF, aset, List.cons_append, if_neg hx, List.length_cons]
   rw [← this]
   congr 3; omega
theorem mkM_get (l : List K) (k : K) : aget (mkM l) k = if k ∈ l then some ((idN l k : Nat) : Int) else none := mkF_get k l 0
theorem mkM_set {l : List K} {k : K} (h : ¬ k ∈ l) : aset (mkM l) k ((l.length : Nat) : Int) = mkM (l ++ [k]) := mkF_set (i := 0) h
theorem mkM_len (l : List K) : (mkM l).length = l.length := mkF_len l 0
end
def vS : Value → LB
 | .string s => s.data.toList
 | _ => []
def kS (l : LB) : Value := .string (mkBytes l)
abbrev Ents := List (Value × Value × Nat)
def enS (m : List (LB × Int)) : Ents := ents kS (Value.int .i64) m
def mgS (es : Ents) (k : Value) : Int := (aget (inv vS deI es) (vS k)).getD 0
def mhS (es : Ents) (k : Value) : Bool := (aget (inv vS deI es) (vS k)).isSome
def msS (es : Ents) (k v : Value) : Ents := enS (aset (inv vS deI es) (vS k) (deI v))
def mnS (es : Ents) (k v : Value) : Nat := (aset (inv vS deI es) (vS k) (deI v)).length
theorem eqL_dec (a b : LB) : eqL a b = decide (a = b) := by
 cases h : eqL a b with
 | true => simp [(eqL_iff a b).1 h]
 | false =>
   by_cases e : a = b
   · rw [(eqL_iff a b).2 e] at h; cases h
   · simp [e]
theorem koS : KeyOk env 102 9 3 kS (.int .i64 0) := ⟨by kernel_rfl, fun _ => rfl, fun emp k => by cases emp <;> kernel_rfl, ⟨.string, by kernel_rfl, .inl fun a b => by
 show some (eqL a b) = _
 rw [eqL_dec]⟩, fun k => by simp [kS, Instr.sameBits, bytes_beq, (eqL_iff _ _).2 rfl], ⟨_, rfl, rfl, rfl⟩⟩
theorem invS (m : List (LB × Int)) : inv vS deI (enS m) = m := inv_ents (fun _ => rfl) (fun _ => rfl) m
theorem lookS (m : List (LB × Int)) (k : LB) : lookE env 102 (enS m) (kS k) = some (.int .i64 (mgS (enS m) (kS k)), mhS (enS m) (kS k)) := by
 refine (look_ents koS (Value.int .i64) k m).trans ?_
 unfold mgS mhS
 rw [invS]
 show _ = some (Value.int .i64 ((aget m k).getD 0), (aget m k).isSome)
 cases aget m k <;> rfl
theorem updS (m : List (LB × Int)) (k : LB) (v : Int) : mapUpdE env 102 (enS m) m.length (kS k) (.int .i64 v) = some (enS (aset m k v), (aset m k v).length) := upd_ents koS (Value.int .i64) k v m
theorem HF_enS (m : List (LB × Int)) : HF (.agg ⟨(enS m).map fun x => x.2.1⟩) := HF_ents (fun v => .scal rfl) m
def arD : TypeId → Option Nat := fun t => bif Nat.beq t 68 then some 256 else none
def elCl : El := { El.of (fun _ _ els i => some (.int .i64 (intAt els i))) with app := true, gm := fun _ => true, ml := fun _ es k => some (.int .i64 (mgS es k), mhS es k), mu := fun _ es _ k v => some (msS es k v, mnS es k v) }
def XCl : SX := ⟨env, [(70, frmR noAr spKs), (63, frmR noAr spKp)], elCl, fun _ => .autoN [(.cell 0 256, 3, 1)] [] [] [0, 1, 4, 10]⟩
theorem XCl_ok : XCl.Ok := ⟨env_ok, env_sym, env_gl, .cons ks_tab (.cons kp_tab .nil)⟩
def nilS : Value := .slice none 0 0
def groS (B n : Nat) : Value := .slice (some ⟨B, 0, none⟩) n (unk + 3 + 1)
def cKs (B : Nat) : Value := .func (.func 70) ⟨[]⟩ ⟨[.pointer (some ⟨B, 0, none⟩)]⟩
def cKp (B B2 : Nat) : Value := .func (.func 63) ⟨[]⟩ ⟨[.pointer (some ⟨B, 0, none⟩), .pointer (some ⟨B2, 0, none⟩)]⟩
def dfO (C : List Int) (r : List Value) : AObj := .arr (inV C) r 256 68
def hCs0 (C : List Int) (s : Int) (acc : List Bool) (nx : List (List Int)) : AH := ⟨.node (.node .leaf (some (auC s acc nx)) .leaf) (some (dfO C [nilS, nilS, nilS])) .leaf, 2⟩
def hCp0 (C : List Int) (s : Int) (acc : List Bool) (nx : List (List Int)) (s2 : Int) (acc2 : List Bool) (nx2 : List (List Int)) : AH := ⟨.node (.node .leaf (some (auC s acc nx)) .leaf) (some (dfO C [nilS, nilS, nilS])) (.node .leaf (some (auC s2 acc2 nx2)) .leaf), 3⟩
def hCs (C F : List Int) (ks : List LB) (s : Int) (acc : List Bool) (nx : List (List Int)) : AH := ⟨(.node (.node (.node .leaf (some (.gro (inV F) [] 3)) .leaf) (some (auC s acc nx)) .leaf) (some (dfO C [groS 3 F.length, nilS, nilS])) (.node .leaf (some (.map (enS (mkM ks)) ks.length)) .leaf)), 4⟩
def hCp (C F : List Int) (ks : List LB) (s : Int) (acc : List Bool) (nx : List (List Int)) (s2 : Int) (acc2 : List Bool) (nx2 : List (List Int)) : AH := ⟨(.node (.node (.node .leaf (some (.map (enS (mkM ks)) ks.length)) .leaf) (some (auC s acc nx)) .leaf) (some (dfO C [groS 4 F.length, nilS, nilS])) (.node (.node .leaf (some (.gro (inV F) [] 3)) .leaf) (some (auC s2 acc2 nx2)) .leaf)), 5⟩
def frCs (c : Nat) : T Value := (.node (.node .leaf (some (cKs 1)) .leaf) (some (.pointer (some ⟨0, 0, none⟩))) (.node (.node .leaf (some (.map (some 2))) .leaf) none (.node (.node .leaf (some (.int .i64 c)) .leaf) none .leaf)))
def frCp (c : Nat) : T Value := (.node (.node .leaf (some (cKp 1 2)) .leaf) (some (.pointer (some ⟨0, 0, none⟩))) (.node (.node .leaf (some (.map (some 3))) .leaf) none (.node (.node .leaf (some (.int .i64 c)) .leaf) none .leaf)))
def kFinCl (K : KV) : KX := finK XCl.E (Proofs.Tryd.f23.results).toList K
def jCs (K : KV) (C : List Int) (s : Int) (acc : List Bool) (nx : List (List Int)) : Prop := sxFnF XCl 2 Proofs.Tryd.f23 [.pointer (some ⟨0, 0, none⟩), cKs 1] (hCs0 C s acc nx) K
def jCsL (K : KV) (again : KF) (C0 C F : List Int) (ks : List LB) (s : Int) (acc : List Bool) (nx : List (List Int)) (c : Nat) : Prop := sxStepF XCl 2 (Func.ntmps Proofs.Tryd.f23) (hCs0 C0 s acc nx) (bodyOf Proofs.Tryd.f23) [1, 1, 0] (kFinCl K) [(.cell 0 256, 3, 1)] [] [] [0, 1, 4, 10] again (frCs c) (hCs C F ks s acc nx)
def jCp (K : KV) (C : List Int) (s : Int) (acc : List Bool) (nx : List (List Int)) (s2 : Int) (acc2 : List Bool) (nx2 : List (List Int)) : Prop := sxFnF XCl 2 Proofs.Tryd.f23 [.pointer (some ⟨0, 0, none⟩), cKp 1 2] (hCp0 C s acc nx s2 acc2 nx2) K
def jCpL (K : KV) (again : KF) (C0 C F : List Int) (ks : List LB) (s : Int) (acc : List Bool) (nx : List (List Int)) (s2 : Int) (acc2 : List Bool) (nx2 : List (List Int)) (c : Nat) : Prop := sxStepF XCl 2 (Func.ntmps Proofs.Tryd.f23) (hCp0 C0 s acc nx s2 acc2 nx2) (bodyOf Proofs.Tryd.f23) [1, 1, 0] (kFinCl K) [(.cell 0 256, 3, 1)] [] [] [0, 1, 4, 10] again (frCp c) (hCp C F ks s acc nx s2 acc2 nx2)
theorem jCs_nf (K : KV) (C : List Int) (s : Int) (acc : List Bool) (nx : List (List Int)) : jCs K C s acc nx = (HF (Value.agg (Array.mk (inV C))) ∧ HF (Vd 1 (blV acc)) ∧ HF (Vd 1 (roV nx)) ∧ HF (Value.agg ⟨[]⟩) ∧ HF (Value.agg ⟨[]⟩) ∧ LAtZ XCl 2 (Func.ntmps Proofs.Tryd.f23) (hCs0 C s acc nx) (bodyOf Proofs.Tryd.f23) [1, 1, 0] (finK (SX.E XCl) (Array.toList (Func.results Proofs.Tryd.f23)) K) (Nd (Nd Lf (some (Value.func (Go.Fn.func 70) ⟨[]⟩ (Array.mk [Value.pointer (some ⟨1, 0, none⟩)]))) Lf) (some (Value.pointer (some ⟨0, 0, none⟩))) (Nd (Nd Lf (some (Value.map (some 2))) Lf) none (Nd (Nd Lf (some (Vi 0)) Lf) none Lf))) (AH.mk (Nd (Nd (Nd Lf (some (AObj.gro [] [] 3)) Lf) (some (AObj.cells [Vi s, Vd 1 (blV acc), Vd 1 (roV nx)] 29)) Lf) (some (AObj.arr (inV C) [Value.slice (some ⟨3, 0, none⟩) 0 18446744073709551620, Value.slice none 0 0, Value.slice none 0 0] 256 68)) (Nd Lf (some (AObj.map [] 0)) Lf)) 4)) := by kernel_rfl
theorem jCsL_nf (K : KV) (again : KF) (C0 : List Int) (C : List Int) (F : List Int) (ks : List LB) (s : Int) (acc : List Bool) (nx : List (List Int)) (c : Nat) : jCsL K again C0 C F ks s acc nx c = (Sp (decide ((c : Int) < 256)) (HFs [Vd 1 (blV acc), Vd 1 (roV nx), Vd 1 (blV acc), Vd 1 (roV nx)] (PH (Prod.fst (some (okO (AObj.cells [Vi s, Vd 1 (blV acc), Vd 1 (roV nx)] 29) (s, List.map deB (blV acc), List.map deR (roV nx)) ∧ 0 ≤ (c : Int) ∧ (c : Int) < 256), Vs (ByteArray.mk (Array.mk (keyS (List.map deR (roV nx)) (Int.toNat (c : Int))))), [AObj.cells [Vi s, Vd 1 (blV acc), Vd 1 (roV nx)] 29]))) ∧ lookE (SX.E XCl) 102 (enS (mkM ks)) (Vs (ByteArray.mk (Array.mk (keyS (List.map deR (roV nx)) (Int.toNat (c : Int)))))) = some (Vi (mgS (enS (mkM ks)) (Vs (ByteArray.mk (Array.mk (keyS (List.map deR (roV nx)) (Int.toNat (c : Int))))))), mhS (enS (mkM ks)) (Vs (ByteArray.mk (Array.mk (keyS (List.map deR (roV nx)) (Int.toNat (c : Int))))))) ∧ Sp (!mhS (enS (mkM ks)) (Vs (ByteArray.mk (Array.mk (keyS (List.map deR (roV nx)) (Int.toNat (c : Int))))))) (mapUpdE (SX.E XCl) 102 (enS (mkM ks)) (List.length ks) (Vs (ByteArray.mk (Array.mk (keyS (List.map deR (roV nx)) (Int.toNat (c : Int)))))) (Vi (↑(List.length F) : Int)) = some (msS (enS (mkM ks)) (Vs (ByteArray.mk (Array.mk (keyS (List.map deR (roV nx)) (Int.toNat (c : Int)))))) (Vi (↑(List.length F) : Int)), mnS (enS (mkM ks)) (Vs (ByteArray.mk (Array.mk (keyS (List.map deR (roV nx)) (Int.toNat (c : Int)))))) (Vi (↑(List.length F) : Int))) ∧ (List.all [Vi (c : Int)] cellv = true ∧ List.length F + 0 = List.length (inV F) ∧ List.length F + (1 : Nat) ≤ (70368744177664 : Nat) ∧ (List.length F + 1) * (8 : Nat) ≤ (140737488355328 : Nat)) ∧ (0 ≤ (c : Int) ∧ (c : Int) < 256) ∧ c < 256 ∧ HF (Value.agg (Array.mk (List.set (inV C) (c) (Vi (↑(List.length F) : Int))))) ∧ HF (Vd 1 (blV acc)) ∧ HF (Vd 1 (roV nx)) ∧ HF (Value.agg (Array.mk (mvl (msS (enS (mkM ks)) (Vs (ByteArray.mk (Array.mk (keyS (List.map deR (roV nx)) (Int.toNat (c : Int)))))) (Vi (↑(List.length F) : Int)))))) ∧ HF (Value.agg (Array.mk (inV F ++ [Vi (c : Int)]))) ∧ again (Nd (Nd Lf (some (Value.func (Go.Fn.func 70) ⟨[]⟩ (Array.mk [Value.pointer (some ⟨1, 0, none⟩)]))) Lf) (some (Value.pointer (some ⟨0, 0, none⟩))) (Nd (Nd Lf (some (Value.map (some 2))) Lf) none (Nd (Nd Lf (some (Vi (IntKind.wrap .i64 ((c : Int) + 1)))) Lf) none Lf))) (AH.mk (Nd (Nd (Nd Lf (some (AObj.gro (inV F ++ [Vi (c : Int)]) [] 3)) Lf) (some (AObj.cells [Vi s, Vd 1 (blV acc), Vd 1 (roV nx)] 29)) Lf) (some (AObj.arr (List.set (inV C) (c) (Vi (↑(List.length F) : Int))) [Value.slice (some ⟨3, 0, none⟩) (List.length F + 1) 18446744073709551620, Value.slice none 0 0, Value.slice none 0 0] 256 68)) (Nd Lf (some (AObj.map (msS (enS (mkM ks)) (Vs (ByteArray.mk (Array.mk (keyS (List.map deR (roV nx)) (Int.toNat (c : Int)))))) (Vi (↑(List.length F) : Int))) (mnS (enS (mkM ks)) (Vs (ByteArray.mk (Array.mk (keyS (List.map deR (roV nx)) (Int.toNat (c : Int)))))) (Vi (↑(List.length F) : Int))))) Lf)) 4)) ((0 ≤ (c : Int) ∧ (c : Int) < 256) ∧ c < 256 ∧ HF (Value.agg (Array.mk (List.set (inV C) (c) (Vi (mgS (enS (mkM ks)) (Vs (ByteArray.mk (Array.mk (keyS (List.map deR (roV nx)) (Int.toNat (c : Int))))))))))) ∧ HF (Vd 1 (blV acc)) ∧ HF (Vd 1 (roV nx)) ∧ HF (Value.agg (Array.mk (mvl (enS (mkM ks))))) ∧ HF (Value.agg (Array.mk (inV F))) ∧ again (Nd (Nd Lf (some (Value.func (Go.Fn.func 70) ⟨[]⟩ (Array.mk [Value.pointer (some ⟨1, 0, none⟩)]))) Lf) (some (Value.pointer (some ⟨0, 0, none⟩))) (Nd (Nd Lf (some (Value.map (some 2))) Lf) none (Nd (Nd Lf (some (Vi (IntKind.wrap .i64 ((c : Int) + 1)))) Lf) none Lf))) (AH.mk (Nd (Nd (Nd Lf (some (AObj.gro (inV F) [] 3)) Lf) (some (AObj.cells [Vi s, Vd 1 (blV acc), Vd 1 (roV nx)] 29)) Lf) (some (AObj.arr (List.set (inV C) (c) (Vi (mgS (enS (mkM ks)) (Vs (ByteArray.mk (Array.mk (keyS (List.map deR (roV nx)) (Int.toNat (c : Int))))))))) [Value.slice (some ⟨3, 0, none⟩) (List.length F) 18446744073709551620, Value.slice none 0 0, Value.slice none 0 0] 256 68)) (Nd Lf (some (AObj.map (enS (mkM ks)) (List.length ks))) Lf)) 4))) (K (Value.tuple ⟨[]⟩) (AH.mk (Nd (Nd (Nd Lf (some (AObj.gro (inV F) [] 3)) Lf) (some (AObj.cells [Vi s, Vd 1 (blV acc), Vd 1 (roV nx)] 29)) Lf) (some (AObj.arr (inV C) [Value.slice (some ⟨3, 0, none⟩) (List.length F) 18446744073709551620, Value.slice none 0 0, Value.slice none 0 0] 256 68)) (Nd Lf (some (AObj.map (enS (mkM ks)) (List.length ks))) Lf)) 4))) := by kernel_rfl
theorem jCp_nf (K : KV) (C : List Int) (s : Int) (acc : List Bool) (nx : List (List Int)) (s2 : Int) (acc2 : List Bool) (nx2 : List (List Int)) : jCp K C s acc nx s2 acc2 nx2 = (HF (Value.agg (Array.mk (inV C))) ∧ HF (Vd 1 (blV acc)) ∧ HF (Vd 1 (roV nx)) ∧ HF (Vd 1 (blV acc2)) ∧ HF (Vd 1 (roV nx2)) ∧ HF (Value.agg ⟨[]⟩) ∧ HF (Value.agg ⟨[]⟩) ∧ LAtZ XCl 2 (Func.ntmps Proofs.Tryd.f23) (hCp0 C s acc nx s2 acc2 nx2) (bodyOf Proofs.Tryd.f23) [1, 1, 0] (finK (SX.E XCl) (Array.toList (Func.results Proofs.Tryd.f23)) K) (Nd (Nd Lf (some (Value.func (Go.Fn.func 63) ⟨[]⟩ (Array.mk [Value.pointer (some ⟨1, 0, none⟩), Value.pointer (some ⟨2, 0, none⟩)]))) Lf) (some (Value.pointer (some ⟨0, 0, none⟩))) (Nd (Nd Lf (some (Value.map (some 3))) Lf) none (Nd (Nd Lf (some (Vi 0)) Lf) none Lf))) (AH.mk (Nd (Nd (Nd Lf (some (AObj.map [] 0)) Lf) (some (AObj.cells [Vi s, Vd 1 (blV acc), Vd 1 (roV nx)] 29)) Lf) (some (AObj.arr (inV C) [Value.slice (some ⟨4, 0, none⟩) 0 18446744073709551620, Value.slice none 0 0, Value.slice none 0 0] 256 68)) (Nd (Nd Lf (some (AObj.gro [] [] 3)) Lf) (some (AObj.cells [Vi s2, Vd 1 (blV acc2), Vd 1 (roV nx2)] 29)) Lf)) 5)) := by kernel_rfl
theorem jCpL_nf (K : KV) (again : KF) (C0 : List Int) (C : List Int) (F : List Int) (ks : List LB) (s : Int) (acc : List Bool) (nx : List (List Int)) (s2 : Int) (acc2 : List Bool) (nx2 : List (List Int)) (c : Nat) : jCpL K again C0 C F ks s acc nx s2 acc2 nx2 c = (Sp (decide ((c : Int) < 256)) (HFs [Vd 1 (blV acc), Vd 1 (roV nx), Vd 1 (blV acc2), Vd 1 (roV nx2), Vd 1 (blV acc), Vd 1 (roV nx), Vd 1 (blV acc2), Vd 1 (roV nx2)] (PH (Prod.fst (some (okO (AObj.cells [Vi s, Vd 1 (blV acc), Vd 1 (roV nx)] 29) (s, List.map deB (blV acc), List.map deR (roV nx)) ∧ okO (AObj.cells [Vi s2, Vd 1 (blV acc2), Vd 1 (roV nx2)] 29) (s2, List.map deB (blV acc2), List.map deR (roV nx2)) ∧ 0 ≤ (c : Int) ∧ (c : Int) < 256), Vs (ByteArray.mk (Array.mk (keyP (List.map deR (roV nx)) (List.map deR (roV nx2)) (Int.toNat (c : Int))))), [AObj.cells [Vi s, Vd 1 (blV acc), Vd 1 (roV nx)] 29, AObj.cells [Vi s2, Vd 1 (blV acc2), Vd 1 (roV nx2)] 29]))) ∧ lookE (SX.E XCl) 102 (enS (mkM ks)) (Vs (ByteArray.mk (Array.mk (keyP (List.map deR (roV nx)) (List.map deR (roV nx2)) (Int.toNat (c : Int)))))) = some (Vi (mgS (enS (mkM ks)) (Vs (ByteArray.mk (Array.mk (keyP (List.map deR (roV nx)) (List.map deR (roV nx2)) (Int.toNat (c : Int))))))), mhS (enS (mkM ks)) (Vs (ByteArray.mk (Array.mk (keyP (List.map deR (roV nx)) (List.map deR (roV nx2)) (Int.toNat (c : Int))))))) ∧ Sp (!mhS (enS (mkM ks)) (Vs (ByteArray.mk (Array.mk (keyP (List.map deR (roV nx)) (List.map deR (roV nx2)) (Int.toNat (c : Int))))))) (mapUpdE (SX.E XCl) 102 (enS (mkM ks)) (List.length ks) (Vs (ByteArray.mk (Array.mk (keyP (List.map deR (roV nx)) (List.map deR (roV nx2)) (Int.toNat (c : Int)))))) (Vi (↑(List.length F) : Int)) = some (msS (enS (mkM ks)) (Vs (ByteArray.mk (Array.mk (keyP (List.map deR (roV nx)) (List.map deR (roV nx2)) (Int.toNat (c : Int)))))) (Vi (↑(List.length F) : Int)), mnS (enS (mkM ks)) (Vs (ByteArray.mk (Array.mk (keyP (List.map deR (roV nx)) (List.map deR (roV nx2)) (Int.toNat (c : Int)))))) (Vi (↑(List.length F) : Int))) ∧ (List.all [Vi (c : Int)] cellv = true ∧ List.length F + 0 = List.length (inV F) ∧ List.length F + (1 : Nat) ≤ (70368744177664 : Nat) ∧ (List.length F + 1) * (8 : Nat) ≤ (140737488355328 : Nat)) ∧ (0 ≤ (c : Int) ∧ (c : Int) < 256) ∧ c < 256 ∧ HF (Value.agg (Array.mk (List.set (inV C) (c) (Vi (↑(List.length F) : Int))))) ∧ HF (Vd 1 (blV acc)) ∧ HF (Vd 1 (roV nx)) ∧ HF (Vd 1 (blV acc2)) ∧ HF (Vd 1 (roV nx2)) ∧ HF (Value.agg (Array.mk (mvl (msS (enS (mkM ks)) (Vs (ByteArray.mk (Array.mk (keyP (List.map deR (roV nx)) (List.map deR (roV nx2)) (Int.toNat (c : Int)))))) (Vi (↑(List.length F) : Int)))))) ∧ HF (Value.agg (Array.mk (inV F ++ [Vi (c : Int)]))) ∧ again (Nd (Nd Lf (some (Value.func (Go.Fn.func 63) ⟨[]⟩ (Array.mk [Value.pointer (some ⟨1, 0, none⟩), Value.pointer (some ⟨2, 0, none⟩)]))) Lf) (some (Value.pointer (some ⟨0, 0, none⟩))) (Nd (Nd Lf (some (Value.map (some 3))) Lf) none (Nd (Nd Lf (some (Vi (IntKind.wrap .i64 ((c : Int) + 1)))) Lf) none Lf))) (AH.mk (Nd (Nd (Nd Lf (some (AObj.map (msS (enS (mkM ks)) (Vs (ByteArray.mk (Array.mk (keyP (List.map deR (roV nx)) (List.map deR (roV nx2)) (Int.toNat (c : Int)))))) (Vi (↑(List.length F) : Int))) (mnS (enS (mkM ks)) (Vs (ByteArray.mk (Array.mk (keyP (List.map deR (roV nx)) (List.map deR (roV nx2)) (Int.toNat (c : Int)))))) (Vi (↑(List.length F) : Int))))) Lf) (some (AObj.cells [Vi s, Vd 1 (blV acc), Vd 1 (roV nx)] 29)) Lf) (some (AObj.arr (List.set (inV C) (c) (Vi (↑(List.length F) : Int))) [Value.slice (some ⟨4, 0, none⟩) (List.length F + 1) 18446744073709551620, Value.slice none 0 0, Value.slice none 0 0] 256 68)) (Nd (Nd Lf (some (AObj.gro (inV F ++ [Vi (c : Int)]) [] 3)) Lf) (some (AObj.cells [Vi s2, Vd 1 (blV acc2), Vd 1 (roV nx2)] 29)) Lf)) 5)) ((0 ≤ (c : Int) ∧ (c : Int) < 256) ∧ c < 256 ∧ HF (Value.agg (Array.mk (List.set (inV C) (c) (Vi (mgS (enS (mkM ks)) (Vs (ByteArray.mk (Array.mk (keyP (List.map deR (roV nx)) (List.map deR (roV nx2)) (Int.toNat (c : Int))))))))))) ∧ HF (Vd 1 (blV acc)) ∧ HF (Vd 1 (roV nx)) ∧ HF (Vd 1 (blV acc2)) ∧ HF (Vd 1 (roV nx2)) ∧ HF (Value.agg (Array.mk (mvl (enS (mkM ks))))) ∧ HF (Value.agg (Array.mk (inV F))) ∧ again (Nd (Nd Lf (some (Value.func (Go.Fn.func 63) ⟨[]⟩ (Array.mk [Value.pointer (some ⟨1, 0, none⟩), Value.pointer (some ⟨2, 0, none⟩)]))) Lf) (some (Value.pointer (some ⟨0, 0, none⟩))) (Nd (Nd Lf (some (Value.map (some 3))) Lf) none (Nd (Nd Lf (some (Vi (IntKind.wrap .i64 ((c : Int) + 1)))) Lf) none Lf))) (AH.mk (Nd (Nd (Nd Lf (some (AObj.map (enS (mkM ks)) (List.length ks))) Lf) (some (AObj.cells [Vi s, Vd 1 (blV acc), Vd 1 (roV nx)] 29)) Lf) (some (AObj.arr (List.set (inV C) (c) (Vi (mgS (enS (mkM ks)) (Vs (ByteArray.mk (Array.mk (keyP (List.map deR (roV nx)) (List.map deR (roV nx2)) (Int.toNat (c : Int))))))))) [Value.slice (some ⟨4, 0, none⟩) (List.length F) 18446744073709551620, Value.slice none 0 0, Value.slice none 0 0] 256 68)) (Nd (Nd Lf (some (AObj.gro (inV F) [] 3)) Lf) (some (AObj.cells [Vi s2, Vd 1 (blV acc2), Vd 1 (roV nx2)] 29)) Lf)) 5))) (K (Value.tuple ⟨[]⟩) (AH.mk (Nd (Nd (Nd Lf (some (AObj.map (enS (mkM ks)) (List.length ks))) Lf) (some (AObj.cells [Vi s, Vd 1 (blV acc), Vd 1 (roV nx)] 29)) Lf) (some (AObj.arr (inV C) [Value.slice (some ⟨4, 0, none⟩) (List.length F) 18446744073709551620, Value.slice none 0 0, Value.slice none 0 0] 256 68)) (Nd (Nd Lf (some (AObj.gro (inV F) [] 3)) Lf) (some (AObj.cells [Vi s2, Vd 1 (blV acc2), Vd 1 (roV nx2)] 29)) Lf)) 5))) := by kernel_rfl
def clsF (key : Nat → LB) : Nat → List Nat
 | 0 => []
 | n + 1 => if key n ∈ (clsF key n).map key then clsF key n else clsF key n ++ [n]
def clsK (key : Nat → LB) (n : Nat) : List LB := (clsF key n).map key
def clsC (key : Nat → LB) : Nat → List Int
 | 0 => List.replicate 256 0
 | n + 1 => (clsC key n).set n (idN (clsK key n) (key n) : Nat)
def clsI (key : Nat → LB) (n : Nat) : List Int := (clsF key n).map Int.ofNat
theorem clsF_lt (key : Nat → LB) : ∀ n, ∀ x ∈ clsF key n, x < n
 | 0, x, h => by simp [clsF] at h
 | n + 1, x, h => by
   unfold clsF at h
   split at h
   · have := clsF_lt key n x h; omega
   · rcases List.mem_append.1 h with h | h
     · have := clsF_lt key n x h; omega
     · simp at h; omega
theorem clsF_len (key : Nat → LB) : ∀ n, (clsF key n).length ≤ n
 | 0 => by simp [clsF]
 | n + 1 => by
   have := clsF_len key n
   unfold clsF
   split
   · omega
   · rw [List.length_append]; simp; omega
theorem clsK_len (key : Nat → LB) (n : Nat) : (clsK key n).length = (clsF key n).length := List.length_map _
theorem clsI_len (key : Nat → LB) (n : Nat) : (clsI key n).length = (clsF key n).length := List.length_map _
theorem HF_inA (l : List Int) : HF (.agg ⟨inV l⟩) := .agg (HF_in l)
theorem inV_set (l : List Int) (i : Nat) (x : Int) : (inV l).set i (.int .i64 x) = inV (l.set i x) := by unfold inV; rw [List.map_set]
theorem inV_app (l r : List Int) : inV l ++ inV r = inV (l ++ r) := by unfold inV; rw [List.map_append]
theorem mhS_e (ks : List LB) (k : LB) : mhS (enS (mkM ks)) (kS k) = decide (k ∈ ks) := by
 unfold mhS
 rw [invS]
 show (aget (mkM ks) k).isSome = _
 rw [mkM_get]
 by_cases h : k ∈ ks <;> simp [h]
theorem mgS_e (ks : List LB) (k : LB) (h : k ∈ ks) : mgS (enS (mkM ks)) (kS k) = (idN ks k : Nat) := by
 unfold mgS
 rw [invS]
 show (aget (mkM ks) k).getD 0 = _
 rw [mkM_get, if_pos h]; rfl
theorem msS_e (ks : List LB) (k : LB) (h : ¬ k ∈ ks) : msS (enS (mkM ks)) (kS k) (.int .i64 (ks.length : Nat)) = enS (mkM (ks ++ [k])) := by
 unfold msS
 rw [invS]
 show enS (aset (mkM ks) k ((ks.length : Nat) : Int)) = _
 rw [mkM_set h]
theorem mnS_e (ks : List LB) (k : LB) (h : ¬ k ∈ ks) : mnS (enS (mkM ks)) (kS k) (.int .i64 (ks.length : Nat)) = (ks ++ [k]).length := by
 unfold mnS
 rw [invS]
 show (aset (mkM ks) k ((ks.length : Nat) : Int)).length = _
 rw [mkM_set h, mkM_len]
theorem updS_e (ks : List LB) (k : LB) (h : ¬ k ∈ ks) : mapUpdE env 102 (enS (mkM ks)) ks.length (kS k) (.int .i64 (ks.length : Nat)) = some (enS (mkM (ks ++ [k])), (ks ++ [k]).length) := by
 have := updS (mkM ks) k (ks.length : Nat)
 rw [mkM_len, mkM_set h, mkM_len] at this
 exact this
theorem clsF_old {key : Nat → LB} {n : Nat} (h : key n ∈ clsK key n) : clsF key (n + 1) = clsF key n := if_pos h
theorem clsF_new {key : Nat → LB} {n : Nat} (h : ¬ key n ∈ clsK key n) : clsF key (n + 1) = clsF key n ++ [n] := if_neg h
theorem clsK_new {key : Nat → LB} {n : Nat} (h : ¬ key n ∈ clsK key n) : clsK key (n + 1) = clsK key n ++ [key n] := by
 show (clsF key (n + 1)).map key = _
 rw [clsF_new h, List.map_append]; rfl
theorem clsK_old {key : Nat → LB} {n : Nat} (h : key n ∈ clsK key n) : clsK key (n + 1) = clsK key n := by
 show (clsF key (n + 1)).map key = _
 rw [clsF_old h]; rfl
theorem clsI_new {key : Nat → LB} {n : Nat} (h : ¬ key n ∈ clsK key n) : clsI key (n + 1) = clsI key n ++ [(n : Int)] := by
 show (clsF key (n + 1)).map _ = _
 rw [clsF_new h, List.map_append]; rfl
theorem clsI_old {key : Nat → LB} {n : Nat} (h : key n ∈ clsK key n) : clsI key (n + 1) = clsI key n := by
 show (clsF key (n + 1)).map _ = _
 rw [clsF_old h]; rfl
theorem clsC_new {key : Nat → LB} {n : Nat} (h : ¬ key n ∈ clsK key n) : clsC key (n + 1) = (clsC key n).set n ((clsF key n).length : Nat) := by
 show (clsC key n).set n _ = _
 rw [idN_none h, clsK_len]
def hCsE (C F : List Int) (s : Int) (acc : List Bool) (nx : List (List Int)) : AH := ⟨(.node (.node .leaf (some (auC s acc nx)) .leaf) (some (dfO C [groS 2 F.length, nilS, nilS])) (.node .leaf (some (.gro (inV F) [] 3)) .leaf)), 3⟩
def hCpE (C F : List Int) (s : Int) (acc : List Bool) (nx : List (List Int)) (s2 : Int) (acc2 : List Bool) (nx2 : List (List Int)) : AH := ⟨(.node (.node (.node .leaf (some (.gro (inV F) [] 3)) .leaf) (some (auC s acc nx)) .leaf) (some (dfO C [groS 3 F.length, nilS, nilS])) (.node .leaf (some (auC s2 acc2 nx2)) .leaf)), 4⟩
theorem end_cs (Q : Value → AH → Prop) (C0 C F : List Int) (ks : List LB) (s : Int) (acc : List Bool) (nx : List (List Int)) : endF env (hCs0 C0 s acc nx) [] [] [] Q (.tuple ⟨[]⟩) (hCs C F ks s acc nx) = (HF (.agg ⟨inV C⟩) ∧ HF (dat 1 (blV acc)) ∧ HF (dat 1 (roV nx)) ∧ HF (.agg ⟨inV F⟩) ∧ Q (.tuple ⟨[]⟩) (hCsE C F s acc nx)) := by kernel_rfl
theorem end_cp (Q : Value → AH → Prop) (C0 C F : List Int) (ks : List LB) (s : Int) (acc : List Bool) (nx : List (List Int)) (s2 : Int) (acc2 : List Bool) (nx2 : List (List Int)) : endF env (hCp0 C0 s acc nx s2 acc2 nx2) [] [] [] Q (.tuple ⟨[]⟩) (hCp C F ks s acc nx s2 acc2 nx2) = (HF (.agg ⟨inV C⟩) ∧ HF (dat 1 (blV acc)) ∧ HF (dat 1 (roV nx)) ∧ HF (dat 1 (blV acc2)) ∧ HF (dat 1 (roV nx2)) ∧ HF (.agg ⟨inV F⟩) ∧ Q (.tuple ⟨[]⟩) (hCpE C F s acc nx s2 acc2 nx2)) := by kernel_rfl
def z256 : List Int := List.replicate 256 0
theorem cs_walk {a : AU} (h : OkA a) : WalkF env Proofs.Tryd.f23 [.pointer (some ⟨0, 0, none⟩), cKs 1] (hCs0 z256 a.1 a.2.1 a.2.2) (.tuple ⟨[]⟩) (hCsE (clsC (keyS a.2.2) 256) (clsI (keyS a.2.2) 256) a.1 a.2.1 a.2.2) := by
 obtain ⟨s, acc, nx⟩ := a
 refine sxFnF_walk XCl_ok (d := 2) (ns := []) (zs := []) (ws := []) ((jCs_nf _ z256 s acc nx).mpr ⟨HF_inA _, .dat (HF_bl _), .dat (HF_ro _), HF_inA [], HF_inA [], ?_⟩)
 generalize hk : keyS nx = key
 refine LAtZ.stepF XCl_ok [(.cell 0 256, 3, 1)] [] [] [0, 1, 4, 10] (by kernel_rfl) (fun k F A => ∃ c : Nat, F = frCs c ∧ A = hCs (clsC key c) (clsI key c) (clsK key c) s acc nx ∧ c + k = 256) ?_ (k := 256) ⟨0, rfl, rfl, by omega⟩
 rintro k F A ⟨c, rfl, rfl, hck⟩
 have hlen := clsF_len key c
 have hl2 := clsI_len key c
 have hl3 := clsK_len key c
 refine (jCsL_nf _ _ z256 _ _ _ s acc nx c).mpr (Sp.intro (fun q => ?_) (fun q => ?_))
 · have q := of_decide_eq_true q
   rw [roV_de, Int.toNat_natCast, hk]
   have e0 : Vs (ByteArray.mk (Array.mk (key c))) = kS (key c) := rfl
   rw [e0, hl2, ← hl3, mhS_e]
   refine ⟨⟨.dat (HF_bl _), .dat (HF_ro _), .dat (HF_bl _), .dat (HF_ro _), ⟨by rw [blV_de]; rfl, by rw [blV_de]; exact h⟩, by omega, by omega⟩, (lookS _ _).trans (by rw [mhS_e]), Sp.intro (fun g => ?_) (fun g => ?_)⟩
   · have g : ¬ key c ∈ clsK key c := by simpa using g
     rw [msS_e _ _ g, mnS_e _ _ g, inV_set, show [Vi (c : Int)] = inV [(c : Int)] from rfl, inV_app, i64_in (x := (c : Int) + 1) (by omega) (by omega)]
     refine ⟨updS_e _ _ g, ⟨rfl, by rw [inV_len]; omega, by omega, by omega⟩, ⟨by omega, by omega⟩, by omega, HF_inA _, .dat (HF_bl _), .dat (HF_ro _), HF_enS _, HF_inA _, k - 1, by omega, c + 1, rfl, ?_, by omega⟩
     rw [clsC_new g, clsI_new g, clsK_new g]
     unfold hCs
     rw [show (clsI key c ++ [(c : Int)]).length = (clsK key c).length + 1 by rw [List.length_append, hl2, ← hl3]; rfl, ← hl3]; rfl
   · have g : key c ∈ clsK key c := by simpa using g
     rw [mgS_e _ _ g, inV_set, i64_in (x := (c : Int) + 1) (by omega) (by omega)]
     refine ⟨⟨by omega, by omega⟩, by omega, HF_inA _, .dat (HF_bl _), .dat (HF_ro _), HF_enS _, HF_inA _, k - 1, by omega, c + 1, rfl, ?_, by omega⟩
     rw [show clsC key (c + 1) = (clsC key c).set c (idN (clsK key c) (key c) : Nat) from rfl, clsI_old g, clsK_old g]
     unfold hCs
     rw [hl2, ← hl3]; rfl
 · have q := of_decide_eq_false q
   obtain rfl : c = 256 := by omega
   refine (end_cs _ z256 _ _ _ s acc nx).mpr ⟨HF_inA _, .dat (HF_bl _), .dat (HF_ro _), HF_inA _, rfl, ?_⟩
   rw [← hk]
theorem cp_walk {a b : AU} (h : OkA a) (h2 : OkA b) : WalkF env Proofs.Tryd.f23 [.pointer (some ⟨0, 0, none⟩), cKp 1 2] (hCp0 z256 a.1 a.2.1 a.2.2 b.1 b.2.1 b.2.2) (.tuple ⟨[]⟩) (hCpE (clsC (keyP a.2.2 b.2.2) 256) (clsI (keyP a.2.2 b.2.2) 256) a.1 a.2.1 a.2.2 b.1 b.2.1 b.2.2) := by
 obtain ⟨s, acc, nx⟩ := a
 obtain ⟨s2, acc2, nx2⟩ := b
 refine sxFnF_walk XCl_ok (d := 2) (ns := []) (zs := []) (ws := []) ((jCp_nf _ z256 s acc nx s2 acc2 nx2).mpr ⟨HF_inA _, .dat (HF_bl _), .dat (HF_ro _), .dat (HF_bl _), .dat (HF_ro _), HF_inA [], HF_inA [], ?_⟩)
 generalize hk : keyP nx nx2 = key
 refine LAtZ.stepF XCl_ok [(.cell 0 256, 3, 1)] [] [] [0, 1, 4, 10] (by kernel_rfl) (fun k F A => ∃ c : Nat, F = frCp c ∧ A = hCp (clsC key c) (clsI key c) (clsK key c) s acc nx s2 acc2 nx2 ∧ c + k = 256) ?_ (k := 256) ⟨0, rfl, rfl, by omega⟩
 rintro k F A ⟨c, rfl, rfl, hck⟩
 have hlen := clsF_len key c
 have hl2 := clsI_len key c
 have hl3 := clsK_len key c
 refine (jCpL_nf _ _ z256 _ _ _ s acc nx s2 acc2 nx2 c).mpr (Sp.intro (fun q => ?_) (fun q => ?_))
 · have q := of_decide_eq_true q
   rw [roV_de, roV_de, Int.toNat_natCast, hk]
   have e0 : Vs (ByteArray.mk (Array.mk (key c))) = kS (key c) := rfl
   rw [e0, hl2, ← hl3, mhS_e]
   refine ⟨⟨.dat (HF_bl _), .dat (HF_ro _), .dat (HF_bl _), .dat (HF_ro _), .dat (HF_bl _), .dat (HF_ro _), .dat (HF_bl _), .dat (HF_ro _), ⟨by rw [blV_de]; rfl, by rw [blV_de]; exact h⟩, ⟨by rw [blV_de]; rfl, by rw [blV_de]; exact h2⟩, by omega, by omega⟩, (lookS _ _).trans (by rw [mhS_e]), Sp.intro (fun g => ?_) (fun g => ?_)⟩
   · have g : ¬ key c ∈ clsK key c := by simpa using g
     rw [msS_e _ _ g, mnS_e _ _ g, inV_set, show [Vi (c : Int)] = inV [(c : Int)] from rfl, inV_app, i64_in (x := (c : Int) + 1) (by omega) (by omega)]
     refine ⟨updS_e _ _ g, ⟨rfl, by rw [inV_len]; omega, by omega, by omega⟩, ⟨by omega, by omega⟩, by omega, HF_inA _, .dat (HF_bl _), .dat (HF_ro _), .dat (HF_bl _), .dat (HF_ro _), HF_enS _, HF_inA _, k - 1, by omega, c + 1, rfl, ?_, by omega⟩
     rw [clsC_new g, clsI_new g, clsK_new g]
     unfold hCp
     rw [show (clsI key c ++ [(c : Int)]).length = (clsK key c).length + 1 by rw [List.length_append, hl2, ← hl3]; rfl, ← hl3]; rfl
   · have g : key c ∈ clsK key c := by simpa using g
     rw [mgS_e _ _ g, inV_set, i64_in (x := (c : Int) + 1) (by omega) (by omega)]
     refine ⟨⟨by omega, by omega⟩, by omega, HF_inA _, .dat (HF_bl _), .dat (HF_ro _), .dat (HF_bl _), .dat (HF_ro _), HF_enS _, HF_inA _, k - 1, by omega, c + 1, rfl, ?_, by omega⟩
     rw [show clsC key (c + 1) = (clsC key c).set c (idN (clsK key c) (key c) : Nat) from rfl, clsI_old g, clsK_old g]
     unfold hCp
     rw [hl2, ← hl3]; rfl
 · have q := of_decide_eq_false q
   obtain rfl : c = 256 := by omega
   refine (end_cp _ z256 _ _ _ s acc nx s2 acc2 nx2).mpr ⟨HF_inA _, .dat (HF_bl _), .dat (HF_ro _), .dat (HF_bl _), .dat (HF_ro _), HF_inA _, rfl, ?_⟩
   rw [← hk]
end
end Go.T9
namespace Go.T9
section
variable {S : Type} [DecidableEq S]
theorem addS_snoc (s : S) : ∀ (l q : List S), addS q (l ++ [s]) = if s ∈ addS q l then addS q l else addS q l ++ [s]
 | [], q => by by_cases h : s ∈ q <;> simp [addS, h]
 | x :: l, q => by
   simp only [List.cons_append, addS]
   split <;> exact addS_snoc s l _
def nums (ks l : List S) : List Int := l.map fun s => ((idN ks s : Nat) : Int)
theorem nums_app {ks l : List S} (r : List S) (h : ∀ s ∈ l, s ∈ ks) : nums (ks ++ r) l = nums ks l := by
 unfold nums
 exact List.map_congr_left fun s hs => by rw [idN_app r (h s hs)]
theorem nums_len (ks l : List S) : (nums ks l).length = l.length := List.length_map _
def rowsT (sc : S → List S) (ks : List S) (i : Nat) : List (List Int) := (ks.take i).map fun k => nums ks (sc k)
structure EI (sc : S → List S) (P : S → Prop) (N : Nat) (st : S) (ks : List S) (i : Nat) : Prop where
 nd : ks.Nodup
 inp : ∀ k ∈ ks, P k
 le : i ≤ ks.length
 hd : ks[0]? = some st
 cl : ∀ j k, j < i → ks[j]? = some k → ∀ s ∈ sc k, s ∈ ks
 fin : exS sc (N - i) ks i = exS sc N [st] 0
theorem EI.init {sc : S → List S} {P : S → Prop} {N : Nat} {st : S} (h : P st) : EI sc P N st [st] 0 :=
 ⟨by simp, fun k hk => by simp at hk; subst hk; exact h, by simp, rfl, fun j k hj => by omega, rfl⟩
theorem rowsT_ext {sc : S → List S} {ks r : List S} {i : Nat} (hi : i ≤ ks.length) (h : ∀ j k, j < i → ks[j]? = some k → ∀ s ∈ sc k, s ∈ ks) : rowsT sc (ks ++ r) i = rowsT sc ks i := by
 unfold rowsT
 rw [List.take_append_of_le_length hi]
 refine List.map_congr_left fun k hk => ?_
 obtain ⟨j, hj, e⟩ := List.mem_iff_getElem.1 hk
 rw [List.length_take] at hj
 refine nums_app r (h j k (by omega) ?_)
 rw [List.getElem_take] at e
 rw [List.getElem?_eq_getElem (by omega), e]
theorem EI.step {sc : S → List S} {P : S → Prop} {N : Nat} {st : S} {ks : List S} {i : Nat} (h : EI sc P N st ks i) (hp : ∀ k, P k → ∀ s ∈ sc k, P s) {k : S} (hk : ks[i]? = some k) (hN : i < N) :
 EI sc P N st (addS ks (sc k)) (i + 1) ∧ rowsT sc (addS ks (sc k)) (i + 1) = rowsT sc ks i ++ [nums (addS ks (sc k)) (sc k)] := by
 have hi : i < ks.length := (List.getElem?_eq_some_iff.1 hk).1
 have hki : ks[i] = k := (List.getElem?_eq_some_iff.1 hk).2
 obtain ⟨r, hr⟩ := addS_pre (sc k) ks
 have hcl : ∀ j k', j < i + 1 → (addS ks (sc k))[j]? = some k' → ∀ s ∈ sc k', s ∈ addS ks (sc k) := fun j k' hj hj2 s hs => by
  rw [hr, List.getElem?_append_left (by omega)] at hj2
  rcases Nat.lt_or_ge j i with q | q
  · exact addS_old (h.cl j k' q hj2 s hs)
  · obtain rfl : j = i := by omega
    rw [hk] at hj2
    cases hj2
    exact addS_new hs
 refine ⟨⟨addS_nodup h.nd, fun x hx => ?_, ?_, ?_, hcl, ?_⟩, ?_⟩
 · rcases addS_mem hx with q | q
   · exact h.inp x q
   · exact hp k (h.inp k (List.mem_of_getElem? hk)) x q
 · rw [hr, List.length_append]; omega
 · rw [hr, List.getElem?_append_left (by omega)]; exact h.hd
 · rw [← h.fin]
   obtain ⟨m, hm⟩ : ∃ m, N - i = m + 1 := ⟨N - i - 1, by omega⟩
   rw [hm, show N - (i + 1) = m by omega]
   show _ = (match ks[i]? with | none => ks | some s => exS sc m (addS ks (sc s)) (i + 1))
   rw [hk]
 · have e1 : rowsT sc (addS ks (sc k)) i = rowsT sc ks i := by rw [hr]; exact rowsT_ext h.le h.cl
   have hi2 : i < (addS ks (sc k)).length := by rw [hr, List.length_append]; omega
   have hk2 : (addS ks (sc k))[i] = k := by
    have : (addS ks (sc k))[i]? = some k := by rw [hr, List.getElem?_append_left hi]; exact hk
    exact (List.getElem?_eq_some_iff.1 this).2
   rw [← e1]
   unfold rowsT
   rw [List.take_succ_eq_append_getElem hi2, List.map_append, hk2]; rfl
theorem EI.done {sc : S → List S} {P : S → Prop} {N : Nat} {st : S} {ks : List S} {i : Nat} (h : EI sc P N st ks i) (hi : ks.length ≤ i) (hN : ks.length < N) : i = ks.length ∧ ks = exS sc N [st] 0 := by
 have hle := h.le
 have e : i = ks.length := by omega
 refine ⟨e, ?_⟩
 rw [← h.fin]
 obtain ⟨m, hm⟩ : ∃ m, N - i = m + 1 := ⟨N - i - 1, by omega⟩
 rw [hm]
 show _ = (match ks[i]? with | none => ks | some s => exS sc m (addS ks (sc s)) (i + 1))
 rw [List.getElem?_eq_none hi]
end
theorem pairs_le (l : List (Int × Int)) (hd : l.Nodup) (h : ∀ k ∈ l, (0 ≤ k.1 ∧ k.1 < 300) ∧ 0 ≤ k.2 ∧ k.2 < 300) : l.length ≤ 90000 := by
 have h1 := nodup_le 90000 (l.map fun k => k.1.toNat * 300 + k.2.toNat) ?_ fun x hx => ?_
 · simpa using h1
 · refine List.Pairwise.map _ ?_ (List.Pairwise.and_mem.1 hd)
   rintro ⟨a, b⟩ ⟨c, d⟩ ⟨h1, h2, hne⟩ he
   have g1 := h _ h1
   have g2 := h _ h2
   dsimp only at g1 g2 he
   exact hne (by rw [Prod.mk.injEq]; omega)
 · obtain ⟨k, hk, rfl⟩ := List.mem_map.1 hx
   have := h k hk
   omega
end Go.T9
namespace Go.T9
open Go Go.AM Go.MK
noncomputable section
abbrev PR := Int × Int
def prV (k : PR) : Value := .agg ⟨[.int .i64 k.1, .int .i64 k.2]⟩
def coX1 : List Value → Option Value
 | [.bool x, .bool y] => some (.bool (bif y then !x else false))
 | _ => none
def XCv : SX := ⟨env, [], noEl, fun _ => .unroll 0⟩
theorem XCv_ok : XCv.Ok := ⟨env_ok, env_sym, env_gl, .nil⟩
def jCv (K : KV) (x y : Bool) : Prop := sxFnF XCv 1 Proofs.Tryd.f34 [.bool x, .bool y] ⟨.leaf, 0⟩ K
def fnO : AObj := .cells [.func (.func 34) ⟨[]⟩ ⟨[]⟩] 87
def hA3 (s : Int) (acc : List Bool) (nx : List (List Int)) (s2 : Int) (acc2 : List Bool) (nx2 : List (List Int)) : AH := ⟨(.node (.node .leaf (some (auC s acc nx)) .leaf) (some (fnO)) (.node .leaf (some (auC s2 acc2 nx2)) .leaf)), 3⟩
def XSp : SX := ⟨env, [], elT [11, 20] [], fun _ => .unroll 0⟩
theorem XSp_ok : XSp.Ok := ⟨env_ok, env_sym, env_gl, .nil⟩
def XSs : SX := ⟨env, [], elT [10] [], fun _ => .unroll 0⟩
theorem XSs_ok : XSs.Ok := ⟨env_ok, env_sym, env_gl, .nil⟩
def XAs : SX := ⟨env, [], elB, fun _ => .unroll 0⟩
theorem XAs_ok : XAs.Ok := ⟨env_ok, env_sym, env_gl, .nil⟩
def XAp : SX := ⟨env, [(34, pureR (fun _ => none) coX1)], elB, fun _ => .unroll 0⟩
def jSp (K : KV) (x y c : Int) (s : Int) (acc : List Bool) (nx : List (List Int)) (s2 : Int) (acc2 : List Bool) (nx2 : List (List Int)) : Prop := sxFnF XSp 1 Proofs.Tryd.f67 [.agg ⟨[.int .i64 x, .int .i64 y]⟩, .int .i64 c, .pointer (some ⟨0, 0, none⟩), .pointer (some ⟨1, 0, none⟩)] (hA2 s acc nx s2 acc2 nx2) K
def jSs (K : KV) (x y c : Int) (s : Int) (acc : List Bool) (nx : List (List Int)) : Prop := sxFnF XSs 1 Proofs.Tryd.f72 [.agg ⟨[.int .i64 x, .int .i64 y]⟩, .int .i64 c, .pointer (some ⟨0, 0, none⟩)] (hA1 s acc nx) K
def jAs (K : KV) (x y : Int) (s : Int) (acc : List Bool) (nx : List (List Int)) : Prop := sxFnF XAs 1 Proofs.Tryd.f71 [.agg ⟨[.int .i64 x, .int .i64 y]⟩, .pointer (some ⟨0, 0, none⟩)] (hA1 s acc nx) K
def jAp (K : KV) (x y : Int) (s : Int) (acc : List Bool) (nx : List (List Int)) (s2 : Int) (acc2 : List Bool) (nx2 : List (List Int)) : Prop := sxFnF XAp 1 Proofs.Tryd.f65 [.agg ⟨[.int .i64 x, .int .i64 y]⟩, .pointer (some ⟨0, 0, none⟩), .pointer (some ⟨1, 0, none⟩), .pointer (some ⟨2, 0, none⟩)] (hA3 s acc nx s2 acc2 nx2) K
end
end Go.T9

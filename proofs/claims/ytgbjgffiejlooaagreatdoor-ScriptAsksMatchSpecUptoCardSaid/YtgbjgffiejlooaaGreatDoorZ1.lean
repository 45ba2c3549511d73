/- A part of the proof. -/
import Derived.Test.YtgbjgffiejlooaaGreatDoorY2
import Derived.KernelRfl
set_option linter.unusedVariables false
set_option linter.unusedSimpArgs false
namespace Go.T9
abbrev EN := Bool × Int × Int
abbrev RU := EN × EN
abbrev SP := Int × Int × Bool × Int × Int × Bool
def bx : Int := 2000000000000000
def farI : Int := 1000000000000001
def tmP (a b : Int) : Int := min (a * b) bx
def bhE (e f : EN) : EN := bif e.1 && f.1 then (true, min (e.2.1 + f.2.1) bx, min (e.2.2 + f.2.2) bx) else (false, 0, 0)
def orE (e f : EN) : EN := bif !e.1 then f else bif !f.1 then e else (true, min e.2.1 f.2.1, max e.2.2 f.2.2)
def svE (e : EN) (a b : Int) : EN := bif decide (b = 0) then (true, 0, 0) else bif !e.1 && decide (0 < a) then (false, 0, 0) else bif !e.1 then (true, 0, 0) else (true, tmP e.2.1 a, tmP e.2.2 b)
def bhU (r s : RU) : RU := (bhE r.1 s.1, orE r.2 (bhE r.1 s.2))
def orU (r s : RU) : RU := (orE r.1 s.1, orE r.2 s.2)
def svU (r : RU) (a b : Int) : RU := (svE r.1 a b, bif decide (0 < b) then bhE (svE r.1 0 (b - 1)) r.2 else (false, 0, 0))
def plR (a b : Int) : Int := min (a + b) farI
def tmR (a b : Int) : Int := min (a * b) farI
def enR (s : SP) (lo hi : Int) : SP := bif !s.2.2.2.2.2 then (s.1, s.2.1, s.2.2.1, lo, hi, true) else (s.1, s.2.1, s.2.2.1, min s.2.2.2.1 lo, max s.2.2.2.2.1 hi, true)
def thR0 (a b : SP) : SP := bif a.2.2.1 || b.2.2.1 then (0, 0, true, a.2.2.2.1, a.2.2.2.2.1, a.2.2.2.2.2) else (plR a.1 b.1, plR a.2.1 b.2.1, false, a.2.2.2.1, a.2.2.2.2.1, a.2.2.2.2.2)
def thR (a b : SP) : SP := bif !a.2.2.1 && b.2.2.2.2.2 then enR (thR0 a b) (plR a.1 b.2.2.2.1) (plR a.2.1 b.2.2.2.2.1) else thR0 a b
def eiR0 (a b : SP) : SP := bif a.2.2.1 then (b.1, b.2.1, a.2.2.1 && b.2.2.1, 0, 0, false) else bif b.2.2.1 then (a.1, a.2.1, a.2.2.1 && b.2.2.1, 0, 0, false) else (min a.1 b.1, max a.2.1 b.2.1, a.2.2.1 && b.2.2.1, 0, 0, false)
def eiS (o s : SP) : SP := bif s.2.2.2.2.2 then enR o s.2.2.2.1 s.2.2.2.2.1 else o
def eiR (a b : SP) : SP := eiS (eiS (eiR0 a b) a) b
def reR (k : SP) (n : Int) : SP := bif decide (n = 0) then (0, 0, false, 0, 0, false) else
 let o : SP := bif !k.2.2.1 then (tmR k.1 n, tmR k.2.1 n, k.2.2.1, 0, 0, false) else (0, 0, k.2.2.1, 0, 0, false)
 bif k.2.2.2.2.2 then (bif !k.2.2.1 then enR (enR o k.2.2.2.1 k.2.2.2.2.1) k.2.2.2.1 (plR (tmR k.2.1 (n - 1)) k.2.2.2.2.1) else enR o k.2.2.2.1 k.2.2.2.2.1) else o
def capI (x : Int) : Int := min x farI
def InE (e : EN) : Prop := 0 ≤ e.2.1 ∧ e.2.1 ≤ e.2.2 ∧ e.2.2 ≤ bx ∧ (e.1 = false → e.2.1 = 0 ∧ e.2.2 = 0)
def InU (r : RU) : Prop := InE r.1 ∧ InE r.2
def spO (r : RU) : SP := (capI r.1.2.1, capI r.1.2.2, !r.1.1, capI r.2.2.1, capI r.2.2.2, r.2.1)
theorem kr {a b : Int} (ha : 0 ≤ a) (hb : 0 ≤ b) : capI (tmP a b) = tmR (capI a) b := by
 unfold capI tmP tmR bx farI
 by_cases h : a ≤ 1000000000000001
 · rw [show min a 1000000000000001 = a by omega]; omega
 · rw [show min a 1000000000000001 = 1000000000000001 by omega]
   by_cases h0 : b = 0
   · subst h0; rw [Int.mul_zero, Int.mul_zero]; omega
   · have h1 : a * 1 ≤ a * b := Int.mul_le_mul_of_nonneg_left (by omega) ha
     have h2 : (1000000000000001 : Int) * 1 ≤ 1000000000000001 * b := Int.mul_le_mul_of_nonneg_left (by omega) (by omega)
     omega
theorem p6 {a b c d : Int} (h0 : 0 ≤ a) (h1 : a ≤ c) (h2 : 0 ≤ b) (h3 : b ≤ d) : 0 ≤ tmP a b ∧ tmP a b ≤ tmP c d ∧ tmP c d ≤ bx := by
 have e1 : 0 ≤ a * b := Int.mul_nonneg h0 h2
 have e2 : a * b ≤ c * d := Int.mul_le_mul h1 h3 h2 (by omega)
 unfold tmP bx; omega
theorem zN {e f : EN} (he : InE e) (hf : InE f) : InE (bhE e f) := by
 obtain ⟨b1, l1, m1⟩ := e; obtain ⟨b2, l2, m2⟩ := f
 unfold InE at *; unfold bhE
 cases b1 <;> cases b2 <;> simp [bx] at * <;> omega
theorem wi {e f : EN} (he : InE e) (hf : InE f) : InE (orE e f) := by
 obtain ⟨b1, l1, m1⟩ := e; obtain ⟨b2, l2, m2⟩ := f
 unfold InE at *; unfold orE
 cases b1 <;> cases b2 <;> simp [bx] at * <;> omega
theorem vn {e : EN} (he : InE e) {a b : Int} (ha : 0 ≤ a) (hb : a ≤ b) : InE (svE e a b) := by
 obtain ⟨b1, l1, m1⟩ := e
 obtain ⟨h1, h2, h3, h4⟩ := he
 have ht := p6 h1 h2 ha hb
 unfold InE svE
 by_cases hz : b = 0
 · simp [hz, bx]
 · cases b1
   · by_cases hp : 0 < a <;> simp [hz, hp, bx]
   · simp [hz]; exact ht
theorem pF {r s : RU} (hr : InU r) (hs : InU s) : InU (bhU r s) := ⟨zN hr.1 hs.1, wi hr.2 (zN hr.1 hs.2)⟩
theorem lg {r s : RU} (hr : InU r) (hs : InU s) : InU (orU r s) := ⟨wi hr.1 hs.1, wi hr.2 hs.2⟩
theorem nu {r : RU} (hr : InU r) {a b : Int} (ha : 0 ≤ a) (hb : a ≤ b) : InU (svU r a b) := by
 refine ⟨vn hr.1 ha hb, ?_⟩
 show InE (bif decide (0 < b) then bhE (svE r.1 0 (b - 1)) r.2 else (false, 0, 0))
 by_cases h : 0 < b
 · rw [decide_eq_true h]; exact zN (vn hr.1 (by omega) (by omega)) hr.2
 · rw [decide_eq_false h]; simp [InE, bx]
theorem uX {r s : RU} (hr : InU r) (hs : InU s) : spO (bhU r s) = thR (spO r) (spO s) := by
 obtain ⟨⟨b1, l1, m1⟩, ⟨b2, l2, m2⟩⟩ := r
 obtain ⟨⟨b3, l3, m3⟩, ⟨b4, l4, m4⟩⟩ := s
 unfold InU InE at hr hs
 unfold spO bhU bhE orE thR thR0 enR plR capI farI
 cases b1 <;> cases b2 <;> cases b3 <;> cases b4 <;> simp [bx] at * <;> omega
theorem kh {r s : RU} (hr : InU r) (hs : InU s) : spO (orU r s) = eiR (spO r) (spO s) := by
 obtain ⟨⟨b1, l1, m1⟩, ⟨b2, l2, m2⟩⟩ := r
 obtain ⟨⟨b3, l3, m3⟩, ⟨b4, l4, m4⟩⟩ := s
 unfold InU InE at hr hs
 unfold spO orU orE eiR eiS eiR0 enR capI farI
 cases b1 <;> cases b2 <;> cases b3 <;> cases b4 <;> simp [bx] at * <;> omega
theorem nP {r : RU} (hr : InU r) {n : Int} (hn : 0 ≤ n) : spO (svU r n n) = reR (spO r) n := by
 obtain ⟨⟨b1, l1, m1⟩, ⟨b2, l2, m2⟩⟩ := r
 obtain ⟨⟨h1, h2, h3, h4⟩, h5, h6, h7, h8⟩ := hr
 have c1 := kr h1 hn
 have c2 := kr (Int.le_trans h1 h2) hn
 dsimp only at *
 by_cases h0 : n = 0
 · subst h0
   simp [spO, svU, svE, reR, capI, farI]; omega
 have hp : 0 < n := by omega
 have c3 := kr (Int.le_trans h1 h2) (b := n - 1) (by omega)
 have t0 := p6 (a := l1) (b := 0) (c := m1) (d := n - 1) h1 h2 (by omega) (by omega)
 have t1 : tmP l1 0 = 0 := by unfold tmP bx; rw [Int.mul_zero]; omega
 have t2 := p6 (a := m1) (b := n - 1) (c := m1) (d := n - 1) (Int.le_trans h1 h2) (Int.le_refl _) (by omega) (by omega)
 unfold spO svU svE reR bhE enR plR
 dsimp only
 rw [decide_eq_false h0, decide_eq_true hp]
 by_cases hq : n - 1 = 0
 · have e1 : n = 1 := by omega
   subst e1
   have t3 : tmR (capI m1) (1 - 1) = 0 := by show tmR _ 0 = 0; unfold tmR farI; rw [Int.mul_zero]; omega
   rw [t3]
   cases b1 <;> cases b2 <;> simp [c1, c2] at * <;> (try simp only [capI, farI, bx] at *) <;> omega
 · rw [decide_eq_false hq, t1]
   cases b1 <;> cases b2 <;> simp [c1, c2] at * <;> (try rw [← c3]) <;> (try simp only [capI, farI, bx] at *) <;> omega
def asP (r : RU) : Int × Int × Int := bif decide (1000000000000000 < (orE r.1 r.2).2.1) || decide (1000000000000000 < (orE r.1 r.2).2.2) then (0, 0, 3) else ((orE r.1 r.2).2.1, (orE r.1 r.2).2.2, 0)
def asR2 (s : SP) : Int × Int := bif s.2.2.1 then (s.2.2.2.1, s.2.2.2.2.1) else bif s.2.2.2.2.2 then (min s.1 s.2.2.2.1, max s.2.1 s.2.2.2.2.1) else (s.1, s.2.1)
def asR (s : SP) : Int × Int × Int := bif decide (1000000000000000 < (asR2 s).1) || decide (1000000000000000 < (asR2 s).2) then (0, 0, 3) else ((asR2 s).1, (asR2 s).2, 0)
theorem zQ {r : RU} (hr : InU r) : asP r = asR (spO r) := by
 obtain ⟨⟨b1, l1, m1⟩, ⟨b2, l2, m2⟩⟩ := r
 unfold InU InE at hr
 have key : ∀ x y : Int, 0 ≤ x → x ≤ y → (bif decide (1000000000000000 < x) || decide (1000000000000000 < y) then ((0, 0, 3) : Int × Int × Int) else (x, y, 0)) = bif decide (1000000000000000 < min x farI) || decide (1000000000000000 < min y farI) then (0, 0, 3) else (min x farI, min y farI, 0) := fun x y h1 h2 => by
  unfold farI
  by_cases h : 1000000000000000 < y
  · rw [decide_eq_true h, decide_eq_true (show 1000000000000000 < min y 1000000000000001 by omega), Bool.or_true, Bool.or_true]; rfl
  · rw [decide_eq_false h, decide_eq_false (show ¬ 1000000000000000 < x by omega), decide_eq_false (show ¬ 1000000000000000 < min y 1000000000000001 by omega), decide_eq_false (show ¬ 1000000000000000 < min x 1000000000000001 by omega)]
    rw [show min x 1000000000000001 = x by omega, show min y 1000000000000001 = y by omega]
 unfold asP asR
 have e : asR2 (spO ((b1, l1, m1), b2, l2, m2)) = (min (orE (b1, l1, m1) (b2, l2, m2)).2.1 farI, min (orE (b1, l1, m1) (b2, l2, m2)).2.2 farI) := by
  unfold asR2 spO orE capI farI
  cases b1 <;> cases b2 <;> simp [bx] at * <;> omega
 rw [e]
 refine key _ _ ?_ ?_
 · unfold orE; cases b1 <;> cases b2 <;> simp [bx] at * <;> omega
 · unfold orE; cases b1 <;> cases b2 <;> simp [bx] at * <;> omega
end Go.T9
set_option maxRecDepth 1000000
set_option maxHeartbeats 1000000
namespace Go.T9
open Go Go.AM Go.MK Go.Proofs.Tryz
noncomputable section
def XD0 : SX := ⟨envX, [], noEl, fun _ => .unroll 3⟩
theorem g9 : XD0.Ok := ⟨ag, aw, ah, .nil⟩
def enL (b : Bool) (l m : Int) : Value := .agg ⟨[.bool b, .int .i64 l, .int .i64 m]⟩
def enV (e : EN) : Value := enL e.1 e.2.1 e.2.2
def jTm (Q : Value → Prop) (QA : KV) (a b : Int) : Prop := sxFn XD0 1 f198 [.int .i64 a, .int .i64 b] (au Q QA)
def jBe (Q : Value → Prop) (QA : KV) (b1 : Bool) (l1 m1 : Int) (b2 : Bool) (l2 m2 : Int) : Prop := sxFn XD0 1 f88 [enL b1 l1 m1, enL b2 l2 m2] (au Q QA)
def jOe (Q : Value → Prop) (QA : KV) (b1 : Bool) (l1 m1 : Int) (b2 : Bool) (l2 m2 : Int) : Prop := sxFn XD0 1 f29 [enL b1 l1 m1, enL b2 l2 m2] (au Q QA)
def spL (l m : Int) (n : Bool) (lo hi : Int) (e : Bool) : Value := .agg ⟨[.int .i64 l, .int .i64 m, .bool n, .int .i64 lo, .int .i64 hi, .bool e]⟩
def spV (s : SP) : Value := spL s.1 s.2.1 s.2.2.1 s.2.2.2.1 s.2.2.2.2.1 s.2.2.2.2.2
def jPl (Q : Value → Prop) (QA : KV) (a b : Int) : Prop := sxFn XD0 1 f91 [.int .i64 a, .int .i64 b] (au Q QA)
def jTr6 (Q : Value → Prop) (QA : KV) (a b : Int) : Prop := sxFn XD0 1 f159 [.int .i64 a, .int .i64 b] (au Q QA)
def jSe (Q : Value → Prop) (QA : KV) (l m : Int) (n : Bool) (lo hi : Int) (e : Bool) (a b : Int) : Prop := sxFn XD0 1 f92 [spL l m n lo hi e, .int .i64 a, .int .i64 b] (au Q QA)
theorem jTm_nf (Q : Value → Prop) (QA : KV) (a b : Int) : jTm Q QA a b = (Sp (decide (0 < a)) (NZ a ∧ Sp (decide (Wi (Int.tdiv 2000000000000000 a) < b)) (Q (Vi 2000000000000000)) (Q (Vi (Wi (a * b))))) (Q (Vi (Wi (a * b))))) := by kernel_rfl
theorem jBe_nf (Q : Value → Prop) (QA : KV) (b1 : Bool) (l1 m1 : Int) (b2 : Bool) (l2 m2 : Int) : jBe Q QA b1 l1 m1 b2 l2 m2 = (Sp (!b1) (Q (Va [Vb false, Vi 0, Vi 0])) (Sp (!b2) (Q (Va [Vb false, Vi 0, Vi 0])) (Q (Va [Vb true, Vi (Min.min (IntKind.wrap .i64 (l1 + l2)) 2000000000000000), Vi (Min.min (IntKind.wrap .i64 (m1 + m2)) 2000000000000000)])))) := by kernel_rfl
theorem jOe_nf (Q : Value → Prop) (QA : KV) (b1 : Bool) (l1 m1 : Int) (b2 : Bool) (l2 m2 : Int) : jOe Q QA b1 l1 m1 b2 l2 m2 = (Sp (!b1) (Q (Va [Vb b2, Vi l2, Vi m2])) (Sp (!b2) (Q (Va [Vb b1, Vi l1, Vi m1])) (Q (Va [Vb true, Vi (Min.min l1 l2), Vi (Max.max m1 m2)])))) := by kernel_rfl
theorem jPl_nf (Q : Value → Prop) (QA : KV) (a b : Int) : jPl Q QA a b = (Q (Vi (Min.min (IntKind.wrap .i64 (a + b)) 1000000000000001))) := by kernel_rfl
theorem wW (Q : Value → Prop) (QA : KV) (a b : Int) : jTr6 Q QA a b = (Sp (decide (0 < a)) (NZ a ∧ Sp (decide (IntKind.wrap .i64 (Int.tdiv 1000000000000000 a) < b)) (Q (Vi 1000000000000001)) (Q (Vi (IntKind.wrap .i64 (a * b))))) (Q (Vi (IntKind.wrap .i64 (a * b))))) := by kernel_rfl
theorem jSe_nf (Q : Value → Prop) (QA : KV) (l m : Int) (n : Bool) (lo hi : Int) (e : Bool) (a b : Int) : jSe Q QA l m n lo hi e a b = (Sp (!e) (Q (Va [Vi l, Vi m, Vb n, Vi a, Vi b, Vb true])) (Q (Va [Vi l, Vi m, Vb n, Vi (Min.min lo a), Vi (Max.max hi b), Vb e]))) := by kernel_rfl
theorem u4 {L a b : Int} (hL : 0 ≤ L) (ha : 0 < a) : Int.tdiv L a < b ↔ L < a * b := by
 rw [Int.tdiv_eq_ediv_of_nonneg hL, Int.ediv_lt_iff_lt_mul ha, Int.mul_comm]
theorem u5 {L a : Int} (hL : 0 ≤ L) (ha : 0 < a) : 0 ≤ Int.tdiv L a ∧ Int.tdiv L a ≤ L := by
 rw [Int.tdiv_eq_ediv_of_nonneg hL]
 exact ⟨Int.ediv_nonneg hL (by omega), Int.ediv_le_self _ hL⟩
theorem jE (e : EN) : HF (enV e) := .agg (HF.cons (HFb _) (HF.cons (HFi _ _) (HF.cons (HFi _ _) HF.nil)))
theorem eJ (s : SP) : HF (spV s) := .agg (HF.cons (HFi _ _) (HF.cons (HFi _ _) (HF.cons (HFb _) (HF.cons (HFi _ _) (HF.cons (HFi _ _) (HF.cons (HFb _) HF.nil))))))
theorem gE {L M a b : Int} (hL : 0 ≤ L) (hL2 : L ≤ 2000000000000000) (hM : M = L ∨ M = L + 1) (ha : 0 ≤ a) (hb : 0 ≤ b) {Q : Value → Prop} (hQ : Q (.int .i64 (min (a * b) M))) :
 Sp (decide (0 < a)) (NZ a ∧ Sp (decide (IntKind.i64.wrap (Int.tdiv L a) < b)) (Q (.int .i64 M)) (Q (.int .i64 (IntKind.i64.wrap (a * b))))) (Q (.int .i64 (IntKind.i64.wrap (a * b)))) := by
 refine Sp.intro (fun h => ?_) (fun h => ?_)
 · have h := odt h
   have h1 := u5 hL h
   have h2 := u4 (b := b) hL h
   have hw : IntKind.i64.wrap (Int.tdiv L a) = Int.tdiv L a := aB (by omega) (by omega)
   rw [hw]
   refine ⟨by unfold NZ; omega, Sp.intro (fun g => ?_) (fun g => ?_)⟩
   · have g := h2.1 (odt g)
     rw [show min (a * b) M = M by omega] at hQ; exact hQ
   · have g : ¬ L < a * b := fun q => odf g (h2.2 q)
     have h3 : 0 ≤ a * b := Int.mul_nonneg ha hb
     rw [aB (x := a * b) (by omega) (by omega)]
     rw [show min (a * b) M = a * b by omega] at hQ; exact hQ
 · have h : a = 0 := by have := odf h; omega
   subst h
   rw [Int.zero_mul] at hQ ⊢
   rw [aB (x := 0) (by omega) (by omega)]
   rw [show min 0 M = 0 by omega] at hQ; exact hQ
theorem uS {a b : Int} (ha : 0 ≤ a) (hb : 0 ≤ b) : Walk envX f198 [.int .i64 a, .int .i64 b] (.int .i64 (tmP a b)) :=
 av g9 (d := 1) (HFi _ _) ((jTm_nf _ _ a b).mpr (gE (L := 2000000000000000) (M := 2000000000000000) (Q := fun v => v = .int .i64 (tmP a b)) (by omega) (by omega) (.inl rfl) ha hb rfl))
theorem pZ {a b : Int} (ha : 0 ≤ a) (hb : 0 ≤ b) : Walk envX f159 [.int .i64 a, .int .i64 b] (.int .i64 (tmR a b)) :=
 av g9 (d := 1) (HFi _ _) ((wW _ _ a b).mpr (gE (L := 1000000000000000) (M := 1000000000000001) (Q := fun v => v = .int .i64 (tmR a b)) (by omega) (by omega) (.inr rfl) ha hb rfl))
theorem v7 {a b : Int} (ha : 0 ≤ a) (ha2 : a ≤ 4000000000000000) (hb : 0 ≤ b) (hb2 : b ≤ 4000000000000000) : Walk envX f91 [.int .i64 a, .int .i64 b] (.int .i64 (plR a b)) := by
 refine av g9 (d := 1) (HFi _ _) ((jPl_nf _ _ a b).mpr ?_)
 rw [aB (x := a + b) (by omega) (by omega)]; rfl
theorem zO {e f : EN} (he : InE e) (hf : InE f) : Walk envX f88 [enV e, enV f] (enV (bhE e f)) := by
 obtain ⟨b1, l1, m1⟩ := e; obtain ⟨b2, l2, m2⟩ := f
 obtain ⟨g1, g2, g3, _⟩ := he; obtain ⟨g4, g5, g6, _⟩ := hf
 unfold bx at g3 g6
 dsimp only at g1 g2 g3 g4 g5 g6
 refine av g9 (d := 1) (jE _) ((jBe_nf _ _ b1 l1 m1 b2 l2 m2).mpr ?_)
 rw [aB (x := l1 + l2) (by omega) (by omega), aB (x := m1 + m2) (by omega) (by omega)]
 cases b1 <;> cases b2 <;> rfl
theorem wt (e f : EN) : Walk envX f29 [enV e, enV f] (enV (orE e f)) := by
 obtain ⟨b1, l1, m1⟩ := e; obtain ⟨b2, l2, m2⟩ := f
 refine av g9 (d := 1) (jE _) ((jOe_nf _ _ b1 l1 m1 b2 l2 m2).mpr ?_)
 cases b1 <;> cases b2 <;> rfl
theorem vI (s : SP) (a b : Int) : Walk envX f92 [spV s, .int .i64 a, .int .i64 b] (spV (enR s a b)) := by
 obtain ⟨l, m, n, lo, hi, e⟩ := s
 refine av g9 (d := 1) (eJ _) ((jSe_nf _ _ l m n lo hi e a b).mpr ?_)
 cases e <;> rfl
def i2X (f : Int → Int → Int) : List Value → Option Value
 | [.int .i64 a, .int .i64 b] => some (.int .i64 (f a b))
 | _ => none
def i2P (B : Int) : List Value → Option Prop
 | [.int .i64 a, .int .i64 b] => some ((0 ≤ a ∧ a ≤ B) ∧ 0 ≤ b ∧ b ≤ B)
 | _ => none
def e2X (f : EN → EN → EN) : List Value → Option Value
 | [.agg ⟨[.bool b1, .int .i64 l1, .int .i64 m1]⟩, .agg ⟨[.bool b2, .int .i64 l2, .int .i64 m2]⟩] => some (enV (f (b1, l1, m1) (b2, l2, m2)))
 | _ => none
def e2P : List Value → Option Prop
 | [.agg ⟨[.bool b1, .int .i64 l1, .int .i64 m1]⟩, .agg ⟨[.bool b2, .int .i64 l2, .int .i64 m2]⟩] => some (InE (b1, l1, m1) ∧ InE (b2, l2, m2))
 | _ => none
def seX : List Value → Option Value
 | [.agg ⟨[.int .i64 l, .int .i64 m, .bool n, .int .i64 lo, .int .i64 hi, .bool e]⟩, .int .i64 a, .int .i64 b] => some (spV (enR (l, m, n, lo, hi, e) a b))
 | _ => none
theorem tm_tab : ∀ args A p v A', aj (i2P 4000000000000000) (i2X tmP) args A = some (p, v, A') → PH p → an envX 198 args A v A' := ai ag ah (fn := f198) rfl fun args v h hp => by
 unfold i2X at h
 split at h
 · simp only [osI] at h
   subst h
   exact ⟨HF.cons (HFi _ _) (HF.cons (HFi _ _) HF.nil), uS hp.1.1 hp.2.1⟩
 · cases h
theorem uO : ∀ args A p v A', aj (i2P 4000000000000000) (i2X tmR) args A = some (p, v, A') → PH p → an envX 159 args A v A' := ai ag ah (fn := f159) rfl fun args v h hp => by
 unfold i2X at h
 split at h
 · simp only [osI] at h
   subst h
   exact ⟨HF.cons (HFi _ _) (HF.cons (HFi _ _) HF.nil), pZ hp.1.1 hp.2.1⟩
 · cases h
theorem pl_tab : ∀ args A p v A', aj (i2P 4000000000000000) (i2X plR) args A = some (p, v, A') → PH p → an envX 91 args A v A' := ai ag ah (fn := f91) rfl fun args v h hp => by
 unfold i2X at h
 split at h
 · simp only [osI] at h
   subst h
   exact ⟨HF.cons (HFi _ _) (HF.cons (HFi _ _) HF.nil), v7 hp.1.1 hp.1.2 hp.2.1 hp.2.2⟩
 · cases h
theorem tW : ∀ args A p v A', aj e2P (e2X bhE) args A = some (p, v, A') → PH p → an envX 88 args A v A' := ai ag ah (fn := f88) rfl fun args v h hp => by
 unfold e2X at h
 split at h
 · simp only [osI] at h
   subst h
   exact ⟨HF.cons (jE (_, _, _)) (HF.cons (jE (_, _, _)) HF.nil), zO hp.1 hp.2⟩
 · cases h
theorem tt : ∀ args A p v A', aj (fun _ => none) (e2X orE) args A = some (p, v, A') → PH p → an envX 29 args A v A' := ai ag ah (fn := f29) rfl fun args v h hp => by
 unfold e2X at h
 split at h
 · simp only [osI] at h
   subst h
   exact ⟨HF.cons (jE (_, _, _)) (HF.cons (jE (_, _, _)) HF.nil), wt (_, _, _) (_, _, _)⟩
 · cases h
theorem se_tab : ∀ args A p v A', aj (fun _ => none) seX args A = some (p, v, A') → PH p → an envX 92 args A v A' := ai ag ah (fn := f92) rfl fun args v h hp => by
 unfold seX at h
 split at h
 · simp only [osI] at h
   subst h
   exact ⟨HF.cons (eJ (_, _, _, _, _, _)) (HF.cons (HFi _ _) (HF.cons (HFi _ _) HF.nil)), vI (_, _, _, _, _, _) _ _⟩
 · cases h
def ruV (r : RU) : Value := .agg ⟨[.bool r.1.1, .int .i64 r.1.2.1, .int .i64 r.1.2.2, .bool r.2.1, .int .i64 r.2.2.1, .int .i64 r.2.2.2]⟩
def tabD1 : Tab := [(198, aj (i2P 4000000000000000) (i2X tmP)), (88, aj e2P (e2X bhE)), (29, aj (fun _ => none) (e2X orE))]
theorem qx : TabOk envX tabD1 := .cons tm_tab (.cons tW (.cons tt .nil))
def XD1 : SX := ⟨envX, tabD1, noEl, fun _ => .unroll 3⟩
theorem pM : XD1.Ok := ⟨ag, aw, ah, qx⟩
def jSvE (Q : Value → Prop) (QA : KV) (e : EN) (a b : Int) : Prop := sxFn XD1 1 f158 [enV e, .int .i64 a, .int .i64 b] (au Q QA)
def jBu (Q : Value → Prop) (QA : KV) (r s : RU) : Prop := sxFn XD1 1 f53 [ruV r, ruV s] (au Q QA)
def jOu (Q : Value → Prop) (QA : KV) (r s : RU) : Prop := sxFn XD1 1 f89 [ruV r, ruV s] (au Q QA)
def tabD2 : Tab := [(159, aj (i2P 4000000000000000) (i2X tmR)), (91, aj (i2P 4000000000000000) (i2X plR)), (92, aj (fun _ => none) seX)]
theorem qw : TabOk envX tabD2 := .cons uO (.cons pl_tab (.cons se_tab .nil))
def XD2 : SX := ⟨envX, tabD2, noEl, fun _ => .unroll 3⟩
theorem pL : XD2.Ok := ⟨ag, aw, ah, qw⟩
def jTh (Q : Value → Prop) (QA : KV) (r s : SP) : Prop := sxFn XD2 1 f55 [spV r, spV s] (au Q QA)
def jEi (Q : Value → Prop) (QA : KV) (r s : SP) : Prop := sxFn XD2 1 f93 [spV r, spV s] (au Q QA)
def jRe (Q : Value → Prop) (QA : KV) (r : SP) (n : Int) : Prop := sxFn XD2 1 f94 [spV r, .int .i64 n] (au Q QA)
set_option maxHeartbeats 2000000
theorem w8 (Q : Value → Prop) (QA : KV) (e : EN) (a b : Int) : jSvE Q QA e a b = (Sp (decide (b = 0)) (Q (Va [Vb true, Vi 0, Vi 0])) (Sp (!e.1) (Sp (decide (0 < a)) (Q (Va [Vb false, Vi 0, Vi 0])) (Sp (!e.1) (Q (Va [Vb true, Vi 0, Vi 0])) (((0 ≤ e.2.1 ∧ e.2.1 ≤ 4000000000000000) ∧ 0 ≤ a ∧ a ≤ 4000000000000000) ∧ Vi e.2.2 = Vi e.2.2 ∧ ((0 ≤ e.2.2 ∧ e.2.2 ≤ 4000000000000000) ∧ 0 ≤ b ∧ b ≤ 4000000000000000) ∧ Q (Va [Vb true, Vi (tmP e.2.1 a), Vi (tmP e.2.2 b)])))) (Sp (!e.1) (Q (Va [Vb true, Vi 0, Vi 0])) (((0 ≤ e.2.1 ∧ e.2.1 ≤ 4000000000000000) ∧ 0 ≤ a ∧ a ≤ 4000000000000000) ∧ Vi e.2.2 = Vi e.2.2 ∧ ((0 ≤ e.2.2 ∧ e.2.2 ≤ 4000000000000000) ∧ 0 ≤ b ∧ b ≤ 4000000000000000) ∧ Q (Va [Vb true, Vi (tmP e.2.1 a), Vi (tmP e.2.2 b)]))))) := by kernel_rfl
theorem jBu_nf (Q : Value → Prop) (QA : KV) (r : RU) (s : RU) : jBu Q QA r s = ((InE r.1 ∧ InE s.1) ∧ enV r.2 = enV r.2 ∧ enV r.1 = enV r.1 ∧ enV s.2 = enV s.2 ∧ (InE r.1 ∧ InE s.2) ∧ enV r.2 = enV r.2 ∧ Q (Va [Vb (bhE r.1 s.1).1, Vi (bhE r.1 s.1).2.1, Vi (bhE r.1 s.1).2.2, Vb (orE r.2 (bhE r.1 s.2)).1, Vi (orE r.2 (bhE r.1 s.2)).2.1, Vi (orE r.2 (bhE r.1 s.2)).2.2])) := by kernel_rfl
theorem jOu_nf (Q : Value → Prop) (QA : KV) (r : RU) (s : RU) : jOu Q QA r s = (enV r.2 = enV r.2 ∧ enV s.2 = enV s.2 ∧ Q (Va [Vb (orE r.1 s.1).1, Vi (orE r.1 s.1).2.1, Vi (orE r.1 s.1).2.2, Vb (orE r.2 s.2).1, Vi (orE r.2 s.2).2.1, Vi (orE r.2 s.2).2.2])) := by kernel_rfl
theorem jTh_nf (Q : Value → Prop) (QA : KV) (r : SP) (s : SP) : jTh Q QA r s = (Sp r.2.2.1 (Sp (!r.2.2.1) (Sp s.2.2.2.2.2 (((0 ≤ r.1 ∧ r.1 ≤ 4000000000000000) ∧ 0 ≤ s.2.2.2.1 ∧ s.2.2.2.1 ≤ 4000000000000000) ∧ Va [Vi 0, Vi 0, Vb true, Vi r.2.2.2.1, Vi r.2.2.2.2.1, Vb r.2.2.2.2.2] = Va [Vi 0, Vi 0, Vb true, Vi r.2.2.2.1, Vi r.2.2.2.2.1, Vb r.2.2.2.2.2] ∧ Vi r.2.1 = Vi r.2.1 ∧ Vi s.2.2.2.2.1 = Vi s.2.2.2.2.1 ∧ ((0 ≤ r.2.1 ∧ r.2.1 ≤ 4000000000000000) ∧ 0 ≤ s.2.2.2.2.1 ∧ s.2.2.2.2.1 ≤ 4000000000000000) ∧ Va [Vi 0, Vi 0, Vb true, Vi r.2.2.2.1, Vi r.2.2.2.2.1, Vb r.2.2.2.2.2] = Va [Vi 0, Vi 0, Vb true, Vi r.2.2.2.1, Vi r.2.2.2.2.1, Vb r.2.2.2.2.2] ∧ Q (spV (enR (0, 0, true, r.2.2.2) (plR r.1 s.2.2.2.1) (plR r.2.1 s.2.2.2.2.1)))) (Q (Va [Vi 0, Vi 0, Vb true, Vi r.2.2.2.1, Vi r.2.2.2.2.1, Vb r.2.2.2.2.2]))) (Q (Va [Vi 0, Vi 0, Vb true, Vi r.2.2.2.1, Vi r.2.2.2.2.1, Vb r.2.2.2.2.2]))) (Sp (!s.2.2.1) (((0 ≤ r.1 ∧ r.1 ≤ 4000000000000000) ∧ 0 ≤ s.1 ∧ s.1 ≤ 4000000000000000) ∧ Vi r.2.1 = Vi r.2.1 ∧ Vi s.2.1 = Vi s.2.1 ∧ ((0 ≤ r.2.1 ∧ r.2.1 ≤ 4000000000000000) ∧ 0 ≤ s.2.1 ∧ s.2.1 ≤ 4000000000000000) ∧ Sp (!r.2.2.1) (Sp s.2.2.2.2.2 (((0 ≤ r.1 ∧ r.1 ≤ 4000000000000000) ∧ 0 ≤ s.2.2.2.1 ∧ s.2.2.2.1 ≤ 4000000000000000) ∧ Va [Vi (plR r.1 s.1), Vi (plR r.2.1 s.2.1), Vb s.2.2.1, Vi r.2.2.2.1, Vi r.2.2.2.2.1, Vb r.2.2.2.2.2] = Va [Vi (plR r.1 s.1), Vi (plR r.2.1 s.2.1), Vb s.2.2.1, Vi r.2.2.2.1, Vi r.2.2.2.2.1, Vb r.2.2.2.2.2] ∧ Vi r.2.1 = Vi r.2.1 ∧ Vi s.2.2.2.2.1 = Vi s.2.2.2.2.1 ∧ ((0 ≤ r.2.1 ∧ r.2.1 ≤ 4000000000000000) ∧ 0 ≤ s.2.2.2.2.1 ∧ s.2.2.2.2.1 ≤ 4000000000000000) ∧ Va [Vi (plR r.1 s.1), Vi (plR r.2.1 s.2.1), Vb s.2.2.1, Vi r.2.2.2.1, Vi r.2.2.2.2.1, Vb r.2.2.2.2.2] = Va [Vi (plR r.1 s.1), Vi (plR r.2.1 s.2.1), Vb s.2.2.1, Vi r.2.2.2.1, Vi r.2.2.2.2.1, Vb r.2.2.2.2.2] ∧ Q (spV (enR (plR r.1 s.1, plR r.2.1 s.2.1, s.2.2.1, r.2.2.2) (plR r.1 s.2.2.2.1) (plR r.2.1 s.2.2.2.2.1)))) (Q (Va [Vi (plR r.1 s.1), Vi (plR r.2.1 s.2.1), Vb s.2.2.1, Vi r.2.2.2.1, Vi r.2.2.2.2.1, Vb r.2.2.2.2.2]))) (Q (Va [Vi (plR r.1 s.1), Vi (plR r.2.1 s.2.1), Vb s.2.2.1, Vi r.2.2.2.1, Vi r.2.2.2.2.1, Vb r.2.2.2.2.2]))) (Sp (!r.2.2.1) (Sp s.2.2.2.2.2 (((0 ≤ r.1 ∧ r.1 ≤ 4000000000000000) ∧ 0 ≤ s.2.2.2.1 ∧ s.2.2.2.1 ≤ 4000000000000000) ∧ Va [Vi 0, Vi 0, Vb s.2.2.1, Vi r.2.2.2.1, Vi r.2.2.2.2.1, Vb r.2.2.2.2.2] = Va [Vi 0, Vi 0, Vb s.2.2.1, Vi r.2.2.2.1, Vi r.2.2.2.2.1, Vb r.2.2.2.2.2] ∧ Vi r.2.1 = Vi r.2.1 ∧ Vi s.2.2.2.2.1 = Vi s.2.2.2.2.1 ∧ ((0 ≤ r.2.1 ∧ r.2.1 ≤ 4000000000000000) ∧ 0 ≤ s.2.2.2.2.1 ∧ s.2.2.2.2.1 ≤ 4000000000000000) ∧ Va [Vi 0, Vi 0, Vb s.2.2.1, Vi r.2.2.2.1, Vi r.2.2.2.2.1, Vb r.2.2.2.2.2] = Va [Vi 0, Vi 0, Vb s.2.2.1, Vi r.2.2.2.1, Vi r.2.2.2.2.1, Vb r.2.2.2.2.2] ∧ Q (spV (enR (0, 0, s.2.2.1, r.2.2.2) (plR r.1 s.2.2.2.1) (plR r.2.1 s.2.2.2.2.1)))) (Q (Va [Vi 0, Vi 0, Vb s.2.2.1, Vi r.2.2.2.1, Vi r.2.2.2.2.1, Vb r.2.2.2.2.2]))) (Q (Va [Vi 0, Vi 0, Vb s.2.2.1, Vi r.2.2.2.1, Vi r.2.2.2.2.1, Vb r.2.2.2.2.2]))))) := by kernel_rfl
theorem jEi_nf (Q : Value → Prop) (QA : KV) (r : SP) (s : SP) : jEi Q QA r s = (Sp r.2.2.1 (Sp r.2.2.1 (Vi s.2.1 = Vi s.2.1 ∧ Sp r.2.2.2.2.2 (Sp s.2.2.2.2.2 (Q (Va [Vi s.1, Vi s.2.1, Vb s.2.2.1, Vi (Min.min r.2.2.2.1 s.2.2.2.1), Vi (Max.max r.2.2.2.2.1 s.2.2.2.2.1), Vb true])) (Q (Va [Vi s.1, Vi s.2.1, Vb s.2.2.1, Vi r.2.2.2.1, Vi r.2.2.2.2.1, Vb true]))) (Sp s.2.2.2.2.2 (Q (Va [Vi s.1, Vi s.2.1, Vb s.2.2.1, Vi s.2.2.2.1, Vi s.2.2.2.2.1, Vb true])) (Q (Va [Vi s.1, Vi s.2.1, Vb s.2.2.1, Vi 0, Vi 0, Vb false])))) (Sp s.2.2.1 (Vi r.2.1 = Vi r.2.1 ∧ Sp r.2.2.2.2.2 (Sp s.2.2.2.2.2 (Q (Va [Vi r.1, Vi r.2.1, Vb s.2.2.1, Vi (Min.min r.2.2.2.1 s.2.2.2.1), Vi (Max.max r.2.2.2.2.1 s.2.2.2.2.1), Vb true])) (Q (Va [Vi r.1, Vi r.2.1, Vb s.2.2.1, Vi r.2.2.2.1, Vi r.2.2.2.2.1, Vb true]))) (Sp s.2.2.2.2.2 (Q (Va [Vi r.1, Vi r.2.1, Vb s.2.2.1, Vi s.2.2.2.1, Vi s.2.2.2.2.1, Vb true])) (Q (Va [Vi r.1, Vi r.2.1, Vb s.2.2.1, Vi 0, Vi 0, Vb false])))) (Vi (Max.max r.2.1 s.2.1) = Vi (Max.max r.2.1 s.2.1) ∧ Vi s.2.1 = Vi s.2.1 ∧ Vi r.2.1 = Vi r.2.1 ∧ Sp r.2.2.2.2.2 (Sp s.2.2.2.2.2 (Q (Va [Vi (Min.min r.1 s.1), Vi (Max.max r.2.1 s.2.1), Vb s.2.2.1, Vi (Min.min r.2.2.2.1 s.2.2.2.1), Vi (Max.max r.2.2.2.2.1 s.2.2.2.2.1), Vb true])) (Q (Va [Vi (Min.min r.1 s.1), Vi (Max.max r.2.1 s.2.1), Vb s.2.2.1, Vi r.2.2.2.1, Vi r.2.2.2.2.1, Vb true]))) (Sp s.2.2.2.2.2 (Q (Va [Vi (Min.min r.1 s.1), Vi (Max.max r.2.1 s.2.1), Vb s.2.2.1, Vi s.2.2.2.1, Vi s.2.2.2.2.1, Vb true])) (Q (Va [Vi (Min.min r.1 s.1), Vi (Max.max r.2.1 s.2.1), Vb s.2.2.1, Vi 0, Vi 0, Vb false])))))) (Sp r.2.2.1 (Vi s.2.1 = Vi s.2.1 ∧ Sp r.2.2.2.2.2 (Sp s.2.2.2.2.2 (Q (Va [Vi s.1, Vi s.2.1, Vb false, Vi (Min.min r.2.2.2.1 s.2.2.2.1), Vi (Max.max r.2.2.2.2.1 s.2.2.2.2.1), Vb true])) (Q (Va [Vi s.1, Vi s.2.1, Vb false, Vi r.2.2.2.1, Vi r.2.2.2.2.1, Vb true]))) (Sp s.2.2.2.2.2 (Q (Va [Vi s.1, Vi s.2.1, Vb false, Vi s.2.2.2.1, Vi s.2.2.2.2.1, Vb true])) (Q (Va [Vi s.1, Vi s.2.1, Vb false, Vi 0, Vi 0, Vb false])))) (Sp s.2.2.1 (Vi r.2.1 = Vi r.2.1 ∧ Sp r.2.2.2.2.2 (Sp s.2.2.2.2.2 (Q (Va [Vi r.1, Vi r.2.1, Vb false, Vi (Min.min r.2.2.2.1 s.2.2.2.1), Vi (Max.max r.2.2.2.2.1 s.2.2.2.2.1), Vb true])) (Q (Va [Vi r.1, Vi r.2.1, Vb false, Vi r.2.2.2.1, Vi r.2.2.2.2.1, Vb true]))) (Sp s.2.2.2.2.2 (Q (Va [Vi r.1, Vi r.2.1, Vb false, Vi s.2.2.2.1, Vi s.2.2.2.2.1, Vb true])) (Q (Va [Vi r.1, Vi r.2.1, Vb false, Vi 0, Vi 0, Vb false])))) (Vi (Max.max r.2.1 s.2.1) = Vi (Max.max r.2.1 s.2.1) ∧ Vi s.2.1 = Vi s.2.1 ∧ Vi r.2.1 = Vi r.2.1 ∧ Sp r.2.2.2.2.2 (Sp s.2.2.2.2.2 (Q (Va [Vi (Min.min r.1 s.1), Vi (Max.max r.2.1 s.2.1), Vb false, Vi (Min.min r.2.2.2.1 s.2.2.2.1), Vi (Max.max r.2.2.2.2.1 s.2.2.2.2.1), Vb true])) (Q (Va [Vi (Min.min r.1 s.1), Vi (Max.max r.2.1 s.2.1), Vb false, Vi r.2.2.2.1, Vi r.2.2.2.2.1, Vb true]))) (Sp s.2.2.2.2.2 (Q (Va [Vi (Min.min r.1 s.1), Vi (Max.max r.2.1 s.2.1), Vb false, Vi s.2.2.2.1, Vi s.2.2.2.2.1, Vb true])) (Q (Va [Vi (Min.min r.1 s.1), Vi (Max.max r.2.1 s.2.1), Vb false, Vi 0, Vi 0, Vb false]))))))) := by kernel_rfl
theorem jRe_nf (Q : Value → Prop) (QA : KV) (r : SP) (n : Int) : jRe Q QA r n = (Sp (decide (n = 0)) (Q (Va [Vi 0, Vi 0, Vb false, Vi 0, Vi 0, Vb false])) (Sp (!r.2.2.1) (((0 ≤ r.1 ∧ r.1 ≤ 4000000000000000) ∧ 0 ≤ n ∧ n ≤ 4000000000000000) ∧ Vi r.2.1 = Vi r.2.1 ∧ ((0 ≤ r.2.1 ∧ r.2.1 ≤ 4000000000000000) ∧ 0 ≤ n ∧ n ≤ 4000000000000000) ∧ Sp r.2.2.2.2.2 (Sp (!r.2.2.1) (((0 ≤ r.2.1 ∧ r.2.1 ≤ 4000000000000000) ∧ 0 ≤ IntKind.wrap .i64 (n - 1) ∧ IntKind.wrap .i64 (n - 1) ≤ 4000000000000000) ∧ Vi r.2.2.2.1 = Vi r.2.2.2.1 ∧ Va [Vi (tmR r.1 n), Vi (tmR r.2.1 n), Vb r.2.2.1, Vi r.2.2.2.1, Vi r.2.2.2.2.1, Vb true] = Va [Vi (tmR r.1 n), Vi (tmR r.2.1 n), Vb r.2.2.1, Vi r.2.2.2.1, Vi r.2.2.2.2.1, Vb true] ∧ Vi r.2.2.2.2.1 = Vi r.2.2.2.2.1 ∧ ((0 ≤ tmR r.2.1 (IntKind.wrap .i64 (n - 1)) ∧ tmR r.2.1 (IntKind.wrap .i64 (n - 1)) ≤ 4000000000000000) ∧ 0 ≤ r.2.2.2.2.1 ∧ r.2.2.2.2.1 ≤ 4000000000000000) ∧ Vi r.2.2.2.1 = Vi r.2.2.2.1 ∧ Va [Vi (tmR r.1 n), Vi (tmR r.2.1 n), Vb r.2.2.1, Vi r.2.2.2.1, Vi r.2.2.2.2.1, Vb true] = Va [Vi (tmR r.1 n), Vi (tmR r.2.1 n), Vb r.2.2.1, Vi r.2.2.2.1, Vi r.2.2.2.2.1, Vb true] ∧ Q (Va [Vi (tmR r.1 n), Vi (tmR r.2.1 n), Vb r.2.2.1, Vi (Min.min r.2.2.2.1 r.2.2.2.1), Vi (Max.max r.2.2.2.2.1 (plR (tmR r.2.1 (IntKind.wrap .i64 (n - 1))) r.2.2.2.2.1)), Vb true])) (Q (Va [Vi (tmR r.1 n), Vi (tmR r.2.1 n), Vb r.2.2.1, Vi r.2.2.2.1, Vi r.2.2.2.2.1, Vb true]))) (Q (Va [Vi (tmR r.1 n), Vi (tmR r.2.1 n), Vb r.2.2.1, Vi 0, Vi 0, Vb false]))) (Sp r.2.2.2.2.2 (Sp (!r.2.2.1) (((0 ≤ r.2.1 ∧ r.2.1 ≤ 4000000000000000) ∧ 0 ≤ IntKind.wrap .i64 (n - 1) ∧ IntKind.wrap .i64 (n - 1) ≤ 4000000000000000) ∧ Vi r.2.2.2.1 = Vi r.2.2.2.1 ∧ Va [Vi 0, Vi 0, Vb r.2.2.1, Vi r.2.2.2.1, Vi r.2.2.2.2.1, Vb true] = Va [Vi 0, Vi 0, Vb r.2.2.1, Vi r.2.2.2.1, Vi r.2.2.2.2.1, Vb true] ∧ Vi r.2.2.2.2.1 = Vi r.2.2.2.2.1 ∧ ((0 ≤ tmR r.2.1 (IntKind.wrap .i64 (n - 1)) ∧ tmR r.2.1 (IntKind.wrap .i64 (n - 1)) ≤ 4000000000000000) ∧ 0 ≤ r.2.2.2.2.1 ∧ r.2.2.2.2.1 ≤ 4000000000000000) ∧ Vi r.2.2.2.1 = Vi r.2.2.2.1 ∧ Va [Vi 0, Vi 0, Vb r.2.2.1, Vi r.2.2.2.1, Vi r.2.2.2.2.1, Vb true] = Va [Vi 0, Vi 0, Vb r.2.2.1, Vi r.2.2.2.1, Vi r.2.2.2.2.1, Vb true] ∧ Q (Va [Vi 0, Vi 0, Vb r.2.2.1, Vi (Min.min r.2.2.2.1 r.2.2.2.1), Vi (Max.max r.2.2.2.2.1 (plR (tmR r.2.1 (IntKind.wrap .i64 (n - 1))) r.2.2.2.2.1)), Vb true])) (Q (Va [Vi 0, Vi 0, Vb r.2.2.1, Vi r.2.2.2.1, Vi r.2.2.2.2.1, Vb true]))) (Q (Va [Vi 0, Vi 0, Vb r.2.2.1, Vi 0, Vi 0, Vb false]))))) := by kernel_rfl
def InSp (s : SP) : Prop := (0 ≤ s.1 ∧ s.1 ≤ farI) ∧ (0 ≤ s.2.1 ∧ s.2.1 ≤ farI) ∧ (0 ≤ s.2.2.2.1 ∧ s.2.2.2.1 ≤ farI) ∧ (0 ≤ s.2.2.2.2.1 ∧ s.2.2.2.2.1 ≤ farI)
theorem gx (r : RU) : HF (ruV r) := .agg (HF.cons (HFb _) (HF.cons (HFi _ _) (HF.cons (HFi _ _) (HF.cons (HFb _) (HF.cons (HFi _ _) (HF.cons (HFi _ _) HF.nil))))))
theorem tmR_in {a b : Int} (ha : 0 ≤ a) (hb : 0 ≤ b) : 0 ≤ tmR a b ∧ tmR a b ≤ 4000000000000000 := by
 have := Int.mul_nonneg ha hb
 unfold tmR farI; omega
theorem vm {e : EN} {a b : Int} (he : InE e) (ha : 0 ≤ a) (ha2 : a ≤ 4000000000000000) (hb : 0 ≤ b) (hb2 : b ≤ 4000000000000000) : Walk envX f158 [enV e, .int .i64 a, .int .i64 b] (enV (svE e a b)) := by
 refine av pM (d := 1) (jE _) ((w8 _ _ e a b).mpr ?_)
 obtain ⟨b1, l1, m1⟩ := e
 obtain ⟨g1, g2, g3, _⟩ := he
 unfold bx at g3
 dsimp only at g1 g2 g3
 have p1 : 0 ≤ l1 ∧ l1 ≤ 4000000000000000 := by omega
 have p2 : 0 ≤ m1 ∧ m1 ≤ 4000000000000000 := by omega
 unfold svE
 generalize decide (b = 0) = z
 generalize decide (0 < a) = y
 cases z <;> cases y <;> cases b1 <;> first | exact ⟨⟨p1, ha, ha2⟩, rfl, ⟨p2, hb, hb2⟩, rfl⟩ | rfl
theorem zJ {r s : RU} (hr : InU r) (hs : InU s) : Walk envX f53 [ruV r, ruV s] (ruV (bhU r s)) :=
 av pM (d := 1) (gx _) ((jBu_nf _ _ r s).mpr ⟨⟨hr.1, hs.1⟩, rfl, rfl, rfl, ⟨hr.1, hs.2⟩, rfl, rfl⟩)
theorem wh (r s : RU) : Walk envX f89 [ruV r, ruV s] (ruV (orU r s)) :=
 av pM (d := 1) (gx _) ((jOu_nf _ _ r s).mpr ⟨rfl, rfl, rfl⟩)
theorem uW {r s : SP} (hr : InSp r) (hs : InSp s) : Walk envX f55 [spV r, spV s] (spV (thR r s)) := by
 refine av pL (d := 1) (eJ _) ((jTh_nf _ _ r s).mpr ?_)
 obtain ⟨l1, m1, n1, lo1, hi1, e1⟩ := r
 obtain ⟨l2, m2, n2, lo2, hi2, e2⟩ := s
 obtain ⟨a1, a2, a3, a4⟩ := hr
 obtain ⟨c1, c2, c3, c4⟩ := hs
 unfold farI at a1 a2 a3 a4 c1 c2 c3 c4
 dsimp only at a1 a2 a3 a4 c1 c2 c3 c4
 have q1 : (0 ≤ l1 ∧ l1 ≤ 4000000000000000) ∧ 0 ≤ l2 ∧ l2 ≤ 4000000000000000 := by omega
 have q2 : (0 ≤ m1 ∧ m1 ≤ 4000000000000000) ∧ 0 ≤ m2 ∧ m2 ≤ 4000000000000000 := by omega
 have q3 : (0 ≤ l1 ∧ l1 ≤ 4000000000000000) ∧ 0 ≤ lo2 ∧ lo2 ≤ 4000000000000000 := by omega
 have q4 : (0 ≤ m1 ∧ m1 ≤ 4000000000000000) ∧ 0 ≤ hi2 ∧ hi2 ≤ 4000000000000000 := by omega
 cases n1 <;> cases n2 <;> cases e1 <;> cases e2 <;> first | rfl | exact ⟨q1, rfl, rfl, q2, rfl⟩ | exact ⟨q3, rfl, rfl, rfl, q4, rfl, rfl⟩ | exact ⟨q1, rfl, rfl, q2, q3, rfl, rfl, rfl, q4, rfl, rfl⟩
theorem zw (r s : SP) : Walk envX f93 [spV r, spV s] (spV (eiR r s)) := by
 refine av pL (d := 1) (eJ _) ((jEi_nf _ _ r s).mpr ?_)
 obtain ⟨l1, m1, n1, lo1, hi1, e1⟩ := r
 obtain ⟨l2, m2, n2, lo2, hi2, e2⟩ := s
 cases n1 <;> cases n2 <;> cases e1 <;> cases e2 <;> first | rfl | exact ⟨rfl, rfl⟩ | exact ⟨rfl, rfl, rfl⟩ | exact ⟨rfl, rfl, rfl, rfl⟩ | exact ⟨rfl, rfl, rfl, rfl, rfl⟩
theorem vT {r : SP} (hr : InSp r) {n : Int} (hn : 0 ≤ n) (hn2 : n ≤ 4000000000000000) : Walk envX f94 [spV r, .int .i64 n] (spV (reR r n)) := by
 refine av pL (d := 1) (eJ _) ((jRe_nf _ _ r n).mpr ?_)
 obtain ⟨l1, m1, n1, lo1, hi1, e1⟩ := r
 obtain ⟨a1, a2, a3, a4⟩ := hr
 unfold farI at a1 a2 a3 a4
 dsimp only at a1 a2 a3 a4
 have q1 : (0 ≤ l1 ∧ l1 ≤ 4000000000000000) ∧ 0 ≤ n ∧ n ≤ 4000000000000000 := by omega
 have q2 : (0 ≤ m1 ∧ m1 ≤ 4000000000000000) ∧ 0 ≤ n ∧ n ≤ 4000000000000000 := by omega
 refine Sp.intro (fun h => ?_) (fun h => ?_)
 · unfold reR
   rw [h]; rfl
 have h0 : n ≠ 0 := odf h
 rw [aB (x := n - 1) (by omega) (by omega)]
 unfold reR
 rw [h]
 have q3 : (0 ≤ m1 ∧ m1 ≤ 4000000000000000) ∧ 0 ≤ n - 1 ∧ n - 1 ≤ 4000000000000000 := by omega
 have q4 : (0 ≤ tmR m1 (n - 1) ∧ tmR m1 (n - 1) ≤ 4000000000000000) ∧ 0 ≤ hi1 ∧ hi1 ≤ 4000000000000000 := ⟨tmR_in a2.1 (by omega), by omega, by omega⟩
 cases n1 <;> cases e1 <;> first | rfl | exact ⟨q1, rfl, q2, rfl⟩ | exact ⟨q1, rfl, q2, q3, rfl, rfl, rfl, q4, rfl, rfl, rfl⟩ | exact ⟨rfl, rfl⟩
def svX : List Value → Option Value
 | [.agg ⟨[.bool b1, .int .i64 l1, .int .i64 m1]⟩, .int .i64 a, .int .i64 b] => some (enV (svE (b1, l1, m1) a b))
 | _ => none
def svP : List Value → Option Prop
 | [.agg ⟨[.bool b1, .int .i64 l1, .int .i64 m1]⟩, .int .i64 a, .int .i64 b] => some (InE (b1, l1, m1) ∧ (0 ≤ a ∧ a ≤ 4000000000000000) ∧ (0 ≤ b ∧ b ≤ 4000000000000000))
 | _ => none
def u2X (f : RU → RU → RU) : List Value → Option Value
 | [.agg ⟨[.bool b1, .int .i64 l1, .int .i64 m1, .bool d1, .int .i64 p1, .int .i64 q1]⟩, .agg ⟨[.bool b2, .int .i64 l2, .int .i64 m2, .bool d2, .int .i64 p2, .int .i64 q2]⟩] => some (ruV (f ((b1, l1, m1), (d1, p1, q1)) ((b2, l2, m2), (d2, p2, q2))))
 | _ => none
def u2P : List Value → Option Prop
 | [.agg ⟨[.bool b1, .int .i64 l1, .int .i64 m1, .bool d1, .int .i64 p1, .int .i64 q1]⟩, .agg ⟨[.bool b2, .int .i64 l2, .int .i64 m2, .bool d2, .int .i64 p2, .int .i64 q2]⟩] => some (InU ((b1, l1, m1), (d1, p1, q1)) ∧ InU ((b2, l2, m2), (d2, p2, q2)))
 | _ => none
def s2X (f : SP → SP → SP) : List Value → Option Value
 | [.agg ⟨[.int .i64 l, .int .i64 m, .bool n, .int .i64 lo, .int .i64 hi, .bool e]⟩, .agg ⟨[.int .i64 l2, .int .i64 m2, .bool n2, .int .i64 lo2, .int .i64 hi2, .bool e2]⟩] => some (spV (f (l, m, n, lo, hi, e) (l2, m2, n2, lo2, hi2, e2)))
 | _ => none
def s2P : List Value → Option Prop
 | [.agg ⟨[.int .i64 l, .int .i64 m, .bool n, .int .i64 lo, .int .i64 hi, .bool e]⟩, .agg ⟨[.int .i64 l2, .int .i64 m2, .bool n2, .int .i64 lo2, .int .i64 hi2, .bool e2]⟩] => some (InSp (l, m, n, lo, hi, e) ∧ InSp (l2, m2, n2, lo2, hi2, e2))
 | _ => none
def reX : List Value → Option Value
 | [.agg ⟨[.int .i64 l, .int .i64 m, .bool n, .int .i64 lo, .int .i64 hi, .bool e]⟩, .int .i64 a] => some (spV (reR (l, m, n, lo, hi, e) a))
 | _ => none
def reP : List Value → Option Prop
 | [.agg ⟨[.int .i64 l, .int .i64 m, .bool n, .int .i64 lo, .int .i64 hi, .bool e]⟩, .int .i64 a] => some (InSp (l, m, n, lo, hi, e) ∧ 0 ≤ a ∧ a ≤ 4000000000000000)
 | _ => none
theorem sv_tab : ∀ args A p v A', aj svP svX args A = some (p, v, A') → PH p → an envX 158 args A v A' := ai ag ah (fn := f158) rfl fun args v h hp => by
 unfold svX at h
 split at h
 · simp only [osI] at h
   subst h
   exact ⟨HF.cons (jE (_, _, _)) (HF.cons (HFi _ _) (HF.cons (HFi _ _) HF.nil)), vm (e := (_, _, _)) hp.1 hp.2.1.1 hp.2.1.2 hp.2.2.1 hp.2.2.2⟩
 · cases h
theorem bu_tab : ∀ args A p v A', aj u2P (u2X bhU) args A = some (p, v, A') → PH p → an envX 53 args A v A' := ai ag ah (fn := f53) rfl fun args v h hp => by
 unfold u2X at h
 split at h
 · simp only [osI] at h
   subst h
   exact ⟨HF.cons (gx ((_, _, _), _, _, _)) (HF.cons (gx ((_, _, _), _, _, _)) HF.nil), zJ (r := ((_, _, _), _, _, _)) (s := ((_, _, _), _, _, _)) hp.1 hp.2⟩
 · cases h
theorem ou_tab : ∀ args A p v A', aj (fun _ => none) (u2X orU) args A = some (p, v, A') → PH p → an envX 89 args A v A' := ai ag ah (fn := f89) rfl fun args v h hp => by
 unfold u2X at h
 split at h
 · simp only [osI] at h
   subst h
   exact ⟨HF.cons (gx ((_, _, _), _, _, _)) (HF.cons (gx ((_, _, _), _, _, _)) HF.nil), wh ((_, _, _), _, _, _) ((_, _, _), _, _, _)⟩
 · cases h
theorem uY : ∀ args A p v A', aj s2P (s2X thR) args A = some (p, v, A') → PH p → an envX 55 args A v A' := ai ag ah (fn := f55) rfl fun args v h hp => by
 unfold s2X at h
 split at h
 · simp only [osI] at h
   subst h
   exact ⟨HF.cons (eJ (_, _, _, _, _, _)) (HF.cons (eJ (_, _, _, _, _, _)) HF.nil), uW (r := (_, _, _, _, _, _)) (s := (_, _, _, _, _, _)) hp.1 hp.2⟩
 · cases h
theorem zx : ∀ args A p v A', aj (fun _ => none) (s2X eiR) args A = some (p, v, A') → PH p → an envX 93 args A v A' := ai ag ah (fn := f93) rfl fun args v h hp => by
 unfold s2X at h
 split at h
 · simp only [osI] at h
   subst h
   exact ⟨HF.cons (eJ (_, _, _, _, _, _)) (HF.cons (eJ (_, _, _, _, _, _)) HF.nil), zw (_, _, _, _, _, _) (_, _, _, _, _, _)⟩
 · cases h
theorem vU : ∀ args A p v A', aj reP reX args A = some (p, v, A') → PH p → an envX 94 args A v A' := ai ag ah (fn := f94) rfl fun args v h hp => by
 unfold reX at h
 split at h
 · simp only [osI] at h
   subst h
   exact ⟨HF.cons (eJ (_, _, _, _, _, _)) (HF.cons (HFi _ _) HF.nil), vT (r := (_, _, _, _, _, _)) hp.1 hp.2.1 hp.2.2⟩
 · cases h
def tabD3 : Tab := [(158, aj svP svX), (88, aj e2P (e2X bhE))]
theorem qv : TabOk envX tabD3 := .cons sv_tab (.cons tW .nil)
def XD3 : SX := ⟨envX, tabD3, noEl, fun _ => .unroll 3⟩
theorem XD3_ok : XD3.Ok := ⟨ag, aw, ah, qv⟩
def jSvU (Q : Value → Prop) (QA : KV) (r : RU) (a b : Int) : Prop := sxFn XD3 1 f90 [ruV r, .int .i64 a, .int .i64 b] (au Q QA)
end
end Go.T9

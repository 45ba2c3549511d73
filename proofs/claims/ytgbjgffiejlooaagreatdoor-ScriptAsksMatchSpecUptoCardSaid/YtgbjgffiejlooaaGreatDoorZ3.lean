/- A part of the proof. -/
import Derived.Test.YtgbjgffiejlooaaGreatDoorZ2
import Derived.Test.YtgbjgffiejlooaaGreatDoorY3
import Derived.KernelRfl
import Derived.Test.YtgbjgffiejlooaaGreatDoorY4
set_option linter.unusedVariables false
set_option linter.unusedSimpArgs false
set_option maxRecDepth 1000000
set_option maxHeartbeats 2000000
namespace Go.T9
open Go Go.AM Go.MK Go.Proofs.Tryz
noncomputable section
theorem dW {A : AH} {v : Value} {r : RU} (h : v = ruV r) : Frz A v (ruV r) := by subst h; exact .same (gx _)
theorem dV {A : AH} {v : Value} {s : SP} (h : v = spV s) : Frz A v (spV s) := by subst h; exact .same (eJ _)
theorem As {P : List Value → Prop} {f : List Value → RU} (hX : (XRs P f).Ok) {r : SR} (hw : WfS r) (hE : stE r = 0) (hk : ∀ k ∈ ksR r, P k ∧ InU (f k)) : bt envX f54 [stpV r] ⟨.leaf, 0⟩ (ruV (rS f r)) := by
 obtain ⟨k, q, rfl, h⟩ := oI hE
 rcases h with rfl | rfl | rfl | rfl | rfl | rfl | rfl | rfl | rfl | rfl
 · exact al hX (d := 1) ((xK P f _ q).mpr (dW rfl))
 · exact al hX (d := 1) ((xJ P f _ q).mpr (dW rfl))
 · exact al hX (d := 1) ((xI P f _ q).mpr (dW rfl))
 · exact al hX (d := 1) ((xH P f _ q).mpr (dW rfl))
 · exact al hX (d := 1) ((xG P f _ q).mpr ⟨(hk _ (cS 5 q)).1, rfl, (hk _ (oG 5 q)).1, dW rfl⟩)
 · have hh := hi_6 hE
   exact al hX (d := 1) ((xF P f _ q).mpr ⟨(hk _ (cS 6 q)).1, rfl, rfl, ⟨(hk _ (cS 6 q)).2, hh.1, Int.le_refl _, by omega⟩, dW rfl⟩)
 · have hh := hi_7 hE
   exact al hX (d := 1) ((xE P f _ q).mpr ⟨(hk _ (cS 7 q)).1, rfl, ⟨(hk _ (cS 7 q)).2, Int.le_refl _, hh.1, by omega⟩, dW rfl⟩)
 · refine al hX (d := 1) ((xD P f _ q).mpr ?_)
   have h8 : ∀ x ∈ q.ways, HF x := hf8 (r := rk 8 q) hw.2
   obtain ⟨⟨ps, ts, cs, ws, h1, h2, h3, h4, h5, h6, h7, _, h9⟩, hf⟩ := hw
   have h4 : q.ways = wyvs ws := h4
   have e : rS f (rk 8 q) = ws.foldl (orF f) rZ := by
    show (unW q.ways).foldl (orF f) rZ = _
    rw [h4, dj]
   have hm : ∀ w ∈ ws, P w.2 ∧ InU (f w.2) := fun w hw => hk _ (oF 8 q (by rw [h4, dj]; exact hw))
   rw [h4] at h8 ⊢
   exact ⟨.dat h8, Au hX ws (.dat h8) h9 hm fun A => by
    show Frz A _ (ruV (rS f (rk 8 q)))
    rw [e]; exact .same (gx _)⟩
 · exact al hX (d := 1) ((xC P f _ q).mpr (dW rfl))
 · exact al hX (d := 1) ((rB P f _ q).mpr (dW rfl))
theorem sp_r1 : spO r1 = (1, 1, false, 0, 0, false) := by simp [spO, r1, capI, farI]; omega
theorem vG : spO r0 = (0, 0, false, 0, 0, false) := by simp [spO, r0, capI, farI]; omega
theorem sp_rN : spO rN = (0, 0, true, 0, 0, true) := by simp [spO, rN, capI, farI]; omega
theorem Aq {P : List Value → Prop} {f : List Value → RU} (hX : (XSa P (fun l => spO (f l))).Ok) {r : SR} (hw : WfS r) (hE : stE r = 0) (hk : ∀ k ∈ ksR r, P k ∧ InU (f k)) : bt envX f56 [stpV r] ⟨.leaf, 0⟩ (spV (spO (rS f r))) := by
 obtain ⟨k, q, rfl, h⟩ := oI hE
 rcases h with rfl | rfl | rfl | rfl | rfl | rfl | rfl | rfl | rfl | rfl
 · exact al hX (d := 1) ((xA P _ _ q).mpr (dV (by show _ = spV (spO r1); rw [sp_r1]; rfl)))
 · exact al hX (d := 1) ((xz P _ _ q).mpr (dV (by show _ = spV (spO r0); rw [vG]; rfl)))
 · exact al hX (d := 1) ((xy P _ _ q).mpr (dV (by show _ = spV (spO r0); rw [vG]; rfl)))
 · exact al hX (d := 1) ((xx P _ _ q).mpr (dV (by show _ = spV (spO r0); rw [vG]; rfl)))
 · have h1 := hk _ (cS 5 q)
   have h2 := hk _ (oG 5 q)
   exact al hX (d := 1) ((xw P _ _ q).mpr ⟨h1.1, rfl, h2.1, dV (by show _ = spV (spO (orU (f q.thn) (f q.els))); rw [kh h1.2 h2.2] <;> rfl)⟩)
 · have hh := hi_6 hE
   have h1 := hk _ (cS 6 q)
   exact al hX (d := 1) ((xv P _ _ q).mpr ⟨h1.1, rfl, ⟨qN h1.2, hh.1, by omega⟩, dV (by show _ = spV (spO (svU (f q.thn) q.hi q.hi)); rw [nP h1.2 hh.1] <;> rfl)⟩)
 · have hh := hi_7 hE
   have h1 := hk _ (cS 7 q)
   exact al hX (d := 1) ((xu P _ _ q).mpr ⟨h1.1, rfl, ⟨qN h1.2, hh.1, by omega⟩, dV (by show _ = spV (spO (svU (f q.thn) 0 q.hi)); rw [uF h1.2 hh.1] <;> rfl)⟩)
 · refine al hX (d := 1) ((xr P _ _ q).mpr ?_)
   have h8 : ∀ x ∈ q.ways, HF x := hf8 (r := rk 8 q) hw.2
   obtain ⟨⟨ps, ts, cs, ws, h1, h2, h3, h4, h5, h6, h7, _, h9⟩, hf⟩ := hw
   have h4 : q.ways = wyvs ws := h4
   have e : rS f (rk 8 q) = ws.foldl (orF f) rZ := by
    show (unW q.ways).foldl (orF f) rZ = _
    rw [h4, dj]
   have hm : ∀ w ∈ ws, P w.2 ∧ InU (f w.2) := fun w hw => hk _ (oF 8 q (by rw [h4, dj]; exact hw))
   rw [h4] at h8 ⊢
   exact ⟨.dat h8, Ar hX ws (.dat h8) h9 hm fun A => by
    show Frz A _ (spV (spO (rS f (rk 8 q))))
    rw [e]; exact .same (eJ _)⟩
 · exact al hX (d := 1) ((xq P _ _ q).mpr (dV (by show _ = spV (spO rN); rw [sp_rN]; rfl)))
 · exact al hX (d := 1) ((rA P _ _ q).mpr (dV (by show _ = spV (spO rN); rw [sp_rN]; rfl)))
def vRa (n : Nat) : List Value → Option Value := bn fun l => ruV (rW n l)
def vAa (n : Nat) : List Value → Option Value := bn fun l => spV (spO (rW n l))
theorem Rs_tab {n : Nat} (hT : ∀ args A p v A', aj (bj (lsQ n)) (vRa n) args A = some (p, v, A') → PH p → an envX 28 args A v A') : ∀ args A p v A', aj (rsP (stQ n)) (rsX fun r => ruV (rS (rW n) r)) args A = some (p, v, A') → PH p → an envX 54 args A v A' := ai ag ah (fn := f54) rfl fun args v h hp => by
 have hX : (XRs (lsQ n) (rW n)).Ok := z6 _ _ (.cons hT (.cons ou_tab (.cons su_tab .nil)))
 unfold rsX at h
 split at h
 · rename_i v0
   split at h
   · rename_i r hr
     simp only [osI] at h
     subst h
     have hp : stQ n r := by simp only [rsP, hr] at hp; exact hp
     rw [dm hr]
     exact ⟨HF.cons hp.1.2 HF.nil, As hX hp.1 hp.2.1 fun k hk => ⟨hp.2.2 k hk, nR n k (hp.2.2 k hk)⟩⟩
   · cases h
 · cases h
theorem Sa_tab {n : Nat} (hT : ∀ args A p v A', aj (bj (lsQ n)) (vAa n) args A = some (p, v, A') → PH p → an envX 30 args A v A') : ∀ args A p v A', aj (rsP (stQ n)) (rsX fun r => spV (spO (rS (rW n) r))) args A = some (p, v, A') → PH p → an envX 56 args A v A' := ai ag ah (fn := f56) rfl fun args v h hp => by
 have hX : (XSa (lsQ n) (fun l => spO (rW n l))).Ok := zZ _ _ (.cons hT (.cons zx (.cons vU .nil)))
 unfold rsX at h
 split at h
 · rename_i v0
   split at h
   · rename_i r hr
     simp only [osI] at h
     subst h
     have hp : stQ n r := by simp only [rsP, hr] at hp; exact hp
     rw [dm hr]
     exact ⟨HF.cons hp.1.2 HF.nil, Aq hX hp.1 hp.2.1 fun k hk => ⟨hp.2.2 k hk, nR n k (hp.2.2 k hk)⟩⟩
   · cases h
 · cases h
theorem ux : ∀ n args A p v A', aj (bj (lsQ n)) (vRa n) args A = some (p, v, A') → PH p → an envX 28 args A v A'
 | 0 => ai ag ah (fn := f28) rfl fun args v h hp => by
   unfold vRa bn at h
   split at h
   · exact hp.1.elim
   · cases h
 | n + 1 => ai ag ah (fn := f28) rfl fun args v h hp => by
   have hX : (XRa (stQ n) (fun r => rS (rW n) r)).Ok := z7 _ _ (.cons (Rs_tab (ux n)) (.cons bu_tab .nil))
   unfold vRa bn at h
   split at h
   · rename_i l
     simp only [osI] at h
     subst h
     have hp : lsQ (n + 1) l := hp
     exact ⟨HF.cons (cd hp.1) HF.nil, al hX (d := 1) ((jRa_nf _ _ _ l).mpr ⟨cd hp.1, Av hX l hp⟩)⟩
   · cases h
theorem uC : ∀ n args A p v A', aj (bj (lsQ n)) (vAa n) args A = some (p, v, A') → PH p → an envX 30 args A v A'
 | 0 => ai ag ah (fn := f30) rfl fun args v h hp => by
   unfold vAa bn at h
   split at h
   · exact hp.1.elim
   · cases h
 | n + 1 => ai ag ah (fn := f30) rfl fun args v h hp => by
   have hX : (XAa (stQ n) (fun r => spO (rS (rW n) r))).Ok := Ae _ _ (.cons (Sa_tab (uC n)) (.cons uY .nil))
   unfold vAa bn at h
   split at h
   · rename_i l
     simp only [osI] at h
     subst h
     have hp : lsQ (n + 1) l := hp
     exact ⟨HF.cons (cd hp.1) HF.nil, al hX (d := 1) ((jAa_nf _ _ _ l).mpr ⟨cd hp.1, AW hX l hp⟩)⟩
   · cases h
def tabAs (n : Nat) : Tab := [(6, aj (bj (lsP n)) (vCh n)), (28, aj (bj (lsQ n)) (vRa n)), (29, aj (fun _ => none) (e2X orE))]
theorem qB (m : Int) (n : Nat) : TabOk (envM m) (tabAs n) := .cons (ch_tab m n) (.cons (toM (ux n)) (.cons (toM tt) .nil))
def XAs (m : Int) (n : Nat) : SX := ⟨envM m, tabAs n, noEl, fun _ => .unroll 0⟩
theorem XAs_ok (m : Int) (n : Nat) : (XAs m n).Ok := ⟨aE m, rfl, aF m, qB m n⟩
def tabAr (n : Nat) : Tab := [(7, aj (bj (lsP n)) (vCh n)), (30, aj (bj (lsQ n)) (vAa n))]
theorem qC (m : Int) (n : Nat) : TabOk (envM m) (tabAr n) := .cons (rc_tab m n) (.cons (toM (uC n)) .nil)
def XAr (m : Int) (n : Nat) : SX := ⟨envM m, tabAr n, noEl, fun _ => .unroll 0⟩
theorem XAr_ok (m : Int) (n : Nat) : (XAr m n).Ok := ⟨aE m, rfl, aF m, qC m n⟩
def jAsk6 (m : Int) (n : Nat) (Q : Value → Prop) (QA : KV) (l : List Value) : Prop := ay (XAs m n) 1 f11 [dat 19 l] ⟨.leaf, 0⟩ (au Q QA)
def jAskR6 (m : Int) (n : Nat) (Q : Value → Prop) (QA : KV) (l : List Value) : Prop := ay (XAr m n) 1 f12 [dat 19 l] ⟨.leaf, 0⟩ (au Q QA)
def i3V (x : Int × Int × Int) : Value := .tuple ⟨[.int .i64 x.1, .int .i64 x.2.1, .int .i64 x.2.2]⟩
def vAs (f : List Value → Int × Int × Int) : List Value → Option Value := bn fun l => i3V (f l)
def tabLA (P : List Value → Prop) (f : List Value → Int × Int × Int) : Tab := [(11, aj (bj P) (vAs f)), (12, aj (bj P) (vAs f)), (10, aj (fun _ => none) uG)]
def XLA (m : Int) (P : List Value → Prop) (f : List Value → Int × Int × Int) : SX := ⟨envM m, tabLA P f, noEl, fun _ => .unroll 0⟩
def jAskL6 (m : Int) (P : List Value → Prop) (f : List Value → Int × Int × Int) (Q : Value → Prop) (QA : KV) (l : List Value) : Prop := sxFn (XLA m P f) 1 f4 [dat 19 l] (au Q QA)
set_option maxHeartbeats 1000000
theorem rE (m : Int) (n : Nat) (Q : Value → Prop) (QA : KV) (l : List Value) : jAsk6 m n Q QA l = (lsP n l ∧ Sp (!decide (chE n l = 0)) (Q (Vt [Vi 0, Vi 0, Vi (chE n l)])) (lsQ n l ∧ Sp (decide (1000000000000000 < (orE (rW n l).1 (rW n l).2).2.1)) (Q (Vt [Vi 0, Vi 0, Vi 3])) (Sp (decide (1000000000000000 < (orE (rW n l).1 (rW n l).2).2.2)) (Q (Vt [Vi 0, Vi 0, Vi 3])) (Q (Vt [Vi (orE (rW n l).1 (rW n l).2).2.1, Vi (orE (rW n l).1 (rW n l).2).2.2, Vi 0]))))) := by kernel_rfl
theorem oM (m : Int) (n : Nat) (Q : Value → Prop) (QA : KV) (l : List Value) : jAskR6 m n Q QA l = (lsP n l ∧ Sp (!decide (chE n l = 0)) (Q (Vt [Vi 0, Vi 0, Vi (chE n l)])) (lsQ n l ∧ Sp (!(rW n l).1.1) (Sp (decide (1000000000000000 < capI (rW n l).2.2.1)) (Q (Vt [Vi 0, Vi 0, Vi 3])) (Sp (decide (1000000000000000 < capI (rW n l).2.2.2)) (Q (Vt [Vi 0, Vi 0, Vi 3])) (Q (Vt [Vi (capI (rW n l).2.2.1), Vi (capI (rW n l).2.2.2), Vi 0])))) (Sp (rW n l).2.1 (Sp (decide (1000000000000000 < Min.min (capI (rW n l).1.2.1) (capI (rW n l).2.2.1))) (Q (Vt [Vi 0, Vi 0, Vi 3])) (Sp (decide (1000000000000000 < Max.max (capI (rW n l).1.2.2) (capI (rW n l).2.2.2))) (Q (Vt [Vi 0, Vi 0, Vi 3])) (Q (Vt [Vi (Min.min (capI (rW n l).1.2.1) (capI (rW n l).2.2.1)), Vi (Max.max (capI (rW n l).1.2.2) (capI (rW n l).2.2.2)), Vi 0])))) (Sp (decide (1000000000000000 < capI (rW n l).1.2.1)) (Q (Vt [Vi 0, Vi 0, Vi 3])) (Sp (decide (1000000000000000 < capI (rW n l).1.2.2)) (Q (Vt [Vi 0, Vi 0, Vi 3])) (Q (Vt [Vi (capI (rW n l).1.2.1), Vi (capI (rW n l).1.2.2), Vi 0]))))))) := by kernel_rfl
theorem oN (m : Int) (P : List Value → Prop) (f : List Value → Int × Int × Int) (Q : Value → Prop) (QA : KV) (l : List Value) : jAskL6 m P f Q QA l = (P l ∧ P l ∧ Sp (decide ((f l).1 = (f l).1)) (Sp (decide ((f l).2.1 = (f l).2.1)) (Sp (decide ((f l).2.2 = (f l).2.2)) (Q (Vb true)) (Q (Vb false))) (Q (Vb false))) (Q (Vb false))) := by kernel_rfl
theorem HF_i3 (x : Int × Int × Int) : HF (i3V x) := .tuple (HF.cons (HFi _ _) (HF.cons (HFi _ _) (HF.cons (HFi _ _) HF.nil)))
def asE (n : Nat) (l : List Value) : Int × Int × Int := bif !decide (chE n l = 0) then (0, 0, chE n l) else asP (rW n l)
theorem pA {n : Nat} {l : List Value} (h : lsP n l) (c : (!decide (chE n l = 0)) = false) : lsQ n l := by
 have c : chE n l = 0 := by simpa using c
 refine ⟨h, ?_⟩
 unfold chE at c
 cases c1 : decide ((1000 : Int) < (mT n l : Int)) with
 | true => rw [c1] at c; exact absurd (show (3 : Int) = 0 from c) (by decide)
 | false =>
   cases c2 : decide (20 < mD n l) with
   | true => rw [c1, c2] at c; exact absurd (show (3 : Int) = 0 from c) (by decide)
   | false => rw [c1, c2] at c; exact c
theorem zP (m : Int) (n : Nat) (l : List Value) (h : lsP n l) : bt (envM m) f11 [dat 19 l] ⟨.leaf, 0⟩ (i3V (asE n l)) := by
 refine ar (XAs_ok m n) (d := 1) (HF_i3 _) ((rE m n _ _ l).mpr ⟨h, Sp.intro (fun c => ?_) (fun c => ⟨pA h c, Sp.intro (fun c2 => ?_) (fun c2 => Sp.intro (fun c3 => ?_) (fun c3 => ?_))⟩)⟩)
 · show _ = _
   unfold asE; rw [c]; rfl
 · show _ = _
   unfold asE asP; rw [c, c2]; rfl
 · show _ = _
   unfold asE asP; rw [c, c2, c3]; rfl
 · show _ = _
   unfold asE asP; rw [c, c2, c3]; rfl
theorem zR (m : Int) (n : Nat) (l : List Value) (h : lsP n l) : bt (envM m) f12 [dat 19 l] ⟨.leaf, 0⟩ (i3V (asE n l)) := by
 refine ar (XAr_ok m n) (d := 1) (HF_i3 _) ((oM m n _ _ l).mpr ⟨h, Sp.intro (fun c => ?_) (fun c => ⟨pA h c, ?_⟩)⟩)
 · show _ = _
   unfold asE; rw [c]; rfl
 · have e : asE n l = asR (spO (rW n l)) := by
    unfold asE; rw [c]; exact zQ (nR n l (pA h c))
   rw [e]
   unfold asR
   refine Sp.intro (fun c1 => ?_) (fun c1 => Sp.intro (fun c2 => ?_) (fun c2 => ?_))
   · have e2 : asR2 (spO (rW n l)) = (capI (rW n l).2.2.1, capI (rW n l).2.2.2) := by
      show (bif !(rW n l).1.1 then _ else _) = _
      rw [c1]; rfl
     rw [e2]
     refine Sp.intro (fun c3 => ?_) (fun c3 => Sp.intro (fun c4 => ?_) (fun c4 => ?_))
     · show _ = _
       rw [c3]; rfl
     · show _ = _
       rw [c3, c4]; rfl
     · show _ = _
       rw [c3, c4]; rfl
   · have e2 : asR2 (spO (rW n l)) = (min (capI (rW n l).1.2.1) (capI (rW n l).2.2.1), max (capI (rW n l).1.2.2) (capI (rW n l).2.2.2)) := by
      show (bif !(rW n l).1.1 then _ else bif (rW n l).2.1 then _ else _) = _
      rw [c1, c2]; rfl
     rw [e2]
     refine Sp.intro (fun c3 => ?_) (fun c3 => Sp.intro (fun c4 => ?_) (fun c4 => ?_))
     · show _ = _
       rw [c3]; rfl
     · show _ = _
       rw [c3, c4]; rfl
     · show _ = _
       rw [c3, c4]; rfl
   · have e2 : asR2 (spO (rW n l)) = (capI (rW n l).1.2.1, capI (rW n l).1.2.2) := by
      show (bif !(rW n l).1.1 then _ else bif (rW n l).2.1 then _ else _) = _
      rw [c1, c2]; rfl
     rw [e2]
     refine Sp.intro (fun c3 => ?_) (fun c3 => Sp.intro (fun c4 => ?_) (fun c4 => ?_))
     · show _ = _
       rw [c3]; rfl
     · show _ = _
       rw [c3, c4]; rfl
     · show _ = _
       rw [c3, c4]; rfl
theorem as_tab (m : Int) (n : Nat) : ∀ args A p v A', aj (bj (lsP n)) (vAs (asE n)) args A = some (p, v, A') → PH p → an (envM m) 11 args A v A' := ai (aE m) (aF m) (fn := f11) rfl fun args v h hp => by
 unfold vAs bn at h
 split at h
 · simp only [osI] at h
   subst h
   exact ⟨HF.cons (pS hp) HF.nil, zP m n _ hp⟩
 · cases h
theorem ar_tab (m : Int) (n : Nat) : ∀ args A p v A', aj (bj (lsP n)) (vAs (asE n)) args A = some (p, v, A') → PH p → an (envM m) 12 args A v A' := ai (aE m) (aF m) (fn := f12) rfl fun args v h hp => by
 unfold vAs bn at h
 split at h
 · simp only [osI] at h
   subst h
   exact ⟨HF.cons (pS hp) HF.nil, zR m n _ hp⟩
 · cases h
theorem XLA_ok (m : Int) (n : Nat) : (XLA m (lsP n) (asE n)).Ok := ⟨aE m, rfl, aF m, .cons (as_tab m n) (.cons (ar_tab m n) (.cons (toM (toX (dI nc))) .nil))⟩
theorem oE (m : Int) (n : Nat) (l : List Value) (h : lsP n l) : Walk (envM m) f4 [dat 19 l] (.bool true) :=
 av (XLA_ok m n) (d := 1) (HFb _) ((oN m _ _ _ _ l).mpr ⟨h, h, Sp.intro (fun _ => Sp.intro (fun _ => Sp.intro (fun _ => rfl) (fun c => absurd rfl (odf c))) (fun c => absurd rfl (odf c))) (fun c => absurd rfl (odf c))⟩)
theorem asks_law (n : Nat) (l : List Value) (h : lsP n l) (w : World) (hs : w.ShapedOpen Proofs.Tryz.prog) {v0 : Value} (hv0 : VR (sig0 w) (dat 19 l) v0) :
 Calls Proofs.Tryz.prog 4 #[v0] w fun e w' => e = .returned (.bool true) ∧ RowKit.Below w.heap.size w w' := by
 obtain ⟨m, fz, hm⟩ := rd hs
 exact mW (iJ (aE m) (aF m) (fn := f4) rfl (HF.cons (pS h) HF.nil) (oE m n l h)) (iv _ _) rfl w (pm hm) (.cons hv0 .nil)
end
end Go.T9

/- A part of the proof. -/
import Derived.Test.YtcplcanaonmmpaaGreatDoorX6
set_option linter.unusedVariables false
set_option linter.unusedSimpArgs false
set_option maxRecDepth 1000000
namespace Go.T9
open Go Go.AM
noncomputable section
theorem oAt_take {o : List SvP} {i k : Nat} (h : k < i + 1) : oAt (o.take (i + 1)) k = oAt o k := by
 unfold oAt
 rw [List.getD_eq_getElem?_getD, List.getElem?_take, if_pos h, List.getD_eq_getElem?_getD]
def frLk2g (tm tk : List Int) (s r : Int) (o o2 : List SvP) (last busy wait : Int) (i k on tn : Nat) : T Value := (.node (.node (.node (.node (.node .leaf (some (ptB 0)) .leaf) none .leaf) (some (.int .i64 r)) (.node (.node .leaf none (.node .leaf (some (.int .i64 i)) .leaf)) none .leaf)) (some (dat 1 (inV tk))) (.node (.node (.node .leaf (some (.int .i64 wait)) (.node .leaf (some (dat 2 (svs o))) .leaf)) (some (dat 2 (svs o))) .leaf) none (.node .leaf (some (.int .i64 last)) (.node .leaf none (.node (.node .leaf (some (.int .i64 tn)) .leaf) none .leaf))))) (some (dat 1 (inV tm))) (.node (.node (.node (.node .leaf (some (.int .i64 busy)) .leaf) none .leaf) none (.node .leaf none (.node .leaf none (.node (.node .leaf (some (dat 2 (svs o2))) .leaf) none .leaf)))) (some (.int .i64 s)) (.node (.node (.node .leaf none (.node .leaf (some (.int .i64 on)) .leaf)) none .leaf) none (.node .leaf (some (.int .i64 i)) (.node .leaf none (.node (.node .leaf (some (.int .i64 k)) .leaf) none .leaf))))))
theorem lk_in {tm tk : List Int} {S R : Nat} (q : QOk tm tk S R) {Q : Value → Prop} {QA : KV} {again2 : KF} {o : List SvP} {i : Nat} (hi : i < tm.length) (ho : o.length = tm.length) (hs : ¬ (S : Int) < ((cntN (pB o i) (i + 1) : Nat) : Int)) (hr : tm.getD i 0 < (oAt o i).1 → ¬ (R : Int) ≤ ((cntN (pW tm o i) (i + 1) : Nat) : Int))
 (ha : again2 (frLk1 tm tk S R o (oAt o i).1 (i + 1)) ⟨.leaf, 0⟩) :
 LAtZ (XLw qF quO) 1 (Func.ntmps Proofs.Tryz.f7) ⟨.leaf, 0⟩ (loopBody (subC [1, 1, 1, 1, 1, 0, 1, 0] (bodyOf Proofs.Tryz.f7))) [1, 1, 0, 0, 1, 1, 1, 1, 1, 0, 1, 0] (kLk2 Q QA again2 qF quO) (frLk2 tm tk S R o (o.take (i + 1)) (oAt o i).1 0 0 i 0) (hLk2 (oAt o i)) := by
 refine LAtZ.stepF XLw_ok [] [] [] [0, 1, 2, 3, 9, 13, 14, 15, 16, 17, 49, 50, 51, 92, 93, 94] (by kernel_rfl) (fun n F A => ∃ k : Nat, F = frLk2 tm tk S R o (o.take (i + 1)) (oAt o i).1 ((cntN (pB o i) k : Nat) : Int) ((cntN (pW tm o i) k : Nat) : Int) i k ∧ A = hLk2 (oAt o i) ∧ k + n = i + 1) ?_ (k := i + 1) ⟨0, rfl, rfl, by omega⟩
 rintro n F A ⟨k, rfl, rfl, hkn⟩
 have hN := q.n
 have hio : i < o.length := by omega
 have tl : (o.take (i + 1)).length = i + 1 := by rw [List.length_take]; omega
 have g := getI hi
 have ei : IntKind.wrap .i64 ((i : Int) + 1) = ((i + 1 : Nat) : Int) := by rw [i64_in (by omega) (by omega)]; omega
 refine (jLk2_nf _ _ _ _ qF quO tm tk S R o (o.take (i + 1)) (oAt o i) (oAt o i).1 _ _ i k).mpr ?_
 simp only [svs_len, inV_len, tl, g, ei]
 refine Sp.intro (fun c => ?_) (fun c => ?_)
 · have hk : k < i + 1 := by have := of_decide_eq_true c; omega
   have hk2 : k < (o.take (i + 1)).length := by omega
   have a : svAt (svs (o.take (i + 1))) (k : Int) = oAt o k := by rw [svA hk2, oAt_take hk]
   have nthS2 : nth (svs (o.take (i + 1))) k = some (.agg ⟨[Vi (oAt o k).1, Vi (oAt o k).2]⟩) := by rw [nthS hk2, oAt_take hk]
   have ek : IntKind.wrap .i64 ((k : Int) + 1) = ((k + 1 : Nat) : Int) := by rw [i64_in (by omega) (by omega)]; omega
   have bl := cntN_le_n (pB o i) k
   have wl := cntN_le_n (pW tm o i) k
   have eb : IntKind.wrap .i64 (((cntN (pB o i) k : Nat) : Int) + 1) = ((cntN (pB o i) k + 1 : Nat) : Int) := by rw [i64_in (by omega) (by omega)]; omega
   have ew : IntKind.wrap .i64 (((cntN (pW tm o i) k : Nat) : Int) + 1) = ((cntN (pW tm o i) k + 1 : Nat) : Int) := by rw [i64_in (by omega) (by omega)]; omega
   simp only [a, ek, eb, ew]
   have hB1 : pB o i k = true → ((cntN (pB o i) k + 1 : Nat) : Int) = ((cntN (pB o i) (k + 1) : Nat) : Int) := fun h => by rw [cntN_succ, if_pos h]
   have hB0 : pB o i k = false → ((cntN (pB o i) k : Nat) : Int) = ((cntN (pB o i) (k + 1) : Nat) : Int) := fun h => by rw [cntN_succ, if_neg (by rw [h]; decide)]
   have hW1 : pW tm o i k = true → ((cntN (pW tm o i) k + 1 : Nat) : Int) = ((cntN (pW tm o i) (k + 1) : Nat) : Int) := fun h => by rw [cntN_succ, if_pos h]
   have hW0 : pW tm o i k = false → ((cntN (pW tm o i) k : Nat) : Int) = ((cntN (pW tm o i) (k + 1) : Nat) : Int) := fun h => by rw [cntN_succ, if_neg (by rw [h]; decide)]
   have lf : ∀ b w : Int, b = ((cntN (pB o i) (k + 1) : Nat) : Int) → w = ((cntN (pW tm o i) (k + 1) : Nat) : Int) → HF (dat 1 (inV tm)) ∧ HF (dat 1 (inV tk)) ∧ HF (dat 2 (svs o)) ∧ HF (dat 2 (svs o)) ∧ HF (dat 2 (svs (o.take (i + 1)))) ∧ ∃ k', k' < n ∧ ∃ m : Nat, frLk2g tm tk S R o (o.take (i + 1)) (oAt o i).1 b w i (k + 1) o.length (i + 1) = frLk2 tm tk S R o (o.take (i + 1)) (oAt o i).1 ((cntN (pB o i) m : Nat) : Int) ((cntN (pW tm o i) m : Nat) : Int) i m ∧ hLk2 (oAt o i) = hLk2 (oAt o i) ∧ m + k' = i + 1 := by
    intro b w hb hw
    subst hb hw
    exact ⟨.dat (HF_in _), .dat (HF_in _), .dat (HF_svs _), .dat (HF_svs _), .dat (HF_svs _), n - 1, by omega, k + 1, by unfold frLk2; rw [svs_len, svs_len, tl]; rfl, rfl, by omega⟩
   refine ⟨⟨by omega, by omega⟩, nthS2, Sp.intro (fun cb0 => ?_) (fun cb0 => ?_)⟩
   · refine Sp.intro (fun cy1 => ?_) (fun cy1 => ?_)
     · refine Sp.intro (fun cl2 => ?_) (fun cl2 => ?_)
       · refine Sp.intro (fun ci3 => ?_) (fun ci3 => ?_)
         · refine Sp.intro (fun cb4 => ?_) (fun cb4 => ?_)
           · refine ⟨⟨by omega, by omega⟩, nthI hi, Sp.intro (fun cw5 => ?_) (fun cw5 => ?_)⟩
             · exact lf _ _ (hB1 (by unfold pB; rw [cb0, cy1, cl2]; rfl)) (hW1 (by unfold pW; rw [ci3, cb4, cw5]; rfl))
             · exact lf _ _ (hB1 (by unfold pB; rw [cb0, cy1, cl2]; rfl)) (hW0 (by unfold pW; rw [ci3, cb4, cw5]; rfl))
           · exact lf _ _ (hB1 (by unfold pB; rw [cb0, cy1, cl2]; rfl)) (hW0 (by unfold pW; rw [ci3, cb4]; rfl))
         · exact lf _ _ (hB1 (by unfold pB; rw [cb0, cy1, cl2]; rfl)) (hW0 (by unfold pW; rw [ci3]; rfl))
       · refine Sp.intro (fun ce3 => ?_) (fun ce3 => ?_)
         · refine Sp.intro (fun ci4 => ?_) (fun ci4 => ?_)
           · refine Sp.intro (fun cb5 => ?_) (fun cb5 => ?_)
             · refine ⟨⟨by omega, by omega⟩, nthI hi, Sp.intro (fun cw6 => ?_) (fun cw6 => ?_)⟩
               · exact lf _ _ (hB1 (by unfold pB; rw [cb0, cy1, cl2, ce3]; rfl)) (hW1 (by unfold pW; rw [ci4, cb5, cw6]; rfl))
               · exact lf _ _ (hB1 (by unfold pB; rw [cb0, cy1, cl2, ce3]; rfl)) (hW0 (by unfold pW; rw [ci4, cb5, cw6]; rfl))
             · exact lf _ _ (hB1 (by unfold pB; rw [cb0, cy1, cl2, ce3]; rfl)) (hW0 (by unfold pW; rw [ci4, cb5]; rfl))
           · exact lf _ _ (hB1 (by unfold pB; rw [cb0, cy1, cl2, ce3]; rfl)) (hW0 (by unfold pW; rw [ci4]; rfl))
         · refine Sp.intro (fun ci4 => ?_) (fun ci4 => ?_)
           · refine Sp.intro (fun cb5 => ?_) (fun cb5 => ?_)
             · refine ⟨⟨by omega, by omega⟩, nthI hi, Sp.intro (fun cw6 => ?_) (fun cw6 => ?_)⟩
               · exact lf _ _ (hB0 (by unfold pB; rw [cb0, cy1, cl2, ce3]; rfl)) (hW1 (by unfold pW; rw [ci4, cb5, cw6]; rfl))
               · exact lf _ _ (hB0 (by unfold pB; rw [cb0, cy1, cl2, ce3]; rfl)) (hW0 (by unfold pW; rw [ci4, cb5, cw6]; rfl))
             · exact lf _ _ (hB0 (by unfold pB; rw [cb0, cy1, cl2, ce3]; rfl)) (hW0 (by unfold pW; rw [ci4, cb5]; rfl))
           · exact lf _ _ (hB0 (by unfold pB; rw [cb0, cy1, cl2, ce3]; rfl)) (hW0 (by unfold pW; rw [ci4]; rfl))
     · refine Sp.intro (fun ci2 => ?_) (fun ci2 => ?_)
       · refine Sp.intro (fun cb3 => ?_) (fun cb3 => ?_)
         · refine ⟨⟨by omega, by omega⟩, nthI hi, Sp.intro (fun cw4 => ?_) (fun cw4 => ?_)⟩
           · exact lf _ _ (hB0 (by unfold pB; rw [cb0, cy1]; rfl)) (hW1 (by unfold pW; rw [ci2, cb3, cw4]; rfl))
           · exact lf _ _ (hB0 (by unfold pB; rw [cb0, cy1]; rfl)) (hW0 (by unfold pW; rw [ci2, cb3, cw4]; rfl))
         · exact lf _ _ (hB0 (by unfold pB; rw [cb0, cy1]; rfl)) (hW0 (by unfold pW; rw [ci2, cb3]; rfl))
       · exact lf _ _ (hB0 (by unfold pB; rw [cb0, cy1]; rfl)) (hW0 (by unfold pW; rw [ci2]; rfl))
   · refine Sp.intro (fun ci1 => ?_) (fun ci1 => ?_)
     · refine Sp.intro (fun cb2 => ?_) (fun cb2 => ?_)
       · refine ⟨⟨by omega, by omega⟩, nthI hi, Sp.intro (fun cw3 => ?_) (fun cw3 => ?_)⟩
         · exact lf _ _ (hB0 (by unfold pB; rw [cb0]; rfl)) (hW1 (by unfold pW; rw [ci1, cb2, cw3]; rfl))
         · exact lf _ _ (hB0 (by unfold pB; rw [cb0]; rfl)) (hW0 (by unfold pW; rw [ci1, cb2, cw3]; rfl))
       · exact lf _ _ (hB0 (by unfold pB; rw [cb0]; rfl)) (hW0 (by unfold pW; rw [ci1, cb2]; rfl))
     · exact lf _ _ (hB0 (by unfold pB; rw [cb0]; rfl)) (hW0 (by unfold pW; rw [ci1]; rfl))
 · have hk : k = i + 1 := by have := of_decide_eq_false c; omega
   subst hk
   unfold frLk1 at ha
   simp only [svs_len] at ha
   refine Sp.intro (fun d => absurd (of_decide_eq_true d) hs) (fun d => ⟨⟨by omega, by omega⟩, nthI hi, Sp.intro (fun e => Sp.intro (fun x => absurd (of_decide_eq_true x) (hr (of_decide_eq_true e))) (fun x => ?_)) (fun e => ?_)⟩)
   · exact ⟨.dat (HF_in _), .dat (HF_in _), .dat (HF_svs _), .dat (HF_svs _), ha⟩
   · exact ⟨.dat (HF_in _), .dat (HF_in _), .dat (HF_svs _), .dat (HF_svs _), ha⟩
theorem lk_loop {tm tk : List Int} {S R : Nat} (q : QOk tm tk S R) {o : List SvP} (ho : o.length = tm.length) (hG : ∀ i, i < tm.length → Gd tm tk S R o i) (hB : OB 1000000000000000 o) :
 LAtZ (XLw qF quO) 1 (Func.ntmps Proofs.Tryz.f7) ⟨.leaf, 0⟩ (bodyOf Proofs.Tryz.f7) [1, 1, 1, 1, 1, 0, 1, 0] (kFinLk (leafK (fun v2 => v2 = .bool true) (fun v2 A2 => Frz A2 v2 (.bool true)))) (frLk1 tm tk S R o 0 0) ⟨.leaf, 0⟩ := by
 refine LAtZ.stepF XLw_ok [] [] [] [0, 1, 2, 3, 9, 13, 49, 50, 51] (by kernel_rfl) (fun n F A => ∃ (i : Nat) (last : Int), F = frLk1 tm tk S R o last i ∧ A = ⟨.leaf, 0⟩ ∧ i + n = o.length ∧ (last = 0 ∨ ∃ j, j < i ∧ bgn o j ∧ last = (oAt o j).1)) ?_ (k := o.length) ⟨0, 0, rfl, rfl, by omega, .inl rfl⟩
 rintro n F A ⟨i, last, rfl, rfl, hin, hl⟩
 have hN := q.n
 refine (jLk1_nf _ _ _ qF quO tm tk S R o last i).mpr ?_
 simp only [svs_len, inV_len]
 refine Sp.intro (fun c => ?_) (fun _ => by trivial)
 have hio : i < o.length := by have := of_decide_eq_true c; omega
 have hi : i < tm.length := by omega
 have hk : i < tk.length := by rw [q.k]; exact hi
 have a := svA hio
 have ei : IntKind.wrap .i64 ((i : Int) + 1) = ((i + 1 : Nat) : Int) := by rw [i64_in (by omega) (by omega)]; omega
 have g := getI hi
 have g2 := getI hk
 have htk := q.htk i
 have htm := q.htm (tm.getD i 0) (by rw [gI hi]; exact List.getElem_mem hi)
 have hb := hB i
 simp only [a, ei, g, g2, Int.toNat_natCast, svs_take, svs_len]
 refine ⟨⟨by omega, by omega⟩, nthS hio, ?_⟩
 rcases gd_law (hG i hi) with ⟨e1, e2⟩ | ⟨e1, e2, e3, e4, e5, e6⟩
 · refine Sp.intro (fun _ => Sp.intro (fun d => ?_) (fun _ => ?_)) (fun d => absurd e1 (of_decide_eq_false d))
   · rw [e2] at d; simp at d
   · refine ⟨.dat (HF_in _), .dat (HF_in _), .dat (HF_svs _), .dat (HF_svs _), n - 1, by omega, i + 1, last, ?_, by trivial, by omega, ?_⟩
     · unfold frLk1; rw [svs_len]; rfl
     · rcases hl with hl | ⟨j, h1, h2⟩
       · exact .inl hl
       · exact .inr ⟨j, by omega, h2⟩
 · have hw : IntKind.wrap .i64 ((oAt o i).1 + tk.getD i 0) = (oAt o i).1 + tk.getD i 0 := i64_in (by omega) (by omega)
   have hlast : last ≤ (oAt o i).1 := by
    rcases hl with rfl | ⟨j, h1, h2, rfl⟩
    · omega
    · exact e4 j h1 h2
   simp only [hw]
   refine Sp.intro (fun d => absurd (of_decide_eq_true d) e1) (fun _ => ⟨⟨by omega, by omega⟩, nthI hi, Sp.intro (fun d => absurd (of_decide_eq_true d) (by omega)) (fun _ => ⟨⟨by omega, by omega⟩, nthI hk, Sp.intro (fun d => ?_) (fun _ => Sp.intro (fun d => absurd (of_decide_eq_true d) (by omega)) (fun _ => ?_))⟩)⟩)
   · rw [e3] at d; simp at d
   · refine ⟨⟨by omega, by omega⟩, .dat (HF_in _), .dat (HF_in _), .dat (HF_svs _), .dat (HF_svs _), .dat (HF_svs _), ?_⟩
     have := lk_in q (Q := fun v2 => v2 = .bool true) (QA := fun v2 A2 => Frz A2 v2 (.bool true)) (again2 := fun F1 A1 => ∃ k', k' < n ∧ ∃ (i : Nat) (last : Int), F1 = frLk1 tm tk S R o last i ∧ A1 = ⟨.leaf, 0⟩ ∧ i + k' = o.length ∧ (last = 0 ∨ ∃ j, j < i ∧ bgn o j ∧ last = (oAt o j).1)) (o := o) hi ho (by omega) (fun h => by have := e6 h; omega) ⟨n - 1, by omega, i + 1, (oAt o i).1, rfl, rfl, by omega, .inr ⟨i, by omega, e1, rfl⟩⟩
     unfold frLk2 at this
     simp only [svs_len] at this
     exact this
theorem lk_walk (tm tk : List Int) (s r : Int) (h1 : tm.length < 9223372036854775808) (h2 : tk.length < 9223372036854775808) : Walk env Proofs.Tryz.f7 [dat 1 (inV tm), dat 1 (inV tk), .int .i64 s, .int .i64 r] (.bool true) := by
 have i1 : IsI (inV tm) := ⟨by rw [inV_de], by rw [inV_len]; exact h1⟩
 have i2 : IsI (inV tk) := ⟨by rw [inV_de], by rw [inV_len]; exact h2⟩
 refine plainF XLw_ok (d := 1) (HFb _) ((jLk_nf _ _ qF quO tm tk s r).mpr ⟨⟨i1, i2⟩, ?_⟩)
 simp only [inV_de, inV_len, svs_len]
 refine Sp.intro (fun _ => ⟨⟨i1, i2⟩, Sp.intro (fun _ => by trivial) (fun h => by simp at h)⟩) (fun c => ?_)
 have c : decide (qF tm tk s r = 0) = true := by simpa using c
 have q := qF_ok (of_decide_eq_true c)
 have a1 := q.hsv
 have a2 := q.hrm
 obtain ⟨S, rfl⟩ : ∃ n : Nat, s = (n : Int) := ⟨s.toNat, by omega⟩
 obtain ⟨R, rfl⟩ : ∃ n : Nat, r = (n : Int) := ⟨r.toNat, by omega⟩
 have eo : quO tm tk S R = pqueue tm tk S R := by unfold quO; rw [c]; rfl
 obtain ⟨h3, h4⟩ := queue_good (tm := tm) (tk := tk) (sv := S) (rm := R) (by omega) q.htm q.htk q.s
 have h5 := queue_bnd (tm := tm) (tk := tk) (sv := S) (rm := R) (by omega) q.htm q.htk q.n
 rw [eo]
 refine Sp.intro (fun d => ?_) (fun _ => ⟨.dat (HF_in _), .dat (HF_in _), .dat (HF_svs _), .dat (HF_svs _), ?_⟩)
 · rw [h3] at d; simp at d
 · have := lk_loop q h3 h4 h5
   unfold frLk1 at this
   simp only [svs_len] at this
   exact this
theorem limits_law (tm tk : List Int) (s r : Int) (h1 : tm.length < 9223372036854775808) (h2 : tk.length < 9223372036854775808) (w : World) {v1 v2 : Value} (hv1 : VR (sig0 w) (dat 1 (inV tm)) v1) (hv2 : VR (sig0 w) (dat 1 (inV tk)) v2) :
 Calls Proofs.Tryz.prog 7 #[v1, v2, .int .i64 s, .int .i64 r] w fun e w' => e = .returned (.bool true) ∧ RowKit.Below w.heap.size w w' :=
 calls_flat (con_one env_ok env_gl (fn := Proofs.Tryz.f7) rfl (HF_lw tm tk s r) (lk_walk tm tk s r h1 h2)) (one_self _ _) rfl w (env_none w) (.cons hv1 (.cons hv2 (.cons (.int _ _) (.cons (.int _ _) .nil))))
end
end Go.T9

/- A part of the proof. -/
import Derived.Test.YtcplcanaonmmpaaGreatDoorX3
set_option linter.unusedVariables false
set_option linter.unusedSimpArgs false
set_option maxRecDepth 1000000
namespace Go.T9
open Go Go.AM
noncomputable section
theorem plainG {X : SX} (hX : X.Ok) {d : Nat} {fn : Func} {args : List Value} {v : Value} (h : sxFnF X d fn args ⟨.leaf, 0⟩ (leafK (fun v2 => ∀ A, Frz A v2 v) (fun v2 A2 => Frz A2 v2 v))) : Walk X.E fn args v := by
 unfold sxFnF at h
 split at h
 · rename_i c hc
   split at h
   · rename_i F hF
     cases hb : Nat.ble args.length fn.ntmps with
     | false => rw [hb] at h; exact h.elim
     | true =>
       rw [hb] at h
       refine ⟨c, F, hc, hb, hF, (sx_ok hX (d := d) h).mono fun ex F' A' q => ?_⟩
       obtain ⟨q1, v2, q2, q3⟩ := finK_ok q
       refine ⟨q1, v2, q2, ?_⟩
       rcases leafK_ok q3 with q3 | q3
       · exact q3 _
       · exact q3
   · exact h.elim
 · exact h.elim
theorem frz_sv {A : AH} {B n : Nat} {o : List SvP} (hg : A.t.get B = some (svO o)) (hn : n = o.length) : Frz A (.slice (some ⟨B, 0, none⟩) n (unk + 3 + 2)) (dat 2 (svs o)) := by
 subst hn
 have hs : ∀ x ∈ svs o, x.cells.size = 2 := fun x hx => by
  obtain ⟨y, _, rfl⟩ := List.mem_map.1 hx
  rfl
 refine .gsl (lo := 0) hg (List.append_nil _) rfl rfl (by first | omega | trivial) (by simp) hs (by rw [svs_len]; omega) ?_ rfl hs (svs_len o)
 rw [List.drop_zero, List.take_of_length_le (by rw [svs_len]; exact Nat.le_refl _)]
 refine FrzL.same fun x hx => ?_
 obtain ⟨y, hy, hx⟩ := List.mem_flatMap.1 hx
 obtain ⟨z, _, rfl⟩ := List.mem_map.1 hy
 exact HF_agg (HF_sv z) x hx
def quV (o : List SvP) (e : Int) : Value := .tuple ⟨[dat 2 (svs o), .int .i64 e]⟩
def quO (tm tk : List Int) (s r : Int) : List SvP := bif decide (qF tm tk s r = 0) then pqueue tm tk s.toNat r.toNat else []
theorem frz_qu {A : AH} {B n : Nat} {o : List SvP} (hg : A.t.get B = some (svO o)) (hn : n = o.length) : Frz A (.tuple ⟨[.slice (some ⟨B, 0, none⟩) n (unk + 3 + 2), .int .i64 0]⟩) (quV o 0) := .tuple (.cons (frz_sv hg hn) (.cons (.same (HFi _ _)) .nil))
theorem frz_no (A : AH) (e : Int) : Frz A (.tuple ⟨[.slice none 0 0, .int .i64 e]⟩) (quV [] e) := .tuple (.cons (.nils 2) (.cons (.same (HFi _ _)) .nil))
theorem svs_rep (n : Nat) : List.replicate n (Value.agg ⟨[Vi 0, Vi 0]⟩) = svs (List.replicate n (0, 0)) := by unfold svs; rw [List.map_replicate]; rfl
theorem svI_app (w : List Nat) (i : Nat) : inV (svI w) ++ [Vi (i : Int)] = inV (svI (w ++ [i])) := by unfold svI inV; rw [List.map_append, List.map_append]; rfl
theorem set_sv (o : List SvP) (n : Nat) (a b : Int) : (svs o).set n (.agg ⟨[Vi a, Vi b]⟩) = svs (o.set n (a, b)) := svs_set o n (a, b)
theorem PI.frp {tm tk : List Int} {s r : Int} (q : QOk tm tk s r) {i : Nat} {x : QS} (h : PI tm.length i x) (hi : i ≤ tm.length) : FrP tk x := by
 have e := h.o
 refine ⟨q.htk, ?_, ?_, i, ?_, ?_⟩
 · rw [e]; exact q.k
 · rw [e]; exact q.n
 · rw [e]; exact hi
 · rw [e]; exact h
theorem XQu_ok : (XQu qF frQ hpush).Ok := ⟨env_ok, env_sym, env_gl, .cons ck_tab (.cons fr_tab (.cons bg_tab .nil))⟩
theorem qu_loop2 {tm tk : List Int} {s r : Int} (q : QOk tm tk s r) {v : Value} {l : List Int} {w : List Nat} {o : List SvP} (hP : PI tm.length tm.length ⟨l, w, o⟩) (hv : v = quV (pend tk (w.length + 1) ⟨l, w, o⟩).o 0) :
 LAtZ (XQu qF frQ hpush) 2 (Func.ntmps Proofs.Tryz.f28) ⟨.leaf, 0⟩ (bodyOf Proofs.Tryz.f28) [1, 1, 1, 1, 1, 1, 1, 1, 0, 0] (kFinQu (leafK (fun v2 => ∀ A, Frz A v2 v) (fun v2 A2 => Frz A2 v2 v))) frQu2 (hQu tk l (svI w) o) := by
 refine LAtZ.stepF XQu_ok nsQu [] [] [11, 12, 13, 15] (by kernel_rfl) (fun k F A => ∃ (l2 : List Int) (w2 : List Nat) (o2 : List SvP), F = frQu2 ∧ A = hQu tk l2 (svI w2) o2 ∧ PI tm.length tm.length ⟨l2, w2, o2⟩ ∧ w2.length < k ∧ v = quV (pend tk k ⟨l2, w2, o2⟩).o 0) ?_ (k := w.length + 1) ⟨l, w, o, rfl, rfl, hP, Nat.lt_succ_self _, hv⟩
 rintro k F A ⟨l2, w2, o2, rfl, rfl, hP, hk, hv⟩
 obtain ⟨f, rfl⟩ : ∃ f, k = f + 1 := ⟨k - 1, by omega⟩
 have hF := hP.frp q (Nat.le_refl _)
 obtain ⟨b1, b2, b3, b4, b5⟩ := hF.b
 simp only at b1 b2 b3 b4 b5
 refine (jQu2_nf _ _ _ qF frQ hpush tk l2 (svI w2) o2).mpr ?_
 simp only [inV_de, deW_in, svs_de, inV_len, gi0, svI_len]
 refine Sp.intro (fun c => ?_) (fun c => ?_)
 · have hw : w2 ≠ [] := fun e => by rw [e] at c; simp at c
   have h0 : 0 < l2.length := hP.q hw
   have g0 : intAt (inV l2) 0 = l2.getD 0 0 := getI (i := 0) h0
   have g0' : intAt (inV l2) ((0 : Nat) : Int) = l2.getD 0 0 := getI (i := 0) h0
   simp only [g0, g0']
   have hP1 : PI tm.length tm.length (frQ tk (l2.getD 0 0) ⟨l2, w2, o2⟩) := PI.free q.htk _ _ hP
   have hlt : (frQ tk (l2.getD 0 0) ⟨l2, w2, o2⟩).w.length < w2.length := free_wlt tk _ (s := ⟨l2, w2, o2⟩) hw ⟨h0, Int.le_refl _⟩
   have hpe : pend tk (f + 1) ⟨l2, w2, o2⟩ = pend tk f (frQ tk (l2.getD 0 0) ⟨l2, w2, o2⟩) := by
    rw [pend, if_neg hw]; rfl
   rw [hpe] at hv
   generalize frQ tk (l2.getD 0 0) ⟨l2, w2, o2⟩ = s1 at *
   refine ⟨⟨by first | omega | trivial, by first | omega | trivial⟩, nthI h0, HFs_cons (HF_inA _) (HFs_cons (.dat (HF_in _)) (HFs_cons (HF_inA _) (HFs_cons (HF_svA _) (HFs_cons (HF_inA _) (HFs_cons (HF_inA _) (HFs_cons (.dat (HF_in _)) (HFs_cons (HF_svA _) (HFs_end rfl ⟨rowP_in (by first | omega | trivial), ⟨by trivial, by trivial, by trivial⟩, svRowP_in b3, by trivial, hF⟩)))))))), HF_svA _, HF_inA _, .dat (HF_in _), HF_inA _, f, by first | omega | trivial, s1.l, s1.w, s1.o, rfl, ?_, hP1, by first | omega | trivial, hv⟩
   unfold hQu
   simp only [svI_len] <;> rfl
 · have hw : w2 = [] := by
    cases w2 with
    | nil => rfl
    | cons n w3 => exact absurd c (by simp)
   have hpe : pend tk (f + 1) ⟨l2, w2, o2⟩ = ⟨l2, w2, o2⟩ := by rw [pend, if_pos hw]
   rw [hpe] at hv
   rw [hv]
   exact frz_qu (o := o2) rfl rfl
theorem qu_loop1 {tm tk : List Int} {sv rm : Nat} (q : QOk tm tk sv rm) {v : Value} (hv : v = quV (pqueue tm tk sv rm) 0) :
 LAtZ (XQu qF frQ hpush) 2 (Func.ntmps Proofs.Tryz.f28) ⟨.leaf, 0⟩ (bodyOf Proofs.Tryz.f28) [1, 1, 1, 1, 1, 1, 1, 0, 1, 0] (kFinQu (leafK (fun v2 => ∀ A, Frz A v2 v) (fun v2 A2 => Frz A2 v2 v))) (frQu tm sv rm 0) (hQu tk [] (svI []) (List.replicate tm.length (0, 0))) := by
 refine LAtZ.stepF XQu_ok nsQu [] [] [2, 3, 11, 12, 13, 14, 15, 33, 34, 35] (by kernel_rfl) (fun k F A => ∃ (i : Nat) (l : List Int) (w : List Nat) (o : List SvP), F = frQu tm sv rm i ∧ A = hQu tk l (svI w) o ∧ i + k = tm.length ∧ PI tm.length i ⟨l, w, o⟩ ∧ pall tk sv rm 0 tm ⟨[], [], List.replicate tm.length (0, 0)⟩ = pall tk sv rm i (tm.drop i) ⟨l, w, o⟩) ?_ (k := tm.length) ⟨0, [], [], _, rfl, rfl, by first | omega | trivial, PI.init _, rfl⟩
 rintro k F A ⟨i, l, w, o, rfl, rfl, hik, hP, hp⟩
 have hF := hP.frp q (by omega)
 obtain ⟨b1, b2, b3, b4, b5⟩ := hF.b
 simp only at b1 b2 b3 b4 b5
 have hN := q.n
 refine (jQu1_nf _ _ _ qF frQ hpush tm tk l (svI w) o sv rm i).mpr ?_
 simp only [inV_de, deW_in, svs_de, inV_len, svI_len]
 refine Sp.intro (fun c => ?_) (fun c => ?_)
 · have hi : i < tm.length := by have := of_decide_eq_true c; omega
   have g := getI hi
   have ei : IntKind.wrap .i64 ((i : Int) + 1) = ((i + 1 : Nat) : Int) := by rw [i64_in (by omega) (by omega)]; omega
   have hti := q.htm (tm.getD i 0) (by rw [gI hi]; exact List.getElem_mem hi)
   simp only [g, ei, glueN, Int.toNat_natCast, inV_de, svs_de]
   have hP1 : PI tm.length i (frQ tk (tm.getD i 0) ⟨l, w, o⟩) := PI.free q.htk _ _ hP
   have hpp : pall tk sv rm i (tm.drop i) ⟨l, w, o⟩ = pall tk sv rm (i + 1) (tm.drop (i + 1)) (parr tk sv rm i (tm.getD i 0) ⟨l, w, o⟩) := by
    rw [List.drop_eq_getElem_cons hi, gI hi]; rfl
   have hpa : parr tk sv rm i (tm.getD i 0) ⟨l, w, o⟩ = (if (frQ tk (tm.getD i 0) ⟨l, w, o⟩).l.length < sv then qbeg tk (frQ tk (tm.getD i 0) ⟨l, w, o⟩).l (frQ tk (tm.getD i 0) ⟨l, w, o⟩).w (frQ tk (tm.getD i 0) ⟨l, w, o⟩).o i (tm.getD i 0) else if (frQ tk (tm.getD i 0) ⟨l, w, o⟩).w.length < rm then ⟨(frQ tk (tm.getD i 0) ⟨l, w, o⟩).l, (frQ tk (tm.getD i 0) ⟨l, w, o⟩).w ++ [i], (frQ tk (tm.getD i 0) ⟨l, w, o⟩).o⟩ else ⟨(frQ tk (tm.getD i 0) ⟨l, w, o⟩).l, (frQ tk (tm.getD i 0) ⟨l, w, o⟩).w, (frQ tk (tm.getD i 0) ⟨l, w, o⟩).o.set i (-1, -1)⟩) := rfl
   rw [hpp, hpa] at hp
   generalize frQ tk (tm.getD i 0) ⟨l, w, o⟩ = s1 at *
   have hF1 := hP1.frp q (by omega)
   obtain ⟨d1, d2, d3, d4, d5⟩ := hF1.b
   have ho1 : s1.o.length = tm.length := hP1.o
   refine ⟨⟨by first | omega | trivial, by first | omega | trivial⟩, nthI hi, HFs_cons (HF_inA _) (HFs_cons (.dat (HF_in _)) (HFs_cons (HF_inA _) (HFs_cons (HF_svA _) (HFs_cons (HF_inA _) (HFs_cons (HF_inA _) (HFs_cons (.dat (HF_in _)) (HFs_cons (HF_svA _) (HFs_end rfl ⟨rowP_in (by first | omega | trivial), ⟨by trivial, by trivial, by trivial⟩, svRowP_in b3, by trivial, hF⟩)))))))), Sp.intro (fun c1 => ?_) (fun c1 => ?_)⟩
   · have hs : s1.l.length < sv := by have := of_decide_eq_true c1; omega
     rw [if_pos hs] at hp
     refine ⟨HFs_cons (.dat (HF_in _)) (HFs_cons (HF_svA _) (HFs_cons (HF_inA _) (HFs_cons (HF_inA _) (HFs_cons (.dat (HF_in _)) (HFs_cons (HF_svA _) (HFs_end rfl ⟨rowP_in (by first | omega | trivial), svRowP_in d3, bgP_in q.htk (by first | omega | trivial) (by rw [ho1]; exact q.k) hti.1 (by first | omega | trivial)⟩)))))), .dat (HF_in _), HF_svA _, HF_inA _, .dat (HF_in _), HF_inA _, k - 1, by first | omega | trivial, i + 1, hpush s1.l (tm.getD i 0 + tk.getD i 0), s1.w, s1.o.set i (tm.getD i 0, tm.getD i 0 + tk.getD i 0), ?_, ?_, by first | omega | trivial, PI.beg q.htk hP1 hti.1 hti.2, hp⟩
     · unfold frQu; rw [inV_len]; rfl
     · unfold hQu; simp only [svI_len, List.length_set] <;> rfl
   · have hs : ¬ s1.l.length < sv := by have := of_decide_eq_false c1; omega
     rw [if_neg hs] at hp
     refine Sp.intro (fun c2 => ?_) (fun c2 => ?_)
     · have hr : s1.w.length < rm := by have := of_decide_eq_true c2; omega
       rw [if_pos hr] at hp
       rw [svI_app]
       refine ⟨⟨by first | rfl | trivial, by first | omega | trivial, by first | omega | trivial, by first | omega | trivial⟩, .dat (HF_in _), HF_svA _, HF_inA _, .dat (HF_in _), HF_inA _, k - 1, by first | omega | trivial, i + 1, s1.l, s1.w ++ [i], s1.o, ?_, ?_, by first | omega | trivial, PI.wait hP1 ?_, hp⟩
       · unfold frQu; rw [inV_len]; rfl
       · unfold hQu; simp only [svI_len, List.length_append, List.length_cons, List.length_nil] <;> rfl
       · have := q.hsv
         omega
     · have hr : ¬ s1.w.length < rm := by have := of_decide_eq_false c2; omega
       rw [if_neg hr] at hp
       rw [set_sv]
       refine ⟨⟨by first | omega | trivial, by first | omega | trivial⟩, by rw [svs_len]; omega, .dat (HF_in _), HF_svA _, HF_inA _, .dat (HF_in _), HF_inA _, k - 1, by first | omega | trivial, i + 1, s1.l, s1.w, s1.o.set i (-1, -1), ?_, ?_, by first | omega | trivial, PI.refuse hP1 _, hp⟩
       · unfold frQu; rw [inV_len]; rfl
       · unfold hQu; simp only [svI_len, List.length_set] <;> rfl
 · have c := of_decide_eq_false c
   have : i = tm.length := by omega
   subst this
   rw [List.drop_length] at hp
   refine ⟨HF_svA _, HF_inA _, .dat (HF_in _), HF_inA _, ?_⟩
   have := qu_loop2 q (v := v) hP (by rw [hv]; unfold pqueue; rw [hp]; rfl)
   unfold hQu at this
   simp only [svI_len] at this
   exact this
theorem qu_walk (tm tk : List Int) (s r : Int) (h1 : tm.length < 9223372036854775808) (h2 : tk.length < 9223372036854775808) : Walk env Proofs.Tryz.f28 [dat 1 (inV tm), dat 1 (inV tk), .int .i64 s, .int .i64 r] (quV (quO tm tk s r) (qF tm tk s r)) := by
 have i1 : IsI (inV tm) := ⟨by rw [inV_de], by rw [inV_len]; exact h1⟩
 have i2 : IsI (inV tk) := ⟨by rw [inV_de], by rw [inV_len]; exact h2⟩
 refine plainG XQu_ok (d := 2) ((jQu_nf _ _ qF frQ hpush tm tk s r).mpr ⟨⟨i1, i2⟩, ?_⟩)
 simp only [inV_de, inV_len, Int.toNat_natCast, svs_rep]
 refine Sp.intro (fun c => ?_) (fun c => ?_)
 · have c : decide (qF tm tk s r = 0) = false := by simpa using c
   unfold quO
   rw [c]
   exact fun A => frz_no A _
 · have c : decide (qF tm tk s r = 0) = true := by simpa using c
   have e := of_decide_eq_true c
   have q := qF_ok e
   have a1 := q.hsv
   have a2 := q.hrm
   have hN := q.n
   obtain ⟨sv, rfl⟩ : ∃ n : Nat, s = (n : Int) := ⟨s.toNat, by omega⟩
   obtain ⟨rm, rfl⟩ : ∃ n : Nat, r = (n : Int) := ⟨r.toNat, by omega⟩
   refine ⟨⟨by first | omega | trivial, by first | omega | trivial, by first | omega | trivial, by first | omega | trivial⟩, .dat (HF_in _), HF_svA _, HF_inA [], .dat (HF_in _), HF_inA [], ?_⟩
   have := qu_loop1 q (v := quV (quO tm tk sv rm) (qF tm tk sv rm)) (by unfold quO; rw [c, e, Int.toNat_natCast, Int.toNat_natCast]; rfl)
   unfold hQu frQu at this
   simp only [inV_len, List.length_replicate] at this
   exact this
theorem qu_con {f : FuncId} {fn : Func} (hfn : env.fn f = some fn) (hw : ∀ (tm tk : List Int) (s r : Int), tm.length < 9223372036854775808 → tk.length < 9223372036854775808 → Walk env fn [dat 1 (inV tm), dat 1 (inV tk), .int .i64 s, .int .i64 r] (quV (quO tm tk s r) (qF tm tk s r))) : ∀ args A p v A', pureR qfP (quX qF quO) args A = some (p, v, A') → PH p → CallAt env f args A v A' := walk_tab env_ok env_gl hfn fun args v h hp => by
 unfold quX at h
 split at h
 · rename_i sz l1 sz2 l2 s r
   obtain ⟨⟨a1, a2⟩, b1, b2⟩ : IsI l1 ∧ IsI l2 := hp
   cases hz : Nat.beq sz 1 && Nat.beq sz2 1 with
   | false => rw [hz] at h; cases h
   | true =>
     rw [hz] at h
     simp only [Bool.and_eq_true, Nat.beq_eq] at hz
     obtain ⟨rfl, rfl⟩ := hz
     simp only [cond_true, Option.some.injEq] at h
     subst h
     have := hw (l1.map deI) (l2.map deI) s r (by simpa using a2) (by simpa using b2)
     rw [← a1, ← b1] at this
     exact ⟨HF.cons (.dat (by rw [a1]; exact HF_in _)) (HF.cons (.dat (by rw [b1]; exact HF_in _)) (HF.cons (HFi _ _) (HF.cons (HFi _ _) HF.nil))), this⟩
 · cases h
theorem qu_tab : ∀ args A p v A', pureR qfP (quX qF quO) args A = some (p, v, A') → PH p → CallAt env 28 args A v A' := qu_con (fn := Proofs.Tryz.f28) rfl qu_walk
end
end Go.T9

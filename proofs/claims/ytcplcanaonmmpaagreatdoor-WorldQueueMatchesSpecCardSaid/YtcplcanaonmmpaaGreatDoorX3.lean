/- A part of the proof. -/
import Derived.Test.YtcplcanaonmmpaaGreatDoorX2
set_option linter.unusedVariables false
set_option linter.unusedSimpArgs false
set_option maxRecDepth 1000000
namespace Go.T9
open Go Go.AM
noncomputable section
theorem up_i {i : Nat} (h0 : 0 < i) (h1 : i < 4611686018427387904) : IntKind.wrap .i64 (Int.tdiv (IntKind.wrap .i64 ((i : Int) - 1)) 2) = (((i - 1) / 2 : Nat) : Int) := by
 have e1 : IntKind.wrap .i64 ((i : Int) - 1) = ((i - 1 : Nat) : Int) := by rw [i64_in (by omega) (by omega)]; omega
 rw [e1]
 have e2 : Int.tdiv ((i - 1 : Nat) : Int) 2 = (((i - 1) / 2 : Nat) : Int) := rfl
 rw [e2, i64_in (by omega) (by omega)]
theorem sw_set (l : List Int) (i j : Nat) : ((inV l).set i (Vi (l.getD j 0))).set j (Vi (l.getD i 0)) = inV (sw l i j) := by rw [inV_set, inV_set]; rfl
theorem pu_walk {l : List Int} (hl : l.length ≤ 100000) (x : Int) : WalkF env Proofs.Tryz.f54 [ptB 0, .int .i64 x] (hPu l) (.tuple ⟨[]⟩) (hPu2 (hpush l x)) := by
 refine sxFnF_walk XPu_ok (d := 1) (ns := []) (zs := []) (ws := []) ((jPu_nf _ l x).mpr ⟨⟨rfl, by rw [inV_len]; rfl, by omega, by omega⟩, ?_⟩)
 rw [show [Vi x] = inV [x] from rfl, inV_app]
 refine ⟨HF_inA _, LAtZ.stepF XPu_ok [] [] [] [0, 4] (by kernel_rfl) (fun k F A => ∃ (l2 : List Int) (i : Nat), F = frPu i ∧ A = hPu2 l2 ∧ l2.length = l.length + 1 ∧ i < l2.length ∧ i < k ∧ hup k l2 i = hpush l x) ?_ (k := l.length + 1) ⟨l ++ [x], l.length, ?_, ?_, by simp, by simp, by omega, rfl⟩⟩
 · rintro k F A ⟨l2, i, rfl, rfl, h1, h2, h3, h4⟩
   refine (jPuL_nf _ _ l l2 i).mpr (Sp.intro (fun q => ?_) (fun q => ?_))
   · have q := of_decide_eq_true q
     have hp : (i - 1) / 2 < l2.length := by omega
     rw [up_i (by omega) (by omega)]
     simp only [Int.toNat_natCast, Nat.add_zero, getI h2, getI hp, sw_set]
     obtain ⟨f, rfl⟩ : ∃ f, k = f + 1 := ⟨k - 1, by omega⟩
     have hu : hup (f + 1) l2 i = if l2.getD i 0 < l2.getD ((i - 1) / 2) 0 then hup f (sw l2 i ((i - 1) / 2)) ((i - 1) / 2) else l2 := by
      rw [hup, if_neg (by omega)]
     rw [hu] at h4
     refine ⟨by unfold NZ; decide, ⟨by omega, by omega⟩, nthI h2, ⟨by omega, by omega⟩, nthI hp, Sp.intro (fun c => ?_) (fun c => ?_)⟩
     · simp only [Bool.not_eq_true', decide_eq_false_iff_not] at c
       rw [if_neg c] at h4
       subst h4
       exact ⟨HF_inA _, by first | exact ⟨rfl, rfl⟩ | exact ⟨trivial, rfl⟩⟩
     · simp only [Bool.not_eq_false', decide_eq_true_eq] at c
       rw [if_pos c] at h4
       refine ⟨⟨by omega, by omega⟩, nthI hp, ⟨by omega, by omega⟩, nthI h2, ⟨by omega, by omega⟩, by rw [inV_len]; exact h2, ⟨by omega, by omega⟩, by rw [List.length_set, inV_len]; exact hp, HF_inA _, f, by omega, sw l2 i ((i - 1) / 2), (i - 1) / 2, rfl, ?_, by rw [sw_len]; exact h1, by rw [sw_len]; exact hp, by omega, h4⟩
       unfold hPu2; rw [sw_len]; rfl
   · have q := of_decide_eq_false q
     obtain rfl : i = 0 := by omega
     have : hup k l2 0 = l2 := by cases k <;> rfl
     rw [this] at h4
     subst h4
     exact ⟨HF_inA _, rfl, rfl⟩
 · rw [i64_in (by omega) (by omega)]
   unfold frPu
   rw [show (((l.length + 1 : Nat) : Int) - 1) = (l.length : Int) by omega]; rfl
 · unfold hPu2
   rw [List.length_append]; rfl
theorem pu_tab : ∀ args A p v A', frmR noAr (spPu hpush) args A = some (p, v, A') → PH p → CallAt env 54 args A v A' := frmR_ok env_ok (fn := Proofs.Tryz.f54) rfl fun args objs p v objs' h hp => by
 unfold spPu at h
 split at h
 · rename_i B o x B1 o1 n m g e els tl e2
   cases hb : ((Nat.beq B 0 && Nat.beq o 0) && (Nat.beq B1 1 && Nat.beq o1 0)) && ((Nat.beq m (unk + 3 + 1) && Nat.beq g 52) && (Nat.beq e 125 && Nat.beq e2 3)) with
   | false => rw [hb] at h; cases h
   | true =>
     rw [hb] at h
     simp only [cond_true, Option.some.injEq, Prod.mk.injEq] at h
     obtain ⟨rfl, rfl, rfl⟩ := h
     simp only [Bool.and_eq_true, Nat.beq_eq] at hb
     obtain ⟨⟨⟨rfl, rfl⟩, rfl, rfl⟩, ⟨rfl, rfl⟩, rfl, rfl⟩ := hb
     obtain ⟨rfl, h1, rfl, h2⟩ : RowP els tl n := hp
     have := pu_walk (l := els.map deI) (by simpa using h2) x
     rw [← heap_pu, ← heap_pu2, List.length_map] at this
     have e : inO (els.map deI) = .gro els [] 3 := by unfold inO; rw [← h1]
     rw [e] at this
     exact this
 · cases h
theorem k1_i {i : Nat} (h1 : i < 1152921504606846976) : IntKind.wrap .i64 (IntKind.wrap .i64 (2 * (i : Int)) + 1) = ((2 * i + 1 : Nat) : Int) := by
 rw [i64_in (x := 2 * (i : Int)) (by omega) (by omega), i64_in (by omega) (by omega)]; omega
theorem k2_i {i : Nat} (h1 : i < 1152921504606846976) : IntKind.wrap .i64 (IntKind.wrap .i64 (2 * (i : Int)) + 2) = ((2 * i + 2 : Nat) : Int) := by
 rw [i64_in (x := 2 * (i : Int)) (by omega) (by omega), i64_in (by omega) (by omega)]; omega
theorem hdown_stop {f : Nat} {l : List Int} {i : Nat} (h : hlst l i = i) : hdown (f + 1) l i = l := by unfold hdown; rw [if_pos h]
theorem hdown_go {f : Nat} {l : List Int} {i : Nat} (h : hlst l i ≠ i) : hdown (f + 1) l i = hdown f (sw l i (hlst l i)) (hlst l i) := by rw [hdown, if_neg h]
theorem hls1_t {l : List Int} {i : Nat} (h1 : 2 * i + 1 < l.length) (h2 : l.getD (2 * i + 1) 0 < l.getD i 0) : hls1 l i = 2 * i + 1 := if_pos ⟨h1, h2⟩
theorem hls1_f {l : List Int} {i : Nat} (h : ¬ (2 * i + 1 < l.length ∧ l.getD (2 * i + 1) 0 < l.getD i 0)) : hls1 l i = i := if_neg h
theorem hlst_t {l : List Int} {i : Nat} (h1 : 2 * i + 2 < l.length) (h2 : l.getD (2 * i + 2) 0 < l.getD (hls1 l i) 0) : hlst l i = 2 * i + 2 := if_pos ⟨h1, h2⟩
theorem hlst_f {l : List Int} {i : Nat} (h : ¬ (2 * i + 2 < l.length ∧ l.getD (2 * i + 2) 0 < l.getD (hls1 l i) 0)) : hlst l i = hls1 l i := if_neg h
theorem wh_self (l : List Int) : (inV l).take l.length = inV l := by rw [← inV_len l]; exact List.take_length
theorem wh_sw (l : List Int) (i j : Nat) : (inV (sw l i j)).take l.length = inV (sw l i j) := by rw [← sw_len l i j]; exact wh_self _
def hPv (n : Nat) (els : List Value) : AH := ⟨(.node (.node .leaf (some (.dead)) .leaf) (some (hpO 2 n)) (.node .leaf (some (.gro els [] 3)) .leaf)), 3⟩
theorem hPv_eq (l : List Int) : hPv l.length (inV l) = hPu2 l := rfl
theorem po_leaf {again : KF} {X : Prop} {l : List Int} {i m : Nat} {out : Int} (hm : m < l.length) (hi : i < l.length) (hne : m ≠ i) (ha : again (frPo out l.length m) (hPv l.length (inV (sw l i m)))) :
 Sp (decide ((m : Int) = (i : Int))) X ((0 ≤ (m : Int) ∧ (m : Int) < (l.length : Int)) ∧ nth (inV l) m = some (Vi (l.getD m 0)) ∧ (0 ≤ (i : Int) ∧ (i : Int) < (l.length : Int)) ∧ nth (inV l) i = some (Vi (l.getD i 0)) ∧ (0 ≤ (i : Int) ∧ (i : Int) < (l.length : Int)) ∧ i < (inV l).length ∧ (0 ≤ (m : Int) ∧ (m : Int) < (l.length : Int)) ∧ m < ((inV l).set i (Vi (l.getD m 0))).length ∧ l.length ≤ (((inV l).set i (Vi (l.getD m 0))).set m (Vi (l.getD i 0))).length ∧ HF (.agg ⟨(((inV l).set i (Vi (l.getD m 0))).set m (Vi (l.getD i 0))).take l.length⟩) ∧ again (frPo out l.length m) (hPv l.length ((((inV l).set i (Vi (l.getD m 0))).set m (Vi (l.getD i 0))).take l.length))) := by
 refine Sp.intro (fun c => absurd (of_decide_eq_true c) (by omega)) (fun _ => ?_)
 rw [sw_set, wh_sw]
 refine ⟨⟨by omega, by omega⟩, nthI hm, ⟨by omega, by omega⟩, nthI hi, ⟨by omega, by omega⟩, by rw [inV_len]; exact hi, ⟨by omega, by omega⟩, by rw [List.length_set, inV_len]; exact hm, by rw [inV_len, sw_len]; exact Nat.le_refl _, HF_inA _, ha⟩
theorem po_loop {l0 l2 : List Int} {k i : Nat} {out : Int} {Q : Value → AH → Prop} {again : KF} (h1 : l2.length ≤ 100000) (h2 : i < l2.length ∨ i = 0) (h3 : l2.length < k + i) (hk : 0 < k)
 (hq : hdown k l2 i = l2 → Q (.int .i64 out) (hPu2 l2)) (ha : ∀ m, i < m → m < l2.length → hdown k l2 i = hdown (k - 1) (sw l2 i m) m → again (frPo out l2.length m) (hPu2 (sw l2 i m))) : jPoL Q again l0 l2 out (l2.length : Nat) i := by
 obtain ⟨f, rfl⟩ : ∃ f, k = f + 1 := ⟨k - 1, by omega⟩
 refine (jPoL_nf Q again l0 l2 out _ i).mpr ?_
 rw [k1_i (by omega), k2_i (by omega)]
 simp only [Int.toNat_natCast, Nat.add_zero]
 have hag : ∀ m, m = hlst l2 i → i < m → m < l2.length → again (frPo out l2.length m) (hPv l2.length (inV (sw l2 i m))) := fun m e h hm => by
  have := ha m h hm (by rw [hdown_go (by omega), ← e]; rfl)
  rw [← hPv_eq, sw_len] at this
  exact this
 have hqq : hlst l2 i = i → Q (.int .i64 out) (hPu2 l2) := fun e => hq (hdown_stop e)
 refine Sp.intro (fun c1 => ?_) (fun c1 => ?_)
 · have b1 : 2 * i + 1 < l2.length := by have := of_decide_eq_true c1; omega
   have bi : i < l2.length := by omega
   have g1 := getI b1
   have gi := getI bi
   simp only [g1, gi]
   refine ⟨⟨by omega, by omega⟩, nthI b1, ⟨by omega, by omega⟩, nthI bi, Sp.intro (fun c2 => ?_) (fun c2 => ?_)⟩
   · have e1 := hls1_t b1 (of_decide_eq_true c2)
     refine Sp.intro (fun c3 => ?_) (fun c3 => ?_)
     · have b2 : 2 * i + 2 < l2.length := by have := of_decide_eq_true c3; omega
       have g2 := getI b2
       simp only [g2]
       refine ⟨⟨by omega, by omega⟩, nthI b2, ⟨by omega, by omega⟩, nthI b1, Sp.intro (fun c4 => ?_) (fun c4 => ?_)⟩
       · exact po_leaf b2 bi (by omega) (hag _ (hlst_t b2 (by rw [e1]; exact of_decide_eq_true c4)).symm (by omega) b2)
       · exact po_leaf b1 bi (by omega) (hag _ (by rw [hlst_f (by rw [e1]; exact fun h => of_decide_eq_false c4 h.2), e1]) (by omega) b1)
     · exact po_leaf b1 bi (by omega) (hag _ (by rw [hlst_f (fun h => by have := of_decide_eq_false c3; omega), e1]) (by omega) b1)
   · have e1 := hls1_f (fun h => of_decide_eq_false c2 h.2)
     refine Sp.intro (fun c3 => ?_) (fun c3 => ?_)
     · have b2 : 2 * i + 2 < l2.length := by have := of_decide_eq_true c3; omega
       have g2 := getI b2
       simp only [g2]
       refine ⟨⟨by omega, by omega⟩, nthI b2, ⟨by omega, by omega⟩, nthI bi, Sp.intro (fun c4 => ?_) (fun c4 => ?_)⟩
       · exact po_leaf b2 bi (by omega) (hag _ (hlst_t b2 (by rw [e1]; exact of_decide_eq_true c4)).symm (by omega) b2)
       · exact Sp.intro (fun _ => ⟨HF_inA _, hqq (by rw [hlst_f (by rw [e1]; exact fun h => of_decide_eq_false c4 h.2), e1])⟩) (fun c => by simp at c)
     · exact Sp.intro (fun _ => ⟨HF_inA _, hqq (by rw [hlst_f (fun h => by have := of_decide_eq_false c3; omega), e1])⟩) (fun c => by simp at c)
 · have c1 := of_decide_eq_false c1
   have e1 : hls1 l2 i = i := hls1_f (fun h => by omega)
   refine Sp.intro (fun c3 => absurd (of_decide_eq_true c3) (by omega)) (fun c3 => ?_)
   exact Sp.intro (fun _ => ⟨HF_inA _, hqq (by rw [hlst_f (fun h => by omega), e1])⟩) (fun c => by simp at c)
theorem cut_set (l : List Int) : ((inV l).set 0 (Vi (l.getD (l.length - 1) 0))).take (l.length - 1) = inV (hcut l) := by rw [inV_set, inV_take]; rfl
theorem po_walk {l : List Int} (hl : l.length ≤ 100000) (h0 : 0 < l.length) : WalkF env Proofs.Tryz.f58 [ptB 0] (hPu l) (.int .i64 (l.getD 0 0)) (hPu2 (hpop l)) := by
 refine sxFnF_walk XPo_ok (d := 1) (ns := []) (zs := []) (ws := []) ((jPo_nf _ l).mpr ?_)
 have ew : IntKind.wrap .i64 (((l.length : Nat) : Int) - 1) = ((l.length - 1 : Nat) : Int) := by rw [i64_in (by omega) (by omega)]; omega
 have g0 : intAt (inV l) 0 = l.getD 0 0 := getI (i := 0) h0
 have g1 := getI (l := l) (i := l.length - 1) (by omega)
 rw [ew]
 simp only [Int.toNat_natCast, Nat.add_zero, g0, g1, cut_set]
 refine ⟨⟨by omega, by omega⟩, nthI h0, ⟨by omega, by omega⟩, nthI (by omega), ⟨by omega, by omega⟩, by rw [inV_len]; exact h0, ⟨by omega, by omega⟩, by rw [List.length_set, inV_len]; omega, HF_inA _, ?_⟩
 refine LAtZ.stepF XPo_ok nsPo [] [] [0, 3, 4, 5] (by kernel_rfl) (fun k F A => ∃ (l2 : List Int) (i : Nat), F = frPo (l.getD 0 0) (l2.length : Nat) i ∧ A = hPu2 l2 ∧ l2.length = l.length - 1 ∧ (i < l2.length ∨ i = 0) ∧ l2.length < k + i ∧ 0 < k ∧ hdown k l2 i = hpop l) ?_ (k := l.length + 1) ⟨hcut l, 0, by rw [hcut_len]; rfl, by unfold hPu2; rw [hcut_len]; rfl, hcut_len l, .inr rfl, by rw [hcut_len]; omega, by omega, by unfold hpop; rfl⟩
 rintro k F A ⟨l2, i, rfl, rfl, h1, h2, h3, hk, h4⟩
 refine po_loop (l0 := l) (k := k) (by omega) h2 h3 hk (fun e => ?_) (fun m hm1 hm2 e => ?_)
 · rw [e] at h4
   subst h4
   first | exact ⟨rfl, rfl⟩ | exact ⟨trivial, rfl⟩
 · refine ⟨k - 1, by omega, sw l2 i m, m, by rw [sw_len], rfl, by rw [sw_len]; exact h1, .inl (by rw [sw_len]; exact hm2), by rw [sw_len]; omega, by omega, by rw [← e]; exact h4⟩
theorem po_tab : ∀ args A p v A', frmR noAr (spPo hpop) args A = some (p, v, A') → PH p → CallAt env 58 args A v A' := frmR_ok env_ok (fn := Proofs.Tryz.f58) rfl fun args objs p v objs' h hp => by
 unfold spPo at h
 split at h
 · rename_i B o B1 o1 n m g e els tl e2
   cases hb : ((Nat.beq B 0 && Nat.beq o 0) && (Nat.beq B1 1 && Nat.beq o1 0)) && ((Nat.beq m (unk + 3 + 1) && Nat.beq g 52) && (Nat.beq e 125 && Nat.beq e2 3)) with
   | false => rw [hb] at h; cases h
   | true =>
     rw [hb] at h
     simp only [cond_true, Option.some.injEq, Prod.mk.injEq] at h
     obtain ⟨rfl, rfl, rfl⟩ := h
     simp only [Bool.and_eq_true, Nat.beq_eq] at hb
     obtain ⟨⟨⟨rfl, rfl⟩, rfl, rfl⟩, ⟨rfl, rfl⟩, rfl, rfl⟩ := hb
     obtain ⟨⟨rfl, h1, rfl, h2⟩, h3⟩ : RowP els tl n ∧ 0 < n := hp
     have := po_walk (l := els.map deI) (by simpa using h2) (by simpa using h3)
     rw [← heap_pu, ← heap_pu2, List.length_map] at this
     have e : inO (els.map deI) = .gro els [] 3 := by unfold inO; rw [← h1]
     rw [e] at this
     exact this
 · cases h
theorem HFs_end {p : Prop} {x : Option Prop} (e : x = some p) (h : p) : HFs [] (PH x) := by subst e; exact h
theorem HFs_cons {v : Value} {l : List Value} {p : Prop} (h : HF v) (t : HFs l p) : HFs (v :: l) p := ⟨h, t⟩
theorem XBg_ok : (XBg hpush).Ok := ⟨env_ok, env_sym, env_gl, .cons pu_tab .nil⟩
theorem bg_walk {tk : List Int} {o : List SvP} {l : List Int} {n : Nat} {t : Int} (hl : l.length ≤ 100000) (ho : o.length ≤ 20000) (h1 : n < o.length) (h2 : n < tk.length) (t0 : 0 ≤ t) (t1 : t ≤ 1000000000000000) (k0 : 0 ≤ tk.getD n 0) (k1 : tk.getD n 0 ≤ 1000000000) :
 WalkF env Proofs.Tryz.f53 [.int .i64 (n : Int), .int .i64 t, ptB 0, ptB 1, ptB 2] (hBg tk o l) (.tuple ⟨[]⟩) (hBg2 tk (o.set n (t, t + tk.getD n 0)) (hpush l (t + tk.getD n 0))) := by
 refine sxFnF_walk XBg_ok (d := 1) (ns := []) (zs := []) (ws := []) ((jBg_nf _ hpush tk o l (n : Int) t).mpr ?_)
 have g := getI h2
 have ew : IntKind.wrap .i64 (t + tk.getD n 0) = t + tk.getD n 0 := i64_in (by omega) (by omega)
 have es : (svs o).set n (.agg ⟨[Vi t, Vi (t + tk.getD n 0)]⟩) = svs (o.set n (t, t + tk.getD n 0)) := svs_set o n (t, t + tk.getD n 0)
 simp only [Int.toNat_natCast, Nat.add_zero, inV_len, g, ew, inV_de, es]
 refine ⟨⟨by first | omega | trivial, by first | omega | trivial⟩, nthI h2, ⟨by first | omega | trivial, by first | omega | trivial⟩, by rw [svs_len]; exact h1, ⟨by first | omega | trivial, by first | omega | trivial⟩, nthI h2, HFs_cons (HF_inA _) (HFs_cons (HF_inA _) (HFs_end rfl (rowP_in hl))), .dat (HF_in _), HF_svA _, HF_inA _, ?_⟩
 refine ⟨trivial, ?_⟩
 unfold hBg2; rw [List.length_set]; rfl
theorem bg_tab : ∀ args A p v A', frmR noAr (spBg hpush) args A = some (p, v, A') → PH p → CallAt env 53 args A v A' := frmR_ok env_ok (fn := Proofs.Tryz.f53) rfl fun args objs p v objs' h hp => by
 unfold spBg at h
 split at h
 · rename_i i t P0 q0 P1 q1 P2 q2 sz tk c0 B0 o0 on m0 c1 B1 o1 c2 os tl0 e0 B2 o2 n m g e els tl e2
   cases hb : ((((Nat.beq P0 0 && Nat.beq q0 0) && (Nat.beq P1 1 && Nat.beq q1 0)) && ((Nat.beq P2 2 && Nat.beq q2 0) && (Nat.beq c0 24 && Nat.beq c1 52))) && (((Nat.beq B0 3 && Nat.beq o0 0) && (Nat.beq B1 4 && Nat.beq o1 0)) && ((Nat.beq B2 5 && Nat.beq o2 0) && (Nat.beq sz 1 && Nat.beq m0 (unk + 3 + 2))))) && ((((Nat.beq m (unk + 3 + 1) && Nat.beq g 52) && (Nat.beq e 125 && Nat.beq e2 3)) && (Nat.beq e0 56 && Nat.beq c2 122))) with
   | false => rw [hb] at h; cases h
   | true =>
     rw [hb] at h
     simp only [cond_true, Option.some.injEq, Prod.mk.injEq] at h
     obtain ⟨rfl, rfl, rfl⟩ := h
     simp only [Bool.and_eq_true, Nat.beq_eq] at hb
     obtain ⟨⟨⟨⟨⟨rfl, rfl⟩, rfl, rfl⟩, ⟨rfl, rfl⟩, rfl, rfl⟩, ⟨⟨rfl, rfl⟩, rfl, rfl⟩, ⟨rfl, rfl⟩, rfl, rfl⟩, ⟨⟨rfl, rfl⟩, rfl, rfl⟩, rfl, rfl⟩ := hb
     obtain ⟨⟨rfl, h1, rfl, h2⟩, ⟨rfl, h3, rfl, h4⟩, b1, ⟨i0, i1, i2⟩, t0, t1, k0, k1⟩ : RowP els tl n ∧ SvRowP os tl0 on ∧ BgP tk os i t := hp
     obtain ⟨j, rfl⟩ : ∃ j : Nat, i = (j : Int) := ⟨i.toNat, by omega⟩
     simp only [Int.toNat_natCast] at k0 k1 ⊢
     have := bg_walk (tk := tk.map deI) (o := os.map deS) (l := els.map deI) (n := j) (t := t) (by simpa using h2) (by simpa using h4) (by rw [List.length_map]; omega) (by rw [List.length_map]; omega) t0 t1 k0 k1
     rw [← heap_bg, ← heap_bg2] at this
     simp only [List.length_map, List.length_set] at this
     have e1 : tkO (tk.map deI) = .cells [.func (.yield 1) ⟨tk⟩ ⟨[]⟩] 24 := by unfold tkO dat; rw [← b1]
     have e2 : inO (els.map deI) = .gro els [] 3 := by unfold inO; rw [← h1]
     have e3 : svO (os.map deS) = .gro os [] 56 := by unfold svO; rw [← h3]
     rw [← e1, ← e2, ← e3]
     exact this
 · cases h
theorem svI_len (w : List Nat) : (svI w).length = w.length := List.length_map _
theorem pfree_stop {tk : List Int} {f : Nat} {t : Int} {s : QS} (h : ¬ (0 < s.l.length ∧ s.l.getD 0 0 ≤ t)) : pfree tk (f + 1) t s = s := by rw [pfree, if_neg h]
theorem pfree_pop {tk : List Int} {f : Nat} {t : Int} {s : QS} (h : 0 < s.l.length ∧ s.l.getD 0 0 ≤ t) (hw : s.w = []) : pfree tk (f + 1) t s = pfree tk f t ⟨hpop s.l, [], s.o⟩ := by rw [pfree, if_pos h]; simp only [hw]
theorem pfree_beg {tk : List Int} {f : Nat} {t : Int} {s : QS} {n : Nat} {w : List Nat} (h : 0 < s.l.length ∧ s.l.getD 0 0 ≤ t) (hw : s.w = n :: w) : pfree tk (f + 1) t s = pfree tk f t (qbeg tk (hpop s.l) w s.o n (s.l.getD 0 0)) := by rw [pfree, if_pos h]; simp only [hw]
def frQ (tk : List Int) (t : Int) (s : QS) : QS := pfree tk (qms s + 1) t s
theorem FrP.b {tk : List Int} {s : QS} (h : FrP tk s) : s.l.length ≤ 20000 ∧ s.w.length ≤ 20000 ∧ s.o.length ≤ 20000 ∧ (0 < s.l.length → 0 ≤ s.l.getD 0 0 ∧ s.l.getD 0 0 ≤ 1000000000000000) ∧ ∀ n ∈ s.w, n < s.o.length := by
 obtain ⟨h1, h2, h3, i, h4, h5⟩ := h
 obtain ⟨c, c1, c2, c3⟩ := h5.c
 refine ⟨by first | omega | trivial, by first | omega | trivial, h3, fun h0 => ?_, fun n hn => Nat.lt_of_lt_of_le (h5.w n hn) h4⟩
 have := h5.first h0
 omega
theorem FrP.pop {tk : List Int} {s : QS} (h : FrP tk s) (h0 : 0 < s.l.length) (hw : s.w = []) : FrP tk ⟨hpop s.l, [], s.o⟩ := by
 obtain ⟨h1, h2, h3, i, h4, h5⟩ := h
 exact ⟨h1, h2, h3, i, h4, h5.end0 h0 hw⟩
theorem FrP.beg {tk : List Int} {s : QS} (h : FrP tk s) (h0 : 0 < s.l.length) {n : Nat} {w : List Nat} (hw : s.w = n :: w) : FrP tk (qbeg tk (hpop s.l) w s.o n (s.l.getD 0 0)) := by
 obtain ⟨h1, h2, h3, i, h4, h5⟩ := h
 have e : (qbeg tk (hpop s.l) w s.o n (s.l.getD 0 0)).o.length = s.o.length := by unfold qbeg; simp
 refine ⟨h1, by rw [e]; exact h2, by rw [e]; exact h3, i, by rw [e]; exact h4, ?_⟩
 rw [e]; exact h5.end1 h1 h0 hw
theorem bgP_in {tk : List Int} {o : List SvP} {n : Nat} {t : Int} (hk : TkOk tk) (h1 : n < o.length) (h2 : tk.length = o.length) (t0 : 0 ≤ t) (t1 : t ≤ 1000000000000000) : BgP (inV tk) (svs o) (n : Int) t :=
 ⟨by rw [inV_de], ⟨by first | omega | trivial, by rw [svs_len]; omega, by rw [inV_len]; omega⟩, t0, t1, by rw [inV_de, Int.toNat_natCast]; exact (hk n).1, by rw [inV_de, Int.toNat_natCast]; exact (hk n).2⟩
theorem XFr_ok : (XFr hpush hpop).Ok := ⟨env_ok, env_sym, env_gl, .cons po_tab (.cons bg_tab .nil)⟩
theorem gi0 : gIdx (gsz (unk + 3 + 1)) 0 (Int.toNat 0) = 0 := by decide
theorem glueN (x : List Value) : glue x [] = x := rfl
theorem tl_cons (n : Nat) (w : List Nat) : ((inV (svI (n :: w))).drop 1).take ((svI (n :: w)).length - 1) = inV (svI w) := by
 show (inV (svI w)).take ((svI (n :: w)).length - 1) = _
 rw [svI_len, show (n :: w).length - 1 = (svI w).length by rw [svI_len]; rfl]
 exact wh_self _
theorem fr_walk {tk l : List Int} {w : List Nat} {o : List SvP} {t : Int} (h : FrP tk ⟨l, w, o⟩) : WalkF env Proofs.Tryz.f55 [.int .i64 t, ptB 0, ptB 1, ptB 2] (hFr tk l (svI w) o) (.tuple ⟨[]⟩) (hFr2 tk (frQ tk t ⟨l, w, o⟩).l (svI (frQ tk t ⟨l, w, o⟩).w) (frQ tk t ⟨l, w, o⟩).o) := by
 refine sxFnF_walk XFr_ok (d := 2) (ns := []) (zs := []) (ws := []) ((jFr_nf _ hpush hpop tk l (svI w) o t).mpr ?_)
 simp only [Nat.add_zero, wh_self, inV_len]
 refine ⟨Nat.le_refl _, Nat.le_refl _, .dat (HF_in _), HF_svA _, HF_inA _, HF_inA _, ?_⟩
 refine LAtZ.stepF XFr_ok nsFr [] [] [0, 1, 2, 3] (by kernel_rfl) (fun k F A => ∃ s : QS, F = frFr t ∧ A = hFr2 tk s.l (svI s.w) s.o ∧ FrP tk s ∧ qms s < k ∧ pfree tk k t s = frQ tk t ⟨l, w, o⟩) ?_ (k := qms ⟨l, w, o⟩ + 1) ⟨⟨l, w, o⟩, rfl, rfl, h, Nat.lt_succ_self _, rfl⟩
 rintro k F A ⟨s, rfl, rfl, hF, hk, hv⟩
 obtain ⟨f, rfl⟩ : ∃ f, k = f + 1 := ⟨k - 1, by omega⟩
 obtain ⟨b1, b2, b3, b4, b5⟩ := hF.b
 have hF2 := hF
 obtain ⟨f1, f2, _⟩ := hF2
 refine (jFrL_nf _ _ hpush hpop _ _ _ tk s.l (svI s.w) s.o t).mpr ?_
 simp only [inV_de, svs_de, glueN, gi0, Nat.add_zero, wh_self, inV_len]
 refine Sp.intro (fun c1 => ?_) (fun c1 => ?_)
 · have h0 : 0 < s.l.length := by have := of_decide_eq_true c1; omega
   have g0 : intAt (inV s.l) 0 = s.l.getD 0 0 := getI (i := 0) h0
   simp only [g0]
   refine ⟨⟨by first | omega | trivial, by first | omega | trivial⟩, nthI h0, Sp.intro (fun c2 => ?_) (fun c2 => ?_)⟩
   · have hc : 0 < s.l.length ∧ s.l.getD 0 0 ≤ t := ⟨h0, of_decide_eq_true c2⟩
     refine ⟨HFs_cons (HF_inA _) (HFs_cons (HF_inA _) (HFs_end rfl ⟨rowP_in (by first | omega | trivial), h0⟩)), ?_⟩
     refine Sp.intro (fun c3 => ?_) (fun c3 => ?_)
     · cases hw : s.w with
       | nil => rw [hw] at c3; simp [svI] at c3
       | cons n w2 =>
         have hn : n < s.o.length := b5 n (by rw [hw]; simp)
         have gw : intAt (inV (svI (n :: w2))) 0 = (n : Int) := rfl
         have gw2 : intAt (inV (svI (n :: w2))) ((0 : Nat) : Int) = (n : Int) := rfl
         have wl : (svI (n :: w2)).length = w2.length + 1 := by rw [svI_len]; rfl
         simp only [gw, gw2, Int.toNat_natCast, tl_cons]
         refine ⟨⟨by first | omega | trivial, by rw [wl]; omega⟩, rfl, HFs_cons (.dat (HF_in _)) (HFs_cons (HF_svA _) (HFs_cons (HF_inA _) (HFs_cons (HF_inA _) (HFs_cons (.dat (HF_in _)) (HFs_cons (HF_svA _) (HFs_end rfl ⟨rowP_in (by rw [hpop_len]; omega), svRowP_in b3, bgP_in f1 hn f2 (b4 h0).1 (b4 h0).2⟩)))))), ⟨by first | omega | trivial, by rw [wl]; omega⟩, Nat.le_refl _, by rw [wl]; omega, .dat (HF_in _), HF_svA _, HF_inA _, HF_inA _, f, by first | omega | trivial, qbeg tk (hpop s.l) w2 s.o n (s.l.getD 0 0), rfl, ?_, FrP.beg hF h0 hw, ?_, by rw [← pfree_beg hc hw]; exact hv⟩
         · unfold hFr2 qbeg
           simp only [List.length_set]
           rw [wl, Nat.add_sub_cancel, svI_len]; rfl
         · have e1 : qms (qbeg tk (hpop s.l) w2 s.o n (s.l.getD 0 0)) = 2 * w2.length + (s.l.length - 1 + 1) := by unfold qms qbeg; simp only [hpush_len, hpop_len]
           have e2 : qms s = 2 * (w2.length + 1) + s.l.length := by unfold qms; rw [hw]; rfl
           omega
     · have hw : s.w = [] := by
        cases hw : s.w with
        | nil => rfl
        | cons n w2 => rw [hw] at c3; exact absurd c3 (by rw [svI_len]; simp)
       refine ⟨Nat.le_refl _, Nat.le_refl _, .dat (HF_in _), HF_svA _, HF_inA _, HF_inA _, f, by first | omega | trivial, ⟨hpop s.l, [], s.o⟩, rfl, by rw [hw]; rfl, FrP.pop hF h0 hw, ?_, by rw [← pfree_pop hc hw]; exact hv⟩
       have e1 : qms ⟨hpop s.l, [], s.o⟩ = 2 * 0 + (s.l.length - 1) := by unfold qms; simp only [hpop_len, List.length_nil]
       have e2 : qms s = 2 * 0 + s.l.length := by unfold qms; rw [hw]; rfl
       omega
   · have hc : ¬ (0 < s.l.length ∧ s.l.getD 0 0 ≤ t) := fun h => of_decide_eq_false c2 h.2
     rw [pfree_stop hc] at hv
     exact ⟨.dat (HF_in _), HF_svA _, HF_inA _, HF_inA _, trivial, by rw [← hv]; rfl⟩
 · have hc : ¬ (0 < s.l.length ∧ s.l.getD 0 0 ≤ t) := fun h => of_decide_eq_false c1 (by omega)
   rw [pfree_stop hc] at hv
   exact ⟨.dat (HF_in _), HF_svA _, HF_inA _, HF_inA _, trivial, by rw [← hv]; rfl⟩
theorem fr_tab : ∀ args A p v A', frmR noAr (spFr frQ) args A = some (p, v, A') → PH p → CallAt env 55 args A v A' := frmR_ok env_ok (fn := Proofs.Tryz.f55) rfl fun args objs p v objs' h hp => by
 unfold spFr at h
 split at h
 · rename_i t P0 q0 P1 q1 P2 q2 B0 o0 c0 B1 o1 wn m1 c1 g2 G0 y0 G1 y1 G2 y2 c2 B3 o3 n m g e ws tlw e4 sz tk c5 B6 o6 on m6 c6 els tl e7 os tlo e8
   cases hb : (((((Nat.beq P0 0 && Nat.beq q0 0) && (Nat.beq P1 1 && Nat.beq q1 0)) && ((Nat.beq P2 2 && Nat.beq q2 0) && (Nat.beq B0 3 && Nat.beq o0 0))) && (((Nat.beq B1 4 && Nat.beq o1 0) && (Nat.beq G0 5 && Nat.beq y0 0)) && ((Nat.beq G1 6 && Nat.beq y1 0) && (Nat.beq G2 0 && Nat.beq y2 0)))) && ((((Nat.beq B3 7 && Nat.beq o3 0) && (Nat.beq B6 8 && Nat.beq o6 0)) && ((Nat.beq g2 53 && Nat.beq g 52) && (Nat.beq sz 1 && Nat.beq m1 (unk + 3 + 1)))) && (((Nat.beq m (unk + 3 + 1) && Nat.beq m6 (unk + 3 + 2)) && (Nat.beq c0 122 && Nat.beq c1 24)) && ((Nat.beq c2 126 && Nat.beq e 125) && (Nat.beq e4 3 && Nat.beq c5 24))))) && ((Nat.beq c6 52 && Nat.beq e7 3) && Nat.beq e8 56) with
   | false => rw [hb] at h; cases h
   | true =>
     rw [hb] at h
     simp only [cond_true, Option.some.injEq, Prod.mk.injEq] at h
     obtain ⟨rfl, rfl, rfl⟩ := h
     simp only [Bool.and_eq_true, Nat.beq_eq] at hb
     obtain ⟨⟨⟨⟨⟨⟨rfl, rfl⟩, rfl, rfl⟩, ⟨rfl, rfl⟩, rfl, rfl⟩, ⟨⟨rfl, rfl⟩, rfl, rfl⟩, ⟨rfl, rfl⟩, rfl, rfl⟩, ⟨⟨⟨rfl, rfl⟩, rfl, rfl⟩, ⟨rfl, rfl⟩, rfl, rfl⟩, ⟨⟨rfl, rfl⟩, rfl, rfl⟩, ⟨rfl, rfl⟩, rfl, rfl⟩, ⟨rfl, rfl⟩, rfl⟩ := hb
     obtain ⟨⟨rfl, a1, rfl, a2⟩, ⟨rfl, b1, rfl⟩, ⟨rfl, d1, rfl, d2⟩, f1, hF⟩ : RowP els tl n ∧ (tlw = [] ∧ ws = inV (svI (deW ws)) ∧ wn = ws.length) ∧ SvRowP os tlo on ∧ tk = inV (tk.map deI) ∧ FrP (tk.map deI) ⟨els.map deI, deW ws, os.map deS⟩ := hp
     have := fr_walk (t := t) hF
     rw [← heap_fr, ← heap_fr2] at this
     have el : (svI (deW ws)).length = ws.length := by rw [← inV_len (svI (deW ws)), ← b1]
     simp only [List.length_map, el] at this
     have e1 : tkO (tk.map deI) = .cells [.func (.yield 1) ⟨tk⟩ ⟨[]⟩] 24 := by unfold tkO dat; rw [← f1]
     have e2 : inO (els.map deI) = .gro els [] 3 := by unfold inO; rw [← a1]
     have e3 : inO (svI (deW ws)) = .gro ws [] 3 := by unfold inO; rw [← b1]
     have e4 : svO (os.map deS) = .gro os [] 56 := by unfold svO; rw [← d1]
     rw [← e1, ← e2, ← e3, ← e4]
     exact this
 · cases h
end
end Go.T9

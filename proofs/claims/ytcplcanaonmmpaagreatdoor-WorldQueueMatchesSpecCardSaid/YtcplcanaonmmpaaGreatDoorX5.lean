/- A part of the proof. -/
import Derived.Test.YtcplcanaonmmpaaGreatDoorX4
set_option linter.unusedVariables false
set_option linter.unusedSimpArgs false
set_option maxRecDepth 1000000
namespace Go.T9
open Go Go.AM
noncomputable section
def optI : Option Nat → Int
 | none => -1
 | some k => (k : Nat)
theorem enI_eq (o : List Sv) (sv : List Nat) (t : Int) : enI o sv t = optI (endg o sv t) := by
 unfold enI
 cases endg o sv t <;> rfl
theorem gi1 (i : Nat) : gIdx (gsz (unk + 3 + 1)) 0 i = i := rfl
theorem gi2 (i : Nat) : gIdx (gsz (unk + 3 + 2)) 0 i = i := by
 show i + 0 / 2 = i
 simp
theorem intW {w : List Nat} {i : Nat} (h : i < w.length) : intAt (inV (svI w)) (i : Int) = ((w.getD i 0 : Nat) : Int) := by
 rw [intAt_in (by rw [svI_len]; exact h), gN h]
 simp [svI]
theorem nthW {w : List Nat} {i : Nat} (h : i < w.length) : nth (inV (svI w)) i = some (Vi ((w.getD i 0 : Nat) : Int)) := by
 rw [nth_in (by rw [svI_len]; exact h), gN h]
 simp [svI]
theorem oAt_in {o : List SvP} {n : Nat} (h : n < o.length) : oAt o n = o[n] := by
 unfold oAt; rw [List.getD_eq_getElem?_getD, List.getElem?_eq_getElem h]; rfl
theorem svA {o : List SvP} {n : Nat} (h : n < o.length) : svAt (svs o) (n : Int) = oAt o n := by rw [svAt_in h, oAt_in h]
theorem nthS {o : List SvP} {n : Nat} (h : n < o.length) : nth (svs o) n = some (.agg ⟨[Vi (oAt o n).1, Vi (oAt o n).2]⟩) := by rw [nth_svs h, oAt_in h]; rfl
theorem endS_none {o : List Sv} {sv : List Nat} {t : Int} {i : Nat} (h : endS o sv t i = none) : endS o sv t (i + 1) = if lft o (sv.getD i 0) ≤ t then some i else none := by rw [endS, h]
theorem endS_some {o : List Sv} {sv : List Nat} {t : Int} {i b : Nat} (h : endS o sv t i = some b) : endS o sv t (i + 1) = if lft o (sv.getD i 0) ≤ t ∧ lft o (sv.getD i 0) < lft o (sv.getD b 0) then some i else some b := by rw [endS, h]
theorem endS_lt {o : List Sv} {sv : List Nat} {t : Int} {i b : Nat} (h : endS o sv t i = some b) : b < i := by
 rcases endS_ok o sv t i with ⟨e, _⟩ | ⟨b2, e, h1, _⟩
 · rw [h] at e; cases e
 · rw [h] at e; cases e; exact h1
theorem en_walk {o : List SvP} {sv : List Nat} {t : Int} (hs : sv.length ≤ 100000) (hlt : ∀ n ∈ sv, n < o.length) : WalkF env Proofs.Tryz.f60 [groT 0 o.length, groS 1 (svI sv).length, .int .i64 t] (hEn o (svI sv)) (.int .i64 (enI o sv t)) (hEn o (svI sv)) := by
 refine sxFnF_walk XEn_ok (d := 1) (ns := []) (zs := []) (ws := []) ((jEn_nf _ o (svI sv) t).mpr ⟨HF_svA _, HF_inA _, ?_⟩)
 refine LAtZ.stepF XEn_ok [] [] [] [0, 1, 2, 7, 10, 11, 12] (by kernel_rfl) (fun k F A => ∃ i : Nat, F = frEn o.length (svI sv).length t (optI (endS o sv t i)) i ∧ A = hEn o (svI sv) ∧ i + k = sv.length) ?_ (k := sv.length) ⟨0, rfl, rfl, by omega⟩
 rintro k F A ⟨i, rfl, rfl, hik⟩
 have wl := svI_len sv
 refine (jEnL_nf _ _ o (svI sv) t _ i).mpr (Sp.intro (fun c => ?_) (fun c => ?_))
 · have hi : i < sv.length := by have := of_decide_eq_true c; omega
   have hn := hlt _ (getN_mem hi)
   have g := intW hi
   have ei : IntKind.wrap .i64 ((i : Int) + 1) = ((i + 1 : Nat) : Int) := by rw [i64_in (by omega) (by omega)]; omega
   have a := svA hn
   simp only [g, Int.toNat_natCast, Nat.add_zero, gi1, gi2, a, ei]
   refine ⟨⟨by omega, by omega⟩, nthW hi, ⟨by omega, by omega⟩, nthS hn, Sp.intro (fun c1 => ?_) (fun c1 => ?_)⟩
   · have c1 : lft o (sv.getD i 0) ≤ t := of_decide_eq_true c1
     cases hb : endS o sv t i with
     | none =>
       have e := endS_none hb
       rw [if_pos c1] at e
       refine Sp.intro (fun _ => ⟨HF_svA _, HF_inA _, k - 1, by omega, i + 1, by rw [e]; rfl, rfl, by omega⟩) (fun c2 => ?_)
       exact absurd c2 (by simp [optI])
     | some b =>
       have hbi := endS_lt hb
       have e := endS_some hb
       refine Sp.intro (fun c2 => absurd (of_decide_eq_true c2) (by show ¬ ((b : Nat) : Int) < 0; omega)) (fun c2 => ?_)
       have hb2 : b < sv.length := by omega
       have hnb := hlt _ (getN_mem hb2)
       have gb := intW hb2
       have ab := svA hnb
       simp only [optI, Int.toNat_natCast, Nat.add_zero, gb, ab]
       refine ⟨⟨by omega, by omega⟩, nthS hn, ⟨by omega, by omega⟩, nthW hb2, ⟨by omega, by omega⟩, nthS hnb, Sp.intro (fun c3 => ?_) (fun c3 => ?_)⟩
       · have c3 : lft o (sv.getD i 0) < lft o (sv.getD b 0) := of_decide_eq_true c3
         rw [if_pos ⟨c1, c3⟩] at e
         exact ⟨HF_svA _, HF_inA _, k - 1, by omega, i + 1, by rw [e]; rfl, rfl, by omega⟩
       · have c3 : ¬ lft o (sv.getD i 0) < lft o (sv.getD b 0) := of_decide_eq_false c3
         rw [if_neg (fun h => c3 h.2)] at e
         exact ⟨HF_svA _, HF_inA _, k - 1, by omega, i + 1, by rw [e]; rfl, rfl, by omega⟩
   · have c1 : ¬ lft o (sv.getD i 0) ≤ t := of_decide_eq_false c1
     have e : endS o sv t (i + 1) = endS o sv t i := by
      cases hb : endS o sv t i with
      | none => rw [endS_none hb, if_neg c1]
      | some b => rw [endS_some hb, if_neg (fun h => c1 h.1)]
     exact ⟨HF_svA _, HF_inA _, k - 1, by omega, i + 1, by rw [e]; rfl, rfl, by omega⟩
 · have c := of_decide_eq_false c
   have : i = sv.length := by omega
   subst this
   refine ⟨HF_svA _, HF_inA _, ?_, ?_⟩
   · rw [enI_eq]; rfl
   · rfl
theorem en_tab : ∀ args A p v A', frmR noAr (spEn enI) args A = some (p, v, A') → PH p → CallAt env 60 args A v A' := frmR_ok env_ok (fn := Proofs.Tryz.f60) rfl fun args objs p v objs' h hp => by
 unfold spEn at h
 split at h
 · rename_i B0 o0 on m0 B1 o1 sn m1 t os tlo e0 els tl e1
   cases hb : (((Nat.beq B0 0 && Nat.beq o0 0) && (Nat.beq B1 1 && Nat.beq o1 0)) && (Nat.beq m0 (unk + 3 + 2) && Nat.beq m1 (unk + 3 + 1))) && (Nat.beq e0 56 && Nat.beq e1 3) with
   | false => rw [hb] at h; cases h
   | true =>
     rw [hb] at h
     simp only [cond_true, Option.some.injEq, Prod.mk.injEq] at h
     obtain ⟨rfl, rfl, rfl⟩ := h
     simp only [Bool.and_eq_true, Nat.beq_eq] at hb
     obtain ⟨⟨⟨⟨rfl, rfl⟩, rfl, rfl⟩, rfl, rfl⟩, rfl, rfl⟩ := hb
     obtain ⟨⟨rfl, d1, rfl, d2⟩, ⟨rfl, a1, rfl, a2⟩, a3⟩ : SvRowP os tlo on ∧ (tl = [] ∧ els = inV (svI (deW els)) ∧ sn = els.length ∧ els.length ≤ 100000) ∧ ∀ n ∈ deW els, n < os.length := hp
     have el : (svI (deW els)).length = els.length := by rw [← inV_len (svI (deW els)), ← a1]
     have := en_walk (o := os.map deS) (sv := deW els) (t := t) (by rw [← svI_len, el]; exact a2) (by rw [List.length_map]; exact a3)
     rw [← heap_en] at this
     simp only [List.length_map, el] at this
     have e2 : inO (svI (deW els)) = .gro els [] 3 := by unfold inO; rw [← a1]
     have e4 : svO (os.map deS) = .gro os [] 56 := by unfold svO; rw [← d1]
     rw [← e2, ← e4]
     exact this
 · cases h
theorem XQr_ok : (XQr qF enI).Ok := ⟨env_ok, env_sym, env_gl, .cons qf_tab (.cons en_tab .nil)⟩
theorem endg_none {o : List SvP} {sv : List Nat} {t : Int} (c : enI o sv t < 0) : endg o sv t = none := by
 cases h : endg o sv t with
 | none => rfl
 | some k => rw [enI_eq, h] at c; exact absurd c (by show ¬ ((k : Nat) : Int) < 0; omega)
theorem all_cellv (l : List Int) : (List.flatMap (fun x : Value => x.cells.toList) (inV l)).all cellv = true := by
 rw [List.all_eq_true]
 intro x hx
 obtain ⟨y, hy, hx⟩ := List.mem_flatMap.1 hx
 obtain ⟨n, _, rfl⟩ := List.mem_map.1 hy
 have hx : x ∈ [Vi n] := hx
 have : x = Vi n := by simpa using hx
 rw [this]; rfl
theorem wh_W {w : List Nat} {n : Nat} (h : n = w.length) : (inV (svI w)).take n = inV (svI w) := by rw [h, ← svI_len w]; exact wh_self _
theorem tk_W (w : List Nat) (k : Nat) : (inV (svI w)).take k = inV (svI (w.take k)) := by unfold svI; rw [inV_take, List.map_take]
theorem dr_W (w : List Nat) (k : Nat) : (inV (svI w)).drop k = inV (svI (w.drop k)) := by unfold svI; rw [inV_drop, List.map_drop]
theorem ap_W (a b : List Nat) : inV (svI a) ++ inV (svI b) = inV (svI (a ++ b)) := by unfold svI; rw [inV_app, List.map_append]
theorem rfree_stop {tk : List Int} {f : Nat} {t : Int} {r : RS} (h : endg r.o r.sv t = none) : rfree tk (f + 1) t r = r := by rw [rfree]; simp only [h]
theorem rfree_pop {tk : List Int} {f : Nat} {t : Int} {r : RS} {k : Nat} (h : endg r.o r.sv t = some k) (hw : r.w = []) : rfree tk (f + 1) t r = rfree tk f t ⟨r.sv.eraseIdx k, [], r.o⟩ := by rw [rfree]; simp only [h, hw]
theorem rfree_beg {tk : List Int} {f : Nat} {t : Int} {r : RS} {k n : Nat} {w : List Nat} (h : endg r.o r.sv t = some k) (hw : r.w = n :: w) : rfree tk (f + 1) t r = rfree tk f t ⟨r.sv.eraseIdx k ++ [n], w, r.o.set n (lft r.o (r.sv.getD k 0), lft r.o (r.sv.getD k 0) + tk.getD n 0)⟩ := by rw [rfree]; simp only [h, hw]
theorem er_len {l : List Nat} {k : Nat} (h : k < l.length) : (l.eraseIdx k).length = l.length - 1 := by rw [List.length_eraseIdx, if_pos h]
theorem qr_inner {tm tk : List Int} {S R : Nat} (q : QOk tm tk S R) {Q : Value → Prop} {QA : KV} {again2 : KF} {i : Nat} {t : Int} (hi : i < tm.length) (ht : t = tm.getD i 0) {s : QS} {r : RS} (hS : Sim s r) (hP : PI tm.length i s) (hL : Low r i)
 (ha : ∀ r2, r2 = rarr tk S R i t r → again2 (frQr1 tm tk S R r2.o.length (svI r2.sv).length (svI r2.w).length (i + 1)) (hQr r2.o (svI r2.sv) (svI r2.w))) :
 LAtZ (XQr qF enI) 2 (Func.ntmps Proofs.Tryz.f29) ⟨.leaf, 0⟩ (loopBody (subC [1, 1, 1, 1, 0, 1, 0] (bodyOf Proofs.Tryz.f29))) [1, 1, 0, 0, 1, 0, 0] (kQr2 Q QA again2 qF enI) (frQr2 tm tk S R r.o.length (svI r.sv).length (svI r.w).length i t) (hQr r.o (svI r.sv) (svI r.w)) := by
 refine LAtZ.stepF XQr_ok nsQr [] [] [1, 2, 3, 11, 12, 13, 14, 15, 33, 34, 35] (by kernel_rfl) (fun k F A => ∃ (s1 : QS) (sv w : List Nat) (o : List SvP), F = frQr2 tm tk S R o.length (svI sv).length (svI w).length i t ∧ A = hQr o (svI sv) (svI w) ∧ Sim s1 ⟨sv, w, o⟩ ∧ PI tm.length i s1 ∧ Low ⟨sv, w, o⟩ i ∧ rms ⟨sv, w, o⟩ < k ∧ rfree tk k t ⟨sv, w, o⟩ = rfree tk (rms r + 1) t r) ?_ (k := rms r + 1) ⟨s, r.sv, r.w, r.o, rfl, rfl, hS, hP, hL, Nat.lt_succ_self _, rfl⟩
 rintro k F A ⟨s1, sv, w, o, rfl, rfl, hS, hP, hL, hk, hr⟩
 obtain ⟨f, rfl⟩ : ∃ f, k = f + 1 := ⟨k - 1, by omega⟩
 have hN := q.n
 obtain ⟨b1, b2, b3, b4, b5⟩ := (hP.frp q (by omega)).b
 have hl : s1.l.length = sv.length := hS.len
 have hw1 : s1.w = w := hS.w
 have ho1 : s1.o = o := hS.o
 have ho : o.length = tm.length := by rw [← ho1]; exact hP.o
 have hlt : ∀ n ∈ sv ++ w, n < o.length := hS.lt
 rw [hw1] at b2
 rw [ho1] at b3
 have hti := q.htm t (by rw [ht, gI hi]; exact List.getElem_mem hi)
 have hkl := q.k
 have hit : i < tk.length := by omega
 have hio : i < o.length := by omega
 have ei : IntKind.wrap .i64 ((i : Int) + 1) = ((i + 1 : Nat) : Int) := by rw [i64_in (by omega) (by omega)]; omega
 refine (jQr2_nf _ _ _ _ qF enI tm tk (svI sv) (svI w) o S R i t).mpr ?_
 simp only [svs_de, deW_in, inV_len, svI_len, svs_len]
 refine ⟨HFs_cons (HF_svA _) (HFs_cons (HF_inA _) (HFs_cons (HF_svA _) (HFs_cons (HF_inA _) (HFs_end rfl ⟨svRowP_in (by first | omega | trivial), ⟨by trivial, by trivial, by trivial, by first | omega | trivial⟩, fun n hn => hlt n (List.mem_append.2 (.inl hn))⟩)))), Sp.intro (fun c => ?_) (fun c => ?_)⟩
 · have hn := endg_none (of_decide_eq_true c)
   rw [rfree_stop (r := ⟨sv, w, o⟩) hn] at hr
   have hra : rarr tk S R i t r = (if sv.length < S then ⟨sv ++ [i], w, o.set i (t, t + tk.getD i 0)⟩ else if w.length < R then ⟨sv, w ++ [i], o⟩ else ⟨sv, w, o.set i (-1, -1)⟩) := by
    unfold rarr; rw [← hr]
   have g := getI hit
   have htk := q.htk i
   have ew : IntKind.wrap .i64 (t + tk.getD i 0) = t + tk.getD i 0 := i64_in (by omega) (by omega)
   simp only [g, ew, ei, set_sv, svI_app, Nat.add_zero]
   refine Sp.intro (fun c1 => ?_) (fun c1 => ?_)
   · have hs : sv.length < S := by have := of_decide_eq_true c1; omega
     rw [if_pos hs] at hra
     have h := ha _ hra.symm
     have e1 := wh_W (w := sv ++ [i]) (n := sv.length + 1) (by simp)
     have e2 := wh_W (w := w) rfl
     unfold frQr1 at h
     simp only [svI_len, inV_len, List.length_append, List.length_cons, List.length_nil, List.length_set, Nat.zero_add] at h
     simp only [e1, e2]
     exact ⟨⟨by first | omega | trivial, by first | omega | trivial⟩, nthI hit, ⟨by first | omega | trivial, by first | omega | trivial⟩, hio, ⟨by first | rfl | trivial, by first | omega | trivial, by first | omega | trivial, by first | omega | trivial⟩, by simp [inV_len, svI_len], by first | omega | trivial, .dat (HF_in _), .dat (HF_in _), HF_svA _, HF_inA _, HF_inA _, h⟩
   · have hs : ¬ sv.length < S := by have := of_decide_eq_false c1; omega
     rw [if_neg hs] at hra
     refine Sp.intro (fun c2 => ?_) (fun c2 => ?_)
     · have hr2 : w.length < R := by have := of_decide_eq_true c2; omega
       rw [if_pos hr2] at hra
       have h := ha _ hra.symm
       have e1 := wh_W (w := w ++ [i]) (n := w.length + 1) (by simp)
       have e2 := wh_W (w := sv) rfl
       unfold frQr1 at h
       simp only [svI_len, inV_len, List.length_append, List.length_cons, List.length_nil, Nat.zero_add] at h
       simp only [e1, e2]
       exact ⟨⟨by first | rfl | trivial, by first | omega | trivial, by first | omega | trivial, by first | omega | trivial⟩, by first | omega | trivial, by simp [inV_len, svI_len], .dat (HF_in _), .dat (HF_in _), HF_svA _, HF_inA _, HF_inA _, h⟩
     · have hr2 : ¬ w.length < R := by have := of_decide_eq_false c2; omega
       rw [if_neg hr2] at hra
       have h := ha _ hra.symm
       have e1 := wh_W (w := w) rfl
       have e2 := wh_W (w := sv) rfl
       unfold frQr1 at h
       simp only [svI_len, inV_len, List.length_set] at h
       simp only [e1, e2]
       exact ⟨⟨by first | omega | trivial, by first | omega | trivial⟩, hio, by first | omega | trivial, by first | omega | trivial, .dat (HF_in _), .dat (HF_in _), HF_svA _, HF_inA _, HF_inA _, h⟩
 · rcases hS.first t with ⟨e, _⟩ | ⟨j, e, hj, h0, hm⟩
   · exact absurd (of_decide_eq_false c) (by rw [enI_eq]; simp only at e; rw [e]; simp [optI])
   · simp only at e hj hm
     have hen : enI o sv t = (j : Int) := by rw [enI_eq, e]; rfl
     have hf := b4 h0.1
     rw [← hm] at hf
     have hnj : sv.getD j 0 < o.length := hlt _ (List.mem_append.2 (.inl (getN_mem hj)))
     have gj := intW hj
     have aj := svA hnj
     have ej : IntKind.wrap .i64 ((j : Int) + 1) = ((j + 1 : Nat) : Int) := by rw [i64_in (by omega) (by omega)]; omega
     have el : (oAt o (sv.getD j 0)).2 = lft o (sv.getD j 0) := rfl
     have td : (inV (svI (sv.drop (j + 1)))).take (sv.length - (j + 1)) = inV (svI (sv.drop (j + 1))) := wh_W (by rw [List.length_drop])
     have er : sv.take j ++ sv.drop (j + 1) = sv.eraseIdx j := (List.eraseIdx_eq_take_drop_succ sv j).symm
     have hel := er_len hj
     simp only [hen, Int.toNat_natCast, Nat.add_zero, ej, glueN, gi1, gi2, gj, aj, el, dr_W, td, tk_W, ap_W, er, inV_len, svI_len, List.length_drop]
     refine ⟨⟨by first | omega | trivial, by first | omega | trivial⟩, nthW hj, ⟨by first | omega | trivial, by first | omega | trivial⟩, nthS hnj, ⟨by first | omega | trivial, by first | omega | trivial, by first | omega | trivial⟩, ⟨by first | omega | trivial, by first | omega | trivial⟩, ⟨by first | omega | trivial, all_cellv _, by first | omega | trivial, by first | omega | trivial, by first | omega | trivial⟩, Sp.intro (fun c2 => ?_) (fun c2 => ?_)⟩
     · cases w with
       | nil => simp at c2
       | cons n w2 =>
         have hn : n < o.length := hlt n (by simp)
         have gw : intAt (inV (svI (n :: w2))) 0 = (n : Int) := rfl
         have hnt : n < tk.length := by omega
         have gt := getI hnt
         have htk := q.htk n
         have ew : IntKind.wrap .i64 (lft o (sv.getD j 0) + tk.getD n 0) = lft o (sv.getD j 0) + tk.getD n 0 := i64_in (by omega) (by omega)
         have wl : (n :: w2).length = w2.length + 1 := rfl
         have tl : List.take ((n :: w2).length - 1) (List.drop 1 (n :: w2)) = w2 := List.take_of_length_le (by simp)
         have tw : List.take (j + (sv.length - (j + 1)) + 1) (sv.eraseIdx j ++ [n]) = sv.eraseIdx j ++ [n] := List.take_of_length_le (by rw [List.length_append, hel]; simp; omega)
         have ea : (svI (sv.eraseIdx j ++ [n])).length = j + (sv.length - (j + 1)) + 1 := by rw [svI_len, List.length_append, hel]; simp; omega
         have ec : (sv.eraseIdx j ++ [n]).length = j + (sv.length - (j + 1)) + 1 := by rw [← svI_len]; exact ea
         simp only [gw, Int.toNat_natCast, Nat.add_zero, gt, ew, set_sv, svI_app, tk_W, dr_W, tl, tw, inV_len, svI_len, ec]
         refine ⟨⟨by first | omega | trivial, by first | omega | trivial⟩, rfl, ⟨by first | omega | trivial, by first | omega | trivial⟩, ⟨by first | omega | trivial, by first | omega | trivial⟩, nthI hnt, ⟨by first | omega | trivial, by first | omega | trivial⟩, hn, ⟨by first | rfl | trivial, by first | omega | trivial, by first | omega | trivial, by first | omega | trivial⟩, by first | omega | trivial, by first | omega | trivial, .dat (HF_in _), .dat (HF_in _), HF_svA _, HF_inA _, HF_inA _, f, by first | omega | trivial, qbeg tk (hpop s1.l) w2 s1.o n (s1.l.getD 0 0), sv.eraseIdx j ++ [n], w2, o.set n (lft o (sv.getD j 0), lft o (sv.getD j 0) + tk.getD n 0), ?_, by first | rfl | (rw [tl]; rfl), hS.end1 tk rfl hj h0.1 hm, hP.end1 q.htk h0.1 hw1, ?_, ?_, by rw [← rfree_beg (r := ⟨sv, n :: w2, o⟩) e rfl]; exact hr⟩
         · rw [List.length_set, ec]
           unfold frQr2
           simp only [inV_len] <;> rfl
         · intro m hm2
           refine hL m ?_
           simp only [List.mem_append, List.mem_cons, List.not_mem_nil, or_false] at hm2 ⊢
           rcases hm2 with (h | h) | h
           · exact .inl (mem_eraseIdx h)
           · exact .inr (.inl h)
           · exact .inr (.inr h)
         · unfold rms at hk ⊢
           simp only [List.length_cons] at hk
           simp only [ec]
           omega
     · have hw : w = [] := by
        cases w with
        | nil => rfl
        | cons n w2 => exact absurd c2 (by simp)
       subst hw
       have tw : List.take (j + (sv.length - (j + 1))) (sv.eraseIdx j) = sv.eraseIdx j := List.take_of_length_le (by rw [hel]; omega)
       have ea : (svI (sv.eraseIdx j)).length = j + (sv.length - (j + 1)) := by rw [svI_len, hel]; omega
       simp only [tw, List.take_nil]
       refine ⟨by first | omega | trivial, by trivial, .dat (HF_in _), .dat (HF_in _), HF_svA _, HF_inA _, HF_inA _, f, by first | omega | trivial, ⟨hpop s1.l, [], s1.o⟩, sv.eraseIdx j, [], o, ?_, rfl, hS.end0 rfl hj h0.1 hm, hP.end0 h0.1 hw1, ?_, ?_, by rw [← rfree_pop (r := ⟨sv, [], o⟩) e rfl]; exact hr⟩
       · rw [show (sv.eraseIdx j).length = j + (sv.length - (j + 1)) by rw [hel]; omega]
         unfold frQr2
         simp only [inV_len] <;> rfl
       · intro m hm2
         refine hL m ?_
         simp only [List.append_nil] at hm2 ⊢
         exact mem_eraseIdx hm2
       · unfold rms at hk ⊢
         simp only [List.length_nil] at hk ⊢
         omega
theorem st_W (w : List Nat) (j n : Nat) : (inV (svI w)).set j (Vi (n : Int)) = inV (svI (w.set j n)) := by
 rw [inV_set]; unfold svI; rw [List.map_set]; rfl
theorem rend_stop {tk : List Int} {top : Int} {f : Nat} {r : RS} (hw : r.w = []) : rend tk top (f + 1) r = r := by rw [rend]; simp only [hw]
theorem rend_go {tk : List Int} {top : Int} {f : Nat} {r : RS} {k n : Nat} {w : List Nat} (hw : r.w = n :: w) (h : endg r.o r.sv top = some k) : rend tk top (f + 1) r = rend tk top f ⟨r.sv.set k n, w, r.o.set n (lft r.o (r.sv.getD k 0), lft r.o (r.sv.getD k 0) + tk.getD n 0)⟩ := by rw [rend]; simp only [hw, h]
theorem qr_loop3 {tm tk : List Int} {S R : Nat} (q : QOk tm tk S R) {v : Value} {s : QS} {sv w : List Nat} {o : List SvP} (hS : Sim s ⟨sv, w, o⟩) (hP : PI tm.length tm.length s) (hv : v = quV (rend tk 4611686018427387904 (w.length + 1) ⟨sv, w, o⟩).o 0) :
 LAtZ (XQr qF enI) 2 (Func.ntmps Proofs.Tryz.f29) ⟨.leaf, 0⟩ (bodyOf Proofs.Tryz.f29) [1, 1, 1, 1, 1, 0, 0] (kFinQr (leafK (fun v2 => ∀ A, Frz A v2 v) (fun v2 A2 => Frz A2 v2 v))) (frQr3 tk o.length (svI sv).length (svI w).length) (hQr o (svI sv) (svI w)) := by
 refine LAtZ.stepF XQr_ok nsQr [] [] [1, 11, 12, 13] (by kernel_rfl) (fun k F A => ∃ (s1 : QS) (sv w : List Nat) (o : List SvP), F = frQr3 tk o.length (svI sv).length (svI w).length ∧ A = hQr o (svI sv) (svI w) ∧ Sim s1 ⟨sv, w, o⟩ ∧ PI tm.length tm.length s1 ∧ w.length < k ∧ v = quV (rend tk 4611686018427387904 k ⟨sv, w, o⟩).o 0) ?_ (k := w.length + 1) ⟨s, sv, w, o, rfl, rfl, hS, hP, Nat.lt_succ_self _, hv⟩
 clear hv hS hP
 rintro k F A ⟨s1, sv, w, o, rfl, rfl, hS, hP, hk, hv⟩
 obtain ⟨f, rfl⟩ : ∃ f, k = f + 1 := ⟨k - 1, by omega⟩
 have hN := q.n
 obtain ⟨b1, b2, b3, b4, b5⟩ := (hP.frp q (Nat.le_refl _)).b
 have hl : s1.l.length = sv.length := hS.len
 have hw1 : s1.w = w := hS.w
 have ho1 : s1.o = o := hS.o
 have ho : o.length = tm.length := by rw [← ho1]; exact hP.o
 have hlt : ∀ n ∈ sv ++ w, n < o.length := hS.lt
 rw [hw1] at b2
 rw [ho1] at b3
 have hkl := q.k
 refine (jQr3_nf _ _ _ qF enI tk (svI sv) (svI w) o).mpr ?_
 simp only [svs_de, deW_in, inV_len, svI_len, svs_len]
 refine Sp.intro (fun c => ?_) (fun c => ?_)
 · cases w with
   | nil => simp at c
   | cons n w2 =>
     have hq0 : 0 < s1.l.length := hP.q (by rw [hw1]; simp)
     have hf := b4 hq0
     rcases hS.first 4611686018427387904 with ⟨_, e⟩ | ⟨j, e, hj, h0, hm⟩
     · exact absurd ⟨hq0, by first | omega | trivial⟩ e
     · simp only at e hj hm
       have hen : enI o sv 4611686018427387904 = (j : Int) := by rw [enI_eq, e]; rfl
       rw [← hm] at hf
       have hnj : sv.getD j 0 < o.length := hlt _ (List.mem_append.2 (.inl (getN_mem hj)))
       have gj := intW hj
       have aj := svA hnj
       have el : (oAt o (sv.getD j 0)).2 = lft o (sv.getD j 0) := rfl
       have hn : n < o.length := hlt n (by simp)
       have gw : intAt (inV (svI (n :: w2))) 0 = (n : Int) := rfl
       have hnt : n < tk.length := by omega
       have gt := getI hnt
       have htk := q.htk n
       have ew : IntKind.wrap .i64 (lft o (sv.getD j 0) + tk.getD n 0) = lft o (sv.getD j 0) + tk.getD n 0 := i64_in (by omega) (by omega)
       have tl : ((inV (svI (n :: w2))).drop 1).take ((n :: w2).length - 1) = inV (svI w2) := by
        show (inV (svI w2)).take _ = _
        exact wh_W (by simp)
       have tw : (inV (svI (sv.set j n))).take sv.length = inV (svI (sv.set j n)) := wh_W (by rw [List.length_set])
       have wl : (n :: w2).length = w2.length + 1 := rfl
       simp only [hen, Int.toNat_natCast, Nat.add_zero, glueN, gi1, gi2, gj, aj, el, gw, gt, ew, set_sv, st_W, tl, tw, inV_len, svI_len, List.length_set, svs_len]
       refine ⟨HFs_cons (HF_svA _) (HFs_cons (HF_inA _) (HFs_cons (HF_svA _) (HFs_cons (HF_inA _) (HFs_end rfl ⟨svRowP_in (by first | omega | trivial), ⟨by trivial, by trivial, by trivial, by first | omega | trivial⟩, fun n hn => hlt n (List.mem_append.2 (.inl hn))⟩)))), ⟨by first | omega | trivial, by first | omega | trivial⟩, nthW hj, ⟨by first | omega | trivial, by first | omega | trivial⟩, nthS hnj, ⟨by first | omega | trivial, by first | omega | trivial⟩, rfl, ⟨by first | omega | trivial, by first | omega | trivial⟩, ⟨by first | omega | trivial, by first | omega | trivial⟩, nthI hnt, ⟨by first | omega | trivial, by first | omega | trivial⟩, hn, ⟨by first | omega | trivial, by first | omega | trivial⟩, hj, by first | omega | trivial, by first | omega | trivial, .dat (HF_in _), HF_svA _, HF_inA _, HF_inA _, f, by first | omega | trivial, qbeg tk (hpop s1.l) w2 s1.o n (s1.l.getD 0 0), sv.set j n, w2, o.set n (lft o (sv.getD j 0), lft o (sv.getD j 0) + tk.getD n 0), ?_, rfl, hS.end2 tk rfl hj h0.1 hm, hP.end1 q.htk h0.1 hw1, by first | omega | trivial, by rw [← rend_go (r := ⟨sv, n :: w2, o⟩) rfl e]; exact hv⟩
       simp only [List.length_set, svI_len]
       unfold frQr3
       rfl
 · have hw : w = [] := by
    cases w with
    | nil => rfl
    | cons n w2 => exact absurd c (by simp)
   rw [rend_stop (r := ⟨sv, w, o⟩) hw] at hv
   rw [hv]
   exact frz_qu (o := o) rfl rfl
theorem qr_loop1 {tm tk : List Int} {S R : Nat} (q : QOk tm tk S R) {v : Value} (hv : v = quV (rqueue 4611686018427387904 tm tk S R) 0) :
 LAtZ (XQr qF enI) 2 (Func.ntmps Proofs.Tryz.f29) ⟨.leaf, 0⟩ (bodyOf Proofs.Tryz.f29) [1, 1, 1, 1, 0, 1, 0] (kFinQr (leafK (fun v2 => ∀ A, Frz A v2 v) (fun v2 A2 => Frz A2 v2 v))) (frQr1 tm tk S R tm.length 0 0 0) (hQr (List.replicate tm.length (0, 0)) (svI []) (svI [])) := by
 refine LAtZ.stepF XQr_ok nsQr [] [] [1, 2, 3, 11, 12, 13, 33, 34, 35] (by kernel_rfl) (fun k F A => ∃ (i : Nat) (s : QS) (sv w : List Nat) (o : List SvP), F = frQr1 tm tk S R o.length (svI sv).length (svI w).length i ∧ A = hQr o (svI sv) (svI w) ∧ i + k = tm.length ∧ Sim s ⟨sv, w, o⟩ ∧ PI tm.length i s ∧ Low ⟨sv, w, o⟩ i ∧ rall tk S R 0 tm ⟨[], [], List.replicate tm.length (0, 0)⟩ = rall tk S R i (tm.drop i) ⟨sv, w, o⟩) ?_ (k := tm.length) ⟨0, _, [], [], _, by rw [List.length_replicate]; rfl, rfl, by first | omega | trivial, sim_init _, PI.init _, fun n hn => by simp at hn, rfl⟩
 rintro k F A ⟨i, s, sv, w, o, rfl, rfl, hik, hS, hP, hL, hp⟩
 have hN := q.n
 have ho1 : s.o = o := hS.o
 have ho : o.length = tm.length := by rw [← ho1]; exact hP.o
 have e1 := wh_W (w := sv) rfl
 have e2 := wh_W (w := w) rfl
 refine (jQr1_nf _ _ _ qF enI tm tk (svI sv) (svI w) o S R i).mpr ?_
 simp only [inV_len, svI_len, Nat.add_zero, e1, e2]
 refine Sp.intro (fun c => ?_) (fun c => ?_)
 · have hi : i < tm.length := by have := of_decide_eq_true c; omega
   have g := getI hi
   have hti := q.htm (tm.getD i 0) (by rw [gI hi]; exact List.getElem_mem hi)
   simp only [g]
   have hpp : rall tk S R i (tm.drop i) ⟨sv, w, o⟩ = rall tk S R (i + 1) (tm.drop (i + 1)) (rarr tk S R i (tm.getD i 0) ⟨sv, w, o⟩) := by
    rw [List.drop_eq_getElem_cons hi, gI hi]; rfl
   rw [hpp] at hp
   obtain ⟨g1, g2, g3⟩ := sim_arr tk S R (tm.getD i 0) hS hL (by show i < o.length; omega)
   have g4 := hP.arr (rm := R) q.htk (sv := S) (by have := q.hsv; omega) hti.1 hti.2
   refine ⟨⟨by first | omega | trivial, by first | omega | trivial⟩, nthI hi, Nat.le_refl _, Nat.le_refl _, .dat (HF_in _), .dat (HF_in _), HF_svA _, HF_inA _, HF_inA _, ?_⟩
   have := qr_inner q (Q := fun v2 => ∀ A, Frz A v2 v) (QA := fun v2 A2 => Frz A2 v2 v) (again2 := fun F1 A1 => ∃ k', k' < k ∧ ∃ (i : Nat) (s : QS) (sv w : List Nat) (o : List SvP), F1 = frQr1 tm tk S R o.length (svI sv).length (svI w).length i ∧ A1 = hQr o (svI sv) (svI w) ∧ i + k' = tm.length ∧ Sim s ⟨sv, w, o⟩ ∧ PI tm.length i s ∧ Low ⟨sv, w, o⟩ i ∧ rall tk S R 0 tm ⟨[], [], List.replicate tm.length (0, 0)⟩ = rall tk S R i (tm.drop i) ⟨sv, w, o⟩) hi rfl hS hP hL (fun r2 e => by
    subst e
    exact ⟨k - 1, by first | omega | trivial, i + 1, _, _, _, _, rfl, rfl, by first | omega | trivial, g1, g4, g2, hp⟩)
   unfold frQr2 at this
   simp only [inV_len, svI_len] at this
   exact this
 · have c := of_decide_eq_false c
   have : i = tm.length := by omega
   subst this
   rw [List.drop_length] at hp
   refine ⟨Nat.le_refl _, Nat.le_refl _, .dat (HF_in _), HF_svA _, HF_inA _, HF_inA _, ?_⟩
   have := qr_loop3 q (v := v) hS hP (by rw [hv]; unfold rqueue; rw [hp]; rfl)
   simp only [svI_len] at this
   exact this
theorem qr_walk (tm tk : List Int) (s r : Int) (h1 : tm.length < 9223372036854775808) (h2 : tk.length < 9223372036854775808) : Walk env Proofs.Tryz.f29 [dat 1 (inV tm), dat 1 (inV tk), .int .i64 s, .int .i64 r] (quV (quO tm tk s r) (qF tm tk s r)) := by
 have i1 : IsI (inV tm) := ⟨by rw [inV_de], by rw [inV_len]; exact h1⟩
 have i2 : IsI (inV tk) := ⟨by rw [inV_de], by rw [inV_len]; exact h2⟩
 refine plainG XQr_ok (d := 2) ((jQr_nf _ _ qF enI tm tk s r).mpr ⟨⟨i1, i2⟩, ?_⟩)
 simp only [inV_de, inV_len, Int.toNat_natCast, svs_rep]
 refine Sp.intro (fun c => ?_) (fun c => ?_)
 · have c : decide (qF tm tk s r = 0) = false := by simpa using c
   unfold quO
   rw [c]
   exact fun A => frz_no A _
 · have c : decide (qF tm tk s r = 0) = true := by simpa using c
   have e := of_decide_eq_true c
   have q := qF_ok e
   have a1 := q.hsv
   have a2 := q.hrm
   have hN := q.n
   obtain ⟨S, rfl⟩ : ∃ n : Nat, s = (n : Int) := ⟨s.toNat, by omega⟩
   obtain ⟨R, rfl⟩ : ∃ n : Nat, r = (n : Int) := ⟨r.toNat, by omega⟩
   have hsame := queue_same (top := 4611686018427387904) (tm := tm) (tk := tk) (sv := S) (rm := R) (by omega) q.htm q.htk (by omega)
   refine ⟨⟨by first | omega | trivial, by first | omega | trivial, by first | omega | trivial, by first | omega | trivial⟩, Nat.le_refl _, Nat.le_refl _, .dat (HF_in _), .dat (HF_in _), HF_svA _, HF_inA [], HF_inA [], ?_⟩
   have := qr_loop1 q (v := quV (quO tm tk S R) (qF tm tk S R)) (by unfold quO; rw [c, e, Int.toNat_natCast, Int.toNat_natCast, ← hsame]; rfl)
   unfold frQr1 at this
   simp only [inV_len] at this
   exact this
theorem qr_tab : ∀ args A p v A', pureR qfP (quX qF quO) args A = some (p, v, A') → PH p → CallAt env 29 args A v A' := qu_con (fn := Proofs.Tryz.f29) rfl qr_walk
end
end Go.T9

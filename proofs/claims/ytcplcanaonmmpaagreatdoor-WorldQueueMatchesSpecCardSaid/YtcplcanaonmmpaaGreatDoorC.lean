/- A part of the proof. -/
import Derived.Test.YtcplcanaonmmpaaGreatDoorB
import Derived.Scope
import Derived.Laws.LoneSync
import Derived.Carry
import Derived.ChangeSame
import Derived.Deep.Slices
import Derived.ChangeArms
import Derived.WideShapes
set_option linter.unusedVariables false
set_option linter.unusedSimpArgs false
namespace Go.AM
noncomputable section
theorem ExtG.trans0 {σ0 σ σ' : Sig} {g0 g g' : Nat → Option AObj} {n0 n n' : Nat} {w0 w w' : World} (h : ExtG σ0 g0 n0 w0 σ g n w) (k : ExtG σ g n0 w σ' g' n' w') : ExtG σ0 g0 n0 w0 σ' g' n' w' where
 sig B hB := (k.sig B hB).trans (h.sig B hB)
 snl B hB := (k.snl B hB).trans (h.snl B hB)
 next := k.next
 size := Nat.le_trans h.size k.size
 frame b hb hn := by
  refine (k.frame b (Nat.lt_of_lt_of_le hb h.size) fun B o x h1 h2 h3 e => ?_).trans (h.frame b hb hn)
  rcases h.orig B o x h1 h2 h3 with hx | ⟨B0, o0, x0, g1, g2, g3, g4⟩
  · omega
  · exact hn B0 o0 x0 g1 g2 g3 (g4.trans e)
 orig B o x h1 h2 h3 := by
  rcases k.orig B o x h1 h2 h3 with hx | ⟨B0, o0, x0, g1, g2, g3, g4⟩
  · exact .inl (Nat.le_trans h.size hx)
  · rcases h.orig B0 o0 x0 g1 g2 g3 with hx | ⟨B1, o1, x1, e1, e2, e3, e4⟩
    · exact .inl (g4 ▸ hx)
    · exact .inr ⟨B1, o1, x1, e1, e2, e3, e4.trans g4⟩
 orig2 B o x h1 h2 h3 := by
  rcases k.orig2 B o x h1 h2 h3 with hx | ⟨B0, o0, x0, g1, g2, g3, g4⟩
  · exact .inl (Nat.le_trans h.size hx)
  · rcases h.orig2 B0 o0 x0 g1 g2 g3 with hx | ⟨B1, o1, x1, e1, e2, e3, e4⟩
    · exact .inl (g4 ▸ hx)
    · exact .inr ⟨B1, o1, x1, e1, e2, e3, e4.trans g4⟩
 os := k.os.trans h.os
 tape := k.tape.trans h.tape
 output := k.output.trans h.output
 sro b o hb := k.sro b o (h.sro b o hb)
 rog b o hb := by
  rcases k.rog b o hb with h1 | h1 | ⟨B0, o0, x0, g1, g2, g3, g4⟩
  · exact h.rog b o h1
  · exact .inr (.inl (Nat.le_trans h.size h1))
  · rcases h.orig B0 o0 x0 g1 g2 g3 with hx | ⟨B1, o1, x1, e1, e2, e3, e4⟩
    · exact .inr (.inl (g4 ▸ hx))
    · exact .inr (.inr ⟨B1, o1, x1, e1, e2, e3, e4.trans g4⟩)
section
variable {call : CallF} {E : Env} {ops : Array Oper} {ms : List Nat} {n n0 : Nat} {F0 : T Value} {fs : List (T Value)} {vs : List Value} {cs : List AH} {es : List Nat} {als : List Al}
 {σ0 : Sig} {g0 : Nat → Option AObj} {w0 : World} {L : Nat → Bool} {e : Nat} {σ : Sig} {a : Act} {w : World} {i : Nat} {o : Oper}
theorem dst_lt {n : Nat} {F F' : T Value} {dst : Option Tmp} {v : Value} (h : put n F dst v = some F') : ∀ d, dst = some d → d < n := by
 rintro d rfl
 simp only [put] at h
 cases hb : Nat.blt d n with
 | false => rw [hb] at h; simp at h
 | true => rw [blt_eq, decide_eq_true_eq] at hb; exact hb
theorem or_true_iff {i j : Nat} {L : Nat → Bool} : (decide (j = i) || L j) = true ↔ j = i ∨ L j = true := by simp
theorem St.plain (sf : SF E ops ms) (tr : TR call E ops ms n n0 F0 fs vs cs es als) (st : St E ops n n0 F0 vs cs es als σ0 g0 w0 L e σ a w) (ho : ops[i]? = some o) (hLi : L i = false)
 (hr : ∀ ed ∈ o.after.toList, Region.binds .any ed = true → L ed.on = true) {v v' : Value} (hv : vs[i]? = some v) (hvr : VR σ v v') (hd : ∀ d, o.dst = some d → d < n) (hes : i ∉ es) (hal : ∀ x ∈ als, x.1 ≠ i) :
 St E ops n n0 F0 vs cs es als σ0 g0 w0 (fun j => decide (j = i) || L j) e σ (a.put o.dst v') w := by
 have hi : i < ops.size := by
  rcases Nat.lt_or_ge i ops.size with h | h
  · exact h
  · rw [Array.getElem?_eq_none h] at ho; cases ho
 refine ⟨?_, ?_, ?_, ?_, ?_, slots_next sf st ho hLi hv ⟨fun _ _ h => h, fun _ _ h => h⟩ hvr hd, ?_, st.glob, ?_⟩
 · intro i' o' hi' hL ed hed hb
   rw [or_true_iff] at hL ⊢
   right
   rcases hL with rfl | hL
   · rw [ho, Option.some.injEq] at hi'; subst hi'; exact hr ed hed hb
   · exact st.cl i' o' hi' hL ed hed hb
 · intro i' hL
   rw [or_true_iff] at hL
   rcases hL with rfl | hL
   · exact hi
   · exact st.lt i' hL
 · intro j i' hj
   have hne : i' ≠ i := by rintro rfl; exact hes (List.mem_of_getElem? hj)
   rw [or_true_iff]
   rw [← st.ef j i' hj]
   constructor
   · rintro (h | h)
     · exact absurd h hne
     · exact h
   · exact .inr
 · cases h : o.dst with
   | none => exact st.sz
   | some d => simp [Act.put, st.sz]
 · cases h : o.dst with
   | none => exact st.df
   | some d => simp [Act.put, st.df]
 · intro x hx hL
   refine st.free x hx ?_
   simp only [Bool.or_eq_false_iff] at hL
   exact hL.2
 · obtain ⟨G, h1, h2, h3⟩ := st.rel
   have hgf : gf als G (fun j => decide (j = i) || L j) = gf als G L := by
    funext B
    exact gf_same (fun x hx => by simp [hal x hx]) B
   exact ⟨G, h1, by rw [hgf]; exact h2, by rw [hgf]; exact h3⟩
theorem seen_part (sf : SF E ops ms) (tr : TR call E ops ms n n0 F0 fs vs cs es als) (st : St E ops n n0 F0 vs cs es als σ0 g0 w0 L e σ a w) (ho : ops[i]? = some o)
 (hr : ∀ ed ∈ o.after.toList, Region.binds .any ed = true → L ed.on = true) {G H : AH} (hH : addAl ((nth ms i).getD 0) als G = some H) :
 H.next = G.next ∧ (∀ B ob, H.t.get B = some ob → ob.here = true → gf als G L B = some ob) ∧ (∀ B ob, vis G B = some ob → vis H B = some ob) := by
 obtain ⟨s1, s2, s3, s4⟩ := addAl_spec hH (fun x hx => AObj.here_of_own (tr.als_ok.own x hx))
 refine ⟨s1, fun B ob hB hh => ?_, s3⟩
 rcases s2 B ob (vis_some.2 ⟨hB, hh⟩) with h | ⟨h1, j, h2, h3⟩
 · exact gf_core h
 · have hLj : L j = true := sf.anc (fun i => L i = true) st.cl i o ho hr j h3
   exact gf_al tr.als_ok h2 hLj h1
theorem ready_step (ok : E.Ok) (hc : CallOk E call) (sf : SF E ops ms) (tr : TR call E ops ms n n0 F0 fs vs cs es als) (st : St E ops n n0 F0 vs cs es als σ0 g0 w0 L e σ a w) (ho : ops[i]? = some o) (hLi : L i = false)
 (hr : ∀ ed ∈ o.after.toList, Region.binds .any ed = true → L ed.on = true) {K : Act → World → Prop} {Q : Exit → Act → World → Prop}
 (hK : ∀ e' σ' a' w', St E ops n n0 F0 vs cs es als σ0 g0 w0 (fun j => decide (j = i) || L j) e' σ' a' w' → K a' w') : wpOp E.P ops Q i K a w := by
 have hi : i < ops.size := by
  rcases Nat.lt_or_ge i ops.size with h | h
  · exact h
  · rw [Array.getElem?_eq_none h] at ho; cases ho
 obtain ⟨F, F', v, hF, hF', hv, hput, hcase⟩ := tr.row i o ho
 have hd := dst_lt hput
 have hanc : ∀ j, bit ms i j = true → L j = true := sf.anc (fun i => L i = true) st.cl i o ho hr
 have hlook : ∀ t, t ∈ o.looksAt ops → VO σ (slot F t) (a.tmps.getD t undef) := fun t ht => looks_same sf tr st ho hF hLi hr ht
 have hρ : OpR σ (rho E F (tmpsOf o.op)) a.eval := rho_rel st.glob fun t ht => hlook t (tmps_looks ops o ht)
 have hwant : ∀ r, wantA ops.toList F o = some r → Region.wanted o (yielded ops a.tmps) = r := by
  intro r hr'
  refine want_eq (σ := σ) (fun j want oj d hg hj hdst => hlook d ?_) hr'
  unfold Oper.looksAt
  refine List.mem_append_right _ ?_
  rw [hg]
  simp [hj, hdst]
 unfold wpOp
 simp only [ho]
 rcases hcase with ⟨hw, rfl, hes, hal⟩ | ⟨hw, hes, hal, hq⟩ | ⟨hw, hes, ob, fv, hall, hmem, rfl⟩ | ⟨hw, hal, e', G, G', H, he, hG, hG', hH, heff, hkeep⟩
 · rw [hwant _ hw, if_neg (by simp)]
   exact hK e σ _ w (st.plain sf tr ho hLi hr hv (undef_refl σ) hd hes hal)
 · rw [hwant _ hw, if_pos rfl]
   left
   obtain ⟨G, hG, hrel, hext⟩ := st.rel
   obtain ⟨H, hH, hquiet⟩ := hq e G hG (fun j i' hj hb => (st.ef j i' hj).1 (hanc i' hb)) (fun j i' hj hlt => by
    cases hb : bit ms i' i with
    | false => rfl
    | true =>
      have hL := (st.ef j i' hj).2 hlt
      have := sf.closed (fun i => L i = true) st.cl i' (st.lt i' hL) hL i hb
      rw [hLi] at this; cases this)
   obtain ⟨p1, p2, p3⟩ := seen_part sf tr st ho hr hH
   have RH : Rel E.P σ H w := RelG.fewer hrel p2 (fun B hB => hrel.fresh B (by rw [p1] at hB; exact hB)) (fun B h => by rw [p1]; exact (hrel.nl B h).1)
   obtain ⟨v', h1, h2⟩ := quiet_ok ok RH hρ hquiet
   unfold Oper.wp
   rw [h1]
   exact hK e σ _ w (st.plain sf tr ho hLi hr hv h2 hd hes hal)
 · rw [hwant _ hw, if_pos rfl]
   left
   obtain ⟨G, hG, hrel, hext⟩ := st.rel
   obtain ⟨ob', fv', h1, h2, h3, h4⟩ := alloc_ok ok hρ hall
   have hid : σ (n0 + i) = none := (st.free _ hmem hLi).1
   have hidn : ¬ σ.nl (n0 + i) := (st.free _ hmem hLi).2
   have hvg : vis G (n0 + i) = none := by
    cases hvv : vis G (n0 + i) with
    | none => rfl
    | some x =>
      rcases hrel.obj0 _ _ (gf_core hvv) (vis_some.1 hvv).2 with ⟨b, d, c, hb, _⟩ | ⟨_, hb⟩
      · rw [hid] at hb; cases hb
      · exact absurd hb hidn
   have hgf : ∀ B, gf als G (fun j => decide (j = i) || L j) B = if B = n0 + i then some ob else gf als G L B := by
    intro B
    by_cases eB : B = n0 + i
    · rw [if_pos eB, eB]
      exact gf_al tr.als_ok hmem (by simp) hvg
    · rw [if_neg eB]
      apply Option.ext
      intro x
      constructor
      · intro hx
        rcases gf_some hx with h | ⟨h1, j, h2, h3⟩
        · exact gf_core h
        · refine gf_al tr.als_ok h2 ?_ h1
          rw [or_true_iff] at h3
          rcases h3 with rfl | h3
          · have := tr.als_ok.id _ h2; exact absurd this eB
          · exact h3
      · intro hx
        rcases gf_some hx with h | ⟨h1, j, h2, h3⟩
        · exact gf_core h
        · exact gf_al tr.als_ok h2 (by simp [h3]) h1
   have hnx : n0 + i < G.next := by have := tr.cs_next G (List.mem_of_getElem? hG); omega
   unfold Oper.wp
   rw [h1 w]
   refine hK e (upd σ (n0 + i) (w.heap.size, 0, 0)) _ _ ⟨?_, ?_, ?_, ?_, ?_, slots_next sf st ho hLi hv (upd_sub hid) (h3 _ (n0 + i) w.heap.size 0 upd_same) hd, ?_, st.glob.sub (upd_sub hid), G, hG, ?_, ?_⟩
   · intro i' o' hi' hL ed hed hb
     rw [or_true_iff] at hL ⊢
     right
     rcases hL with rfl | hL
     · rw [ho, Option.some.injEq] at hi'; subst hi'; exact hr ed hed hb
     · exact st.cl i' o' hi' hL ed hed hb
   · intro i' hL
     rw [or_true_iff] at hL
     rcases hL with rfl | hL
     · exact hi
     · exact st.lt i' hL
   · intro j i' hj
     have hne : i' ≠ i := by rintro rfl; exact hes (List.mem_of_getElem? hj)
     rw [or_true_iff, ← st.ef j i' hj]
     constructor
     · rintro (h | h)
       · exact absurd h hne
       · exact h
     · exact .inr
   · cases h : o.dst with
     | none => exact st.sz
     | some d => simp [Act.put, st.sz]
   · cases h : o.dst with
     | none => exact st.df
     | some d => simp [Act.put, st.df]
   · intro x hx hL
     simp only [Bool.or_eq_false_iff, decide_eq_false_iff_not] at hL
     have := tr.als_ok.id x hx
     refine ⟨?_, (st.free x hx hL.2).2⟩
     unfold upd
     simp only
     rw [if_neg (by omega)]
     exact (st.free x hx hL.2).1
   · exact RelG.alloc hrel hgf hid hidn hnx (Nat.le_refl _) (h2 _ (upd_sub hid)) rfl
   · exact ExtG.trans0 hext (ExtG.allocAt hrel hgf (by have := tr.cs_next G (List.mem_of_getElem? hG); omega) (Nat.le_add_right _ _) (ob := ob') rfl rfl rfl rfl)
 · rw [hwant _ hw, if_pos rfl]
   left
   obtain ⟨G1, hG1, hrel, hext⟩ := st.rel
   have hee : e' = e := by
    have h1 : ¬ e' < e := fun h => by have := (st.ef e' i he).2 h; rw [hLi] at this; cases this
    have h2 : ¬ e < e' := fun h => by
     have hlt : e < es.length := by have := (List.getElem?_eq_some_iff.1 he).1; omega
     have hje : es[e]? = some es[e] := by simp [hlt]
     obtain ⟨o1, ho1, heff1⟩ := tr.es_eff e _ hje
     obtain ⟨o2, ho2, heff2⟩ := tr.es_eff e' _ he
     have := sf.effs _ _ _ _ ho1 ho2 heff1 heff2 (tr.es_inc e e' _ _ hje he h)
     have := (st.ef e _ hje).1 (hanc _ this)
     omega
    omega
   subst hee
   rw [hG, Option.some.injEq] at hG1
   subst hG1
   obtain ⟨p1, p2, p3⟩ := seen_part sf tr st ho hr hH
   have RH : Rel E.P σ H w := RelG.fewer hrel p2 (fun B hB => hrel.fresh B (by rw [p1] at hB; exact hB)) (fun B h => by rw [p1]; exact (hrel.nl B h).1)
   refine does_eff ok hc RH st.glob hρ heff _ _ fun v' w' σ' q1 q2 q3 => ?_
   have hsub : σ.sub σ' := Ext.sub RH q3
   have rest : ∀ B x, gf als G' (fun j => decide (j = i) || L j) B = some x → vis G' B = some x ∨ (gf als G L B = some x ∧ vis H B = none ∧ ∃ y ∈ als, y.2.1 = B) := by
    intro B x hx
    rcases gf_some hx with h | ⟨h1, j, h2, h3⟩
    · exact .inl h
    · right
      have hvH : vis H B = none := by
       cases hvv : vis H B with
       | none => rfl
       | some y => obtain ⟨y', hy'⟩ := hkeep _ h2 y hvv; simp only at hy'; rw [h1] at hy'; cases hy'
      have hvG : vis G B = none := by
       cases hvv : vis G B with
       | none => rfl
       | some y => rw [p3 B y hvv] at hvH; cases hvH
      rw [or_true_iff] at h3
      have hLj : L j = true := by
       rcases h3 with rfl | h3
       · exact absurd rfl (hal _ h2)
       · exact h3
      exact ⟨gf_al tr.als_ok h2 hLj hvG, hvH, _, h2, rfl⟩
   have inH : ∀ B x, H.t.get B = some x → x.own = true → gf als G L B = some x := fun B x h1 h2 => p2 B x h1 (AObj.here_of_own h2)
   have visH : ∀ B x, H.t.get B = some x → x.here = true → vis H B = some x := fun B x h1 h2 => vis_some.2 ⟨h1, h2⟩
   have ownal : ∀ B x, gf als G L B = some x → vis H B = none → (∃ y ∈ als, y.2.1 = B) → x.own = true := by
    intro B x hx hv _
    rcases gf_some hx with h | ⟨_, j, h2, _⟩
    · rw [p3 B x h] at hv; cases hv
    · exact tr.als_ok.own _ h2
   have hnx : n0 + ops.size ≤ G.next := tr.cs_next G (List.mem_of_getElem? hG)
   refine hK (e' + 1) σ' _ w' ⟨?_, ?_, ?_, ?_, ?_, slots_next sf st ho hLi hv hsub q1 hd, ?_, st.glob.sub hsub, G', hG', ?_, ?_⟩
   · intro i' o' hi' hL ed hed hb
     rw [or_true_iff] at hL ⊢
     right
     rcases hL with rfl | hL
     · rw [ho, Option.some.injEq] at hi'; subst hi'; exact hr ed hed hb
     · exact st.cl i' o' hi' hL ed hed hb
   · intro i' hL
     rw [or_true_iff] at hL
     rcases hL with rfl | hL
     · exact hi
     · exact st.lt i' hL
   · intro j i' hj
     rw [or_true_iff]
     by_cases ej : j = e'
     · subst ej
       rw [he, Option.some.injEq] at hj
       exact ⟨fun _ => Nat.lt_succ_self _, fun _ => .inl hj.symm⟩
     · have hne : i' ≠ i := by
        rintro rfl
        rcases Nat.lt_or_gt_of_ne ej with h | h
        · have := tr.es_inc j e' _ _ hj he h; omega
        · have := tr.es_inc e' j _ _ he hj h; omega
       rw [st.ef j i' hj]
       constructor
       · rintro (h | h)
         · exact absurd h hne
         · omega
       · intro h; right; omega
   · cases h : o.dst with
     | none => exact st.sz
     | some d => simp [Act.put, st.sz]
   · cases h : o.dst with
     | none => exact st.df
     | some d => simp [Act.put, st.df]
   · intro x hx hL
     simp only [Bool.or_eq_false_iff] at hL
     have h1 := tr.als_ok.id x hx
     have h2 := tr.als_ok.lt x hx
     refine ⟨by rw [q3.sig x.2.1 (by rw [p1]; omega)]; exact (st.free x hx hL.2).1, fun h => (st.free x hx hL.2).2 ((q3.snl x.2.1 (by rw [p1]; omega)).1 h)⟩
   · have hnil : ∀ B, σ.nl B → σ' B = none := fun B h => (q2.nl B ((q3.snl B (by rw [p1]; exact (hrel.nl B h).1)).2 h)).2
     refine ⟨?_, ?_, q2.lt, q2.fresh, q2.ro, fun B x y hx hown hy => ?_, q2.nl⟩
     rotate_left 2
     · rcases rest B x hx with h | ⟨h1, h2, h3⟩
       · exact q2.sep B x y (vis_some.1 h).1 hown hy
       · rcases hrel.obj0 B x h1 (AObj.here_of_own hown) with ⟨b, d, c, k1, _⟩ | ⟨_, hn⟩
         rotate_left
         · rw [hnil B hn] at hy; cases hy
         have := hsub.f _ _ k1
         rw [this, Option.some.injEq] at hy
         subst hy
         cases hr' : σ'.ro b with
         | none => rfl
         | some oo =>
           rcases q3.rog b oo hr' with k2 | k2 | ⟨B0, o0, x0, g1, g2, g3, g4⟩
           · have := hrel.sep B x _ h1 hown k1; rw [this] at k2; cases k2
           · have := hrel.lt B _ k1; simp only at this; omega
           · have hne0 : B0 ≠ B := by rintro rfl; rw [visH _ _ g1 (AObj.here_of_own g2)] at h2; cases h2
             exact absurd g4 (hrel.inj B0 B o0 x x0 _ (inH B0 o0 g1 g2) h1 g2 (AObj.here_of_own hown) hne0 g3 k1)
     · intro B x hx hh
       rcases rest B x hx with h | ⟨h1, h2, h3⟩
       · exact q2.obj0 B x (vis_some.1 h).1 hh
       · rcases hrel.obj0 B x h1 hh with ⟨b, d, c, k1, k2⟩ | ⟨k1, hn⟩
         rotate_left
         · exact .inr ⟨k1, (q3.snl B (by rw [p1]; exact (hrel.nl B hn).1)).2 hn⟩
         refine .inl ⟨b, d, c, hsub.f _ _ k1, ?_⟩
         rw [q3.frame b (hrel.lt B _ k1) fun B1 o1 x1 g1 g2 g3 ge => ?_]
         · exact k2.mono hsub
         · have hne : B1 ≠ B := by rintro rfl; rw [visH _ _ g1 (AObj.here_of_own g2)] at h2; cases h2
           exact hrel.inj B1 B o1 x x1 (b, d, c) (inH B1 o1 g1 g2) h1 g2 hh hne g3 k1 ge
     · intro B1 B2 o1 o2 x1 x2 hb1 hb2 hown hhere hne hx1 hx2
       rcases rest B1 o1 hb1 with h1 | ⟨h1, h1v, h1a⟩
       · rcases rest B2 o2 hb2 with h2 | ⟨h2, h2v, h2a⟩
         · exact q2.inj B1 B2 o1 o2 x1 x2 (vis_some.1 h1).1 (vis_some.1 h2).1 hown hhere hne hx1 hx2
         · rcases hrel.obj0 B2 o2 h2 hhere with ⟨b, d, c, k1, _⟩ | ⟨_, hn⟩
           rotate_left
           · rw [hnil B2 hn] at hx2; cases hx2
           have := hsub.f _ _ k1
           rw [this, Option.some.injEq] at hx2
           subst hx2
           have hlt := hrel.lt B2 _ k1
           rcases q3.orig B1 o1 x1 (vis_some.1 h1).1 hown hx1 with hs | ⟨B0, o0, x0, g1, g2, g3, g4⟩
           · simp only at hlt ⊢; omega
           · rw [← g4]
             have hne0 : B0 ≠ B2 := by rintro rfl; rw [visH _ _ g1 (AObj.here_of_own g2)] at h2v; cases h2v
             exact hrel.inj B0 B2 o0 o2 x0 _ (inH B0 o0 g1 g2) h2 g2 hhere hne0 g3 k1
       · rcases hrel.obj0 B1 o1 h1 (AObj.here_of_own hown) with ⟨b, d, c, k1, _⟩ | ⟨_, hn⟩
         rotate_left
         · rw [hnil B1 hn] at hx1; cases hx1
         have := hsub.f _ _ k1
         rw [this, Option.some.injEq] at hx1
         subst hx1
         have hlt := hrel.lt B1 _ k1
         rcases rest B2 o2 hb2 with h2 | ⟨h2, h2v, h2a⟩
         · rcases q3.orig2 B2 o2 x2 (vis_some.1 h2).1 hhere hx2 with hs | ⟨B0, o0, x0, g1, g2, g3, g4⟩
           · simp only at hlt ⊢; omega
           · rw [← g4]
             have hne0 : B1 ≠ B0 := by rintro rfl; rw [visH _ _ g1 g2] at h1v; cases h1v
             exact hrel.inj B1 B0 o1 o0 _ x0 h1 (p2 B0 o0 g1 g2) hown g2 hne0 k1 g3
         · rcases hrel.obj0 B2 o2 h2 hhere with ⟨b2, d2, c2, k2, _⟩ | ⟨_, hn⟩
           rotate_left
           · rw [hnil B2 hn] at hx2; cases hx2
           have := hsub.f _ _ k2
           rw [this, Option.some.injEq] at hx2
           subst hx2
           exact hrel.inj B1 B2 o1 o2 _ _ h1 h2 hown hhere hne k1 k2
   · have hnil : ∀ B, σ.nl B → σ' B = none := fun B h => (q2.nl B ((q3.snl B (by rw [p1]; exact (hrel.nl B h).1)).2 h)).2
     refine ExtG.trans hext ⟨?_, ?_, q3.size, ?_, ?_, ?_, q3.os, q3.tape, q3.output, q3.sro, fun b oo hb => ?_, fun B hB => q3.snl B (by rw [p1]; exact hB)⟩
     rotate_left 5
     · rcases q3.rog b oo hb with h | h | ⟨B0, o0, x0, g1, g2, g3, g4⟩
       · exact .inl h
       · exact .inr (.inl h)
       · exact .inr (.inr ⟨B0, o0, x0, inH B0 o0 g1 g2, g2, g3, g4⟩)
     · intro B hB; exact q3.sig B (by rw [p1]; exact hB)
     · have := q3.next; rw [p1] at this; exact this
     · intro b hb hn
       exact q3.frame b hb fun B ob x h1 h2 h3 => hn B ob x (inH B ob h1 h2) h2 h3
     · intro B x y hx hown hy
       rcases rest B x hx with h | ⟨h1, h2, h3⟩
       · rcases q3.orig B x y (vis_some.1 h).1 hown hy with hs | ⟨B0, o0, x0, g1, g2, g3, g4⟩
         · exact .inl hs
         · exact .inr ⟨B0, o0, x0, inH B0 o0 g1 g2, g2, g3, g4⟩
       · rcases hrel.obj0 B x h1 (AObj.here_of_own hown) with ⟨b, d, c, k1, _⟩ | ⟨_, hn⟩
         rotate_left
         · rw [hnil B hn] at hy; cases hy
         have := hsub.f _ _ k1
         rw [this, Option.some.injEq] at hy
         subst hy
         exact .inr ⟨B, x, _, h1, hown, k1, rfl⟩
     · intro B x y hx hhere hy
       rcases rest B x hx with h | ⟨h1, h2, h3⟩
       · rcases q3.orig2 B x y (vis_some.1 h).1 hhere hy with hs | ⟨B0, o0, x0, g1, g2, g3, g4⟩
         · exact .inl hs
         · exact .inr ⟨B0, o0, x0, p2 B0 o0 g1 g2, g2, g3, g4⟩
       · rcases hrel.obj0 B x h1 hhere with ⟨b, d, c, k1, _⟩ | ⟨_, hn⟩
         rotate_left
         · rw [hnil B hn] at hy; cases hy
         have := hsub.f _ _ k1
         rw [this, Option.some.injEq] at hy
         subst hy
         exact .inr ⟨B, x, _, h1, hhere, k1, rfl⟩
end
def nf : List Bool → Nat
 | [] => 0
 | true :: l => nf l
 | false :: l => nf l + 1
theorem nf_set : ∀ {l : List Bool} {i : Nat}, l[i]? = some false → nf (l.set i true) + 1 = nf l
 | [], i, h => by simp at h
 | b :: l, 0, h => by simp at h; subst h; simp [nf]
 | b :: l, i + 1, h => by
   simp at h
   have := nf_set h
   cases b <;> simp [nf] <;> omega
theorem nf_zero : ∀ {l : List Bool}, nf l = 0 → ∀ {i : Nat} {b}, l[i]? = some b → b = true
 | [], _, i, b, h => by simp at h
 | true :: l, hz, 0, b, h => by simp at h; exact h
 | true :: l, hz, i + 1, b, h => by simp at h; exact nf_zero (by simpa [nf] using hz) h
 | false :: l, hz, _, _, _ => by simp [nf] at hz
section
variable {call : CallF} {E : Env} {ops : Array Oper} {ms : List Nat} {n n0 : Nat} {F0 : T Value} {fs : List (T Value)} {vs : List Value} {cs : List AH} {es : List Nat} {als : List Al}
 {σ0 : Sig} {g0 : Nat → Option AObj} {w0 : World}
theorem mem_ready {listed : Array Bool} (hs : listed.size = ops.size) {i : Nat} : i ∈ Region.ready .any ops listed ↔ ∃ o, ops[i]? = some o ∧ listed.getD i false = false ∧ ∀ e ∈ o.after.toList, Region.binds .any e = true → listed.getD e.on false = true := by
 unfold Region.ready
 rw [List.mem_filter, List.mem_range]
 constructor
 · rintro ⟨hi, h⟩
   have ho : ops[i]? = some ops[i] := by simp [hi]
   simp only [ho, Option.map_some, Option.getD_some, Bool.and_eq_true, Bool.not_eq_true'] at h
   refine ⟨_, ho, ?_, fun e he hb => ?_⟩
   · have := h.1
     rw [Array.getD_eq_getD_getElem?] at this ⊢
     have hl : listed[i]? = some (listed[i]'(by omega)) := by simp <;> omega
     rw [hl] at this ⊢
     exact this
   · have := h.2
     rw [Array.all_eq_true] at this
     obtain ⟨k, hk, rfl⟩ := List.getElem_of_mem he
     have := this k (by simpa using hk)
     simp only [Bool.or_eq_true, Bool.not_eq_true'] at this
     rcases this with h | h
     · have e2 : (ops[i]).after[k]'(by simpa using hk) = (ops[i]).after.toList[k] := by simp
       rw [e2, hb] at h; cases h
     · simpa using h
 · rintro ⟨o, ho, h1, h2⟩
   have hi : i < ops.size := by
    rcases Nat.lt_or_ge i ops.size with h | h
    · exact h
    · rw [Array.getElem?_eq_none h] at ho; cases ho
   refine ⟨hi, ?_⟩
   simp only [ho, Option.map_some, Option.getD_some, Bool.and_eq_true, Bool.not_eq_true']
   refine ⟨?_, ?_⟩
   · rw [Array.getD_eq_getD_getElem?] at h1 ⊢
     have hl : listed[i]? = some (listed[i]'(by omega)) := by simp <;> omega
     rw [hl] at h1 ⊢
     exact h1
   · rw [Array.all_eq_true]
     intro k hk
     have hm : o.after[k] ∈ o.after.toList := by simp
     cases hb : Region.binds .any o.after[k] with
     | false => simp
     | true => simp [h2 _ hm hb]
theorem all_of_nil (sf : SF E ops ms) {listed : Array Bool} (hs : listed.size = ops.size) (h : Region.ready .any ops listed = []) : ∀ i, i < ops.size → listed.getD i false = true := by
 intro i
 induction i using Nat.strongRecOn with
 | _ i ih =>
   intro hi
   cases hc : listed.getD i false with
   | true => rfl
   | false =>
     have ho : ops[i]? = some ops[i] := by simp [hi]
     have : i ∈ Region.ready .any ops listed := (mem_ready hs).2 ⟨_, ho, hc, fun e he hb => ih e.on (sf.back i _ ho e he hb) (by have := sf.back i _ ho e he hb; omega)⟩
     rw [h] at this
     simp at this
theorem any_ok (ok : E.Ok) (hc : CallOk E call) (sf : SF E ops ms) (tr : TR call E ops ms n n0 F0 fs vs cs es als) {Q : Exit → Act → World → Prop}
 (hQ : ∀ L e σ a w, (∀ i, i < ops.size → L i = true) → St E ops n n0 F0 vs cs es als σ0 g0 w0 L e σ a w → Q .normal a w) :
 ∀ (fuel : Nat) (listed : Array Bool) (e : Nat) (σ : Sig) (a : Act) (w : World), listed.size = ops.size → nf listed.toList ≤ fuel →
   St E ops n n0 F0 vs cs es als σ0 g0 w0 (fun j => listed.getD j false) e σ a w → wpAny E.P .any ops Q fuel listed a w
 | 0, listed, e, σ, a, w, hs, hn, st => by
   have hall : ∀ i, i < ops.size → listed.getD i false = true := by
    intro i hi
    have hl : listed[i]? = some (listed[i]'(by omega)) := by simp <;> omega
    have := nf_zero (by omega : nf listed.toList = 0) (i := i) (b := listed[i]'(by omega)) (by simp <;> omega)
    rw [Array.getD_eq_getD_getElem?, hl, this]
    rfl
   refine ⟨?_, hQ _ e σ a w hall st⟩
   cases hr : Region.ready .any ops listed with
   | nil => rfl
   | cons i r =>
     have : i ∈ Region.ready .any ops listed := by rw [hr]; simp
     obtain ⟨o, ho, h1, _⟩ := (mem_ready hs).1 this
     have hi : i < ops.size := by
      rcases Nat.lt_or_ge i ops.size with h | h
      · exact h
      · rw [Array.getElem?_eq_none h] at ho; cases ho
     rw [hall i hi] at h1; cases h1
 | fuel + 1, listed, e, σ, a, w, hs, hn, st => by
   refine ⟨fun hnil => hQ _ e σ a w (all_of_nil sf hs hnil) st, fun i hi => ?_⟩
   obtain ⟨o, ho, h1, h2⟩ := (mem_ready hs).1 hi
   have hlt : i < ops.size := by
    rcases Nat.lt_or_ge i ops.size with h | h
    · exact h
    · rw [Array.getElem?_eq_none h] at ho; cases ho
   refine ready_step ok hc sf tr st ho h1 h2 fun e' σ' a' w' st' => ?_
   refine any_ok ok hc sf tr hQ fuel (listed.setIfInBounds i true) e' σ' a' w' (by simpa using hs) ?_ ?_
   · have hl : listed.toList[i]? = some false := by
      rw [Array.getElem?_toList]
      rw [Array.getD_eq_getD_getElem?] at h1
      have hl : listed[i]? = some (listed[i]'(by omega)) := by simp <;> omega
      rw [hl] at h1 ⊢
      simpa using h1
     have := nf_set hl
     rw [Array.toList_setIfInBounds]
     omega
   · have hf : (fun j => (listed.setIfInBounds i true).getD j false) = (fun j => decide (j = i) || listed.getD j false) := by
      funext j
      rw [Array.getD_eq_getD_getElem?, Array.getElem?_setIfInBounds, Array.getD_eq_getD_getElem?]
      by_cases e : i = j
      · subst e; simp [hs, hlt]
      · rw [if_neg e]; simp; intro e'; exact absurd e'.symm e
     rw [hf]
     exact st'
theorem region_ok (ok : E.Ok) (hc : CallOk E call) (hreg : regOk E ops = true) {A A' : AH} {F' : T Value} {Gk : AH} (tr : TR call E ops (masks ops.toList []) n A.next F0 fs vs cs es als)
 (hc0 : cs[0]? = some ⟨A.t, A.next + ops.size⟩) (hcl : cs[es.length]? = some Gk) (hF' : fs[ops.size]? = some F') {mm : Nat} (hA' : addAl mm als Gk = some A')
 {σ : Sig} {a : Act} {w : World} (R : Rel E.P σ A w) (hg : Glob E σ) (hF : FR σ F0 n a) {id : Nat} {Q : Exit → Act → World → Prop}
 (hQ : ∀ a' w' σ', FR σ' F' n a' → Rel E.P σ' A' w' → Ext σ A w σ' A' w' → Q .normal a' w') : (Code.region id ops true).wp E.P Q a w := by
 refine wp_region_any ok.mixed ?_
 have sf := sf_of hreg
 have hL0 : ∀ j, (Array.replicate ops.size false).getD j false = false := by
  intro j; rw [Array.getD_eq_getD_getElem?, Array.getElem?_replicate]; split <;> rfl
 have hgf0 : ∀ (L : Nat → Bool), (∀ j, L j = false) → ∀ B, gf als ⟨A.t, A.next + ops.size⟩ L B = vis A B := by
  intro L hL B
  unfold gf
  have : vis ⟨A.t, A.next + ops.size⟩ B = vis A B := rfl
  rw [this]
  cases vis A B with
  | some x => rfl
  | none =>
    have : als.find? (fun x => Nat.beq x.2.1 B && L x.1) = none := by rw [List.find?_eq_none]; intro x _; simp [hL]
    simp [this]
 refine any_ok (σ0 := σ) (g0 := A.t.get) (w0 := w) ok hc sf tr ?_ ops.size _ 0 σ a _ (by simp) ?_ ?_
 · intro L e σ' a' w' hall st
   have hee : e = es.length := by
    have h1 : e ≤ es.length := by
     obtain ⟨G, hG, _⟩ := st.rel
     have := (List.getElem?_eq_some_iff.1 hG).1
     have := tr.cs_len
     omega
    rcases Nat.lt_or_ge e es.length with h | h
    · have hj : es[e]? = some es[e] := by simp [h]
      obtain ⟨o, ho, _⟩ := tr.es_eff e _ hj
      have hlt : es[e] < ops.size := by
       rcases Nat.lt_or_ge es[e] ops.size with h | h
       · exact h
       · rw [Array.getElem?_eq_none h] at ho; cases ho
      have := (st.ef e _ hj).1 (hall _ hlt)
      omega
    · omega
   subst hee
   obtain ⟨G, hG, hrel, hext⟩ := st.rel
   rw [hcl, Option.some.injEq] at hG
   subst hG
   obtain ⟨s1, s2, s3, s4⟩ := addAl_spec hA' (fun x hx => AObj.here_of_own (tr.als_ok.own x hx))
   have hin : ∀ B ob, A'.t.get B = some ob → ob.here = true → gf als Gk L B = some ob := by
    intro B ob hB hh
    rcases s2 B ob (vis_some.2 ⟨hB, hh⟩) with h | ⟨h1, j, h2, h3⟩
    · exact gf_core h
    · exact gf_al tr.als_ok h2 (hall j (tr.als_ok.lt _ h2)) h1
   refine hQ a' w' σ' ⟨st.sz, fun t => ?_, st.df⟩ (RelG.fewer hrel hin (fun B hB => hrel.fresh B (by rw [s1] at hB; exact hB)) (fun B h => by rw [s1]; exact (hrel.nl B h).1)) ⟨hext.sig, by rw [s1]; exact hext.next, hext.size, hext.frame, ?_, ?_, hext.os, hext.tape, hext.output, hext.sro, hext.rog, hext.snl⟩
   · rw [slot_text tr t ops.size F' (Nat.le_refl _) hF']
     have : fvl ops vs (fun _ => true) F0 t ops.size = fvl ops vs L F0 t ops.size := fvl_congr _ fun j hj _ => (hall j hj).symm
     rw [this]
     exact st.fr t
   · intro B o x h1 h2 h3; exact hext.orig B o x (hin B o h1 (AObj.here_of_own h2)) h2 h3
   · intro B o x h1 h2 h3; exact hext.orig2 B o x (hin B o h1 h2) h2 h3
 · rw [Array.toList_replicate]
   have : ∀ k, nf (List.replicate k false) = k := by
    intro k; induction k with
    | zero => rfl
    | succ k ih => simp [List.replicate_succ, nf, ih]
   rw [this]; exact Nat.le_refl _
 · refine ⟨?_, ?_, ?_, hF.size, hF.defers, ?_, ?_, hg, _, hc0, ?_, ?_⟩
   · intro i o _ hL; rw [hL0] at hL; cases hL
   · intro i hL; rw [hL0] at hL; cases hL
   · intro j i _; rw [hL0]; simp
   · intro t
     have : fvl ops vs (fun j => (Array.replicate ops.size false).getD j false) F0 t ops.size = slot F0 t := by
      rw [fvl_skip (i := 0) ops.size (Nat.zero_le _) fun j _ _ hc => by rw [hL0] at hc; cases hc.1]
      rfl
     rw [this]
     exact hF.val t
   · intro x hx _
     have := tr.als_ok.id x hx
     exact ⟨R.fresh _ (by omega), fun h => by have := (R.nl _ h).1; omega⟩
   · refine RelG.fewer (RelG.drew R (w' := { w with drawn := w.drawn + 1 }) rfl) (fun B o h hh => ?_) (fun B hB => R.fresh B (by simp only at hB; omega)) (fun B h => Nat.lt_of_lt_of_le (R.nl B h).1 (Nat.le_add_right _ _))
     rw [hgf0 _ hL0] at h
     exact (vis_some.1 h).1
   · have hx : ∀ B o, gf als ⟨A.t, A.next + ops.size⟩ (fun j => (Array.replicate ops.size false).getD j false) B = some o → A.t.get B = some o := fun B o h => by
      rw [hgf0 _ hL0] at h; exact (vis_some.1 h).1
     exact ⟨fun _ _ => rfl, Nat.le_add_right _ _, Nat.le_refl _, fun _ _ _ => rfl, fun B o x h1 h2 h3 => .inr ⟨B, o, x, hx B o h1, h2, h3, rfl⟩, fun B o x h1 h2 h3 => .inr ⟨B, o, x, hx B o h1, h2, h3, rfl⟩, rfl, rfl, rfl, fun _ _ h => h, fun _ _ h => .inl h, fun _ _ => Iff.rfl⟩
end
def veqs (f : Value → Value → Bool) : List Value → List Value → Bool
 | [], [] => true
 | a :: x, b :: y => bif f a b then veqs f x y else false
 | _, _ => false
theorem veqs_eq {f : Value → Value → Bool} (hf : ∀ a b, f a b = true → a = b) : ∀ {x y : List Value}, veqs f x y = true → x = y
 | [], [], _ => rfl
 | [], _ :: _, h => by simp [veqs] at h
 | _ :: _, [], h => by simp [veqs] at h
 | a :: x, b :: y, h => by
   simp only [veqs] at h
   cases hb : f a b with
   | false => rw [hb] at h; simp at h
   | true => rw [hb] at h; rw [hf a b hb, veqs_eq hf h]
def addrEq (a b : Addr) : Bool := Nat.beq a.block b.block && (Nat.beq a.off b.off && (a.spot.isNone && b.spot.isNone))
theorem addrEq_eq {a b : Addr} (h : addrEq a b = true) : a = b := by
 obtain ⟨a1, a2, a3⟩ := a
 obtain ⟨b1, b2, b3⟩ := b
 simp only [addrEq, Bool.and_eq_true] at h
 obtain ⟨h1, h2, h3, h4⟩ := h
 have h1 := Nat.eq_of_beq_eq_true h1
 have h2 := Nat.eq_of_beq_eq_true h2
 subst h1; subst h2
 cases a3 <;> simp at h3
 cases b3 <;> simp at h4
 rfl
def veq : Nat → Value → Value → Bool
 | 0, _, _ => false
 | n + 1, a, b =>
   match a, b with
   | .bool x, .bool y => (match x, y with | true, true => true | false, false => true | _, _ => false)
   | .int k x, .int k' y => decide (k = k') && decide (x = y)
   | .string s, .string t => eqL s.data.toList t.data.toList
   | .pointer none, .pointer none => true
   | .pointer (some a), .pointer (some b) => addrEq a b
   | .slice none n k, .slice none n' k' => Nat.beq n n' && Nat.beq k k'
   | .slice (some a) n k, .slice (some b) n' k' => addrEq a b && (Nat.beq n n' && Nat.beq k k')
   | .map none, .map none => true
   | .map (some r), .map (some r') => Nat.beq r r'
   | .func f x y, .func g x' y' => decide (f = g) && (veqs (veq n) x.toList x'.toList && veqs (veq n) y.toList y'.toList)
   | .nilFunc, .nilFunc => true
   | .iface t v, .iface u v' => Nat.beq t u && veq n v v'
   | .nilIface, .nilIface => true
   | .agg x, .agg y => veqs (veq n) x.toList y.toList
   | .tuple x, .tuple y => veqs (veq n) x.toList y.toList
   | _, _ => false
theorem veq_eq : ∀ (n : Nat) (a b : Value), veq n a b = true → a = b
 | 0, _, _, h => by simp [veq] at h
 | n + 1, a, b, h => by
   unfold veq at h
   split at h
   · rename_i x y; cases x <;> cases y <;> simp at h <;> rfl
   · simp only [Bool.and_eq_true, decide_eq_true_eq] at h; rw [h.1, h.2]
   · rw [eqL_iff] at h; rw [WideShapes.bytes_inj h]
   · rfl
   · rw [addrEq_eq h]
   · simp only [Bool.and_eq_true] at h; rw [Nat.eq_of_beq_eq_true h.1, Nat.eq_of_beq_eq_true h.2]
   · simp only [Bool.and_eq_true] at h; rw [addrEq_eq h.1, Nat.eq_of_beq_eq_true h.2.1, Nat.eq_of_beq_eq_true h.2.2]
   · rfl
   · rw [Nat.eq_of_beq_eq_true h]
   · simp only [Bool.and_eq_true, decide_eq_true_eq] at h
     rw [h.1, Array.toList_inj.1 (veqs_eq (veq_eq n) h.2.1), Array.toList_inj.1 (veqs_eq (veq_eq n) h.2.2)]
   · rfl
   · simp only [Bool.and_eq_true] at h; rw [Nat.eq_of_beq_eq_true h.1, veq_eq n _ _ h.2]
   · rfl
   · rw [Array.toList_inj.1 (veqs_eq (veq_eq n) h)]
   · rw [Array.toList_inj.1 (veqs_eq (veq_eq n) h)]
   · cases h
def hdep : Op → Bool
 | .load .. | .lookup .. | .convert .. => true
 | .call _ => true
 | _ => false
theorem quiet_indep {E : Env} {H H' : AH} {ρ : Operand → Option Value} {ty : TypeId} {op : Op} (h : hdep op = false) : quiet E H ρ ty op = quiet E H' ρ ty op := by
 cases op <;> first | rfl | (simp [hdep] at h)
theorem set_some {α : Type} : ∀ (f : Nat) (t : T α) (k : Nat) (x : α), k + 1 < 2 ^ f → ∃ t', T.set f t k x = some t'
 | 0, t, k, x, h => by simp at h
 | f + 1, t, k, x, h => by
   have hp : 2 ^ (f + 1) = 2 * 2 ^ f := by rw [Nat.pow_succ]; omega
   have key : ∀ l v r, ∃ t', T.setAt (T.set f) l v r k x = some t' := by
    intro l v r
    rw [T.setAt_eq]
    by_cases h0 : k = 0
    · exact ⟨_, by rw [if_pos h0]⟩
    · rw [if_neg h0]
      by_cases h1 : k % 2 = 1
      · rw [if_pos h1]
        obtain ⟨t', ht⟩ := set_some f l (k / 2) x (by omega)
        exact ⟨.node t' v r, by simp [ht]⟩
      · rw [if_neg h1]
        obtain ⟨t', ht⟩ := set_some f r (k / 2 - 1) x (by omega)
        exact ⟨.node l v t', by simp [ht]⟩
   cases t with
   | leaf => exact key .leaf none .leaf
   | node l v r => exact key l v r
theorem addAl_total {m : Nat} : ∀ (als : List Al) (G : AH), (∀ x ∈ als, x.2.1 + 1 < 2 ^ FU) → ∃ H, addAl m als G = some H
 | [], G, _ => ⟨G, rfl⟩
 | (i, id, ob) :: r, G, h => by
   obtain ⟨H, hH⟩ := addAl_total r G (fun x hx => h x (by simp [hx]))
   unfold addAl
   rw [hH]
   cases hb : m.testBit i with
   | false => exact ⟨H, by simp⟩
   | true =>
     cases hv : vis H id with
     | some _ => exact ⟨H, by simp [hv]⟩
     | none =>
       obtain ⟨t, ht⟩ := set_some FU H.t id ob (h (i, id, ob) (by simp))
       exact ⟨⟨t, H.next⟩, by simp [hv, ht]⟩
structure Qu where
 i : Nat
 m : Nat
 o : Oper
 F : T Value
 v : Value
structure RS where
 F : T Value
 G : AH
 past : List (Nat × AH)
 als : List Al
 qs : List Qu
def veqE (E : Env) (a b : Value) : Bool := match E.sym with | false => veq 6 a b | true => @decide (a = b) (Classical.propDecidable _)
theorem veqE_eq {E : Env} {a b : Value} (h : veqE E a b = true) : a = b := by
 unfold veqE at h
 split at h
 · exact veq_eq 6 _ _ h
 · simpa using h
theorem veqE_self {E : Env} (hs : E.sym = true) (a : Value) : veqE E a a = true := by
 unfold veqE; rw [hs]; simp
def qcheck (E : Env) (als : List Al) (G : AH) (q : Qu) : Bool :=
 match addAl q.m als G with
 | some H => (match quiet E H (rho E q.F (tmpsOf q.o.op)) q.o.type q.o.op with | some v => veqE E v q.v | none => false)
 | none => false
def pastOk (E : Env) (als : List Al) (q : Qu) : List (Nat × AH) → Bool
 | [] => true
 | (ie, Gb) :: r => bif q.m.testBit ie then true else (bif qcheck E als Gb q then pastOk E als q r else false)
def keepB (H G : AH) (x : Al) : Bool := match vis H x.2.1 with | none => true | some _ => (vis G x.2.1).isSome
def regA (call : CallF) (E : Env) (ops : List Oper) (ms : List Nat) (n n0 sz : Nat) : List Oper → Nat → RS → Option RS
 | [], _, S => some S
 | o :: rest, i, S =>
   match wantA ops S.F o with
   | none => none
   | some false => (match put n S.F o.dst undef with | some F' => regA call E ops ms n n0 sz rest (i + 1) { S with F := F' } | none => none)
   | some true =>
     match isEff E o.op with
     | true => (match addAl ((nth ms i).getD 0) S.als S.G with
       | some H => (match effAll call E H (rho E S.F (tmpsOf o.op)) o.op with
         | some (v, G') =>
           bif S.als.all (keepB H G') && (S.qs.all (fun q => ((nth ms i).getD 0).testBit q.i || qcheck E S.als G' q) && Nat.ble (n0 + sz) G'.next) then
            (match put n S.F o.dst v with | some F' => regA call E ops ms n n0 sz rest (i + 1) ⟨F', G', (i, S.G) :: S.past, S.als, S.qs⟩ | none => none)
           else none
         | none => none)
       | none => none)
     | false => (match allocA E (rho E S.F (tmpsOf o.op)) o.op with
       | some (ob, fv) => bif (vis S.G (n0 + i)).isNone && S.past.all (fun p => (vis p.2 (n0 + i)).isNone) then
        (match put n S.F o.dst (fv (n0 + i)) with | some F' => regA call E ops ms n n0 sz rest (i + 1) { S with F := F', als := (i, n0 + i, ob) :: S.als } | none => none) else none
       | none => (match addAl ((nth ms i).getD 0) S.als S.G with
         | some H => (match quiet E H (rho E S.F (tmpsOf o.op)) o.type o.op with
           | some v =>
             (match hdep o.op with
             | true => bif pastOk E S.als ⟨i, (nth ms i).getD 0, o, S.F, v⟩ S.past then
              (match put n S.F o.dst v with | some F' => regA call E ops ms n n0 sz rest (i + 1) { S with F := F', qs := ⟨i, (nth ms i).getD 0, o, S.F, v⟩ :: S.qs } | none => none) else none
             | false => (match put n S.F o.dst v with | some F' => regA call E ops ms n n0 sz rest (i + 1) { S with F := F' } | none => none))
           | none => none)
         | none => none))
def RS.es (S : RS) : List Nat := (S.past.map (·.1)).reverse
def RS.cs (S : RS) : List AH := (S.G :: S.past.map (·.2)).reverse
def RowP (call : CallF) (E : Env) (ops : Array Oper) (ms : List Nat) (n0 : Nat) (past : List (Nat × AH)) (es : List Nat) (cs : List AH) (als : List Al) (qs : List Qu) (i : Nat) (o : Oper) (F : T Value) (v : Value) : Prop :=
 (wantA ops.toList F o = some false ∧ v = undef ∧ i ∉ es ∧ (∀ x ∈ als, x.1 ≠ i)) ∨
 (wantA ops.toList F o = some true ∧ i ∉ es ∧ (∀ x ∈ als, x.1 ≠ i) ∧ (hdep o.op = true → ⟨i, (nth ms i).getD 0, o, F, v⟩ ∈ qs) ∧
  ∀ (e : Nat) G, cs[e]? = some G → (∀ (j : Nat) i', es[j]? = some i' → bit ms i i' = true → j < e) → (∀ (j : Nat) i', es[j]? = some i' → j < e → bit ms i' i = false) →
    ∃ H, addAl ((nth ms i).getD 0) als G = some H ∧ quiet E H (rho E F (tmpsOf o.op)) o.type o.op = some v) ∨
 (wantA ops.toList F o = some true ∧ i ∉ es ∧ ∃ ob fv, allocA E (rho E F (tmpsOf o.op)) o.op = some (ob, fv) ∧ (i, n0 + i, ob) ∈ als ∧ v = fv (n0 + i)) ∨
 (wantA ops.toList F o = some true ∧ (∀ x ∈ als, x.1 ≠ i) ∧ ∃ (e : Nat), ∃ G G' H, es[e]? = some i ∧ cs[e]? = some G ∧ cs[e + 1]? = some G' ∧ addAl ((nth ms i).getD 0) als G = some H ∧
  effAll call E H (rho E F (tmpsOf o.op)) o.op = some (v, G') ∧ ∀ x ∈ als, ∀ ob, vis H x.2.1 = some ob → ∃ ob', vis G' x.2.1 = some ob')
structure TRp (call : CallF) (E : Env) (ops : Array Oper) (ms : List Nat) (n n0 : Nat) (F0 : T Value) (A0 : AH) (k : Nat) (S : RS) (fs : List (T Value)) (vs : List Value) : Prop where
 fs0 : fs[0]? = some F0
 fsk : fs[k]? = some S.F
 fsl : fs.length = k + 1
 vsl : vs.length = k
 row : ∀ i o, i < k → ops[i]? = some o → ∃ F F' v, fs[i]? = some F ∧ fs[i + 1]? = some F' ∧ vs[i]? = some v ∧ put n F o.dst v = some F' ∧ RowP call E ops ms n0 S.past S.es S.cs S.als S.qs i o F v
 es_lt : ∀ x ∈ S.past, x.1 < k
 es_eff : ∀ x ∈ S.past, ∃ o, ops[x.1]? = some o ∧ isEff E o.op = true
 es_inc : ∀ (j j' : Nat) i i', S.es[j]? = some i → S.es[j']? = some i' → j < j' → i < i'
 als_lt : ∀ x ∈ S.als, x.1 < k
 als_ok : AlsOk n0 ops.size S.als
 c0 : S.cs[0]? = some A0
 cnx : ∀ G ∈ (S.G :: S.past.map (·.2)), n0 + ops.size ≤ G.next
 qsl : ∀ q ∈ S.qs, q.i < k
theorem alloc_own {E : Env} {ρ : Operand → Option Value} {op : Op} {ob : AObj} {fv : Nat → Value} (h : allocA E ρ op = some (ob, fv)) : ob.own = true := by
 unfold allocA at h
 repeat' split at h
 all_goals first
  | (simp only [Option.some.injEq, Prod.mk.injEq] at h; obtain ⟨rfl, _⟩ := h; rfl)
  | (cases h; done)
  | skip
 all_goals
  simp only [cond_eq_ite] at h
  split at h
  · first
     | (simp only [Option.some.injEq, Prod.mk.injEq] at h; obtain ⟨rfl, _⟩ := h; rfl)
     | (split at h
        · simp only [Option.some.injEq, Prod.mk.injEq] at h; obtain ⟨rfl, _⟩ := h; rfl
        · cases h)
  · cases h
section
variable {call : CallF} {E : Env} {ops : Array Oper} {ms : List Nat} {n n0 : Nat} {F0 : T Value} {A0 : AH} {k : Nat} {S S' : RS} {fs : List (T Value)} {vs : List Value} {o : Oper} {F' : T Value} {v : Value}
theorem mem_es {S : RS} {i : Nat} : i ∈ S.es ↔ ∃ x ∈ S.past, x.1 = i := by
 unfold RS.es; simp
theorem TRp.step (tr : TRp call E ops ms n n0 F0 A0 k S fs vs) (ho : ops[k]? = some o) (hput : put n S.F o.dst v = some F') (hS : S'.F = F')
 (hold : ∀ i o F v, i < k → ops[i]? = some o → RowP call E ops ms n0 S.past S.es S.cs S.als S.qs i o F v → RowP call E ops ms n0 S'.past S'.es S'.cs S'.als S'.qs i o F v)
 (hnew : RowP call E ops ms n0 S'.past S'.es S'.cs S'.als S'.qs k o S.F v)
 (h1 : ∀ x ∈ S'.past, x.1 < k + 1) (h2 : ∀ x ∈ S'.past, ∃ o, ops[x.1]? = some o ∧ isEff E o.op = true) (h3 : ∀ (j j' : Nat) i i', S'.es[j]? = some i → S'.es[j']? = some i' → j < j' → i < i')
 (h4 : ∀ x ∈ S'.als, x.1 < k + 1) (h5 : AlsOk n0 ops.size S'.als) (h6 : S'.cs[0]? = some A0) (h7 : ∀ G ∈ (S'.G :: S'.past.map (·.2)), n0 + ops.size ≤ G.next) (h8 : ∀ q ∈ S'.qs, q.i < k + 1) :
 TRp call E ops ms n n0 F0 A0 (k + 1) S' (fs ++ [F']) (vs ++ [v]) := by
 have g : ∀ i, i < k + 1 → (fs ++ [F'])[i]? = fs[i]? := fun i hi => by rw [List.getElem?_append, if_pos (by rw [tr.fsl]; exact hi)]
 have gk : (fs ++ [F'])[k + 1]? = some F' := by rw [List.getElem?_append, if_neg (by rw [tr.fsl]; omega), tr.fsl]; simp
 refine ⟨?_, ?_, ?_, ?_, ?_, h1, h2, h3, h4, h5, h6, h7, h8⟩
 · rw [g 0 (by omega)]; exact tr.fs0
 · rw [gk, hS]
 · simp [tr.fsl]
 · simp [tr.vsl]
 · intro i o' hi hoi
   by_cases e : i = k
   · subst e
     rw [ho, Option.some.injEq] at hoi
     subst hoi
     refine ⟨S.F, F', v, ?_, gk, ?_, hput, hnew⟩
     · rw [g i (by omega)]; exact tr.fsk
     · rw [List.getElem?_append, if_neg (by rw [tr.vsl]; omega), tr.vsl]; simp
   · obtain ⟨F1, F2, v1, r1, r2, r3, r4, r5⟩ := tr.row i o' (by omega) hoi
     refine ⟨F1, F2, v1, ?_, ?_, ?_, r4, hold i o' F1 v1 (by omega) hoi r5⟩
     · rw [g i (by omega)]; exact r1
     · rw [g (i + 1) (by omega)]; exact r2
     · rw [List.getElem?_append, if_pos (by rw [tr.vsl]; omega)]; exact r3
theorem past_checked {als : List Al} {q : Qu} : ∀ {past : List (Nat × AH)}, pastOk E als q past = true → ∀ (e : Nat) G, (past.map (·.2)).reverse[e]? = some G →
 (∀ (j : Nat) i', (past.map (·.1)).reverse[j]? = some i' → q.m.testBit i' = true → j < e) → qcheck E als G q = true
 | [], _, e, G, h, _ => by simp at h
 | (ie, Gb) :: r, hp, e, G, h, hc => by
   simp only [pastOk] at hp
   simp only [List.map_cons, List.reverse_cons] at h hc
   have hlen : (r.map (·.1)).reverse.length = r.length := by simp
   have hlen2 : (r.map (·.2)).reverse.length = r.length := by simp
   have hj : ((r.map (·.1)).reverse ++ [ie])[r.length]? = some ie := by rw [List.getElem?_append, if_neg (by omega), hlen]; simp
   have hle : e ≤ r.length := by
    have := (List.getElem?_eq_some_iff.1 h).1
    simp at this; omega
   have hbit : q.m.testBit ie = false := by
    cases hb : q.m.testBit ie with
    | false => rfl
    | true => have := hc r.length ie hj hb; omega
   rw [hbit] at hp
   simp only [cond_false] at hp
   cases hq : qcheck E als Gb q with
   | false => rw [hq] at hp; simp at hp
   | true =>
     rw [hq] at hp
     simp only [cond_true] at hp
     rw [List.getElem?_append] at h
     by_cases he : e < r.length
     · rw [if_pos (by omega)] at h
       exact past_checked hp e G h fun j i' hj' hb => hc j i' (by
        rw [List.getElem?_append, if_pos (by have := (List.getElem?_eq_some_iff.1 hj').1; exact this)]; exact hj') hb
     · have : e = r.length := by omega
       subst this
       rw [if_neg (by omega), hlen2] at h
       simp at h
       subst h
       exact hq
theorem of_qcheck {als : List Al} {G : AH} {q : Qu} (h : qcheck E als G q = true) : ∃ H, addAl q.m als G = some H ∧ quiet E H (rho E q.F (tmpsOf q.o.op)) q.o.type q.o.op = some q.v := by
 unfold qcheck at h
 split at h
 · rename_i H hH
   split at h
   · rename_i u hu
     have := veqE_eq h
     subst this
     exact ⟨H, hH, hu⟩
   · cases h
 · cases h
theorem addAl_skip {m i id : Nat} {ob : AObj} {als : List Al} {G : AH} (h : m.testBit i = false) : addAl m ((i, id, ob) :: als) G = addAl m als G := by
 simp only [addAl, h, cond_false]
 cases addAl m als G <;> rfl
theorem regA_ok (ok : E.Ok) (sf : SF E ops ms) (hsmall : n0 + ops.size + 1 < 2 ^ FU) : ∀ (l : List Oper) (k : Nat) (S : RS) (fs : List (T Value)) (vs : List Value) (S1 : RS), TRp call E ops ms n n0 F0 A0 k S fs vs →
 (∀ (i : Nat), i < l.length → ops[k + i]? = l[i]?) → k + l.length = ops.size → regA call E ops.toList ms n n0 ops.size l k S = some S1 → ∃ fs vs, TRp call E ops ms n n0 F0 A0 ops.size S1 fs vs
 | [], k, S, fs, vs, S1, tr, _, hk, h => by
   simp only [regA, Option.some.injEq] at h
   subst h
   simp at hk
   subst hk
   exact ⟨fs, vs, tr⟩
 | o :: rest, k, S, fs, vs, S1, tr, hl, hk, h => by
   have ho : ops[k]? = some o := by have := hl 0 (by simp); simpa using this
   have hr : ∀ (i : Nat), i < rest.length → ops[k + 1 + i]? = rest[i]? := fun i hi => by
    have := hl (i + 1) (by simp; omega)
    rw [show k + 1 + i = k + (i + 1) by omega, this]
    simp
   have hk' : k + 1 + rest.length = ops.size := by simp at hk; omega
   have hkl : k < ops.size := by omega
   have hnes : k ∉ S.es := by rw [mem_es]; rintro ⟨x, hx, e⟩; have := tr.es_lt x hx; omega
   have hnal : ∀ x ∈ S.als, x.1 ≠ k := fun x hx => by have := tr.als_lt x hx; omega
   have hids : ∀ x ∈ S.als, x.2.1 + 1 < 2 ^ FU := fun x hx => by have := tr.als_ok.id x hx; have := tr.als_ok.lt x hx; omega
   have hcsl : S.cs.length = S.es.length + 1 := by simp [RS.cs, RS.es]
   have hesl : S.es.length = S.past.length := by simp [RS.es]
   simp only [regA] at h
   cases hw : wantA ops.toList S.F o with
   | none => rw [hw] at h; cases h
   | some wb =>
   cases wb with
   | false =>
     rw [hw] at h
     simp only at h
     split at h
     · rename_i F' hput
       refine regA_ok ok sf hsmall rest (k + 1) _ _ _ S1 (tr.step (S' := { S with F := F' }) ho hput rfl (fun i o F v _ _ hrow => hrow) (.inl ⟨hw, rfl, hnes, hnal⟩)
        (fun x hx => by have := tr.es_lt x hx; omega) tr.es_eff tr.es_inc (fun x hx => by have := tr.als_lt x hx; omega) tr.als_ok tr.c0 tr.cnx (fun q hq => by have := tr.qsl q hq; omega)) hr hk' h
     · cases h
   | true =>
     rw [hw] at h
     simp only at h
     cases hef : isEff E o.op with
     | true =>
       rw [hef] at h
       simp only at h
       split at h
       · rename_i H hH
         split at h
         · rename_i v G' heff
           cases hb : (S.als.all (keepB H G') && (S.qs.all (fun q => ((nth ms k).getD 0).testBit q.i || qcheck E S.als G' q) && Nat.ble (n0 + ops.size) G'.next)) with
           | false => rw [hb] at h; simp at h
           | true =>
             rw [hb] at h
             simp only [cond_true] at h
             simp only [Bool.and_eq_true, List.all_eq_true, Nat.ble_eq, Bool.or_eq_true] at hb
             obtain ⟨b1, b2, b3⟩ := hb
             split at h
             · rename_i F' hput
               let S' : RS := ⟨F', G', (k, S.G) :: S.past, S.als, S.qs⟩
               have hes' : S'.es = S.es ++ [k] := by simp [S', RS.es]
               have hcs' : S'.cs = S.cs ++ [G'] := by simp [S', RS.cs]
               have hcsk : S.cs[S.es.length]? = some S.G := by
                simp only [RS.cs, RS.es, List.reverse_cons]
                rw [List.getElem?_append, if_neg (by simp)]; simp
               have hsome : ∀ x ∈ S.als, ∀ ob, vis H x.2.1 = some ob → ∃ ob', vis G' x.2.1 = some ob' := by
                intro x hx ob hv
                have := b1 x hx
                unfold keepB at this
                rw [hv] at this
                exact Option.isSome_iff_exists.1 this
               refine regA_ok ok sf hsmall rest (k + 1) S' _ _ S1 (tr.step (S' := S') ho hput rfl ?_ ?_ ?_ ?_ ?_ (fun x hx => by have := tr.als_lt x hx; omega) tr.als_ok ?_ ?_ (fun q hq => by have := tr.qsl q hq; omega)) hr hk' h
               · intro i o1 F1 v1 hi ho1 hrow
                 have hne : i ≠ k := by omega
                 have hE : ∀ j i', S.es[j]? = some i' → S'.es[j]? = some i' := fun j i' hj => by
                  rw [hes', List.getElem?_append, if_pos (List.getElem?_eq_some_iff.1 hj).1]; exact hj
                 have hC : ∀ (j : Nat) G1, S.cs[j]? = some G1 → S'.cs[j]? = some G1 := fun j G1 hj => by
                  rw [hcs', List.getElem?_append, if_pos (List.getElem?_eq_some_iff.1 hj).1]; exact hj
                 have hnin : i ∉ S.es → i ∉ S'.es := by rw [hes']; simp; exact fun h => ⟨h, hne⟩
                 rcases hrow with ⟨r1, r2, r3, r4⟩ | ⟨r1, r2, r3, r4, r5⟩ | ⟨r1, r2, r3⟩ | ⟨r1, r2, e, G1, G2, H1, s1, s2, s3, s4, s5, s6⟩
                 · exact .inl ⟨r1, r2, hnin r3, r4⟩
                 · refine .inr (.inl ⟨r1, hnin r2, r3, r4, fun e G1 hG1 c1 c2 => ?_⟩)
                   rw [hcs', List.getElem?_append] at hG1
                   by_cases he : e < S.cs.length
                   · rw [if_pos he] at hG1
                     exact r5 e G1 hG1 (fun j i' hj hbt => c1 j i' (hE j i' hj) hbt) (fun j i' hj hlt => c2 j i' (hE j i' hj) hlt)
                   · rw [if_neg he] at hG1
                     have hee : e = S.cs.length := by
                      have := (List.getElem?_eq_some_iff.1 hG1).1
                      simp at this; omega
                     subst hee
                     simp at hG1
                     subst hG1
                     have hkk : S'.es[S.es.length]? = some k := by rw [hes', List.getElem?_append, if_neg (by omega)]; simp
                     have hbk : bit ms k i = false := c2 _ k hkk (by omega)
                     cases hdp : hdep o1.op with
                     | true =>
                       have := b2 _ (r4 hdp)
                       rcases this with hbt | hq
                       · unfold bit at hbk; simp only at hbt; rw [hbk] at hbt; cases hbt
                       · exact of_qcheck hq
                     | false =>
                       obtain ⟨H2, hH2⟩ := addAl_total (m := (nth ms i).getD 0) S.als G' hids
                       obtain ⟨H3, hH3, hq3⟩ := r5 S.es.length S.G hcsk (fun j i' hj _ => (List.getElem?_eq_some_iff.1 hj).1) (fun j i' hj hlt => c2 j i' (hE j i' hj) (by omega))
                       exact ⟨H2, hH2, by rw [quiet_indep (H' := H3) hdp]; exact hq3⟩
                 · exact .inr (.inr (.inl ⟨r1, hnin r2, r3⟩))
                 · exact .inr (.inr (.inr ⟨r1, r2, e, G1, G2, H1, hE e i s1, hC e G1 s2, hC (e + 1) G2 s3, s4, s5, s6⟩))
               · refine .inr (.inr (.inr ⟨hw, hnal, S.es.length, S.G, G', H, ?_, ?_, ?_, hH, heff, hsome⟩))
                 · rw [hes', List.getElem?_append, if_neg (by omega)]; simp
                 · rw [hcs', List.getElem?_append, if_pos (by omega)]; exact hcsk
                 · rw [hcs', List.getElem?_append, if_neg (by omega), hcsl]; simp
               · intro x hx
                 rcases List.mem_cons.1 hx with rfl | hx
                 · simp
                 · have := tr.es_lt x hx; omega
               · intro x hx
                 rcases List.mem_cons.1 hx with rfl | hx
                 · exact ⟨o, ho, hef⟩
                 · exact tr.es_eff x hx
               · intro j j' i i' hj hj' hlt
                 rw [hes', List.getElem?_append] at hj hj'
                 by_cases c : j' < S.es.length
                 · rw [if_pos c] at hj'
                   rw [if_pos (by omega)] at hj
                   exact tr.es_inc j j' i i' hj hj' hlt
                 · rw [if_neg c] at hj'
                   have e1 : j' = S.es.length := by have := (List.getElem?_eq_some_iff.1 hj').1; simp at this; omega
                   subst e1
                   simp at hj'
                   subst hj'
                   rw [if_pos hlt] at hj
                   have := List.mem_of_getElem? hj
                   rw [mem_es] at this
                   obtain ⟨x, hx, rfl⟩ := this
                   exact tr.es_lt x hx
               · rw [hcs', List.getElem?_append, if_pos (by omega)]; exact tr.c0
               · intro G1 hG1
                 rcases List.mem_cons.1 hG1 with rfl | hG1
                 · exact b3
                 · exact tr.cnx G1 hG1
             · cases h
         · cases h
       · cases h
     | false =>
       rw [hef] at h
       simp only at h
       split at h
       · rename_i ob fv hal
         cases hb : ((vis S.G (n0 + k)).isNone && S.past.all (fun p => (vis p.2 (n0 + k)).isNone)) with
         | false => rw [hb] at h; simp at h
         | true =>
           rw [hb] at h
           simp only [cond_true] at h
           simp only [Bool.and_eq_true, List.all_eq_true, Option.isNone_iff_eq_none] at hb
           have hvn : ∀ G ∈ S.cs, vis G (n0 + k) = none := by
            intro G hG
            simp only [RS.cs, List.mem_reverse, List.mem_cons, List.mem_map] at hG
            rcases hG with rfl | ⟨p, hp, rfl⟩
            · exact hb.1
            · exact hb.2 p hp
           split at h
           · rename_i F' hput
             have hown : ob.own = true := alloc_own hal
             have haok : AlsOk n0 ops.size ((k, n0 + k, ob) :: S.als) := by
              refine ⟨?_, ?_, ?_, ?_⟩
              · intro x hx; rcases List.mem_cons.1 hx with rfl | hx
                · rfl
                · exact tr.als_ok.id x hx
              · intro x hx; rcases List.mem_cons.1 hx with rfl | hx
                · exact hkl
                · exact tr.als_ok.lt x hx
              · intro x hx; rcases List.mem_cons.1 hx with rfl | hx
                · exact hown
                · exact tr.als_ok.own x hx
              · intro x hx y hy e
                rcases List.mem_cons.1 hx with rfl | hx <;> rcases List.mem_cons.1 hy with rfl | hy
                · rfl
                · exact absurd e.symm (hnal y hy)
                · exact absurd e (hnal x hx)
                · exact tr.als_ok.uniq x hx y hy e
             refine regA_ok ok sf hsmall rest (k + 1) _ _ _ S1 (tr.step (S' := { S with F := F', als := (k, n0 + k, ob) :: S.als }) ho hput rfl ?_ ?_
              (fun x hx => by have := tr.es_lt x hx; omega) tr.es_eff tr.es_inc ?_ haok tr.c0 tr.cnx (fun q hq => by have := tr.qsl q hq; omega)) hr hk' h
             · intro i o1 F1 v1 hi ho1 hrow
               have hbit : ((nth ms i).getD 0).testBit k = false := by
                cases hc : ((nth ms i).getD 0).testBit k with
                | false => rfl
                | true => have := sf.low i (by omega) k hc; omega
               have hxn : ∀ x ∈ (k, n0 + k, ob) :: S.als, (∀ y ∈ S.als, y.1 ≠ i) → x.1 ≠ i := by
                intro x hx hall
                rcases List.mem_cons.1 hx with rfl | hx
                · simp only; omega
                · exact hall x hx
               rcases hrow with ⟨r1, r2, r3, r4⟩ | ⟨r1, r2, r3, r4, r5⟩ | ⟨r1, r2, ob1, fv1, r3, r4, r5⟩ | ⟨r1, r2, e, G1, G2, H1, s1, s2, s3, s4, s5, s6⟩
               · exact .inl ⟨r1, r2, r3, fun x hx => hxn x hx r4⟩
               · refine .inr (.inl ⟨r1, r2, fun x hx => hxn x hx r3, r4, fun e G1 hG1 c1 c2 => ?_⟩)
                 obtain ⟨H1, hH1, hq1⟩ := r5 e G1 hG1 c1 c2
                 exact ⟨H1, by rw [addAl_skip hbit]; exact hH1, hq1⟩
               · exact .inr (.inr (.inl ⟨r1, r2, ob1, fv1, r3, List.mem_cons_of_mem _ r4, r5⟩))
               · refine .inr (.inr (.inr ⟨r1, fun x hx => hxn x hx r2, e, G1, G2, H1, s1, s2, s3, by rw [addAl_skip hbit]; exact s4, s5, ?_⟩))
                 intro x hx ob1 hv
                 rcases List.mem_cons.1 hx with rfl | hx
                 · exfalso
                   obtain ⟨_, t2, _, _⟩ := addAl_spec s4 (fun y hy => AObj.here_of_own (tr.als_ok.own y hy))
                   rcases t2 _ _ hv with hg | ⟨_, j, hj, _⟩
                   · rw [hvn G1 (List.mem_of_getElem? s2)] at hg; cases hg
                   · have := tr.als_ok.id _ hj; have := tr.als_lt _ hj; simp only at *; omega
                 · exact s6 x hx ob1 hv
             · exact .inr (.inr (.inl ⟨hw, hnes, ob, fv, hal, by simp, rfl⟩))
             · intro x hx
               rcases List.mem_cons.1 hx with rfl | hx
               · simp
               · have := tr.als_lt x hx; omega
           · cases h
       · split at h
         · rename_i H hH
           split at h
           · rename_i v hq
             have hcs0 : ∀ (e : Nat) G, S.cs[e]? = some G → (G = S.G ∧ e = S.es.length) ∨ (e < S.es.length ∧ (S.past.map (·.2)).reverse[e]? = some G) := by
              intro e G hG
              simp only [RS.cs, List.reverse_cons] at hG
              rw [List.getElem?_append] at hG
              have hl2 : (S.past.map (·.2)).reverse.length = S.es.length := by simp [RS.es]
              rw [hl2] at hG
              by_cases he : e < S.es.length
              · rw [if_pos he] at hG; exact .inr ⟨he, hG⟩
              · rw [if_neg he] at hG
                have : e - S.es.length = 0 := by have := (List.getElem?_eq_some_iff.1 hG).1; simp at this; omega
                rw [this] at hG
                simp at hG
                exact .inl ⟨hG.symm, by omega⟩
             split at h
             · rename_i hdp
               cases hpk : pastOk E S.als ⟨k, (nth ms k).getD 0, o, S.F, v⟩ S.past with
               | false => rw [hpk] at h; simp at h
               | true =>
                 rw [hpk] at h
                 simp only [cond_true] at h
                 split at h
                 · rename_i F' hput
                   refine regA_ok ok sf hsmall rest (k + 1) _ _ _ S1 (tr.step (S' := { S with F := F', qs := ⟨k, (nth ms k).getD 0, o, S.F, v⟩ :: S.qs }) ho hput rfl ?_ ?_
                    (fun x hx => by have := tr.es_lt x hx; omega) tr.es_eff tr.es_inc (fun x hx => by have := tr.als_lt x hx; omega) tr.als_ok tr.c0 tr.cnx ?_) hr hk' h
                   · intro i o1 F1 v1 hi ho1 hrow
                     rcases hrow with r | ⟨r1, r2, r3, r4, r5⟩ | r | r
                     · exact .inl r
                     · exact .inr (.inl ⟨r1, r2, r3, fun hd => List.mem_cons_of_mem _ (r4 hd), r5⟩)
                     · exact .inr (.inr (.inl r))
                     · exact .inr (.inr (.inr r))
                   · refine .inr (.inl ⟨hw, hnes, hnal, fun _ => by simp, fun e G hG c1 c2 => ?_⟩)
                     rcases hcs0 e G hG with ⟨rfl, rfl⟩ | ⟨he, hG'⟩
                     · exact ⟨H, hH, hq⟩
                     · exact of_qcheck (past_checked hpk e G hG' fun j i' hj hbt => c1 j i' hj hbt)
                   · intro q hq'
                     rcases List.mem_cons.1 hq' with rfl | hq'
                     · simp
                     · have := tr.qsl q hq'; omega
                 · cases h
             · rename_i hdp
               split at h
               · rename_i F' hput
                 refine regA_ok ok sf hsmall rest (k + 1) _ _ _ S1 (tr.step (S' := { S with F := F' }) ho hput rfl (fun i o F v _ _ hrow => hrow) ?_
                  (fun x hx => by have := tr.es_lt x hx; omega) tr.es_eff tr.es_inc (fun x hx => by have := tr.als_lt x hx; omega) tr.als_ok tr.c0 tr.cnx (fun q hq => by have := tr.qsl q hq; omega)) hr hk' h
                 refine .inr (.inl ⟨hw, hnes, hnal, (fun hd => by rw [hdp] at hd; cases hd), fun e G hG c1 c2 => ?_⟩)
                 obtain ⟨H2, hH2⟩ := addAl_total (m := (nth ms k).getD 0) S.als G hids
                 exact ⟨H2, hH2, by rw [quiet_indep (H' := H) hdp]; exact hq⟩
               · cases h
           · cases h
         · cases h
end
def evReg (call : CallF) (E : Env) (ops : Array Oper) (n : Nat) (F : T Value) (A : AH) : Option (T Value × AH) :=
 let l := ops.toList
 let sz := l.length
 bif Nat.blt (A.next + sz + 1) 1099511627776 then
  (match regA call E l (masks l []) n A.next sz l 0 ⟨F, ⟨A.t, A.next + sz⟩, [], [], []⟩ with
  | some S => (match addAl (2 ^ sz - 1) S.als S.G with | some A' => some (S.F, A') | none => none)
  | none => none) else none
theorem evReg_ok {E : Env} (ok : E.Ok) {call : CallF} (hc : CallOk E call) {ops : Array Oper} (hreg : regOk E ops = true) {n : Nat} {F F' : T Value} {A A' : AH} (h : evReg call E ops n F A = some (F', A'))
 {σ : Sig} {a : Act} {w : World} (R : Rel E.P σ A w) (hg : Glob E σ) (hF : FR σ F n a) {id : Nat} {Q : Exit → Act → World → Prop}
 (hQ : ∀ a' w' σ', FR σ' F' n a' → Rel E.P σ' A' w' → Ext σ A w σ' A' w' → Q .normal a' w') : (Code.region id ops true).wp E.P Q a w := by
 unfold evReg at h
 simp only at h
 have hlen : ops.toList.length = ops.size := by simp
 rw [hlen] at h
 cases hb : Nat.blt (A.next + ops.size + 1) 1099511627776 with
 | false => rw [hb] at h; simp at h
 | true =>
   rw [hb] at h
   simp only [cond_true] at h
   rw [blt_eq, decide_eq_true_eq] at hb
   split at h
   · rename_i S hS
     split at h
     · rename_i A2 hA2
       simp only [Option.some.injEq, Prod.mk.injEq] at h
       obtain ⟨rfl, rfl⟩ := h
       have sf := sf_of hreg
       have hpow : (2 : Nat) ^ FU = 1099511627776 := by decide
       have tr0 : TRp call E ops (masks ops.toList []) n A.next F ⟨A.t, A.next + ops.size⟩ 0 ⟨F, ⟨A.t, A.next + ops.size⟩, [], [], []⟩ [F] [] :=
        ⟨rfl, rfl, rfl, rfl, fun i o hi => by omega, fun x hx => by simp at hx, fun x hx => by simp at hx, fun j j' i i' hj => by simp [RS.es] at hj, fun x hx => by simp at hx,
         ⟨fun x hx => by simp at hx, fun x hx => by simp at hx, fun x hx => by simp at hx, fun x hx => by simp at hx⟩, rfl, fun G hG => by simp at hG; subst hG; exact Nat.le_refl _, fun q hq => by simp at hq⟩
       obtain ⟨fs, vs, tr⟩ := regA_ok ok sf (by rw [hpow]; exact hb) ops.toList 0 _ _ _ S tr0 (fun i hi => by simp) (by simp) hS
       have hcl : S.cs[S.es.length]? = some S.G := by
        simp only [RS.cs, RS.es, List.reverse_cons]
        rw [List.getElem?_append, if_neg (by simp)]; simp
       have tr' : TR call E ops (masks ops.toList []) n A.next F fs vs S.cs S.es S.als := by
        refine ⟨tr.fs0, fun i o ho => ?_, fun j i hj => ?_, tr.es_inc, tr.als_ok, by simp [RS.cs, RS.es], fun G hG => tr.cnx G (by simpa [RS.cs, or_comm] using hG)⟩
        · have hi : i < ops.size := by
           rcases Nat.lt_or_ge i ops.size with h | h
           · exact h
           · rw [Array.getElem?_eq_none h] at ho; cases ho
          obtain ⟨F1, F2, v, r1, r2, r3, r4, r5⟩ := tr.row i o hi ho
          refine ⟨F1, F2, v, r1, r2, r3, r4, ?_⟩
          rcases r5 with r | ⟨q1, q2, q3, q4, q5⟩ | r | r
          · exact .inl r
          · exact .inr (.inl ⟨q1, q2, q3, q5⟩)
          · exact .inr (.inr (.inl r))
          · exact .inr (.inr (.inr r))
        · have := List.mem_of_getElem? hj
          rw [mem_es] at this
          obtain ⟨x, hx, rfl⟩ := this
          exact tr.es_eff x hx
       exact region_ok ok hc hreg tr' tr.c0 hcl tr.fsk hA2 R hg hF hQ
     · cases h
   · cases h
inductive Ex where
 | normal
 | exit (id : Nat)
 | ret
def Ex.of : Ex → Exit
 | .normal => .normal
 | .exit id => .exit id
 | .ret => .ret
def mkFrame : List Value → Nat → T Value → Option (T Value)
 | [], _, F => some F
 | v :: l, i, F => match T.set FU F i v with | some F' => mkFrame l (i + 1) F' | none => none
theorem mkFrame_get : ∀ {l : List Value} {i : Nat} {F F' : T Value}, mkFrame l i F = some F' → ∀ t, F'.get t = if i ≤ t ∧ t < i + l.length then l[t - i]? else F.get t
 | [], i, F, F', h, t => by
   simp only [mkFrame, Option.some.injEq] at h
   subst h
   rw [if_neg (by simp)]
 | v :: l, i, F, F', h, t => by
   simp only [mkFrame] at h
   split at h
   · rename_i F1 h1
     have ih := mkFrame_get h t
     rw [ih, T.get_set h1]
     by_cases c : i + 1 ≤ t ∧ t < i + 1 + l.length
     · rw [if_pos c, if_pos (by simp; omega), show t - i = (t - (i + 1)) + 1 by omega, List.getElem?_cons_succ]
     · rw [if_neg c]
       by_cases e : t = i
       · subst e; rw [if_pos rfl, if_pos (by simp)]; simp
       · rw [if_neg e, if_neg (by simp; omega)]
   · cases h
def resA (E : Env) (A : AH) (F : T Value) : ResultVar → Option Value
 | .tmp t => slot F t
 | .cell a t => (match slot F a with | some p => loadA E A t p | none => none)
def resultsA (E : Env) (A : AH) (F : T Value) (rs : List ResultVar) : Option Value :=
 match mapO (resA E A F) rs with
 | some [v] => some v
 | some vs => some (.tuple ⟨vs⟩)
 | none => none
def callF (E : Env) (rec : Code → Nat → T Value → AH → Option (Ex × T Value × AH)) : CallF := fun f args A =>
 match E.fn f with
 | some fn => (match fn.body, mkFrame args 0 .leaf with
   | some c, some F => bif Nat.ble args.length fn.ntmps then (match rec c fn.ntmps F A with
     | some (.exit _, _, _) => none
     | some (_, F', A') => (match resultsA E A' F' fn.results.toList with | some v => some (v, A') | none => none)
     | none => none) else none
   | _, _ => none)
 | none => none
def evC (E : Env) : Nat → Code → Nat → T Value → AH → Option (Ex × T Value × AH)
 | 0, _, _, _, _ => none
 | k + 1, c, n, F, A =>
   match c with
   | .skip => some (.normal, F, A)
   | .label _ => some (.normal, F, A)
   | .region _ ops draw => (match draw with
     | false => (match evOps (callF E (evC E k)) E ops.toList n ops.toList F A with | some (F', A') => some (.normal, F', A') | none => none)
     | true => (match evReg (callF E (evC E k)) E ops n F A with | some (F', A') => some (.normal, F', A') | none => none))
   | .seq x y => (match evC E k x n F A with
     | some (.normal, F', A') => evC E k y n F' A'
     | r => r)
   | .cond b x y => (match ev E F b with
     | some (.bool true) => evC E k x n F A
     | some (.bool false) => evC E k y n F A
     | _ => none)
   | .block id b => (match evC E k b n F A with
     | some (.exit id', F', A') => bif Nat.beq id' id then some (.normal, F', A') else some (.exit id', F', A')
     | r => r)
   | .loop b => (match evC E k b n F A with
     | some (.normal, F', A') => evC E k (.loop b) n F' A'
     | r => r)
   | .scope b => evC E k b n F A
   | .exit id => some (.exit id, F, A)
   | .ret => some (.ret, F, A)
   | _ => none
def codeOk (E : Env) : Code → Bool
 | .region _ ops draw => !draw || regOk E ops
 | .seq x y => codeOk E x && codeOk E y
 | .cond _ x y => codeOk E x && codeOk E y
 | .block _ b | .loop b | .scope b => codeOk E b
 | _ => true
def resM (tmps : Array Value) : ResultVar → Sem Value
 | .tmp t => pure (tmps.getD t undef)
 | .cell a t => do loadVar t (← asAddr (tmps.getD a undef))
theorem res_ok {E : Env} (ok : E.Ok) {σ : Sig} {A : AH} {w : World} (R : Rel E.P σ A w) {F : T Value} {n : Nat} {a : Act} (hF : FR σ F n a) {r : ResultVar} {v : Value} (h : resA E A F r = some v) :
 ∃ v', (resM a.tmps r).run E.P w = .ok v' w ∧ VR σ v v' := by
 cases r with
 | tmp t =>
   exact ⟨_, rfl, hF.val t v h⟩
 | cell x t =>
   simp only [resA] at h
   split at h
   rotate_left
   · cases h
   rename_i z hz
   have hx := hF.val x z hz
   obtain ⟨v', h1, h2⟩ := load_ok ok R hx h
   refine ⟨v', ?_, h2⟩
   simp only [resM, Sem.run_bind]
   generalize a.tmps.getD x undef = y at hx h1
   unfold loadA at h
   split at h
   · cases hx with
     | ptr i hσ => simpa [Instr.loadAt, Instr.sureAddr, asAddr] using h1
   · cases h
theorem results_run {E : Env} (ok : E.Ok) {σ : Sig} {A : AH} {w : World} (R : Rel E.P σ A w) {F : T Value} {n : Nat} {a : Act} (hF : FR σ F n a) : ∀ {rs : List ResultVar} {vs : List Value}, mapO (resA E A F) rs = some vs →
 ∃ vs', (rs.mapM (resM a.tmps)).run E.P w = .ok vs' w ∧ VRs σ vs vs'
 | [], vs, h => by simp [mapO] at h; subst h; exact ⟨[], by simp, .nil⟩
 | r :: rs, vs, h => by
   simp only [mapO] at h
   cases hr : resA E A F r with
   | none => simp [hr] at h
   | some v =>
     cases hrs : mapO (resA E A F) rs with
     | none => simp [hr, hrs] at h
     | some l =>
       simp only [hr, hrs, Option.some.injEq] at h
       subst h
       obtain ⟨v', h1, h2⟩ := res_ok ok R hF hr
       obtain ⟨l', h3, h4⟩ := results_run ok R hF hrs
       exact ⟨v' :: l', by simp [List.mapM_cons, h1, h3], .cons h2 h4⟩
theorem results_ok {E : Env} (ok : E.Ok) {σ : Sig} {A : AH} {w : World} (R : Rel E.P σ A w) {F : T Value} {n : Nat} {a : Act} (hF : FR σ F n a) {fn : Func} {v : Value} (h : resultsA E A F fn.results.toList = some v) :
 ∃ v', (results fn a.tmps).run E.P w = .ok v' w ∧ VR σ v v' := by
 have e : results fn a.tmps = (do let vs ← fn.results.mapM (resM a.tmps); pure (if h : vs.size = 1 then vs[0] else .tuple vs)) := by
  unfold results
  congr 1
 rw [e]
 unfold resultsA at h
 split at h
 · rename_i u hm
   simp only [Option.some.injEq] at h
   subst h
   obtain ⟨vs', h1, h2⟩ := results_run ok R hF hm
   cases h2 with
   | cons hv t =>
     cases t
     rename_i v'
     refine ⟨v', ?_, hv⟩
     simp [Array.mapM_eq_mapM_toList, h1]
 · rename_i vs hne hm
   simp only [Option.some.injEq] at h
   subst h
   obtain ⟨vs', h1, h2⟩ := results_run ok R hF hm
   refine ⟨.tuple ⟨vs'⟩, ?_, .tuple h2⟩
   have hl : ¬ vs'.length = 1 := by
    rw [h2.length]
    intro hc
    obtain ⟨u, hu⟩ := List.length_eq_one_iff.1 hc
    subst hu
    exact hne u rfl
   simp [Array.mapM_eq_mapM_toList, h1, hl]
 · cases h
def CodeS (E : Env) (k : Nat) : Prop := ∀ c, codeOk E c = true → ∀ n F A ex F' A', evC E k c n F A = some (ex, F', A') → ∀ σ a w, Rel E.P σ A w → Glob E σ → FR σ F n a →
 ∀ Q : Exit → Act → World → Prop, (∀ a' w' σ', FR σ' F' n a' → Rel E.P σ' A' w' → Ext σ A w σ' A' w' → Q ex.of a' w') → c.wp E.P Q a w
def LoopS (E : Env) (k : Nat) : Prop := ∀ c, codeOk E c = true → ∀ n F A ex F' A', evC E k (.loop c) n F A = some (ex, F', A') → ∀ σ a w, Rel E.P σ A w → Glob E σ → FR σ F n a →
 ∀ Q : Exit → Act → World → Prop, (∀ a' w' σ', FR σ' F' n a' → Rel E.P σ' A' w' → Ext σ A w σ' A' w' → Q ex.of a' w') → Code.rounds E.P c Q k a w
def FnsOk (E : Env) : Prop := ∀ f fn c, E.fn f = some fn → fn.body = some c → codeOk E c = true
theorem call_ok {E : Env} (ok : E.Ok) (hf : FnsOk E) {k : Nat} (hk : CodeS E k) : CallOk E (callF E (evC E k)) := by
 intro f args A v A' h σ w args' R hg ha
 unfold callF at h
 split at h
 · rename_i fn hfn
   split at h
   · rename_i c F hbody hframe
     cases hb : Nat.ble args.length fn.ntmps with
     | false => rw [hb] at h; simp at h
     | true =>
       rw [hb] at h
       simp only [cond_true] at h
       have hb := Nat.le_of_ble_eq_true hb
       have hlen := ha.length
       have hFR : FR σ F fn.ntmps { tmps := (⟨args'⟩ : Array Value) ++ Array.replicate (fn.ntmps - (⟨args'⟩ : Array Value).size) undef, defers := [] } := by
        refine ⟨by simp; omega, fun t u0 hu0 => ?_, rfl⟩
        unfold slot at hu0
        rw [mkFrame_get hframe t] at hu0
        simp only
        rw [Array.getD_eq_getD_getElem?, Array.getElem?_append]
        by_cases ht : t < args.length
        · rw [if_pos ⟨Nat.zero_le _, by omega⟩, Nat.sub_zero] at hu0
          rw [if_pos (by simp; omega)]
          obtain ⟨u, h1, h2⟩ := ha.get hu0
          have : (⟨args'⟩ : Array Value)[t]? = some u := by simpa using h1
          rw [this]
          exact h2
        · rw [if_neg (by omega)] at hu0
          cases hu0
       have fin : ∀ (ex : Ex) (F' : T Value) (A1 : AH), ex.of = .normal ∨ ex.of = .ret → evC E k c fn.ntmps F A = some (ex, F', A1) → (match resultsA E A1 F' fn.results.toList with | some v => some (v, A1) | none => none) = some (v, A') →
        Calls E.P f ⟨args'⟩ w (fun e w' => ∃ v' σ', e = .returned v' ∧ VR σ' v v' ∧ Rel E.P σ' A' w' ∧ Ext σ A w σ' A' w') := by
        intro ex F' A1 hex hev hres
        split at hres
        · rename_i u hu
          simp only [Option.some.injEq, Prod.mk.injEq] at hres
          obtain ⟨rfl, rfl⟩ := hres
          refine calls_of_wp (ok.fn f fn hfn) hbody (hk c (hf f fn c hfn hbody) fn.ntmps F A ex F' A1 hev σ _ w R hg hFR _ fun a' w' σ' q1 q2 q3 => ?_)
          obtain ⟨v', r1, r2⟩ := results_ok ok q2 q1 hu
          have post : a'.defers = [] ∧ ∃ v, (results fn a'.tmps).run E.P w' = .ok v w' ∧ (fun e w' => ∃ v' σ', e = Ending.returned v' ∧ VR σ' u v' ∧ Rel E.P σ' A1 w' ∧ Ext σ A w σ' A1 w') (.returned v) w' :=
           ⟨q1.defers, v', r1, v', σ', rfl, r2, q2, q3⟩
          rcases hex with hex | hex <;> rw [hex] <;> exact post
        · cases hres
       split at h
       · cases h
       · rename_i ex F' A1 hne hev
         refine fin ex F' A1 ?_ hev h
         cases ex with
         | normal => exact .inl rfl
         | ret => exact .inr rfl
         | exit id => exact absurd rfl (fun e => hne id e)
       · cases h
   · cases h
 · cases h
theorem code_ok {E : Env} (ok : E.Ok) (hf : FnsOk E) : ∀ k, CodeS E k ∧ LoopS E k
 | 0 => ⟨fun c _ n F A ex F' A' h => by simp [evC] at h, fun c _ n F A ex F' A' h => by simp [evC] at h⟩
 | k + 1 => by
   obtain ⟨ihC, ihL⟩ := code_ok ok hf k
   have hcall := call_ok ok hf ihC
   have hL : LoopS E (k + 1) := by
    intro c hc n F A ex F' A' h σ a w R hg hF Q hQ
    simp only [evC] at h
    show c.wp E.P (Exit.then (Code.rounds E.P c Q k) Q) a w
    cases hb : evC E k c n F A with
    | none => simp [hb] at h
    | some r =>
      obtain ⟨ex1, F1, A1⟩ := r
      refine ihC c hc n F A ex1 F1 A1 hb σ a w R hg hF _ fun a1 w1 σ1 q1 q2 q3 => ?_
      have hsub := Ext.sub R q3
      cases ex1 with
      | normal =>
        simp only [hb] at h
        exact ihL c hc n F1 A1 ex F' A' h σ1 a1 w1 q2 (hg.sub hsub) q1 Q fun a2 w2 σ2 p1 p2 p3 => hQ a2 w2 σ2 p1 p2 (q3.trans p3)
      | exit id =>
        simp only [hb, Option.some.injEq, Prod.mk.injEq] at h
        obtain ⟨rfl, rfl, rfl⟩ := h
        exact hQ a1 w1 σ1 q1 q2 q3
      | ret =>
        simp only [hb, Option.some.injEq, Prod.mk.injEq] at h
        obtain ⟨rfl, rfl, rfl⟩ := h
        exact hQ a1 w1 σ1 q1 q2 q3
   refine ⟨?_, hL⟩
   intro c hc n F A ex F' A' h σ a w R hg hF Q hQ
   cases c with
   | skip =>
     simp only [evC, Option.some.injEq, Prod.mk.injEq] at h
     obtain ⟨rfl, rfl, rfl⟩ := h
     exact wp_skip (hQ a w σ hF R (Ext.refl _ _ _))
   | label l =>
     simp only [evC, Option.some.injEq, Prod.mk.injEq] at h
     obtain ⟨rfl, rfl, rfl⟩ := h
     exact wp_label (hQ a w σ hF R (Ext.refl _ _ _))
   | region id ops draw =>
     simp only [evC] at h
     cases draw with
     | false =>
       simp only at h
       split at h
       · rename_i F1 A1 hev
         simp only [Option.some.injEq, Prod.mk.injEq] at h
         obtain ⟨rfl, rfl, rfl⟩ := h
         refine wp_region ?_
         have := evOps_ok ok hcall (ops := ops) (Q := Q) ops.toList 0 F F1 A A1 σ a w hev (fun i hi => by simp) R hg hF (fun a' w' σ' q1 q2 q3 => hQ a' w' σ' q1 q2 q3)
         rw [List.range_eq_range']
         simpa using this
       · cases h
     | true =>
       simp only at h
       split at h
       · rename_i F1 A1 hev
         simp only [Option.some.injEq, Prod.mk.injEq] at h
         obtain ⟨rfl, rfl, rfl⟩ := h
         exact evReg_ok ok hcall (by simpa [codeOk] using hc) hev R hg hF hQ
       · cases h
   | seq x y =>
     simp only [codeOk, Bool.and_eq_true] at hc
     simp only [evC] at h
     refine wp_seq ?_
     cases hb : evC E k x n F A with
     | none => simp [hb] at h
     | some r =>
       obtain ⟨ex1, F1, A1⟩ := r
       refine ihC x hc.1 n F A ex1 F1 A1 hb σ a w R hg hF _ fun a1 w1 σ1 q1 q2 q3 => ?_
       have hsub := Ext.sub R q3
       cases ex1 with
       | normal =>
         simp only [hb] at h
         exact ihC y hc.2 n F1 A1 ex F' A' h σ1 a1 w1 q2 (hg.sub hsub) q1 Q fun a2 w2 σ2 p1 p2 p3 => hQ a2 w2 σ2 p1 p2 (q3.trans p3)
       | exit id =>
         simp only [hb, Option.some.injEq, Prod.mk.injEq] at h
         obtain ⟨rfl, rfl, rfl⟩ := h
         exact hQ a1 w1 σ1 q1 q2 q3
       | ret =>
         simp only [hb, Option.some.injEq, Prod.mk.injEq] at h
         obtain ⟨rfl, rfl, rfl⟩ := h
         exact hQ a1 w1 σ1 q1 q2 q3
   | cond b x y =>
     simp only [codeOk, Bool.and_eq_true] at hc
     simp only [evC] at h
     split at h
     · rename_i hb
       have hv := ev_rel hg hF.val b _ hb
       have e : a.eval b = .bool true := by generalize a.eval b = z at hv; cases hv; rfl
       exact wp_cond_true e (ihC x hc.1 n F A ex F' A' h σ a w R hg hF Q hQ)
     · rename_i hb
       have hv := ev_rel hg hF.val b _ hb
       have e : a.eval b = .bool false := by generalize a.eval b = z at hv; cases hv; rfl
       exact wp_cond_false e (ihC y hc.2 n F A ex F' A' h σ a w R hg hF Q hQ)
     · cases h
   | block id b =>
     simp only [codeOk] at hc
     simp only [evC] at h
     refine wp_block ?_
     cases hb : evC E k b n F A with
     | none => simp [hb] at h
     | some r =>
       obtain ⟨ex1, F1, A1⟩ := r
       refine ihC b hc n F A ex1 F1 A1 hb σ a w R hg hF _ fun a1 w1 σ1 q1 q2 q3 => ?_
       cases ex1 with
       | normal =>
         simp only [hb, Option.some.injEq, Prod.mk.injEq] at h
         obtain ⟨rfl, rfl, rfl⟩ := h
         exact hQ a1 w1 σ1 q1 q2 q3
       | exit id' =>
         simp only [hb] at h
         show (if id' = id then Q .normal a1 w1 else Q (.exit id') a1 w1)
         cases he : Nat.beq id' id with
         | true =>
           rw [he] at h
           simp only [cond_true, Option.some.injEq, Prod.mk.injEq] at h
           obtain ⟨rfl, rfl, rfl⟩ := h
           rw [if_pos (Nat.eq_of_beq_eq_true he)]
           exact hQ a1 w1 σ1 q1 q2 q3
         | false =>
           rw [he] at h
           simp only [cond_false, Option.some.injEq, Prod.mk.injEq] at h
           obtain ⟨rfl, rfl, rfl⟩ := h
           rw [if_neg (beq_false_ne he)]
           exact hQ a1 w1 σ1 q1 q2 q3
       | ret =>
         simp only [hb, Option.some.injEq, Prod.mk.injEq] at h
         obtain ⟨rfl, rfl, rfl⟩ := h
         exact hQ a1 w1 σ1 q1 q2 q3
   | loop b =>
     simp only [codeOk] at hc
     exact wp_loop_rounds (k + 1) (hL b hc n F A ex F' A' h σ a w R hg hF Q hQ)
   | scope b =>
     simp only [codeOk] at hc
     simp only [evC] at h
     refine wp_scope_straight (ihC b hc n F A ex F' A' h σ a w R hg hF _ fun a1 w1 σ1 q1 q2 q3 => ?_)
     have := hQ a1 w1 σ1 q1 q2 q3
     cases ex <;> exact this
   | exit id =>
     simp only [evC, Option.some.injEq, Prod.mk.injEq] at h
     obtain ⟨rfl, rfl, rfl⟩ := h
     exact wp_exit (hQ a w σ hF R (Ext.refl _ _ _))
   | ret =>
     simp only [evC, Option.some.injEq, Prod.mk.injEq] at h
     obtain ⟨rfl, rfl, rfl⟩ := h
     exact wp_ret (hQ a w σ hF R (Ext.refl _ _ _))
   | rangeFunc f ps x b => simp [evC] at h
   | goto l => simp [evC] at h
   | refuse why => simp [evC] at h
def sig0 (w : World) : Sig := ⟨fun _ => none, fun b => w.heap[b]?, fun _ => False⟩
theorem rel0 (P : Program) (w : World) : Rel P (sig0 w) ⟨.leaf, 0⟩ w :=
 ⟨fun B o h => by simp [T.get] at h, fun B B' o o' x x' h => by simp [T.get] at h, (fun B x h => by cases h), fun B h => rfl, fun b o h => h, fun B o x h => by simp [T.get] at h, fun _ h => h.elim⟩
theorem closed_call {E : Env} (ok : E.Ok) (hf : FnsOk E) {k : Nat} {f : FuncId} {v : Value} {A' : AH} (h : callF E (evC E k) f [] ⟨.leaf, 0⟩ = some (v, A')) (hv : flat v = true) (w : World) (hgl : Glob E (sig0 w)) :
 Calls E.P f #[] w fun e w' => e = .returned v ∧ RowKit.Below w.heap.size w w' := by
 have R := rel0 E.P w
 refine (call_ok ok hf (code_ok ok hf k).1 f [] _ v A' h (sig0 w) w [] R hgl .nil).mono fun e w' he => ?_
 obtain ⟨v', σ', rfl, h1, h2, h3⟩ := he
 rw [flat_eq hv h1]
 exact ⟨rfl, h3.os, h3.tape, h3.output, h3.size, fun b hb => h3.frame b hb fun B o x hB => by simp [T.get] at hB⟩
def ltI (x y : Int) : Bool :=
 match x with
 | .ofNat a => (match y with | .ofNat b => Nat.blt a b | .negSucc _ => false)
 | .negSucc a => (match y with | .ofNat _ => true | .negSucc b => Nat.blt b a)
theorem ltI_eq (x y : Int) : ltI x y = decide (x < y) := by
 rw [Bool.eq_iff_iff, decide_eq_true_eq]
 cases x with
 | ofNat a =>
   cases y with
   | ofNat b => simp only [ltI, blt_eq, decide_eq_true_eq, Int.ofNat_eq_natCast]; omega
   | negSucc b => simp only [ltI, Int.ofNat_eq_natCast]; constructor <;> intro h <;> first | omega | cases h
 | negSucc a =>
   cases y with
   | ofNat b => simp only [ltI, Int.ofNat_eq_natCast, true_iff]; omega
   | negSucc b => simp only [ltI, blt_eq, decide_eq_true_eq]; omega
def eqI (x y : Int) : Bool :=
 match x with
 | .ofNat a => (match y with | .ofNat b => Nat.beq a b | .negSucc _ => false)
 | .negSucc a => (match y with | .ofNat _ => false | .negSucc b => Nat.beq a b)
theorem eqI_eq (x y : Int) : eqI x y = decide (x = y) := by
 rw [Bool.eq_iff_iff, decide_eq_true_eq]
 cases x with
 | ofNat a =>
   cases y with
   | ofNat b => simp only [eqI, beq_eq, decide_eq_true_eq, Int.ofNat_eq_natCast]; omega
   | negSucc b => simp only [eqI, Int.ofNat_eq_natCast]; constructor <;> intro h <;> first | omega | cases h
 | negSucc a =>
   cases y with
   | ofNat b => simp only [eqI, Int.ofNat_eq_natCast]; constructor <;> intro h <;> first | omega | cases h
   | negSucc b => simp only [eqI, beq_eq, decide_eq_true_eq]; omega
def smallF (s : Int) : Bool :=
 match s with
 | .ofNat a => Nat.ble a 4611686018427387903
 | .negSucc a => Nat.ble a 4611686018427387903
theorem smallF_eq (s : Int) : smallF s = small s := by
 unfold smallF small
 rw [Bool.eq_iff_iff]
 cases s with
 | ofNat a => simp only [Nat.ble_eq, Bool.and_eq_true, decide_eq_true_eq, Int.ofNat_eq_natCast]; omega
 | negSucc a => simp only [Nat.ble_eq, Bool.and_eq_true, decide_eq_true_eq]; omega
def pack (b : Bool) (s : Int) : Option Value := Bool.rec none (some (.int .i64 s)) b
def two64 (f : Int → Int → Option Value) (a b : Value) : Option Value :=
 match a with
 | .int k x => (match k with | .i64 => (match b with | .int k' y => (match k' with | .i64 => f x y | _ => none) | _ => none) | _ => none)
 | _ => none
def twoC (f : Int → Int → Option Value) (g : List UInt8 → List UInt8 → Option Value) (a b : Value) : Option Value :=
 match a with
 | .int k x => (match k with
   | .i64 => (match b with | .int k' y => (match k' with | .i64 => f x y | _ => none) | _ => none)
   | .u8 => (match b with | .int k' y => (match k' with | .u8 => f x y | _ => none) | _ => none)
   | _ => none)
 | .string x => (match b with | .string y => g x.data.toList y.data.toList | _ => none)
 | _ => none
def twoS (f : Int → Int → Option Value) (g : List UInt8 → List UInt8 → Option Value) (a b : Value) : Option Value :=
 match a with
 | .int k x => (match k with | .i64 => (match b with | .int k' y => (match k' with | .i64 => f x y | _ => none) | _ => none) | _ => none)
 | .string x => (match b with | .string y => g x.data.toList y.data.toList | _ => none)
 | _ => none
def addF (x y : Int) : Option Value := pack (smallF (x + y)) (x + y)
def subF (x y : Int) : Option Value := pack (smallF (x - y)) (x - y)
def mulF (x y : Int) : Option Value := pack (smallF (x * y)) (x * y)
def bo (b : Bool) : Option Value := some (.bool b)
def catS (x y : List UInt8) : Option Value := strO .add x y
def binSel (op : BinOp) : Value → Value → Option Value :=
 match op with
 | .add => twoS addF catS
 | .sub => two64 subF
 | .mul => two64 mulF
 | .eql => twoC (fun x y => bo (eqI x y)) (fun x y => bo (eqL x y))
 | .neq => twoC (fun x y => bo (!eqI x y)) (fun x y => bo (!eqL x y))
 | .lss => twoC (fun x y => bo (ltI x y)) (fun x y => bo (ltL x y))
 | .leq => twoC (fun x y => bo (!ltI y x)) (strO .leq)
 | .gtr => twoC (fun x y => bo (ltI y x)) (strO .gtr)
 | .geq => twoC (fun x y => bo (!ltI x y)) (strO .geq)
 | _ => fun _ _ => none
theorem pack_eq (s : Int) : pack (smallF s) s = (bif small s then some (.int .i64 s) else none) := by
 unfold pack; rw [smallF_eq]; cases small s <;> rfl
theorem not_lt_le (x y : Int) : (!ltI y x) = decide (x ≤ y) := by
 rw [ltI_eq, Bool.eq_iff_iff]; simp
theorem le_bo (x y : Int) : bo (!ltI y x) = some (.bool (decide (x ≤ y))) := by rw [not_lt_le]; rfl
theorem binSel_eq (op : BinOp) (a b : Value) : binSel op a b = fastBin op a b := by
 cases a with
 | int k x =>
   cases k with
   | i64 =>
     cases b with
     | int k' y =>
       cases k' with
       | i64 =>
         cases op with
         | add => exact pack_eq _
         | sub => exact pack_eq _
         | mul => exact pack_eq _
         | eql => show bo (eqI x y) = some (.bool (decide (x = y))); rw [eqI_eq]; rfl
         | neq => show bo (!eqI x y) = some (.bool (!decide (x = y))); rw [eqI_eq]; rfl
         | lss => show bo (ltI x y) = some (.bool (decide (x < y))); rw [ltI_eq]; rfl
         | leq => exact le_bo x y
         | gtr => show bo (ltI y x) = some (.bool (decide (y < x))); rw [ltI_eq]; rfl
         | geq => exact le_bo y x
         | _ => rfl
       | _ => cases op <;> rfl
     | _ => cases op <;> rfl
   | u8 =>
     cases b with
     | int k' y =>
       cases k' with
       | u8 =>
         cases op with
         | eql => show bo (eqI x y) = some (.bool (decide (x = y))); rw [eqI_eq]; rfl
         | neq => show bo (!eqI x y) = some (.bool (!decide (x = y))); rw [eqI_eq]; rfl
         | lss => show bo (ltI x y) = some (.bool (decide (x < y))); rw [ltI_eq]; rfl
         | leq => exact le_bo x y
         | gtr => show bo (ltI y x) = some (.bool (decide (y < x))); rw [ltI_eq]; rfl
         | geq => exact le_bo y x
         | _ => rfl
       | _ => cases op <;> rfl
     | _ => cases op <;> rfl
   | _ => cases op <;> cases b <;> rfl
 | string x => cases b <;> cases op <;> rfl
 | _ => cases op <;> rfl
def evSel (x : Operand) : Env → T Value → Option Value :=
 match x with
 | .tmp t => fun _ F => F.get t
 | .const v => fun _ _ => bif flat v then some v else none
 | .global g => fun E _ => (match E.gl g with | some cs => some (plc cs) | none => none)
 | .func f => fun _ _ => some (.func (.func f) ⟨[]⟩ ⟨[]⟩)
theorem evSel_eq (E : Env) (F : T Value) (x : Operand) : evSel x E F = ev E F x := by
 cases x with
 | _ => rfl
def oV (A : AH) (o : Option Value) : Option (Value × AH) := Option.rec none (fun v => some (v, A)) o
def oS (o : Option AH) : Option (Value × AH) := Option.rec none (fun A => some (undef, A)) o
def pickV (ρ : Operand → Option Value) (a b : Operand) (c : Option Value) : Option Value :=
 match c with
 | some (.bool t) => (match t with | true => ρ a | false => ρ b)
 | _ => none
def nilV (o : Option Value) : Option Value := match o with | some v => bif nnil v then some v else none | none => none
def slow (E : Env) (op : BinOp) (t : TypeId) (x y : Operand) (a b : Value) : Option Value :=
 bif flat a && flat b then (match prun E.P (do eqGuard op t x y a b; binOp op t a b) with | some v => bif flat v then some v else none | none => none)
 else bif nilne E t a b then (match op with | .eql => some (.bool false) | .neq => some (.bool true) | _ => none)
 else bif sameP E t a b then (match op with | .eql => some (.bool true) | .neq => some (.bool false) | _ => none)
 else none
def orSlow (E : Env) (op : BinOp) (t : TypeId) (x y : Operand) (a b : Value) (o : Option Value) : Option Value := Option.rec (slow E op t x y a b) (fun v => some v) o
def binV (E : Env) (op : BinOp) (t : TypeId) (x y : Operand) (a b : Option Value) : Option Value :=
 match a with
 | some a => (match b with | some b => orSlow E op t x y a b (binSel op a b) | none => none)
 | none => none
theorem binV_eq (E : Env) (op : BinOp) (t : TypeId) (x y : Operand) (a b : Option Value) : binV E op t x y a b = (match a, b with | some a, some b => binA E op t x y a b | _, _ => none) := by
 cases a <;> cases b <;> try rfl
 rename_i a b
 simp only [binV, orSlow, binA, binSel_eq]
 cases fastBin op a b <;> rfl
def with1 (f : Value → Option Value) (o : Option Value) : Option Value := Option.rec none f o
def with2 (f : Value → Value → Option Value) (a b : Option Value) : Option Value := Option.rec none (fun a => Option.rec none (f a) b) a
def callS (call : CallF) (E : Env) (A : AH) (g : FuncId) (args : List Value) : Option (Value × AH) :=
 match E.fn g with
 | some _ => call g args A
 | none => (match E.ext g with
   | some x => x args A
   | none => none)
def callV (call : CallF) (E : Env) (A : AH) (f : Option Value) (as : Option (List Value)) : Option (Value × AH) :=
 match f, as with
 | some (.func (.func g) ⟨first⟩ ⟨cap⟩), some as => callS call E A g (first ++ as ++ cap)
 | _, _ => none
def orEff (e q : Option (Value × AH)) : Option (Value × AH) := Option.rec e (fun r => some r) q
def callSel (c : Call) : CallF → Env → AH → (Operand → Option Value) → TypeId → Option (Value × AH) :=
 match c.callee with
 | .value f => fun call E A ρ _ => callV call E A (ρ f) (mapO ρ c.args.toList)
 | .builtin b => fun _ E A ρ ty => orEff (effB E A ρ b c) (oV A (quietB E A ρ b c ty))
 | .invoke r m => fun call E A ρ ty => opA call E A ρ ty (.call c)
def opSel (op : Op) : CallF → Env → AH → (Operand → Option Value) → TypeId → Option (Value × AH) :=
 match op with
 | .move x => fun _ _ A ρ _ => oV A (ρ x)
 | .assign x => fun _ _ A ρ _ => oV A (ρ x)
 | .pick c a b => fun _ _ A ρ _ => oV A (pickV ρ a b (ρ c))
 | .nilCheck x => fun _ _ A ρ _ => oV A (nilV (ρ x))
 | .load t a => fun _ E A ρ _ => oV A (with1 (loadB E A t) (ρ a))
 | .binOp op t x y _ => fun _ E A ρ _ => oV A (binV E op t x y (ρ x) (ρ y))
 | .indexAddr t x i => fun _ E A ρ _ => oV A (with2 (idxB E t) (ρ x) (ρ i))
 | .fieldAddr t x f => fun _ E A ρ _ => oV A (with1 (fun v => fldA E t v f) (ρ x))
 | .field t x f => fun _ E A ρ _ => oV A (with1 (fun v => fieldA E t v f) (ρ x))
 | .index t x i => fun _ E A ρ _ => oV A (with2 (indexA E t) (ρ x) (ρ i))
 | .lookup t x i cok => fun _ E A ρ _ => oV A (with2 (fun a b => lookupA E A t a b cok) (ρ x) (ρ i))
 | .store t a x => fun _ E A ρ _ => (match ρ a, ρ x with | some p, some v => oS (storeA E A t p v) | _, _ => none)
 | .call c => callSel c
 | op => fun call E A ρ ty => opA call E A ρ ty op
theorem oV_eq (A : AH) (o : Option Value) : oV A o = (match o with | some v => some (v, A) | none => none) := by cases o <;> rfl
theorem quiet_plain {E : Env} (hs : E.sym = false) (A : AH) (ρ : Operand → Option Value) (ty : TypeId) (op : Op) : quiet E A ρ ty op = quiet0 E A ρ ty op := by
 unfold quiet; rw [hs]
theorem opSel_eq (op : Op) (call : CallF) {E : Env} (hs : E.sym = false) (A : AH) (ρ : Operand → Option Value) (ty : TypeId) : opSel op call E A ρ ty = opA call E A ρ ty op := by
 cases op <;> try rfl
 case move x => simp only [opSel, opA, quiet_plain hs, quiet0, oV_eq]; cases ρ x <;> rfl
 case assign x => simp only [opSel, opA, quiet_plain hs, quiet0, oV_eq]; cases ρ x <;> rfl
 case pick c a b =>
  simp only [opSel, opA, quiet_plain hs, quiet0, oV_eq, pickV]
  cases hc : ρ c with
  | none => rfl
  | some v =>
    cases v <;> rfl
 case nilCheck x =>
  simp only [opSel, opA, quiet_plain hs, quiet0, oV_eq, nilV]
  cases ρ x with
  | none => rfl
  | some v => cases nnil v <;> rfl
 case load t a =>
  simp only [opSel, opA, quiet_plain hs, quiet0, oV_eq]
  cases ρ a with
  | none => rfl
  | some v => simp only [with1]; cases loadB E A t v <;> rfl
 case binOp op t x y yt =>
  simp only [opSel, opA, quiet_plain hs, quiet0, oV_eq, binV_eq]
  cases ρ x with
  | none => rfl
  | some a => cases ρ y with
    | none => rfl
    | some b => cases hb : binA E op t x y a b <;> simp only [hb] <;> rfl
 case indexAddr t x i =>
  simp only [opSel, opA, quiet_plain hs, quiet0, oV_eq]
  cases ρ x with
  | none => rfl
  | some a => cases ρ i with
    | none => rfl
    | some b => simp only [with2]; cases idxB E t a b <;> rfl
 case fieldAddr t x f =>
  simp only [opSel, opA, quiet_plain hs, quiet0, oV_eq]
  cases ρ x with
  | none => rfl
  | some v => simp only [with1]; cases fldA E t v f <;> rfl
 case field t x f =>
  simp only [opSel, opA, quiet_plain hs, quiet0, oV_eq]
  cases ρ x with
  | none => rfl
  | some v => simp only [with1]; cases fieldA E t v f <;> rfl
 case index t x i =>
  simp only [opSel, opA, quiet_plain hs, quiet0, oV_eq]
  cases ρ x with
  | none => rfl
  | some a => cases ρ i with
    | none => rfl
    | some b => simp only [with2]; cases indexA E t a b <;> rfl
 case lookup t x i cok =>
  simp only [opSel, opA, quiet_plain hs, quiet0, oV_eq]
  cases ρ x with
  | none => rfl
  | some a => cases ρ i with
    | none => rfl
    | some b => simp only [with2]; cases lookupA E A t a b cok <;> rfl
 case store t a x =>
  simp only [opSel, opA, quiet_plain hs, quiet0, allocA, effAll, effA, enterA]
  cases ρ a with
  | none => rfl
  | some p => cases ρ x with
    | none => rfl
    | some v => simp only [oS]; cases storeA E A t p v <;> rfl
 case call c =>
  obtain ⟨callee, args, ats⟩ := c
  cases callee with
  | value f =>
    simp only [opSel, callSel, opA, quiet_plain hs, quiet0, allocA, effAll, effA, enterA, callV]
    cases ρ f with
    | none => rfl
    | some v =>
      cases mapO ρ args.toList with
      | none => cases v <;> first | rfl | (rename_i fn _ _; cases fn <;> rfl)
      | some as => cases v <;> first | rfl | (rename_i fn x y; cases fn <;> first | rfl | (obtain ⟨x⟩ := x; obtain ⟨y⟩ := y; rfl))
  | builtin b =>
    simp only [opSel, callSel, opA, quiet_plain hs, quiet0, allocA, effAll, effA, enterA, oV_eq]
    cases quietB E A ρ b ⟨.builtin b, args, ats⟩ ty with
    | some v => rfl
    | none => simp only [orEff]; cases effB E A ρ b ⟨.builtin b, args, ats⟩ <;> rfl
  | invoke r m => rfl
abbrev Res := Option (Ex × T Value × AH)
abbrev Rec := Code → Nat → T Value → AH → Res
def evF (E : Env) (F : T Value) (x : Operand) : Option Value := evSel x E F
theorem evF_eq (E : Env) (F : T Value) : evF E F = ev E F := funext fun x => evSel_eq E F x
def putThen (n : Nat) (F : T Value) (dst : Option Tmp) (v : Value) (A : AH) (ih : T Value → AH → Option (T Value × AH)) : Option (T Value × AH) :=
 Option.rec none (fun F' => ih F' A) (put n F dst v)
def opThen (n : Nat) (F : T Value) (dst : Option Tmp) (ih : T Value → AH → Option (T Value × AH)) (r : Option (Value × AH)) : Option (T Value × AH) :=
 Option.rec none (fun p => Prod.rec (fun v A => putThen n F dst v A ih) p) r
def opStep (call : CallF) (E : Env) (ops : List Oper) (n : Nat) (o : Oper) (ih : T Value → AH → Option (T Value × AH)) (F : T Value) (A : AH) : Option (T Value × AH) :=
 Option.rec none (fun b => Bool.rec (putThen n F o.dst undef A ih) (opThen n F o.dst ih (opSel o.op call E A (evF E F) o.type)) b) (wantA ops F o)
def opsF (call : CallF) (E : Env) (ops : List Oper) (n : Nat) (l : List Oper) : T Value → AH → Option (T Value × AH) :=
 List.rec (motive := fun _ => T Value → AH → Option (T Value × AH)) (fun F A => some (F, A)) (fun o _ ih F A => opStep call E ops n o ih F A) l
theorem opsF_eq (call : CallF) {E : Env} (hs : E.sym = false) (ops : List Oper) (n : Nat) : ∀ (l : List Oper) (F : T Value) (A : AH), opsF call E ops n l F A = evOps call E ops n l F A
 | [], F, A => rfl
 | o :: l, F, A => by
   show opStep call E ops n o (opsF call E ops n l) F A = _
   simp only [opStep, evOps, evF_eq, opSel_eq _ _ hs]
   cases wantA ops F o with
   | none => rfl
   | some b =>
   cases b with
   | false =>
     simp only [putThen]
     cases put n F o.dst undef with
     | none => rfl
     | some F' => exact opsF_eq call hs ops n l F' A
   | true =>
     simp only [opThen, putThen]
     cases opA call E A (ev E F) o.type o.op with
     | none => rfl
     | some r =>
       obtain ⟨v, A'⟩ := r
       simp only
       cases put n F o.dst v with
       | none => rfl
       | some F' => exact opsF_eq call hs ops n l F' A'
def rN (r : Option (T Value × AH)) : Res := Option.rec none (fun p => some (.normal, p)) r
def onEx (k : T Value → AH → Res) (r : Res) : Res :=
 match r with
 | some (.normal, F, A) => k F A
 | r => r
def offBlock (id : Nat) (r : Res) : Res :=
 match r with
 | some (.exit id', F', A') => bif Nat.beq id' id then some (.normal, F', A') else some (.exit id', F', A')
 | r => r
def branch (x y : T Value → AH → Res) (F : T Value) (A : AH) (v : Option Value) : Res :=
 match v with
 | some (.bool b) => Bool.rec (y F A) (x F A) b
 | _ => none
def regSel (draw : Bool) (ops : Array Oper) : Env → Rec → Nat → T Value → AH → Res :=
 match draw with
 | false => fun E ih n F A => rN (opsF (callF E ih) E ops.toList n ops.toList F A)
 | true => fun E ih n F A => rN (evReg (callF E ih) E ops n F A)
def codeSel (c : Code) : Env → Rec → Nat → T Value → AH → Res :=
 match c with
 | .skip => fun _ _ _ F A => some (.normal, F, A)
 | .label _ => fun _ _ _ F A => some (.normal, F, A)
 | .region _ ops draw => regSel draw ops
 | .seq x y => fun _ ih n F A => onEx (ih y n) (ih x n F A)
 | .cond b x y => fun E ih n F A => branch (ih x n) (ih y n) F A (evF E F b)
 | .block id b => fun _ ih n F A => offBlock id (ih b n F A)
 | .loop b => fun _ ih n F A => onEx (ih (.loop b) n) (ih b n F A)
 | .scope b => fun _ ih n F A => ih b n F A
 | .exit id => fun _ _ _ F A => some (.exit id, F, A)
 | .ret => fun _ _ _ F A => some (.ret, F, A)
 | _ => fun _ _ _ _ _ => none
def evN (E : Env) (k : Nat) : Rec := Nat.rec (motive := fun _ => Rec) (fun _ _ _ _ => none) (fun _ ih c n F A => codeSel c E ih n F A) k
theorem evN_eq {E : Env} (hs : E.sym = false) : ∀ k, evN E k = evC E k
 | 0 => by funext c n F A; rfl
 | k + 1 => by
   have ih := evN_eq hs k
   funext c n F A
   show codeSel c E (evN E k) n F A = _
   rw [ih]
   cases c <;> try rfl
   case region id ops draw =>
    cases draw with
    | false =>
      simp only [codeSel, regSel, evC, opsF_eq _ hs, rN]
      cases evOps (callF E (evC E k)) E ops.toList n ops.toList F A <;> rfl
    | true =>
      simp only [codeSel, regSel, evC, rN]
      cases evReg (callF E (evC E k)) E ops n F A <;> rfl
   case cond b x y =>
    simp only [codeSel, evC, branch, evF_eq]
    cases ev E F b with
    | none => rfl
    | some v =>
      cases v <;> try rfl
      rename_i t
      cases t <;> rfl
theorem closed_fast {E : Env} (ok : E.Ok) (hs : E.sym = false) (hf : FnsOk E) {k : Nat} {f : FuncId} {v : Value} {A' : AH} (h : callF E (evN E k) f [] ⟨.leaf, 0⟩ = some (v, A')) (hv : flat v = true) (w : World) (hgl : Glob E (sig0 w)) :
 Calls E.P f #[] w fun e w' => e = .returned v ∧ RowKit.Below w.heap.size w w' := by
 rw [evN_eq hs] at h
 exact closed_call ok hf h hv w hgl
abbrev ExtF := List Value → AH → Option (Value × AH)
def ExtOk (P : Program) (f : FuncId) (x : ExtF) : Prop := ∀ vs A v A', x vs A = some (v, A') → ∀ σ w vs', Rel P σ A w → VRs σ vs vs' → Good P σ A w ((callFunc f ⟨vs'⟩).run P w) v A'
def isExt (P : Program) (f : FuncId) (e : Array Value → Sem Value) : Prop := ∃ fn, P.funcs[f]? = some fn ∧ (fn.name == "runtime.NumGoroutine") = false ∧ fn.body.isNone = true ∧ Extern.findNext fn = none ∧ Extern.find fn = some e
theorem run_ext {P : Program} {f : FuncId} {e : Array Value → Sem Value} (h : isExt P f e) (args : Array Value) (w : World) : (callFunc f args).run P w = ((e args).run P w).andThen fun v w' => .ok (.value v) w' := by
 obtain ⟨fn, h1, h2, h3, h4, h5⟩ := h
 rw [run_callFunc_extern h1 h2 h3 h4 h5]
def xSame : ExtF := fun vs A => match vs with | [v] => some (v, A) | _ => none
theorem xSame_ok {P : Program} {f : FuncId} (h : isExt P f Extern.AbiNoEscape.same) : ExtOk P f xSame := by
 intro vs A v A' hx σ w vs' R hv
 unfold xSame at hx
 split at hx
 · simp only [Option.some.injEq, Prod.mk.injEq] at hx
   obtain ⟨rfl, rfl⟩ := hx
   cases hv with
   | cons h0 t =>
   cases t
   refine Good.value ?_ h0 R (Ext.refl _ _ _)
   rw [run_ext h]
   rfl
 · cases hx
def findB (c : UInt8) : List UInt8 → Nat → Option Nat
 | [], _ => none
 | x :: l, i => bif Nat.beq x.toNat c.toNat then some i else findB c l (i + 1)
theorem findB_eq (b : ByteArray) (c : UInt8) : ∀ (l : List UInt8) (i : Nat), b.data.toList.drop i = l → ((List.range' i l.length).find? fun i => b[i]! == c) = findB c l i
 | [], i, _ => by simp [findB]
 | x :: l, i, h => by
   have hi : b.data.toList[i]? = some x := by
    have := congrArg (·[0]?) h
    simpa [List.getElem?_drop] using this
   have hb : b[i]! = x := by
    have h2 : b[i]? = some x := by rw [bytes_get]; exact hi
    rw [getElem!_def, h2]
   have ht : b.data.toList.drop (i + 1) = l := by
    have := congrArg (List.drop 1) h
    simpa [List.drop_drop] using this
   simp only [List.length_cons, List.range'_succ, List.find?_cons, hb, findB]
   rw [findB_eq b c l (i + 1) ht]
   have e : (x == c) = Nat.beq x.toNat c.toNat := by
    rw [Bool.eq_iff_iff]
    simp [UInt8.toNat_inj]
   rw [e]
   cases Nat.beq x.toNat c.toNat <;> rfl
def xIndexByte : ExtF := fun vs A => match vs with
 | [.string s, .int .u8 c] => (match findB c.toNat.toUInt8 s.data.toList 0 with
   | some i => some (goInt i, A)
   | none => some (goInt (-1), A))
 | _ => none
theorem xIndexByte_ok {P : Program} {f : FuncId} (h : isExt P f Extern.BytealgIndexByte.indexByte) : ExtOk P f xIndexByte := by
 intro vs A v A' hx σ w vs' R hv
 unfold xIndexByte at hx
 split at hx
 · rename_i s c
   cases hv with
   | cons h0 t =>
   cases t with
   | cons h1 t =>
   cases t
   cases h0
   cases h1
   have hf := findB_eq s c.toNat.toUInt8 s.data.toList 0 rfl
   have hr : (Extern.BytealgIndexByte.indexByte #[.string s, .int .u8 c]).run P w = .ok (match findB c.toNat.toUInt8 s.data.toList 0 with | some i => goInt i | none => goInt (-1)) w := by
    have hdef : Extern.BytealgIndexByte.indexByte #[.string s, .int .u8 c] = (match (List.range s.size).find? fun i => s[i]! == c.toNat.toUInt8 with
     | some i => pure (goInt i)
     | none => pure (goInt (-1))) := rfl
    have hsz : s.size = s.data.toList.length := rfl
    rw [hdef, hsz, List.range_eq_range', hf]
    cases findB c.toNat.toUInt8 s.data.toList 0 <;> rfl
   split at hx
   · rename_i i hi
     simp only [Option.some.injEq, Prod.mk.injEq] at hx
     obtain ⟨rfl, rfl⟩ := hx
     refine Good.value (v' := goInt i) (w' := w) ?_ (.int _ _) R (Ext.refl _ _ _)
     rw [run_ext h, hr, hi]
     rfl
   · rename_i hi
     simp only [Option.some.injEq, Prod.mk.injEq] at hx
     obtain ⟨rfl, rfl⟩ := hx
     refine Good.value (v' := goInt (-1)) (w' := w) ?_ (.int _ _) R (Ext.refl _ _ _)
     rw [run_ext h, hr, hi]
     rfl
 · cases hx
def xClone : ExtF := fun vs A => match vs with
 | [.iface t (.map (some B))] => (match A.t.get B with
   | some (.map es k) => (match newBlock A (.map es k) with | some A' => some (.iface t (.map (some A.next)), A') | none => none)
   | _ => none)
 | _ => none
theorem xClone_ok {P : Program} {f : FuncId} (h : isExt P f Extern.MapsClone.clone) : ExtOk P f xClone := by
 intro vs A v A' hx σ w vs' R hv
 unfold xClone at hx
 split at hx
 · rename_i t B
   cases hv with
   | cons h0 tl =>
   cases tl
   cases h0 with
   | iface _ h0 =>
   cases h0 with
   | map hσ =>
   rename_i b d c
   split at hx
   · rename_i es k hB
     simp only [newBlock] at hx
     cases ht : T.set FU A.t A.next (.map es k) with
     | none => simp [ht] at hx
     | some t2 =>
       simp only [ht, Option.some.injEq, Prod.mk.injEq] at hx
       obtain ⟨rfl, rfl⟩ := hx
       obtain ⟨b2, d2, c2, hσ2, es', hb, hes⟩ := R.obj B _ hB rfl
       rw [hσ] at hσ2
       simp only [Option.some.injEq, Prod.mk.injEq] at hσ2
       obtain ⟨rfl, rfl, rfl⟩ := hσ2
       have hR := R.alloc ht (R.fresh _ (Nat.le_refl _)) (Nat.lt_succ_self _) (Nat.le_succ _) (cp := 0) (ob := .map es' k) (w' := { w with heap := w.heap.push (.map es' k) })
        ⟨es', rfl, hes.mono (upd_sub (R.fresh _ (Nat.le_refl _)))⟩ rfl
       have hE := Ext.alloc R ht (Nat.le_succ A.next) (cp := 0) (ob := .map es' k) (w' := { w with heap := w.heap.push (.map es' k) }) rfl rfl rfl rfl
       refine Good.value (v' := .iface t (.map (some w.heap.size))) ?_ (.iface t (.map upd_same)) hR hE
       have hdef : Extern.MapsClone.clone #[.iface t (.map (some b))] = (do
        let .map entries clock ← getObj b | stuck "maps.clone: a map expected"
        pure (.iface t (.map (some (← newObj (.map entries clock)))))) := rfl
       rw [run_ext h, hdef]
       simp [run_getObj hb (by simp)]
   · cases hx
 · cases hx
def extOf : List (FuncId × ExtF) → FuncId → Option ExtF
 | [], _ => none
 | (g, x) :: l, f => bif Nat.beq f g then some x else extOf l f
def envOf (P : Program) (nT nF : Nat) (tiT : T TypeInfo) (fnT : T Func) (gl : Nat → Option (List Value)) (ext : List (FuncId × ExtF)) (sym : Bool := false) : Env where
 P := P
 ti := fun t => bif Nat.blt t nT then tiT.get t else none
 fn := fun f => bif Nat.blt f nF then fnT.get f else none
 gl := gl
 ext := extOf ext
 sym := sym
def fill (a b : Option Func) : Option Func := match a with | none => b | some x => some x
def fnOk1 (o : Option Func) : Bool := match o with | none => true | some g => !g.body.isNone && !(g.name == "runtime.NumGoroutine")
inductive ExtsOk (P : Program) : List (FuncId × ExtF) → Prop
 | nil : ExtsOk P []
 | cons {f : FuncId} {x : ExtF} {l : List (FuncId × ExtF)} (h : ExtOk P f x) (t : ExtsOk P l) : ExtsOk P ((f, x) :: l)
theorem ExtsOk.get {P : Program} : ∀ {l : List (FuncId × ExtF)}, ExtsOk P l → ∀ {f : FuncId} {x : ExtF}, extOf l f = some x → ExtOk P f x
 | _, .nil, f, x, h => by simp [extOf] at h
 | _, .cons (f := g) h t, f, x, hx => by
   simp only [extOf] at hx
   cases e : Nat.beq f g with
   | true =>
     rw [e] at hx
     simp only [cond_true, Option.some.injEq] at hx
     subst hx
     obtain rfl := Nat.eq_of_beq_eq_true e
     exact h
   | false => rw [e] at hx; exact t.get hx
theorem range_eq {α : Type} {n : Nat} {f g : Nat → α} (h : (List.range n).map f = (List.range n).map g) {t : Nat} (ht : t < n) : f t = g t := by
 rw [List.map_inj_left] at h
 exact h t (List.mem_range.2 ht)
theorem envOf_ok {P : Program} {nT nF : Nat} {tiT : T TypeInfo} {fnT : T Func} {gl : Nat → Option (List Value)} {ext : List (FuncId × ExtF)} {sym : Bool}
 (h1 : (List.range nT).map tiT.get = (List.range nT).map P.info?)
 (h2 : (List.range nF).map (fun f => fill (fnT.get f) P.funcs[f]?) = (List.range nF).map (fun f => P.funcs[f]?))
 (h3 : (List.range nF).all (fun f => fnOk1 (fnT.get f)) = true)
 (h4 : P.follows .mixedOrders = true) (h5 : ExtsOk P ext) : (envOf P nT nF tiT fnT gl ext sym).Ok := by
 have hlt : ∀ {α : Type} {a b : Nat} {x : Option α} {y : α}, (bif Nat.blt a b then x else none) = some y → a < b ∧ x = some y := by
  intro α a b x y h
  cases e : Nat.blt a b with
  | false => rw [e] at h; simp at h
  | true => rw [e] at h; rw [blt_eq] at e; exact ⟨by simpa using e, h⟩
 have hfn : ∀ f g, (envOf P nT nF tiT fnT gl ext sym).fn f = some g → f < nF ∧ fnT.get f = some g := fun f g h => hlt h
 refine ⟨?_, ?_, ?_, ?_, h4⟩
 · intro t i h
   obtain ⟨h, e⟩ := hlt (show (bif Nat.blt t nT then tiT.get t else none) = some i from h)
   exact (range_eq h1 h).symm.trans e
 · intro f g h
   obtain ⟨h, e⟩ := hfn f g h
   have := range_eq h2 h
   simp only [e, fill] at this
   exact this.symm
 · intro f g h
   obtain ⟨h, e⟩ := hfn f g h
   have := List.all_eq_true.1 h3 f (List.mem_range.2 h)
   simp only [e, fnOk1, Bool.and_eq_true, Bool.not_eq_true'] at this
   exact this
 · intro f x vs A v A' hx hv σ w vs' R hvs
   exact h5.get hx vs A v A' hv σ w vs' R hvs
def fnCode (E : Env) (o : Option Func) : Bool :=
 match o with
 | none => true
 | some g => (match g.body with | none => true | some c => codeOk E c)
theorem envOf_fns {P : Program} {nT nF : Nat} {tiT : T TypeInfo} {fnT : T Func} {gl : Nat → Option (List Value)} {ext : List (FuncId × ExtF)} {sym : Bool}
 (h : (List.range nF).all (fun f => fnCode (envOf P nT nF tiT fnT gl ext sym) (fnT.get f)) = true) : FnsOk (envOf P nT nF tiT fnT gl ext sym) := by
 intro f fn c hf hb
 have hf : (bif Nat.blt f nF then fnT.get f else none) = some fn := hf
 cases e : Nat.blt f nF with
 | false => rw [e] at hf; simp at hf
 | true =>
   rw [e] at hf
   simp only [cond_true] at hf
   rw [blt_eq] at e
   have := List.all_eq_true.1 h f (List.mem_range.2 (by simpa using e))
   simpa only [hf, fnCode, hb] using this
def valOf (o : Option (Value × AH)) : Value := match o with | some (v, _) => v | none => .tuple #[]
theorem closed_true {E : Env} (ok : E.Ok) (hs : E.sym = false) (hf : FnsOk E) {k : Nat} {f : FuncId} (h : valOf (callF E (evN E k) f [] ⟨.leaf, 0⟩) = .bool true) (w : World) (hgl : Glob E (sig0 w)) :
 Calls E.P f #[] w fun e w' => e = .returned (.bool true) ∧ RowKit.Below w.heap.size w w' := by
 cases hc : callF E (evN E k) f [] ⟨.leaf, 0⟩ with
 | none => rw [hc] at h; simp [valOf] at h
 | some r =>
   obtain ⟨v, A'⟩ := r
   rw [hc] at h
   simp only [valOf] at h
   subst h
   exact closed_fast ok hs hf hc rfl w hgl
section
variable {call : CallF} {E : Env} {ops : List Oper} {ms : List Nat} {n n0 sz : Nat}
def OL (call : CallF) (E : Env) (ops : List Oper) (n : Nat) (l : List Oper) (F : T Value) (A : AH) (K : T Value → AH → Prop) : Prop := ∃ F' A', evOps call E ops n l F A = some (F', A') ∧ K F' A'
def op1 (call : CallF) (E : Env) (ops : List Oper) (n : Nat) (o : Oper) (F : T Value) (A : AH) : Option (T Value × AH) :=
 match wantA ops F o with
 | some true => (match opA call E A (ev E F) o.type o.op with
   | some (v, A') => (match put n F o.dst v with | some F' => some (F', A') | none => none)
   | none => none)
 | some false => (match put n F o.dst undef with | some F' => some (F', A) | none => none)
 | none => none
theorem OL.nil {F : T Value} {A : AH} {K : T Value → AH → Prop} (k : K F A) : OL call E ops n [] F A K := ⟨F, A, rfl, k⟩
theorem OL.op {o : Oper} {l : List Oper} {F F' : T Value} {A A' : AH} {K : T Value → AH → Prop} (h : op1 call E ops n o F A = some (F', A')) (k : OL call E ops n l F' A' K) : OL call E ops n (o :: l) F A K := by
 obtain ⟨F2, A2, h2, k2⟩ := k
 refine ⟨F2, A2, ?_, k2⟩
 unfold op1 at h
 unfold evOps
 split at h
 · rename_i hw
   rw [hw]
   split at h
   · rename_i v A1 hv
     rw [hv]
     simp only
     split at h
     · rename_i F1 hp
       rw [hp]
       simp only [Option.some.injEq, Prod.mk.injEq] at h
       obtain ⟨rfl, rfl⟩ := h
       exact h2
     · cases h
   · cases h
 · rename_i hw
   rw [hw]
   simp only
   split at h
   · rename_i F1 hp
     rw [hp]
     simp only [Option.some.injEq, Prod.mk.injEq] at h
     obtain ⟨rfl, rfl⟩ := h
     exact h2
   · cases h
 · cases h
theorem OL.quiet {o : Oper} {l : List Oper} {F F' : T Value} {A : AH} {v : Value} {K : T Value → AH → Prop} (hw : wantA ops F o = some true) (h : AM.quiet E A (ev E F) o.type o.op = some v) (hp : put n F o.dst v = some F') (k : OL call E ops n l F' A K) : OL call E ops n (o :: l) F A K :=
 OL.op (by unfold op1; rw [hw]; simp only [opA, h, hp]) k
theorem set_same {α : Type} : ∀ (f : Nat) (t : T α) (k : Nat) (x : α) (t' : T α), t.get k = some x → T.set f t k x = some t' → t' = t
 | 0, t, k, x, t', _, h => by cases h
 | f + 1, .leaf, k, x, t', hg, _ => by simp [T.get_leaf] at hg
 | f + 1, .node l v r, k, x, t', hg, h => by
   rw [T.set_node, T.setAt_eq] at h
   rw [T.get_node] at hg
   by_cases h0 : k = 0
   · rw [if_pos h0] at h hg
     simp only [Option.some.injEq] at h
     rw [← h, hg]
   · rw [if_neg h0] at h hg
     by_cases h1 : k % 2 = 1
     · rw [if_pos h1] at h hg
       cases hs : T.set f l (k / 2) x with
       | none => simp [hs] at h
       | some l' =>
         simp only [hs, Option.some.injEq] at h
         rw [← h, set_same f l _ x l' hg hs]
     · rw [if_neg h1] at h hg
       cases hs : T.set f r (k / 2 - 1) x with
       | none => simp [hs] at h
       | some r' =>
         simp only [hs, Option.some.injEq] at h
         rw [← h, set_same f r _ x r' hg hs]
theorem OL.split {o : Oper} {oj : Oper} {l : List Oper} {F FT FF : T Value} {A : AH} {K : T Value → AH → Prop} {j d : Nat} {want b : Bool} (hg : o.guard = some (j, want)) (hj : nth ops j = some oj) (hd : oj.dst = some d) (hs : F.get d = some (.bool b))
 (hT : T.set FU F d (.bool true) = some FT) (hF : T.set FU F d (.bool false) = some FF) (kT : b = true → OL call E ops n (o :: l) FT A K) (kF : b = false → OL call E ops n (o :: l) FF A K) : OL call E ops n (o :: l) F A K := by
 cases b with
 | true => rw [← set_same _ _ _ _ _ hs hT]; exact kT rfl
 | false => rw [← set_same _ _ _ _ _ hs hF]; exact kF rfl
def RL (call : CallF) (E : Env) (ops : List Oper) (ms : List Nat) (n n0 sz : Nat) (l : List Oper) (i : Nat) (S : RS) (K : RS → Prop) : Prop := ∃ S', regA call E ops ms n n0 sz l i S = some S' ∧ K S'
theorem RL.nil {i : Nat} {S : RS} {K : RS → Prop} (k : K S) : RL call E ops ms n n0 sz [] i S K := ⟨S, rfl, k⟩
theorem RL.fin {Q : T Value → AH → Prop} {i : Nat} {F : T Value} {G A' : AH} {past : List (Nat × AH)} {als : List Al} {qs : List Qu} (h : addAl (2 ^ sz - 1) als G = some A') (k : Q F A') : RL call E ops ms n n0 sz [] i ⟨F, G, past, als, qs⟩ (fun S => ∃ A', addAl (2 ^ sz - 1) S.als S.G = some A' ∧ Q S.F A') := ⟨_, rfl, A', h, k⟩
theorem RL.skip {o : Oper} {l : List Oper} {i : Nat} {F : T Value} {G : AH} {past : List (Nat × AH)} {als : List Al} {qs : List Qu} {K : RS → Prop} {F' : T Value} (hw : wantA ops F o = some false) (hp : put n F o.dst undef = some F') (k : RL call E ops ms n n0 sz l (i + 1) ⟨F', G, past, als, qs⟩ K) : RL call E ops ms n n0 sz (o :: l) i ⟨F, G, past, als, qs⟩ K := by
 obtain ⟨S', h, k⟩ := k
 exact ⟨S', by unfold regA; rw [hw]; simp only [hp]; exact h, k⟩
theorem RL.quiet {o : Oper} {l : List Oper} {i : Nat} {F : T Value} {G : AH} {past : List (Nat × AH)} {als : List Al} {qs : List Qu} {K : RS → Prop} {F' : T Value} {H : AH} {v : Value} (hw : wantA ops F o = some true) (he : isEff E o.op = false) (ha : allocA E (rho E F (tmpsOf o.op)) o.op = none) (hH : addAl ((nth ms i).getD 0) als G = some H)
 (hq : AM.quiet E H (rho E F (tmpsOf o.op)) o.type o.op = some v) (hd : hdep o.op = false) (hp : put n F o.dst v = some F') (k : RL call E ops ms n n0 sz l (i + 1) ⟨F', G, past, als, qs⟩ K) : RL call E ops ms n n0 sz (o :: l) i ⟨F, G, past, als, qs⟩ K := by
 obtain ⟨S', h, k⟩ := k
 exact ⟨S', by unfold regA; rw [hw]; simp only [he, ha, hH, hq, hd, hp]; exact h, k⟩
def QC (E : Env) (als : List Al) (G : AH) (q : Qu) : Prop := ∃ H, addAl q.m als G = some H ∧ AM.quiet E H (rho E q.F (tmpsOf q.o.op)) q.o.type q.o.op = some q.v
theorem qcheck_of (hs : E.sym = true) {als : List Al} {G : AH} {q : Qu} (h : QC E als G q) : qcheck E als G q = true := by
 obtain ⟨H, h1, h2⟩ := h
 unfold qcheck
 rw [h1]
 simp only [h2]
 exact veqE_self hs _
inductive POk (E : Env) (als : List Al) (q : Qu) : List (Nat × AH) → Prop
 | nil : POk E als q []
 | bit {ie : Nat} {G : AH} {r : List (Nat × AH)} (h : q.m.testBit ie = true) : POk E als q ((ie, G) :: r)
 | chk {ie : Nat} {G : AH} {r : List (Nat × AH)} (h : QC E als G q) (t : POk E als q r) : POk E als q ((ie, G) :: r)
theorem pastOk_of (hs : E.sym = true) {als : List Al} {q : Qu} {r : List (Nat × AH)} (h : POk E als q r) : pastOk E als q r = true := by
 induction h with
 | nil => rfl
 | bit h => simp only [pastOk, h, cond_true]
 | @chk ie G r h t ih =>
   simp only [pastOk, qcheck_of hs h, cond_true, ih]
   cases q.m.testBit ie <;> rfl
theorem RL.read (hs : E.sym = true) {o : Oper} {l : List Oper} {i : Nat} {F : T Value} {G : AH} {past : List (Nat × AH)} {als : List Al} {qs : List Qu} {K : RS → Prop} {F' : T Value} {H : AH} {v : Value} (hw : wantA ops F o = some true) (he : isEff E o.op = false) (ha : allocA E (rho E F (tmpsOf o.op)) o.op = none) (hH : addAl ((nth ms i).getD 0) als G = some H)
 (hq : AM.quiet E H (rho E F (tmpsOf o.op)) o.type o.op = some v) (hd : hdep o.op = true) (hpast : POk E als ⟨i, (nth ms i).getD 0, o, F, v⟩ past) (hp : put n F o.dst v = some F')
 (k : RL call E ops ms n n0 sz l (i + 1) ⟨F', G, past, als, ⟨i, (nth ms i).getD 0, o, F, v⟩ :: qs⟩ K) : RL call E ops ms n n0 sz (o :: l) i ⟨F, G, past, als, qs⟩ K := by
 obtain ⟨S', h, k⟩ := k
 exact ⟨S', by unfold regA; rw [hw]; simp only [he, ha, hH, hq, hd, hp, pastOk_of hs hpast, cond_true]; exact h, k⟩
theorem RL.alloc {o : Oper} {l : List Oper} {i : Nat} {F : T Value} {G : AH} {past : List (Nat × AH)} {als : List Al} {qs : List Qu} {K : RS → Prop} {F' : T Value} {ob : AObj} {fv : Nat → Value} (hw : wantA ops F o = some true) (he : isEff E o.op = false) (ha : allocA E (rho E F (tmpsOf o.op)) o.op = some (ob, fv))
 (hv : ((vis G (n0 + i)).isNone && past.all (fun p => (vis p.2 (n0 + i)).isNone)) = true) (hp : put n F o.dst (fv (n0 + i)) = some F') (k : RL call E ops ms n n0 sz l (i + 1) ⟨F', G, past, (i, n0 + i, ob) :: als, qs⟩ K) : RL call E ops ms n n0 sz (o :: l) i ⟨F, G, past, als, qs⟩ K := by
 obtain ⟨S', h, k⟩ := k
 exact ⟨S', by unfold regA; rw [hw]; simp only [he, ha, hv, hp, cond_true]; exact h, k⟩
inductive QOk (E : Env) (als : List Al) (G : AH) (m : Nat) : List Qu → Prop
 | nil : QOk E als G m []
 | bit {q : Qu} {r : List Qu} (h : m.testBit q.i = true) (t : QOk E als G m r) : QOk E als G m (q :: r)
 | chk {q : Qu} {r : List Qu} (h : QC E als G q) (t : QOk E als G m r) : QOk E als G m (q :: r)
theorem qsOk_of (hs : E.sym = true) {als : List Al} {G : AH} {m : Nat} {r : List Qu} (h : QOk E als G m r) : r.all (fun q => m.testBit q.i || qcheck E als G q) = true := by
 induction h with
 | nil => rfl
 | bit h t ih => simp only [List.all_cons, h, Bool.true_or, Bool.true_and, ih]
 | chk h t ih => simp only [List.all_cons, qcheck_of hs h, Bool.or_true, Bool.true_and, ih]
theorem RL.eff (hs : E.sym = true) {o : Oper} {l : List Oper} {i : Nat} {F : T Value} {G : AH} {past : List (Nat × AH)} {als : List Al} {qs : List Qu} {K : RS → Prop} {F' : T Value} {H G' : AH} {v : Value} (hw : wantA ops F o = some true) (he : isEff E o.op = true) (hH : addAl ((nth ms i).getD 0) als G = some H)
 (hx : effAll call E H (rho E F (tmpsOf o.op)) o.op = some (v, G')) (hk : als.all (keepB H G') = true) (hq : QOk E als G' ((nth ms i).getD 0) qs) (hn : Nat.ble (n0 + sz) G'.next = true) (hp : put n F o.dst v = some F')
 (k : RL call E ops ms n n0 sz l (i + 1) ⟨F', G', (i, G) :: past, als, qs⟩ K) : RL call E ops ms n n0 sz (o :: l) i ⟨F, G, past, als, qs⟩ K := by
 obtain ⟨S', h, k⟩ := k
 exact ⟨S', by unfold regA; rw [hw]; simp only [he, hH, hx, hk, qsOk_of hs hq, hn, hp, cond_true, Bool.and_true]; exact h, k⟩
theorem RL.split {o : Oper} {oj : Oper} {l : List Oper} {i : Nat} {F FT FF : T Value} {G : AH} {past : List (Nat × AH)} {als : List Al} {qs : List Qu} {K : RS → Prop} {j d : Nat} {want b : Bool} (hg : o.guard = some (j, want)) (hj : nth ops j = some oj) (hd : oj.dst = some d) (hs : F.get d = some (.bool b))
 (hT : T.set FU F d (.bool true) = some FT) (hF : T.set FU F d (.bool false) = some FF) (kT : b = true → RL call E ops ms n n0 sz (o :: l) i ⟨FT, G, past, als, qs⟩ K) (kF : b = false → RL call E ops ms n n0 sz (o :: l) i ⟨FF, G, past, als, qs⟩ K) : RL call E ops ms n n0 sz (o :: l) i ⟨F, G, past, als, qs⟩ K := by
 cases b with
 | true => rw [← set_same _ _ _ _ _ hs hT]; exact kT rfl
 | false => rw [← set_same _ _ _ _ _ hs hF]; exact kF rfl
end
def At (E : Env) (σ0 : Sig) (A0 : AH) (w0 : World) (n : Nat) (F : T Value) (A : AH) (a : Act) (w : World) : Prop := ∃ σ, FR σ F n a ∧ Rel E.P σ A w ∧ Glob E σ ∧ Ext σ0 A0 w0 σ A w
abbrev Post := Ex → T Value → AH → Prop
def W (E : Env) (A0 : AH) (n : Nat) (c : Code) (Q : Post) (F : T Value) (A : AH) : Prop := ∀ σ0 w0 a w, At E σ0 A0 w0 n F A a w →
 ∀ Q' : Exit → Act → World → Prop, (∀ ex F' A' a' w', Q ex F' A' → At E σ0 A0 w0 n F' A' a' w' → Q' ex.of a' w') → c.wp E.P Q' a w
def Then (Q1 : T Value → AH → Prop) (Q : Post) : Post
 | .normal, F, A => Q1 F A
 | ex, F, A => Q ex F A
def Blk (id : Nat) (Q : Post) : Post
 | .exit id', F, A => bif Nat.beq id' id then Q .normal F A else Q (.exit id') F A
 | ex, F, A => Q ex F A
section
variable {E : Env} {A0 : AH} {n : Nat} {Q R : Post} {F F1 : T Value} {A A1 : AH}
theorem Then.normal {Q1 : T Value → AH → Prop} (h : Q1 F A) : Then Q1 Q .normal F A := h
theorem Then.ret {Q1 : T Value → AH → Prop} (h : Q .ret F A) : Then Q1 Q .ret F A := h
theorem Then.exit {Q1 : T Value → AH → Prop} {id : Nat} (h : Q (.exit id) F A) : Then Q1 Q (.exit id) F A := h
theorem Blk.normal {id : Nat} (h : Q .normal F A) : Blk id Q .normal F A := h
theorem Blk.ret {id : Nat} (h : Q .ret F A) : Blk id Q .ret F A := h
theorem Blk.out {id : Nat} (h : Q .normal F A) : Blk id Q (.exit id) F A := by simp only [Blk, beq_eq, decide_true, cond_true]; exact h
theorem Blk.on {id id' : Nat} (hne : Nat.beq id' id = false) (h : Q (.exit id') F A) : Blk id Q (.exit id') F A := by simp only [Blk, hne, cond_false]; exact h
theorem W.mono {c : Code} (h : W E A0 n c Q F A) (hq : ∀ ex F' A', Q ex F' A' → R ex F' A') : W E A0 n c R F A :=
 fun σ0 w0 a w hat Q' hQ => h σ0 w0 a w hat Q' fun ex F' A' a' w' hq' => hQ ex F' A' a' w' (hq _ _ _ hq')
theorem W.turn {c : Code} (h : ∀ σ0 w0 a w, At E σ0 A0 w0 n F A a w → At E σ0 A0 w0 n F1 A1 a w) (k : W E A0 n c Q F1 A1) : W E A0 n c Q F A :=
 fun σ0 w0 a w hat => k σ0 w0 a w (h σ0 w0 a w hat)
theorem W.skip (h : Q .normal F A) : W E A0 n .skip Q F A := fun _ _ _ _ hat _ hQ => wp_skip (hQ _ _ _ _ _ h hat)
theorem W.label {l : Nat} (h : Q .normal F A) : W E A0 n (.label l) Q F A := fun _ _ _ _ hat _ hQ => wp_label (hQ _ _ _ _ _ h hat)
theorem W.exit {id : Nat} (h : Q (.exit id) F A) : W E A0 n (.exit id) Q F A := fun _ _ _ _ hat _ hQ => wp_exit (hQ _ _ _ _ _ h hat)
theorem W.ret (h : Q .ret F A) : W E A0 n .ret Q F A := fun _ _ _ _ hat _ hQ => wp_ret (hQ _ _ _ _ _ h hat)
theorem W.scope {b : Code} (h : W E A0 n b Q F A) : W E A0 n (.scope b) Q F A := fun σ0 w0 a w hat Q' hQ =>
 wp_scope_straight (h σ0 w0 a w hat _ fun ex F' A' a' w' hq hat' => by
  have := hQ ex F' A' a' w' hq hat'
  cases ex <;> exact this)
theorem W.seq {x y : Code} (h : W E A0 n x (Then (W E A0 n y Q) Q) F A) : W E A0 n (.seq x y) Q F A := fun σ0 w0 a w hat Q' hQ =>
 wp_seq (h σ0 w0 a w hat _ fun ex F' A' a' w' hq hat' => by
  cases ex with
  | normal => exact hq σ0 w0 a' w' hat' Q' hQ
  | exit id => exact hQ _ _ _ _ _ hq hat'
  | ret => exact hQ _ _ _ _ _ hq hat')
theorem W.cond {b : Operand} {x y : Code} {t : Bool} (hb : ev E F b = some (.bool t)) (hx : t = true → W E A0 n x Q F A) (hy : t = false → W E A0 n y Q F A) : W E A0 n (.cond b x y) Q F A := by
 intro σ0 w0 a w hat Q' hQ
 have hat2 := hat
 obtain ⟨σ, h1, h2, h3, h4⟩ := hat
 have hv := ev_rel h3 h1.val b _ hb
 have e : a.eval b = .bool t := by generalize a.eval b = z at hv; cases hv; rfl
 cases t with
 | true => exact wp_cond_true e (hx rfl σ0 w0 a w hat2 Q' hQ)
 | false => exact wp_cond_false e (hy rfl σ0 w0 a w hat2 Q' hQ)
theorem W.block {id : Nat} {b : Code} (h : W E A0 n b (Blk id Q) F A) : W E A0 n (.block id b) Q F A := fun σ0 w0 a w hat Q' hQ =>
 wp_block (h σ0 w0 a w hat _ fun ex F' A' a' w' hq hat' => by
  cases ex with
  | normal => exact hQ _ _ _ _ _ hq hat'
  | ret => exact hQ _ _ _ _ _ hq hat'
  | exit id' =>
    show (if id' = id then Q' .normal a' w' else Q' (.exit id') a' w')
    simp only [Blk] at hq
    by_cases e : id' = id
    · subst e
      rw [if_pos rfl]
      simp only [beq_eq, decide_true, cond_true] at hq
      exact hQ _ _ _ _ _ hq hat'
    · rw [if_neg e]
      simp only [beq_eq, e, decide_false, cond_false] at hq
      exact hQ (.exit id') _ _ _ _ hq hat')
theorem W.loop {b : Code} (I : Nat → T Value → AH → Prop) (step : ∀ m F A, I m F A → W E A0 n b (Then (fun F' A' => ∃ m', m' < m ∧ I m' F' A') Q) F A) {m : Nat} (h : I m F A) : W E A0 n (.loop b) Q F A := by
 intro σ0 w0 a w hat Q' hQ
 have key : ∀ k m F A a w, m < k → I m F A → At E σ0 A0 w0 n F A a w → Code.rounds E.P b Q' k a w := by
  intro k
  induction k with
  | zero => intro m F A a w hm; omega
  | succ k ih =>
    intro m F A a w hm hI hat
    show b.wp E.P (Exit.then (Code.rounds E.P b Q' k) Q') a w
    refine step m F A hI σ0 w0 a w hat _ fun ex F' A' a' w' hq hat' => ?_
    cases ex with
    | normal => obtain ⟨m', hm', hI'⟩ := hq; exact ih m' F' A' a' w' (by omega) hI' hat'
    | exit id => exact hQ _ _ _ _ _ hq hat'
    | ret => exact hQ _ _ _ _ _ hq hat'
 exact wp_loop_rounds (m + 1) (key (m + 1) m F A a w (Nat.lt_succ_self _) h hat)
def WR (E : Env) (A0 : AH) (n : Nat) (b : Code) (Q : Post) : Nat → T Value → AH → Prop
 | 0, _, _ => False
 | k + 1, F, A => W E A0 n b (Then (WR E A0 n b Q k) Q) F A
theorem WR.next {b : Code} {k : Nat} (h : W E A0 n b (Then (WR E A0 n b Q k) Q) F A) : WR E A0 n b Q (k + 1) F A := h
theorem W.rounds {b : Code} (k : Nat) (h : WR E A0 n b Q k F A) : W E A0 n (.loop b) Q F A := by
 intro σ0 w0 a w hat Q' hQ
 have key : ∀ k F A a w, WR E A0 n b Q k F A → At E σ0 A0 w0 n F A a w → Code.rounds E.P b Q' k a w := by
  intro k
  induction k with
  | zero => intro F A a w h; exact h.elim
  | succ k ih =>
    intro F A a w h hat
    show b.wp E.P (Exit.then (Code.rounds E.P b Q' k) Q') a w
    refine h σ0 w0 a w hat _ fun ex F' A' a' w' hq hat' => ?_
    cases ex with
    | normal => exact ih F' A' a' w' hq hat'
    | exit id => exact hQ _ _ _ _ _ hq hat'
    | ret => exact hQ _ _ _ _ _ hq hat'
 exact wp_loop_rounds k (key k F A a w h hat)
theorem W.region (ok : E.Ok) {call : CallF} (hcall : CallOk E call) {id : Nat} {ops : Array Oper} (h : OL call E ops.toList n ops.toList F A (Q .normal)) : W E A0 n (.region id ops false) Q F A := by
 intro σ0 w0 a w hat Q' hQ
 obtain ⟨σ, h1, h2, h3, h4⟩ := hat
 obtain ⟨F', A', he, hq⟩ := h
 refine wp_region ?_
 have := evOps_ok ok hcall (ops := ops) (Q := Q') ops.toList 0 F F' A A' σ a w he (fun i hi => by simp) h2 h3 h1 (fun a' w' σ' q1 q2 q3 => hQ .normal F' A' a' w' hq ⟨σ', q1, q2, h3.sub (Ext.sub h2 q3), h4.trans q3⟩)
 rw [List.range_eq_range']
 simpa using this
theorem W.drawn (ok : E.Ok) {call : CallF} (hcall : CallOk E call) {id : Nat} {ops : Array Oper} {l : List Oper} {sz : Nat} {ms : List Nat} (hc : regOk E ops = true) (hl : ops.toList = l) (hsz : l.length = sz) (hms : masks l [] = ms) (hn : Nat.blt (A.next + sz + 1) 1099511627776 = true)
 (h : RL call E l ms n A.next sz l 0 ⟨F, ⟨A.t, A.next + sz⟩, [], [], []⟩ fun S => ∃ A', addAl (2 ^ sz - 1) S.als S.G = some A' ∧ Q .normal S.F A') : W E A0 n (.region id ops true) Q F A := by
 intro σ0 w0 a w hat Q' hQ
 obtain ⟨σ, h1, h2, h3, h4⟩ := hat
 obtain ⟨S, hS, A', hA', hq⟩ := h
 subst hl; subst hsz; subst hms
 have he : evReg call E ops n F A = some (S.F, A') := by
  unfold evReg
  simp only [hn, cond_true, hS, hA']
 exact evReg_ok ok hcall hc he h2 h3 h1 fun a' w' σ' q1 q2 q3 => hQ .normal S.F A' a' w' hq ⟨σ', q1, q2, h3.sub (Ext.sub h2 q3), h4.trans q3⟩
end
inductive HF : Value → Prop
 | scal {v : Value} (h : scal v = true) : HF v
 | dat {sz : Nat} {els cap : List Value} (h : ∀ x ∈ els, HF x) : HF (.func (.yield sz) ⟨els⟩ ⟨cap⟩)
 | agg {cs : List Value} (h : ∀ x ∈ cs, HF x) : HF (.agg ⟨cs⟩)
 | tuple {cs : List Value} (h : ∀ x ∈ cs, HF x) : HF (.tuple ⟨cs⟩)
 | iface {t : TypeId} {v : Value} (h : HF v) : HF (.iface t v)
theorem HF.nil : ∀ x ∈ ([] : List Value), HF x := fun x h => by simp at h
theorem HF.cons {v : Value} {l : List Value} (h : HF v) (t : ∀ x ∈ l, HF x) : ∀ x ∈ v :: l, HF x := fun x hx => by
 rcases List.mem_cons.1 hx with rfl | hx
 · exact h
 · exact t x hx
theorem VRs.split {σ : Sig} : ∀ {a b l : List Value}, VRs σ (a ++ b) l → ∃ l1 l2, l = l1 ++ l2 ∧ VRs σ a l1 ∧ VRs σ b l2
 | [], b, l, h => ⟨[], l, rfl, .nil, h⟩
 | x :: a, b, _, .cons (v' := y) hv t => by
   obtain ⟨l1, l2, rfl, h1, h2⟩ := VRs.split t
   exact ⟨y :: l1, l2, rfl, .cons hv h1, h2⟩
theorem VRs.each {σ σ' : Sig} : ∀ {l l' : List Value}, (∀ x ∈ l, ∀ v', VR σ x v' → VR σ' x v') → VRs σ l l' → VRs σ' l l'
 | _, _, _, .nil => .nil
 | _, _, h, .cons hv t => .cons (h _ (by simp) _ hv) (VRs.each (fun x hx => h x (by simp [hx])) t)
theorem VRs.eachL {σ σ' : Sig} : ∀ {els l' : List Value}, (∀ x ∈ els, ∀ v', VR σ x v' → VR σ' x v') → VRs σ (cellsL els) l' → VRs σ' (cellsL els) l'
 | [], _, _, h => by cases h; exact .nil
 | x :: els, l', h, hv => by
   rw [cellsL_cons] at hv ⊢
   obtain ⟨l1, l2, rfl, h1, h2⟩ := VRs.split hv
   refine VRs.append ?_ (VRs.eachL (fun y hy => h y (by simp [hy])) h2)
   have hx := h x (by simp)
   by_cases hag : ∃ cs : List Value, x = .agg ⟨cs⟩
   · obtain ⟨cs, rfl⟩ := hag
     have := hx (.agg ⟨l1⟩) (.agg h1)
     cases this with
     | agg h => exact h
   · have e : x.cells.toList = [x] := by
      cases x <;> first | rfl | exact absurd ⟨_, rfl⟩ hag
     rw [e] at h1 ⊢
     cases h1 with
     | cons a b => cases b; exact .cons (hx _ a) .nil
theorem HF.move {σ σ' : Sig} (hro : ∀ b o, σ.ro b = some o → σ'.ro b = some o) {v : Value} (h : HF v) : ∀ v', VR σ v v' → VR σ' v v' := by
 induction h with
 | scal h => intro v' hv; rw [scal_eq h hv]; exact scal_refl h σ'
 | dat h ih =>
   intro v' hv
   cases hv with
   | func fn hf => simp [Fn.still] at hf
   | dat h1 h2 h3 h4 => exact .dat (hro _ _ h1) h2 h3 (h4.eachL ih)
   | datN => exact .datN _
   | datE => exact .datE _ _ _
   | gp sz i j hσ =>
     have := h _ (List.mem_singleton.2 rfl)
     cases this with | scal h => exact absurd h Bool.false_ne_true
   | datP h1 h2 h3 h4 h5 => exact .datP (hro _ _ h1) h2 h3 h4 (h5.eachL ih)
 | agg h ih => intro v' hv; cases hv with | agg h => exact .agg (h.each ih)
 | tuple h ih => intro v' hv; cases hv with | tuple h => exact .tuple (h.each ih)
 | iface h ih => intro v' hv; cases hv with | iface _ h => exact .iface _ (ih _ h)
theorem HF.moves {σ σ' : Sig} (hro : ∀ b o, σ.ro b = some o → σ'.ro b = some o) {l l' : List Value} (h : ∀ x ∈ l, HF x) (hv : VRs σ l l') : VRs σ' l l' := hv.each fun x hx => (h x hx).move hro
mutual
inductive Frz (A : AH) : Value → Value → Prop
 | same {v : Value} (h : HF v) : Frz A v v
 | slice {B i n k sz : Nat} {c c2 els : List Value} (hl : look A B = some c) (hn : n * sz ≤ (c.drop i).length) (hk : n ≤ k) (hc : FrzL A ((c.drop i).take (n * sz)) c2) (he : cellsL els = c2) (hsz : ∀ x ∈ els, x.cells.size = sz) (hlen : els.length = n) : Frz A (.slice (some ⟨B, i, none⟩) n k) (.func (.yield sz) ⟨els⟩ ⟨[]⟩)
 | gsl {B o n m sz lo : Nat} {e : TypeId} {els1 tl1 els0 els c2 : List Value} (hg : A.t.get B = some (.gro els1 tl1 e)) (h0 : els1 ++ tl1 = els0) (hG : isG m = true) (hm : gsz m = sz) (hpos : 0 < sz) (ho : o = lo * sz) (hsz0 : ∀ x ∈ els0, x.cells.size = sz) (hle : lo + n ≤ els0.length) (hc : FrzL A (cellsL ((els0.drop lo).take n)) c2) (he : cellsL els = c2) (hsz : ∀ x ∈ els, x.cells.size = sz) (hlen : els.length = n) : Frz A (.slice (some ⟨B, o, none⟩) n m) (.func (.yield sz) ⟨els⟩ ⟨[]⟩)
 | nils (sz : Nat) : Frz A (.slice none 0 0) (.func (.yield sz) ⟨[]⟩ ⟨[]⟩)
 | agg {cs cs2 : List Value} (h : FrzL A cs cs2) : Frz A (.agg ⟨cs⟩) (.agg ⟨cs2⟩)
 | tuple {cs cs2 : List Value} (h : FrzL A cs cs2) : Frz A (.tuple ⟨cs⟩) (.tuple ⟨cs2⟩)
inductive FrzL (A : AH) : List Value → List Value → Prop
 | nil : FrzL A [] []
 | cons {v v2 : Value} {l l2 : List Value} (h : Frz A v v2) (t : FrzL A l l2) : FrzL A (v :: l) (v2 :: l2)
end
theorem FrzL.same {A : AH} : ∀ {l : List Value}, (∀ x ∈ l, HF x) → FrzL A l l
 | [], _ => .nil
 | x :: l, h => .cons (.same (h x (by simp))) (FrzL.same fun y hy => h y (by simp [hy]))
theorem look_obj {P : Program} {σ : Sig} {A : AH} {w : World} (R : Rel P σ A w) {B b d k : Nat} {c : List Value} (h : look A B = some c) (hσ : σ B = some (b, d, k)) :
 (∃ o, A.t.get B = some o ∧ o.here = true) ∧ ∃ c' e fz, w.heap[b]? = some (.cells c' e fz) ∧ ∀ (i : Nat) v, c[i]? = some v → ∃ v', c'[d + i]? = some v' ∧ VR σ v v' := by
 unfold look at h
 split at h
 · rename_i c0 e hg
   simp only [Option.some.injEq] at h
   subst h
   obtain ⟨b1, d1, k1, h1, c', lo, hi, h2, _, h3, _⟩ := R.obj B _ hg rfl
   rw [hσ] at h1
   simp only [Option.some.injEq, Prod.mk.injEq] at h1
   obtain ⟨rfl, rfl, rfl⟩ := h1
   exact ⟨⟨_, hg, rfl⟩, c', e, _, h2, h3⟩
 · rename_i c0 e hg
   simp only [Option.some.injEq] at h
   subst h
   obtain ⟨b1, d1, k1, h1, c', fz, h2, h3⟩ := R.obj B _ hg rfl
   rw [hσ] at h1
   simp only [Option.some.injEq, Prod.mk.injEq] at h1
   obtain ⟨rfl, rfl, rfl⟩ := h1
   exact ⟨⟨_, hg, rfl⟩, c', e, fz, h2, h3⟩
 · cases h
theorem Frz.ok {P : Program} {σ σ' : Sig} {A : AH} {w : World} (R : Rel P σ A w) (hro : ∀ b o, σ.ro b = some o → σ'.ro b = some o)
 (hown : ∀ B o x, A.t.get B = some o → o.here = true → σ B = some x → σ'.ro x.1 = w.heap[x.1]?) {v v2 : Value} (h : Frz A v v2) : ∀ v', VR σ v v' → VR σ' v2 v' := by
 refine Frz.rec (motive_1 := fun v v2 _ => ∀ v', VR σ v v' → VR σ' v2 v') (motive_2 := fun l l2 _ => ∀ l', VRs σ l l' → VRs σ' l2 l') ?_ ?_ ?_ ?_ ?_ ?_ ?_ ?_ h
 · intro v h v' hv; exact h.move hro v' hv
 · intro B i n k sz c c2 els hl hn hk hc he hsz hlen ih v' hv
   have key : ∃ b d kk cc, σ B = some (b, d, cc) ∧ v' = .slice (some ⟨b, d + i, none⟩) n kk ∧ n ≤ kk ∨ (n = 0 ∧ (v' = .slice none 0 0 ∨ ∃ a' kk, v' = .slice (some a') 0 kk)) := by
    cases hv with
    | slice _ _ _ h _ => exact ⟨_, _, _, _, .inl ⟨h, rfl, hk⟩⟩
    | sliceU _ h hn => exact ⟨_, _, _, _, .inl ⟨h, rfl, hn⟩⟩
    | sliceV _ _ _ h hn => exact ⟨_, _, _, _, .inl ⟨h, rfl, hn⟩⟩
    | sliceE a a' kk => exact ⟨0, 0, 0, 0, .inr ⟨rfl, .inr ⟨a', kk, rfl⟩⟩⟩
    | gs0 B o m a hm => cases a with
      | none => exact ⟨0, 0, 0, 0, .inr ⟨rfl, .inl rfl⟩⟩
      | some a => exact ⟨0, 0, 0, 0, .inr ⟨rfl, .inr ⟨a, 0, rfl⟩⟩⟩
    | gs lo o' n' k' m h hn hc ho hm => exact ⟨_, _, _, _, .inl ⟨h, rfl, hn⟩⟩
   obtain ⟨b, d, kk, cc, ⟨hσ, rfl, hkk⟩ | ⟨rfl, rfl | ⟨a', kk', rfl⟩⟩⟩ := key
   · obtain ⟨⟨o, ho, hh⟩, c', e, fz, hw, hcells⟩ := look_obj R hl hσ
     have hr := hown B o _ ho hh hσ
     simp only at hr
     subst hlen
     refine .dat (hr.trans hw) hsz hkk ?_
     rw [he]
     refine ih _ (VRs.of_get ?_ ?_)
     · have : ∀ (j : Nat), j < els.length * sz → ∃ v', c'[d + i + j]? = some v' := by
        intro j hj
        have hlt : i + j < c.length := by simp at hn; omega
        obtain ⟨v', h1, _⟩ := hcells (i + j) _ (List.getElem?_eq_getElem hlt)
        exact ⟨v', by rw [Nat.add_assoc]; exact h1⟩
       simp only [List.length_take, List.length_drop, Array.length_toList]
       by_cases hz : els.length * sz = 0
       · omega
       · obtain ⟨v', h1⟩ := this (els.length * sz - 1) (by omega)
         have := (Array.getElem?_eq_some_iff.1 h1).1
         simp at hn
         omega
     · intro j v hj
       rw [List.getElem?_take] at hj
       split at hj
       · rename_i hjl
         rw [List.getElem?_drop] at hj
         obtain ⟨v', h1, h2⟩ := hcells (i + j) v hj
         refine ⟨v', ?_, h2⟩
         rw [List.getElem?_take, if_pos hjl, List.getElem?_drop, Nat.add_assoc]
         simpa using h1
       · cases hj
   · have : els = [] := List.eq_nil_of_length_eq_zero hlen
     subst this
     exact .datN _
   · have : els = [] := List.eq_nil_of_length_eq_zero hlen
     subst this
     exact .datE _ _ _
 · intro B o n m sz lo e els1 tl1 els0 els c2 hg hE hG hgs hpos ho hsz0 hle hc he hsz hlen ih v' hv
   rcases gs_cases hv hG with ⟨rfl, a, rfl⟩ | ⟨b, d, c, lo', k, hσ, rfl, hn, hcap, ho'⟩
   · have : els = [] := List.eq_nil_of_length_eq_zero hlen
     subst this
     cases a with
     | none => exact .datN _
     | some a => exact .datE _ _ _
   · have hll : lo = lo' := by
      rw [hgs] at ho'
      exact Nat.eq_of_mul_eq_mul_right hpos (ho.symm.trans ho')
     subst hll
     obtain ⟨c', l0, h0, g1, g2, g3, g4, g5, g6⟩ := R.at hg rfl hσ
     rw [hE] at g3 g4 g6
     have hr := hown B _ _ hg rfl hσ
     simp only at hr
     subst ho
     subst hlen
     refine .dat (hr.trans g1) hsz hn ?_
     rw [he]
     have hcd : cellsL ((els0.drop lo).take els.length) = ((cellsL els0).drop (lo * sz)).take (els.length * sz) := by
      rw [cellsL_drop lo hsz0, cellsL_take _ (fun x hx => hsz0 x (List.mem_of_mem_drop hx))]
     have hcl := cellsL_length hsz0
     have hmul : (lo + els.length) * sz ≤ els0.length * sz := Nat.mul_le_mul_right _ hle
     rw [Nat.add_mul] at hmul
     refine ih _ (VRs.of_get ?_ ?_)
     · rw [hcd]
       simp only [List.length_take, List.length_drop, Array.length_toList, hcl]
       by_cases hz : els0.length * sz = 0
       · omega
       · obtain ⟨v', h1, _⟩ := g3 (els0.length * sz - 1) _ (List.getElem?_eq_getElem (by omega))
         have := (Array.getElem?_eq_some_iff.1 h1).1
         omega
     · intro j v hj
       rw [hcd, List.getElem?_take] at hj
       split at hj
       · rename_i hjl
         rw [List.getElem?_drop] at hj
         obtain ⟨v', h1, h2⟩ := g3 (lo * sz + j) v hj
         refine ⟨v', ?_, h2⟩
         rw [List.getElem?_take, if_pos hjl, List.getElem?_drop, Nat.add_assoc]
         simpa using h1
       · cases hj
 · intro sz v' hv; cases hv; exact .datN _
 · intro cs cs2 _ ih v' hv; cases hv with | agg h => exact .agg (ih _ h)
 · intro cs cs2 _ ih v' hv; cases hv with | tuple h => exact .tuple (ih _ h)
 · intro l' hv; cases hv; exact .nil
 · intro v v2 l l2 _ _ ih1 ih2 l' hv; cases hv with | cons a b => exact .cons (ih1 _ a) (ih2 _ b)
def Con (E : Env) (f : FuncId) (x : ExtF) : Prop := ∀ args A v A', x args A = some (v, A') → ∀ σ w args', Rel E.P σ A w → Glob E σ → VRs σ args args' →
 Calls E.P f ⟨args'⟩ w (fun e w' => ∃ v' σ', e = .returned v' ∧ VR σ' v v' ∧ Rel E.P σ' A' w' ∧ Ext σ A w σ' A' w')
inductive Cons (E : Env) : List (FuncId × ExtF) → Prop
 | nil : Cons E []
 | cons {f : FuncId} {x : ExtF} {l : List (FuncId × ExtF)} (h : Con E f x) (t : Cons E l) : Cons E ((f, x) :: l)
theorem Cons.get {E : Env} : ∀ {l : List (FuncId × ExtF)}, Cons E l → ∀ {f : FuncId} {x : ExtF}, extOf l f = some x → Con E f x
 | _, .nil, f, x, h => by simp [extOf] at h
 | _, .cons (f := g) h t, f, x, hx => by
   simp only [extOf] at hx
   cases e : Nat.beq f g with
   | true =>
     rw [e] at hx
     simp only [cond_true, Option.some.injEq] at hx
     subst hx
     obtain rfl := Nat.eq_of_beq_eq_true e
     exact h
   | false => rw [e] at hx; exact t.get hx
def Fin (E : Env) (fn : Func) (Q : Value → AH → Prop) : Post := fun ex F' A' => (ex = .normal ∨ ex = .ret) ∧ ∃ v, resultsA E A' F' fn.results.toList = some v ∧ Q v A'
theorem Fin.ret {E : Env} {fn : Func} {Q : Value → AH → Prop} {F : T Value} {A : AH} {v : Value} (h : resultsA E A F fn.results.toList = some v) (k : Q v A) : Fin E fn Q .ret F A := ⟨.inr rfl, v, h, k⟩
theorem Fin.normal {E : Env} {fn : Func} {Q : Value → AH → Prop} {F : T Value} {A : AH} {v : Value} (h : resultsA E A F fn.results.toList = some v) (k : Q v A) : Fin E fn Q .normal F A := ⟨.inl rfl, v, h, k⟩
theorem fun_calls {E : Env} (ok : E.Ok) {f : FuncId} {fn : Func} {c : Code} (hfn : E.fn f = some fn) (hbody : fn.body = some c) {args : List Value} {F : T Value} {A : AH} {Q : Value → AH → Prop}
 (hframe : mkFrame args 0 .leaf = some F) (hb : args.length ≤ fn.ntmps) (hW : W E A fn.ntmps c (Fin E fn Q) F A) {σ : Sig} {w : World} {args' : List Value} (R : Rel E.P σ A w) (hg : Glob E σ) (ha : VRs σ args args') :
 Calls E.P f ⟨args'⟩ w (fun e w' => ∃ v v' A' σ', e = .returned v' ∧ Q v A' ∧ VR σ' v v' ∧ Rel E.P σ' A' w' ∧ Ext σ A w σ' A' w') := by
 have hlen := ha.length
 have hFR : FR σ F fn.ntmps { tmps := (⟨args'⟩ : Array Value) ++ Array.replicate (fn.ntmps - (⟨args'⟩ : Array Value).size) undef, defers := [] } := by
  refine ⟨by simp; omega, fun t u0 hu0 => ?_, rfl⟩
  unfold slot at hu0
  rw [mkFrame_get hframe t] at hu0
  simp only
  rw [Array.getD_eq_getD_getElem?, Array.getElem?_append]
  by_cases ht : t < args.length
  · rw [if_pos ⟨Nat.zero_le _, by omega⟩, Nat.sub_zero] at hu0
    rw [if_pos (by simp; omega)]
    obtain ⟨u, h1, h2⟩ := ha.get hu0
    have : (⟨args'⟩ : Array Value)[t]? = some u := by simpa using h1
    rw [this]
    exact h2
  · rw [if_neg (by omega)] at hu0
    cases hu0
 refine calls_of_wp (ok.fn f fn hfn) hbody (hW σ w _ w ⟨σ, hFR, R, hg, Ext.refl _ _ _⟩ _ fun ex F' A' a' w' hq hat => ?_)
 obtain ⟨hex, v, hres, hQ⟩ := hq
 obtain ⟨σ', q1, q2, _, q3⟩ := hat
 obtain ⟨v', r1, r2⟩ := results_ok ok q2 q1 hres
 have post : a'.defers = [] ∧ ∃ u, (results fn a'.tmps).run E.P w' = .ok u w' ∧ (fun e w' => ∃ v v' A' σ', e = Ending.returned v' ∧ Q v A' ∧ VR σ' v v' ∧ Rel E.P σ' A' w' ∧ Ext σ A w σ' A' w') (.returned u) w' :=
  ⟨q1.defers, v', r1, v, v', A', σ', rfl, hQ, r2, q2, q3⟩
 rcases hex with rfl | rfl <;> exact post
def pureX (p : List Value → Option Value) : ExtF := fun args A => match p args with | some v => some (v, A) | none => none
def sigR (σ : Sig) : Sig := ⟨fun _ => none, σ.ro, fun _ => False⟩
theorem relR {P : Program} {σ : Sig} {A : AH} {w : World} (R : Rel P σ A w) : Rel P (sigR σ) ⟨.leaf, 0⟩ w :=
 ⟨fun B o h => by simp [T.get] at h, fun B B' o o' x x' h => by simp [T.get] at h, (fun B x h => by cases h), fun B h => rfl, R.ro, fun B o x h => by simp [T.get] at h, fun _ h => h.elim⟩
def sigB (σ : Sig) (w w' : World) : Sig := ⟨σ.f, fun b => if b < w.heap.size then σ.ro b else w'.heap[b]?, σ.nl⟩
theorem get_lt {w : World} {b : Nat} {o : Obj} (h : w.heap[b]? = some o) : b < w.heap.size := by
 rcases Nat.lt_or_ge b w.heap.size with h' | h'
 · exact h'
 · rw [Array.getElem?_eq_none h'] at h; cases h
theorem relB {P : Program} {σ : Sig} {A : AH} {w w' : World} (R : Rel P σ A w) (h : ∀ b, b < w.heap.size → w'.heap[b]? = w.heap[b]?) (hsz : w.heap.size ≤ w'.heap.size) : Rel P (sigB σ w w') A w' := by
 have hsub : σ.sub (sigB σ w w') := ⟨fun _ _ h => h, fun b o hb => by
  show (if b < w.heap.size then σ.ro b else w'.heap[b]?) = some o
  rw [if_pos (get_lt (R.ro b o hb))]; exact hb⟩
 refine ⟨fun B o hB hh => ?_, R.inj, fun B x hx => Nat.lt_of_lt_of_le (R.lt B x hx) hsz, R.fresh, fun b o hb => ?_, fun B o x hB ho hx => ?_, R.nl⟩
 · rcases R.obj0 B o hB hh with ⟨b, d, c, h1, h2⟩ | h1
   rotate_left
   · exact .inr h1
   refine .inl ⟨b, d, c, h1, ?_⟩
   rw [h b (R.lt B _ h1)]
   exact h2.mono hsub
 · have hb : (if b < w.heap.size then σ.ro b else w'.heap[b]?) = some o := hb
   by_cases hlt : b < w.heap.size
   · rw [if_pos hlt] at hb; rw [h b hlt]; exact R.ro b o hb
   · rw [if_neg hlt] at hb; exact hb
 · show (if x.1 < w.heap.size then σ.ro x.1 else w'.heap[x.1]?) = none
   rw [if_pos (R.lt B x hx)]; exact R.sep B o x hB ho hx
theorem extB {P : Program} {σ : Sig} {A : AH} {w w' : World} (R : Rel P σ A w) (h : ∀ b, b < w.heap.size → w'.heap[b]? = w.heap[b]?) (hsz : w.heap.size ≤ w'.heap.size) (h1 : w'.os = w.os) (h2 : w'.tape = w.tape) (h3 : w'.output = w.output) : Ext σ A w (sigB σ w w') A w' := by
 refine ⟨fun _ _ => rfl, Nat.le_refl _, hsz, fun b hb _ => h b hb, fun B o x g1 g2 g3 => .inr ⟨B, o, x, g1, g2, g3, rfl⟩, fun B o x g1 g2 g3 => .inr ⟨B, o, x, g1, g2, g3, rfl⟩, h1, h2, h3, fun b o hb => ?_, fun b o hb => ?_, fun _ _ => Iff.rfl⟩
 · show (if b < w.heap.size then σ.ro b else w'.heap[b]?) = some o
   rw [if_pos (get_lt (R.ro b o hb))]; exact hb
 · have hb : (if b < w.heap.size then σ.ro b else w'.heap[b]?) = some o := hb
   by_cases hlt : b < w.heap.size
   · rw [if_pos hlt] at hb; exact .inl hb
   · exact .inr (.inl (by omega))
def Walk (E : Env) (fn : Func) (args : List Value) (v : Value) : Prop :=
 ∃ c F, fn.body = some c ∧ Nat.ble args.length fn.ntmps = true ∧ mkFrame args 0 .leaf = some F ∧ W E ⟨.leaf, 0⟩ fn.ntmps c (Fin E fn fun v2 A2 => Frz A2 v2 v) F ⟨.leaf, 0⟩
theorem con_pure {E : Env} (ok : E.Ok) (hgl : GlOk E) {f : FuncId} {fn : Func} (hfn : E.fn f = some fn) {p : List Value → Option Value}
 (h : ∀ args v, p args = some v → (∀ x ∈ args, HF x) ∧ Walk E fn args v) : Con E f (pureX p) := by
 intro args A v A' hx σ w args' R hg ha
 unfold pureX at hx
 split at hx
 · rename_i u hp
   simp only [Option.some.injEq, Prod.mk.injEq] at hx
   obtain ⟨rfl, rfl⟩ := hx
   obtain ⟨hf, c, F, hbody, hb, hframe, hW⟩ := h args u hp
   refine (fun_calls ok hfn hbody hframe (Nat.le_of_ble_eq_true hb) hW (relR R) (fun g cs h => hg g cs h) (HF.moves (σ := σ) (σ' := sigR σ) (fun _ _ h => h) hf ha)).mono fun e w' he => ?_
   obtain ⟨v2, v', A2, σ1, rfl, hfr, h3, h4, h5⟩ := he
   have hold : ∀ b, b < w.heap.size → w'.heap[b]? = w.heap[b]? := fun b hb => h5.frame b hb fun B o x hB => by simp [T.get] at hB
   refine ⟨v', sigB σ w w', rfl, hfr.ok h4 (fun b o hb => ?_) (fun B o x hB hh hx => ?_) v' h3, relB R hold h5.size, extB R hold h5.size h5.os h5.tape h5.output⟩
   · show (if b < w.heap.size then σ.ro b else w'.heap[b]?) = some o
     rcases h5.rog b o hb with k | k | ⟨B0, o0, x0, k, _⟩
     · have k : σ.ro b = some o := k
       rw [if_pos (get_lt (R.ro b o k))]; exact k
     · rw [if_neg (by omega)]; exact h4.ro b o hb
     · simp [T.get] at k
   · show (if x.1 < w.heap.size then σ.ro x.1 else w'.heap[x.1]?) = w'.heap[x.1]?
     rcases h5.orig2 B o x hB hh hx with k | ⟨B0, o0, x0, k, _⟩
     · rw [if_neg (by omega)]
     · simp [T.get] at k
 · cases hx
theorem flats_eq {σ : Sig} : ∀ {l l' : List Value}, l.all flat = true → VRs σ l l' → l' = l
 | _, _, _, .nil => rfl
 | _, _, h, .cons hv t => by
   simp only [List.all_cons, Bool.and_eq_true] at h
   rw [flat_eq h.1 hv, flats_eq h.2 t]
theorem con_calls {E : Env} {f : FuncId} {p : List Value → Option Value}
 (h : ∀ args v, p args = some v → args.all flat = true ∧ flat v = true ∧ ∀ w, Calls E.P f ⟨args⟩ w fun e w' => e = .returned v ∧ RowKit.Below w.heap.size w w') : Con E f (pureX p) := by
 intro args A v A' hx σ w args' R hg ha
 unfold pureX at hx
 split at hx
 · rename_i u hp
   simp only [Option.some.injEq, Prod.mk.injEq] at hx
   obtain ⟨rfl, rfl⟩ := hx
   obtain ⟨hfl, hv, hc⟩ := h args u hp
   have hargs : args' = args := flats_eq hfl ha
   rw [hargs]
   refine (hc w).mono fun e w' he => ?_
   obtain ⟨he, h1, h2, h3, h4, h5⟩ := he
   exact ⟨u, sigB σ w w', he, flat_refl hv _, relB R h5 h4, extB R h5 h4 h1 h2 h3⟩
 · cases hx
theorem calls_flat {E : Env} {f : FuncId} {p : List Value → Option Value} (h : Con E f (pureX p)) {args : List Value} {v : Value} (hp : p args = some v) (hv : flat v = true) (w : World) (hgl : Glob E (sig0 w)) {args' : List Value} (ha : VRs (sig0 w) args args') :
 Calls E.P f ⟨args'⟩ w fun e w' => e = .returned v ∧ RowKit.Below w.heap.size w w' := by
 refine (h args ⟨.leaf, 0⟩ v ⟨.leaf, 0⟩ (by simp [pureX, hp]) (sig0 w) w args' (rel0 E.P w) hgl ha).mono fun e w' he => ?_
 obtain ⟨v', σ', rfl, h3, h4, h5⟩ := he
 rw [flat_eq hv h3]
 exact ⟨rfl, h5.os, h5.tape, h5.output, h5.size, fun b hb => h5.frame b hb fun B o x hB => by simp [T.get] at hB⟩
theorem Con.fewer {E : Env} {f : FuncId} {p q : List Value → Option Value} (h : Con E f (pureX p)) (hq : ∀ args v, q args = some v → p args = some v) : Con E f (pureX q) := by
 intro args A v A' hx
 refine h args A v A' ?_
 unfold pureX at hx ⊢
 split at hx
 · rename_i u hu; rw [hq _ _ hu]; exact hx
 · cases hx
variable {E : Env} {A : AH} {ρ : Operand → Option Value} {ty t t2 : TypeId} {x y : Operand}
theorem quiet_sym (hs : E.sym = true) {op : Op} {v : Value} (h : symQ E ρ op = some v) : quiet E A ρ ty op = some v := by
 unfold quiet; rw [hs]; simp only [h]
theorem quiet_quo (hs : E.sym = true) {k : IntKind} {a b : Int} (hx : ρ x = some (.int k a)) (hy : ρ y = some (.int k b)) (h : decide (b = 0) = false) : quiet E A ρ ty (.binOp .quo t x y t2) = some (.int k (k.wrap (a.tdiv b))) := by
 refine quiet_sym hs ?_
 simp [symQ, hx, hy, symBin, symI, kindEq, h]
theorem quiet_rem (hs : E.sym = true) {k : IntKind} {a b : Int} (hx : ρ x = some (.int k a)) (hy : ρ y = some (.int k b)) (h : decide (b = 0) = false) : quiet E A ρ ty (.binOp .rem t x y t2) = some (.int k (a.tmod b)) := by
 refine quiet_sym hs ?_
 simp [symQ, hx, hy, symBin, symI, kindEq, h]
theorem quiet_idx (hs : E.sym = true) {sz : Nat} {els : List Value} {k : IntKind} {n : Int} {e : TypeId} {ie : TypeInfo} (hx : ρ x = some (.func (.yield sz) ⟨els⟩ ⟨[]⟩)) (hy : ρ y = some (.int k n)) (hu : und E t = some (.slice e)) (hi : E.ti e = some ie) (hz : (Nat.beq ie.size sz && Nat.blt 0 sz) = true) (h0 : 0 ≤ n) (h1 : n < els.length) :
 quiet E A ρ ty (.indexAddr t x y) = some (.func (.yield sz) ⟨els⟩ ⟨[.int .i64 n.toNat, .int .i64 (0 : Nat)]⟩) := by
 refine quiet_sym hs ?_
 simp only [symQ, hx, hy, hu, hi, hz, h0, h1, decide_true, Bool.and_self, cond_true]
theorem quiet_load (hs : E.sym = true) {sz : Nat} {els : List Value} {i j : Int} {u v : Value} (hx : ρ x = some (.func (.yield sz) ⟨els⟩ ⟨[.int .i64 i, .int .i64 j]⟩)) (hi : nth els i.toNat = some u) (hv : ldat E t [u] 0 j.toNat = some v) : quiet E A ρ ty (.load t x) = some v := by
 refine quiet_sym hs ?_
 simp only [symQ, hx]
 rw [← hv]
 simp [ldat, hi, nth]
theorem OL.eff {call : CallF} {ops : List Oper} {n : Nat} {o : Oper} {l : List Oper} {F F' : T Value} {A A' : AH} {v : Value} {K : T Value → AH → Prop} (hw : wantA ops F o = some true) (hq : AM.quiet E A (ev E F) o.type o.op = none) (ha : allocA E (ev E F) o.op = none) (hx : effAll call E A (ev E F) o.op = some (v, A')) (hp : put n F o.dst v = some F') (k : OL call E ops n l F' A' K) : OL call E ops n (o :: l) F A K :=
 OL.op (by unfold op1; rw [hw]; simp only [opA, hq, ha, hx, hp]) k
end
end Go.AM
namespace Go.AM
open Go.RowKit Go.ChangeShapes
theorem trodAll_below {H : Type} {enc : TypeId × Value → H} {P : Program} (hl : laidOutB P = true) {W W' : World} (hb : Below W.heap.size W W') :
 ∀ {ts : List TypeId} {vs : List Value} {ds : List (DataW H)} {ps : List MemPlace}, (ts.all fun t => P.readableRec t && decide (t < P.types.size)) = true → DataW.TrodAll enc P W 0 (fun _ => true) true ts vs ds ps → (∀ x ∈ ps, x.block < W.heap.size) →
 DataW.TrodAll enc P W' 0 (fun b => decide (b < W.heap.size)) true ts vs ds ps
 | [], vs, ds, ps, _, h, _ => by
   obtain ⟨rfl, rfl, rfl⟩ := trodAll_nil h
   exact trodAll_mk0
 | t :: ts, vs, ds, ps, hr, h, hlt => by
   simp only [List.all_cons, Bool.and_eq_true, decide_eq_true_eq] at hr
   obtain ⟨v, vs', d, ds', p, q, rfl, rfl, rfl, h1, h2⟩ := trodAll_cons h
   have a := Below.trod hl hr.1.1 hr.1.2 h1 hb fun x hx => hlt x (by simp [hx])
   have b := trodAll_below hl hb (ts := ts) hr.2 h2 fun x hx => hlt x (by simp [hx])
   exact ⟨p, q, a, b, rfl⟩
theorem law_post {H : Type} {enc : TypeId × Value → H} {P : Program} {f : Func} {s : ChangeSpec} {fresh handsOn : Bool} {W W' : World} {args : Array Value} {ds : List (DataW H)} {before : List MemPlace}
 (hl : laidOutB P = true) (hr : (f.params.toList.all fun t => P.readableRec t && decide (t < P.types.size)) = true) (hv : s.vars = []) (hW : DataW.Whole enc P f.params.toList s.vars false W args.toList ds [] before)
 (hs : s.fn H (ds ++ []) = { results := [.lit (.bool true)], args := ds }) (hres : ∀ (b : Nat) (sp : Nat → Bool) (hd : Bool), DataW.TrodAll enc P W' b sp hd f.resultTypes.toList ((Value.bool true).resultList f.resultTypes.size) [.lit (.bool true)] [])
 (hb : Below W.heap.size W W') : s.post enc P f false fresh handsOn false W args (.bool true) W' := by
 have hW' := hW
 obtain ⟨p, q, hA0, hV, rfl, _, _⟩ := hW
 have hlt : ∀ x ∈ p ++ q, x.block < W.heap.size := fun x hx => hW'.lt x hx
 have hq : q = [] := by
  rw [hv] at hV
  exact (trodVars_none hV).2
 subst hq
 refine ⟨ds, [], p ++ [], [], p, [], hW', ?_, ?_, ?_, hb.frame _, fun h => by cases h⟩
 · rw [hs]; exact hres _ _ _
 · rw [hs]; exact trodAll_below hl hb hr hA0 fun x hx => hlt x (by simp [hx])
 · rw [hs, hv]; rfl
end Go.AM
namespace Go.AM
noncomputable section
mutual
inductive RV (ρ : Nat → Option Nat) : Value → Value → Prop
 | hf {v : Value} (h : HF v) : RV ρ v v
 | ptr {B B' i : Nat} (h : ρ B' = some B) : RV ρ (.pointer (some ⟨B, i, none⟩)) (.pointer (some ⟨B', i, none⟩))
 | slice {B B' i n k : Nat} (h : ρ B' = some B) : RV ρ (.slice (some ⟨B, i, none⟩) n k) (.slice (some ⟨B', i, none⟩) n k)
 | sliceE {a a' : Addr} : RV ρ (.slice (some a) 0 (unk + 2)) (.slice (some a') 0 (unk + 2))
 | nilG {B' m : Nat} (hm : unk + 3 ≤ m) : RV ρ (.slice none 0 0) (.slice (some ⟨B', 0, none⟩) 0 m)
 | map {B B' : Nat} (h : ρ B' = some B) : RV ρ (.map (some B)) (.map (some B'))
 | func {fn : Fn} {xs ys xs' ys' : List Value} (hf : Fn.still fn = true) (hx : RVs ρ xs xs') (hy : RVs ρ ys ys') : RV ρ (.func fn ⟨xs⟩ ⟨ys⟩) (.func fn ⟨xs'⟩ ⟨ys'⟩)
 | iface {t : TypeId} {v v' : Value} (h : RV ρ v v') : RV ρ (.iface t v) (.iface t v')
 | agg {xs xs' : List Value} (h : RVs ρ xs xs') : RV ρ (.agg ⟨xs⟩) (.agg ⟨xs'⟩)
 | tuple {xs xs' : List Value} (h : RVs ρ xs xs') : RV ρ (.tuple ⟨xs⟩) (.tuple ⟨xs'⟩)
inductive RVs (ρ : Nat → Option Nat) : List Value → List Value → Prop
 | nil : RVs ρ [] []
 | cons {v v' : Value} {l l' : List Value} (h : RV ρ v v') (t : RVs ρ l l') : RVs ρ (v :: l) (v' :: l')
end
def sigT (ρ : Nat → Option Nat) (σ : Sig) : Sig := ⟨fun B => (ρ B).bind σ.f, σ.ro, fun B' => ∃ B, ρ B' = some B ∧ σ.nl B⟩
theorem sigT_at {ρ : Nat → Option Nat} {σ : Sig} {B B' : Nat} {x : Nat × Nat × Nat} (h : ρ B' = some B) (hx : σ B = some x) : (sigT ρ σ) B' = some x := by
 show (ρ B').bind σ.f = some x
 rw [h]; exact hx
theorem sigT_of {ρ : Nat → Option Nat} {σ : Sig} {B' : Nat} {x : Nat × Nat × Nat} (h : (sigT ρ σ) B' = some x) : ∃ B, ρ B' = some B ∧ σ B = some x := by
 have h : (ρ B').bind σ.f = some x := h
 cases hB : ρ B' with
 | none => rw [hB] at h; cases h
 | some B => rw [hB] at h; exact ⟨B, rfl, h⟩
theorem RV.move {ρ : Nat → Option Nat} {σ : Sig} {v v1 : Value} (h : RV ρ v v1) : ∀ v', VR σ v v' → VR (sigT ρ σ) v1 v' := by
 refine RV.rec (motive_1 := fun v v1 _ => ∀ v', VR σ v v' → VR (sigT ρ σ) v1 v') (motive_2 := fun l l1 _ => ∀ l', VRs σ l l' → VRs (sigT ρ σ) l1 l') ?_ ?_ ?_ ?_ ?_ ?_ ?_ ?_ ?_ ?_ ?_ ?_ h
 · intro v h v' hv; exact HF.move (σ := σ) (σ' := sigT ρ σ) (fun _ _ h => h) h v' hv
 · intro B B' i h v' hv; cases hv with | ptr i hs => exact .ptr i (sigT_at h hs)
 · intro B B' i n k h v' hv
   cases hv with
   | slice _ _ _ hs hk => exact .slice _ _ _ (sigT_at h hs) hk
   | sliceU _ hs hn => exact .sliceU _ (sigT_at h hs) hn
   | sliceV _ _ _ hs hn => exact .sliceV _ _ _ (sigT_at h hs) hn
   | sliceE => exact .sliceE _ _ _
   | gs0 _ _ _ a hm => exact .gs0 _ _ _ a hm
   | gs lo o' n' k' m hs hn hc ho hm => exact .gs lo _ _ k' _ (sigT_at h hs) hn hc ho hm
 · intro a a' v' hv
   generalize hk : unk + 2 = k at hv
   generalize hn : (0 : Nat) = n at hv
   cases hv with
   | slice _ _ _ hs hk2 => omega
   | sliceU _ hs hn => omega
   | sliceV _ _ _ hs hn => omega
   | sliceE => exact .sliceE _ _ _
   | gs0 _ o m a hm => omega
   | gs lo o' n' k' m hs hn hc ho hm => omega
 · intro B' m hm v' hv; cases hv; exact .gs0 _ _ _ _ hm
 · intro B B' h v' hv; cases hv with | map hs => exact .map (sigT_at h hs)
 · intro fn xs ys xs' ys' hf hx hy ihx ihy v' hv
   cases hv with
   | func _ hf hx hy => exact .func _ hf (ihx _ hx) (ihy _ hy)
   | dat => simp [Fn.still] at hf
   | datN => simp [Fn.still] at hf
   | datE => simp [Fn.still] at hf
   | gp => simp [Fn.still] at hf
   | datP => simp [Fn.still] at hf
 · intro t v v1 _ ih v' hv; cases hv with | iface _ h => exact .iface _ (ih _ h)
 · intro xs xs' _ ih v' hv; cases hv with | agg h => exact .agg (ih _ h)
 · intro xs xs' _ ih v' hv; cases hv with | tuple h => exact .tuple (ih _ h)
 · intro l' hv; cases hv; exact .nil
 · intro v v1 l l1 _ _ ih1 ih2 l' hv; cases hv with | cons a b => exact .cons (ih1 _ a) (ih2 _ b)
theorem RVs.get {ρ : Nat → Option Nat} : ∀ {l l1 : List Value}, RVs ρ l l1 → ∀ {i : Nat} {v1 : Value}, l1[i]? = some v1 → ∃ v, l[i]? = some v ∧ RV ρ v v1
 | _, _, .nil, i, v, h => by simp at h
 | _, _, .cons hv t, i, v, h => by
   cases i with
   | zero => simp at h; subst h; exact ⟨_, by simp, hv⟩
   | succ i => simp at h; obtain ⟨v', h1, h2⟩ := t.get h; exact ⟨v', by simpa using h1, h2⟩
theorem RVs.hf {ρ : Nat → Option Nat} : ∀ {l : List Value}, (∀ x ∈ l, HF x) → RVs ρ l l
 | [], _ => .nil
 | x :: l, h => .cons (.hf (h x (by simp))) (RVs.hf fun y hy => h y (by simp [hy]))
inductive REs (ρ : Nat → Option Nat) : List (Value × Value × Nat) → List (Value × Value × Nat) → Prop
 | nil : REs ρ [] []
 | cons {k v v1 : Value} {b : Nat} {l l1 : List (Value × Value × Nat)} (h : RV ρ v v1) (t : REs ρ l l1) : REs ρ ((k, v, b) :: l) ((k, v1, b) :: l1)
theorem REs.move {ρ : Nat → Option Nat} {σ : Sig} : ∀ {l l1 : List (Value × Value × Nat)}, REs ρ l l1 → ∀ {l'}, ERs σ l l' → ERs (sigT ρ σ) l1 l'
 | _, _, .nil, _, .nil => .nil
 | _, _, .cons h t, _, .cons he ht => .cons ⟨he.1, h.move _ he.2.1, he.2.2⟩ (t.move ht)
inductive RO (ρ : Nat → Option Nat) : AObj → AObj → Prop
 | cells {c c1 : List Value} {e : TypeId} (h : RVs ρ c c1) : RO ρ (.cells c e) (.cells c1 e)
 | ro {c c1 : List Value} {e : TypeId} (h : RVs ρ c c1) : RO ρ (.ro c e) (.ro c1 e)
 | map {es es1 : List (Value × Value × Nat)} {k : Nat} (h : REs ρ es es1) : RO ρ (.map es k) (.map es1 k)
 | gro {els tl : List Value} {e : TypeId} (h : ∀ x ∈ cellsL (els ++ tl), HF x) : RO ρ (.gro els tl e) (.gro (glue els tl) [] e)
 | arr {els rest rest1 : List Value} {n : Nat} {e : TypeId} (h : ∀ x ∈ els, HF x) (k : RVs ρ rest rest1) : RO ρ (.arr els rest n e) (.arr els rest1 n e)
 | toArr {els rest rest1 : List Value} {n : Nat} {e : TypeId} (hl : els.length = n) (h : ∀ x ∈ els, HF x) (k : RVs ρ rest rest1) : RO ρ (.cells (els ++ rest) e) (.arr els rest1 n e)
 | dead : RO ρ .dead .dead
theorem RO.own {ρ : Nat → Option Nat} {o o1 : AObj} (h : RO ρ o o1) : o1.own = o.own := by cases h <;> rfl
theorem RO.nilOk {ρ : Nat → Option Nat} {o o1 : AObj} (h : RO ρ o o1) : o1.nilOk = o.nilOk := by cases h <;> rfl
theorem RO.here {ρ : Nat → Option Nat} {o o1 : AObj} (h : RO ρ o o1) : o1.here = o.here := by cases h <;> rfl
theorem RVs.app {ρ : Nat → Option Nat} : ∀ {l l1 r r1 : List Value}, RVs ρ l l1 → RVs ρ r r1 → RVs ρ (l ++ r) (l1 ++ r1)
 | _, _, _, _, .nil, h => h
 | _, _, _, _, .cons h t, k => .cons h (t.app k)
theorem RO.move {P : Program} {ρ : Nat → Option Nat} {σ : Sig} {ob : Option Obj} {d cp : Nat} {o o1 : AObj} (h : RO ρ o o1) (hr : OR P σ ob d cp o) : OR P (sigT ρ σ) ob d cp o1 := by
 cases h with
 | cells h =>
   obtain ⟨c', lo, hi, h1, h2, h3, h4⟩ := hr
   refine ⟨c', lo, hi, h1, h2, fun i v1 hv1 => ?_, h4⟩
   obtain ⟨v, g1, g2⟩ := h.get hv1
   obtain ⟨v', g3, g4⟩ := h3 i v g1
   exact ⟨v', g3, g2.move _ g4⟩
 | ro h =>
   obtain ⟨c', fz, h1, h3⟩ := hr
   refine ⟨c', fz, h1, fun i v1 hv1 => ?_⟩
   obtain ⟨v, g1, g2⟩ := h.get hv1
   obtain ⟨v', g3, g4⟩ := h3 i v g1
   exact ⟨v', g3, g2.move _ g4⟩
 | map h => obtain ⟨es', h1, h2⟩ := hr; exact ⟨es', h1, h.move h2⟩
 | gro h =>
   obtain ⟨c', lo, hi, h1, h2, h3, h4⟩ := hr
   refine ⟨c', lo, hi, h1, h2, fun i v hv => ?_, by rw [glue_eq, List.append_nil]; exact h4⟩
   rw [glue_eq, List.append_nil] at hv
   obtain ⟨v', g1, g2⟩ := h3 i v hv
   exact ⟨v', g1, HF.move (σ := σ) (σ' := sigT ρ σ) (fun _ _ h => h) (h v (List.mem_of_getElem? hv)) v' g2⟩
 | arr h k =>
   obtain ⟨⟨c', lo, hi, h1, h2, h3, h4⟩, h5⟩ := hr
   refine ⟨⟨c', lo, hi, h1, h2, fun i v1 hv1 => ?_, h4⟩, h5⟩
   obtain ⟨v, g1, g2⟩ := ((RVs.hf h).app k).get hv1
   obtain ⟨v', g3, g4⟩ := h3 i v g1
   exact ⟨v', g3, g2.move _ g4⟩
 | toArr hl h k =>
   obtain ⟨c', lo, hi, h1, h2, h3, h4⟩ := hr
   refine ⟨⟨c', lo, hi, h1, h2, fun i v1 hv1 => ?_, h4⟩, hl⟩
   obtain ⟨v, g1, g2⟩ := ((RVs.hf h).app k).get hv1
   obtain ⟨v', g3, g4⟩ := h3 i v g1
   exact ⟨v', g3, g2.move _ g4⟩
 | dead => exact hr
def ofL {α : Type} : List (Nat × α) → T α → Option (T α)
 | [], t => some t
 | x :: l, t => match T.set 64 t x.1 x.2 with
   | some t' => ofL l t'
   | none => none
theorem ofL_get {α : Type} : ∀ {l : List (Nat × α)} {t t' : T α}, ofL l t = some t' → ∀ {k : Nat} {x : α}, t'.get k = some x → (k, x) ∈ l ∨ t.get k = some x
 | [], t, t', h, k, x, hx => by simp only [ofL, Option.some.injEq] at h; subst h; exact .inr hx
 | y :: l, t, t', h, k, x, hx => by
   simp only [ofL] at h
   split at h
   · rename_i t1 h1
     rcases ofL_get h hx with h2 | h2
     · exact .inl (by simp [h2])
     · rw [T.get_set h1] at h2
       split at h2
       · rename_i e; cases h2; subst e; exact .inl (by simp)
       · exact .inr h2
   · cases h
def back : List (Nat × Nat) → Nat → Option Nat
 | [], _ => none
 | x :: m, B => bif Nat.beq B x.1 then some x.2 else back m B
def backOk (nx : Nat) : List (Nat × Nat) → Bool
 | [] => true
 | x :: m => Nat.blt x.1 nx && (m.all fun y => !Nat.beq x.2 y.2) && backOk nx m
theorem back_mem : ∀ {m : List (Nat × Nat)} {B' B : Nat}, back m B' = some B → (B', B) ∈ m
 | x :: m, B', B, h => by
   simp only [back, beq_eq] at h
   by_cases e : B' = x.1
   · simp only [e, decide_true, cond_true, Option.some.injEq] at h
     subst h; subst e; simp
   · simp only [e, decide_false, cond_false] at h
     exact List.mem_cons_of_mem _ (back_mem h)
theorem back_lt {nx : Nat} : ∀ {m : List (Nat × Nat)}, backOk nx m = true → ∀ {B' B : Nat}, (B', B) ∈ m → B' < nx
 | x :: m, h, B', B, hm => by
   simp only [backOk, Bool.and_eq_true, blt_eq, decide_eq_true_eq] at h
   rcases List.mem_cons.1 hm with e | e
   · subst e; exact h.1.1
   · exact back_lt h.2 e
theorem back_inj {nx : Nat} : ∀ {m : List (Nat × Nat)}, backOk nx m = true → ∀ {B1 B2 B : Nat}, back m B1 = some B → back m B2 = some B → B1 = B2
 | x :: m, h, B1, B2, B, h1, h2 => by
   simp only [backOk, Bool.and_eq_true, blt_eq, decide_eq_true_eq] at h
   have hall : ∀ y ∈ m, x.2 ≠ y.2 := fun y hy e => by
    have := List.all_eq_true.1 h.1.2 y hy
    simp [beq_eq, e] at this
   simp only [back, beq_eq] at h1 h2
   by_cases e1 : B1 = x.1
   · by_cases e2 : B2 = x.1
     · rw [e1, e2]
     · simp only [e1, decide_true, cond_true, Option.some.injEq] at h1
       simp only [e2, decide_false, cond_false] at h2
       exact absurd h1 (hall _ (back_mem h2))
   · by_cases e2 : B2 = x.1
     · simp only [e2, decide_true, cond_true, Option.some.injEq] at h2
       simp only [e1, decide_false, cond_false] at h1
       exact absurd h2 (hall _ (back_mem h1))
     · simp only [e1, e2, decide_false, cond_false] at h1 h2
       exact back_inj h.2 h1 h2
inductive RenF (m : List (Nat × Nat)) (F : T Value) : List (Nat × Value) → Prop
 | nil : RenF m F []
 | cons {t : Nat} {v v1 : Value} {l : List (Nat × Value)} (h : F.get t = some v) (r : RV (back m) v v1) (k : RenF m F l) : RenF m F ((t, v1) :: l)
inductive RenH (m : List (Nat × Nat)) (A : AH) : List (Nat × AObj) → Prop
 | nil : RenH m A []
 | cons {B B' : Nat} {o o1 : AObj} {l : List (Nat × AObj)} (hm : back m B' = some B) (h : A.t.get B = some o) (r : RO (back m) o o1) (k : RenH m A l) : RenH m A ((B', o1) :: l)
theorem RenF.mem {m : List (Nat × Nat)} {F : T Value} : ∀ {l : List (Nat × Value)}, RenF m F l → ∀ {t : Nat} {v1 : Value}, (t, v1) ∈ l → ∃ v, F.get t = some v ∧ RV (back m) v v1
 | _, .cons h r k, t, v1, hm => by
   rcases List.mem_cons.1 hm with e | e
   · cases e; exact ⟨_, h, r⟩
   · exact k.mem e
theorem RenH.mem {m : List (Nat × Nat)} {A : AH} : ∀ {l : List (Nat × AObj)}, RenH m A l → ∀ {B' : Nat} {o1 : AObj}, (B', o1) ∈ l → ∃ B o, back m B' = some B ∧ A.t.get B = some o ∧ RO (back m) o o1
 | _, .cons hB h r k, B', o1, hm => by
   rcases List.mem_cons.1 hm with e | e
   · cases e; exact ⟨_, _, hB, h, r⟩
   · exact k.mem e
def Turns (E : Env) (A0 : AH) (n : Nat) (F : T Value) (A : AH) (F1 : T Value) (A1 : AH) : Prop := ∀ σ0 w0 a w, At E σ0 A0 w0 n F A a w → At E σ0 A0 w0 n F1 A1 a w
theorem Turns.refl {E : Env} {A0 : AH} {n : Nat} {F : T Value} {A : AH} : Turns E A0 n F A F A := fun _ _ _ _ h => h
theorem Turns.renK {E : Env} {A0 : AH} {n : Nat} {F F1 : T Value} {A : AH} {t1 : T AObj} (hgl : GlOk E) (m : List (Nat × Nat)) (lf : List (Nat × Value)) (lh : List (Nat × AObj)) (nx : Nat)
 (hid : ∀ B, B < A0.next → back m B = some B) (hnx : A0.next ≤ nx) (hm : backOk nx m = true) (hf : ofL lf .leaf = some F1) (hh : ofL lh .leaf = some t1) (rf : RenF m F lf) (rh : RenH m A lh) : Turns E A0 n F A F1 ⟨t1, nx⟩ := by
 intro σ0 w0 a w ⟨σ, hF, R, hg, X⟩
 have hF1 : ∀ {t : Nat} {v1 : Value}, F1.get t = some v1 → ∃ v, F.get t = some v ∧ RV (back m) v v1 := fun h => by
  rcases ofL_get hf h with h | h
  · exact rf.mem h
  · simp [T.get] at h
 have hH1 : ∀ {B' : Nat} {o1 : AObj}, t1.get B' = some o1 → ∃ B o, back m B' = some B ∧ A.t.get B = some o ∧ RO (back m) o o1 := fun h => by
  rcases ofL_get hh h with h | h
  · exact rh.mem h
  · simp [T.get] at h
 refine ⟨sigT (back m) σ, ⟨hF.size, fun t u hu => ?_, hF.defers⟩, ⟨?_, ?_, ?_, ?_, ?_, ?_, fun B' h => ?_⟩, (fun g cs h => hg g cs h), ⟨?_, ?_, X.size, X.frame, ?_, ?_, X.os, X.tape, X.output, X.sro, X.rog, fun B hB => ?_⟩⟩
 · obtain ⟨v, h1, h2⟩ := hF1 hu
   exact h2.move _ (hF.val t v h1)
 · intro B' o1 h hhere
   obtain ⟨B, o, h1, h2, h3⟩ := hH1 h
   rcases R.obj0 B o h2 (by rw [← h3.here]; exact hhere) with ⟨b, d, c, g1, g2⟩ | ⟨g1, g2⟩
   · exact .inl ⟨b, d, c, sigT_at h1 g1, h3.move g2⟩
   · exact .inr ⟨h3.nilOk.trans g1, B, h1, g2⟩
 · intro B1 B2 o1 o2 x1 x2 h1 h2 ho hh2 hne hx1 hx2
   obtain ⟨C1, p1, a1, a2, a3⟩ := hH1 h1
   obtain ⟨C2, p2, b1, b2, b3⟩ := hH1 h2
   obtain ⟨D1, d1, d2⟩ := sigT_of hx1
   obtain ⟨D2, e1, e2⟩ := sigT_of hx2
   rw [a1] at d1; cases d1
   rw [b1] at e1; cases e1
   exact R.inj C1 C2 p1 p2 x1 x2 a2 b2 (by rw [← a3.own]; exact ho) (by rw [← b3.here]; exact hh2) (fun e => by subst e; exact hne (back_inj hm a1 b1)) d2 e2
 · intro B' x hx
   obtain ⟨B, _, h2⟩ := sigT_of hx
   exact R.lt B x h2
 · intro B' hB'
   show (back m B').bind σ.f = none
   cases hb : back m B' with
   | none => rfl
   | some B => exact absurd (back_lt hm (back_mem hb)) (by simp at hB'; omega)
 · exact R.ro
 · intro B' o1 x h ho hx
   obtain ⟨B, o, h1, h2, h3⟩ := hH1 h
   obtain ⟨D, d1, d2⟩ := sigT_of hx
   rw [h1] at d1; cases d1
   exact R.sep B o x h2 (by rw [← h3.own]; exact ho) d2
 · obtain ⟨B, h1, h2⟩ := h
   refine ⟨back_lt hm (back_mem h1), ?_⟩
   show (back m B').bind σ.f = none
   rw [h1]; exact (R.nl B h2).2
 · intro B hB
   show (back m B).bind σ.f = σ0.f B
   rw [hid B hB]; exact X.sig B hB
 · exact hnx
 · intro B' o1 x h ho hx
   obtain ⟨B, o, h1, h2, h3⟩ := hH1 h
   obtain ⟨D, d1, d2⟩ := sigT_of hx
   rw [h1] at d1; cases d1
   exact X.orig B o x h2 (by rw [← h3.own]; exact ho) d2
 · intro B' o1 x h ho hx
   obtain ⟨B, o, h1, h2, h3⟩ := hH1 h
   obtain ⟨D, d1, d2⟩ := sigT_of hx
   rw [h1] at d1; cases d1
   exact X.orig2 B o x h2 (by rw [← h3.here]; exact ho) d2
 · refine Iff.trans ⟨fun ⟨B', h1, h2⟩ => ?_, fun h => ⟨B, hid B hB, h⟩⟩ (X.snl B hB)
   rw [hid B hB] at h1
   cases h1
   exact h2
theorem Turns.ren {E : Env} {A0 : AH} {n : Nat} {F F1 : T Value} {A : AH} {t1 : T AObj} (hgl : GlOk E) (h0 : A0.next = 0) (m : List (Nat × Nat)) (lf : List (Nat × Value)) (lh : List (Nat × AObj)) (nx : Nat)
 (hm : backOk nx m = true) (hf : ofL lf .leaf = some F1) (hh : ofL lh .leaf = some t1) (rf : RenF m F lf) (rh : RenH m A lh) : Turns E A0 n F A F1 ⟨t1, nx⟩ :=
 Turns.renK hgl m lf lh nx (fun B hB => by omega) (by omega) hm hf hh rf rh
section
variable {E : Env} {A0 : AH} {n : Nat} {Q : Post} {F F1 : T Value} {A A1 : AH}
theorem Turns.trans {A2 : AH} {F2 : T Value} (h : Turns E A0 n F A F1 A1) (k : Turns E A0 n F1 A1 F2 A2) : Turns E A0 n F A F2 A2 := fun σ0 w0 a w hat => k σ0 w0 a w (h σ0 w0 a w hat)
theorem Turns.nilSlot {t m : Nat} {e : TypeId} {t1 : T AObj} (hm : unk + 3 ≤ m) (hv : F.get t = some (.slice none 0 0)) (hf : T.set 64 F t (.slice (some ⟨A.next, 0, none⟩) 0 m) = some F1) (ht : T.set FU A.t A.next (.gro [] [] e) = some t1) : Turns E A0 n F A F1 ⟨t1, A.next + 1⟩ := by
 intro σ0 w0 a w ⟨σ, hF, R, hg, X⟩
 obtain ⟨q1, q2⟩ := Rel.nilGro R ht
 have hsub := nilU_sub σ A.next
 refine ⟨nilU σ A.next, ⟨hF.size, fun t' v hv' => ?_, hF.defers⟩, q1, hg.sub hsub, X.trans q2⟩
 have hv' : F1.get t' = some v := hv'
 rw [T.get_set hf] at hv'
 split at hv'
 · rename_i e; subst e
   simp only [Option.some.injEq] at hv'
   subst hv'
   have := hF.val t' _ hv
   generalize a.tmps.getD t' undef = y at this ⊢
   cases this
   exact .gs0 _ _ _ none hm
 · exact (hF.val t' v hv').mono hsub
def sigZ (σ : Sig) (w : World) (b : Nat) : Sig := ⟨σ.f, fun b' => if b' = b then w.heap[b]? else σ.ro b', σ.nl⟩
theorem Rel.freeze {P : Program} {σ : Sig} {A : AH} {w : World} (R : Rel P σ A w) {f B b d c : Nat} {o : AObj} {t : T AObj} (hB : A.t.get B = some o) (ho : o.own = true) (hσ : σ B = some (b, d, c)) (ht : T.set f A.t B .dead = some t) :
 σ.sub (sigZ σ w b) ∧ Rel P (sigZ σ w b) ⟨t, A.next⟩ w ∧ Ext σ A w (sigZ σ w b) ⟨t, A.next⟩ w := by
 have hg := T.get_set ht
 have hsep : σ.ro b = none := R.sep B o _ hB ho hσ
 have hsub : σ.sub (sigZ σ w b) := ⟨fun _ _ h => h, fun b' o' h => by
  show (if b' = b then w.heap[b]? else σ.ro b') = some o'
  rw [if_neg (fun e => by subst e; rw [hsep] at h; cases h)]; exact h⟩
 have old : ∀ {B' : Nat} {o' : AObj}, t.get B' = some o' → o'.here = true → B' ≠ B ∧ A.t.get B' = some o' := fun {B' o'} h hh => by
  rw [hg] at h
  by_cases e : B' = B
  · rw [if_pos e] at h; simp only [Option.some.injEq] at h; subst h; simp [AObj.here] at hh
  · rw [if_neg e] at h; exact ⟨e, h⟩
 refine ⟨hsub, ⟨fun B' o' h hh => ?_, fun B1 B2 o1 o2 x x' g1 g2 ho1 hh2 hne hx hx' => ?_, R.lt, R.fresh, fun b' o' h => ?_, fun B' o' x h ho' hx => ?_, R.nl⟩,
  ⟨fun _ _ => rfl, Nat.le_refl _, Nat.le_refl _, fun _ _ _ => rfl, fun B' o' x g1 g2 g3 => .inr ⟨B', o', x, (old g1 (AObj.here_of_own g2)).2, g2, g3, rfl⟩, fun B' o' x g1 g2 g3 => .inr ⟨B', o', x, (old g1 g2).2, g2, g3, rfl⟩, rfl, rfl, rfl, fun b' o' h => hsub.ro b' o' h, fun b' o' h => ?_, fun _ _ => Iff.rfl⟩⟩
 · rcases R.obj0 B' o' (old h hh).2 hh with ⟨b1, d1, c1, k1, k2⟩ | k
   · exact .inl ⟨b1, d1, c1, k1, k2.mono hsub⟩
   · exact .inr k
 · exact R.inj B1 B2 o1 o2 x x' (old g1 (AObj.here_of_own ho1)).2 (old g2 hh2).2 ho1 hh2 hne hx hx'
 · have h : (if b' = b then w.heap[b]? else σ.ro b') = some o' := h
   split at h
   · rename_i e; subst e; exact h
   · exact R.ro b' o' h
 · obtain ⟨hne, h1⟩ := old h (AObj.here_of_own ho')
   show (if x.1 = b then w.heap[b]? else σ.ro x.1) = none
   rw [if_neg (fun e => R.inj B B' o o' _ _ hB h1 ho (AObj.here_of_own ho') (fun e => hne e.symm) hσ hx e.symm)]
   exact R.sep B' o' x h1 ho' hx
 · have h : (if b' = b then w.heap[b]? else σ.ro b') = some o' := h
   split at h
   · rename_i e; exact .inr (.inr ⟨B, o, _, hB, ho, hσ, e.symm⟩)
   · exact .inl h
theorem freezeC {P : Program} {σ : Sig} {A : AH} {w : World} (R : Rel P σ A w) {B2 n k sz : Nat} {c2 els : List Value} {e2 : TypeId} {t1 : T AObj} (h2 : A.t.get B2 = some (.cells c2 e2)) (hk : k < unk) (hnk : n ≤ k)
 (hlen : els.length = n) (hsz : ∀ x ∈ els, x.cells.size = sz) (hc : cellsL els = c2.take (n * sz)) (hn : n * sz ≤ c2.length) (ht1 : T.set FU A.t B2 .dead = some t1) :
 ∃ σ', Rel P σ' ⟨t1, A.next⟩ w ∧ Ext σ A w σ' ⟨t1, A.next⟩ w ∧ ∀ v', VR σ' (.slice (some ⟨B2, 0, none⟩) n k) v' → VR σ' (.func (.yield sz) ⟨els⟩ ⟨[]⟩) v' := by
 obtain ⟨b, d, c, hσ, ca, lo, hi, g1, g2, g3, g4, g5⟩ := R.obj B2 _ h2 rfl
 obtain ⟨hsub, R1, X1⟩ := R.freeze h2 rfl hσ ht1
 refine ⟨_, R1, X1, fun v' k2 => ?_⟩
 have hv' : v' = .slice (some ⟨b, d + 0, none⟩) n k := by
  cases k2 with
  | slice _ _ _ h _ =>
    have h : σ B2 = _ := h
    rw [hσ] at h; cases h; rfl
  | sliceU _ h _ => omega
  | sliceV _ _ _ h _ => omega
  | sliceE => omega
  | gs0 _ _ _ _ hm => omega
  | gs _ _ _ _ _ _ _ _ _ hm => omega
 subst hv'
 subst hlen
 have hro : (sigZ σ w b).ro b = some (.cells ca e2 (lo, hi)) := by show (if b = b then w.heap[b]? else σ.ro b) = _; rw [if_pos rfl]; exact g1
 refine .dat hro hsz hnk ?_
 rw [hc]
 refine VRs.mono hsub (VRs.of_get ?_ fun i v hiv => ?_)
 · simp only [List.length_take, List.length_drop, Array.length_toList]
   by_cases hz : els.length * sz = 0
   · omega
   · obtain ⟨u, h1, _⟩ := g3 (els.length * sz - 1) _ (List.getElem?_eq_getElem (by omega))
     have := (Array.getElem?_eq_some_iff.1 h1).1
     omega
 · rw [List.getElem?_take] at hiv
   split at hiv
   · rename_i hlt
     obtain ⟨u, h1, h2⟩ := g3 i v hiv
     refine ⟨u, ?_, h2⟩
     rw [List.getElem?_take, if_pos hlt, List.getElem?_drop]
     simpa using h1
   · cases hiv
theorem freezeG {P : Program} {σ : Sig} {A : AH} {w : World} (R : Rel P σ A w) {B2 n m : Nat} {els tl : List Value} {e2 : TypeId} {t1 : T AObj} (h2 : A.t.get B2 = some (.gro els tl e2)) (hG : isG m = true) (hco : P.cellsOf e2 = gsz m)
 (hlen : (els ++ tl).length = n) (ht1 : T.set FU A.t B2 .dead = some t1) :
 ∃ σ', Rel P σ' ⟨t1, A.next⟩ w ∧ Ext σ A w σ' ⟨t1, A.next⟩ w ∧ ∀ v', VR σ' (.slice (some ⟨B2, 0, none⟩) n m) v' → VR σ' (.func (.yield (gsz m)) ⟨els ++ tl⟩ ⟨[]⟩) v' := by
 have nilCase : ∀ σ' : Sig, ∀ a, (els ++ tl).length = 0 → VR σ' (.func (.yield (gsz m)) ⟨els ++ tl⟩ ⟨[]⟩) (.slice a 0 0) := fun σ' a h => by
  rw [List.eq_nil_of_length_eq_zero h]
  cases a with
  | none => exact .datN _
  | some a => exact .datE _ _ _
 rcases R.obj0 B2 _ h2 rfl with ⟨b, d, c, hσ, ca, lo, hi, g1, g2, g3, g4, g5, g6⟩ | ⟨_, hnl⟩
 · obtain ⟨hsub, R1, X1⟩ := R.freeze h2 rfl hσ ht1
   refine ⟨_, R1, X1, fun v' k2 => ?_⟩
   rcases gs_cases k2 hG with ⟨e0, a, ey⟩ | ⟨b', d', c', lo', k, hσ', ey, hn, hc, eo⟩
   · rw [ey]; exact nilCase _ a (hlen.trans e0)
   · have hσ' : σ B2 = _ := hσ'
     rw [hσ] at hσ'
     cases hσ'
     have hro : (sigZ σ w b).ro b = some (.cells ca e2 (lo, hi)) := by show (if b = b then w.heap[b]? else σ.ro b) = _; rw [if_pos rfl]; exact g1
     rw [ey, ← hlen]
     rw [hco] at g4 g5
     refine .dat hro g4 (by omega) ?_
     refine VRs.mono hsub (VRs.of_get ?_ fun i v hiv => ?_)
     · rw [cellsL_length g4]
       have hmul : (els ++ tl).length * gsz m ≤ c * gsz m := Nat.mul_le_mul_right _ g6
       simp only [List.length_take, List.length_drop, Array.length_toList]
       omega
     · obtain ⟨u, k1, k2⟩ := g3 i v hiv
       refine ⟨u, ?_, k2⟩
       have hlt : i < (els ++ tl).length * gsz m := by have := (List.getElem?_eq_some_iff.1 hiv).1; rwa [cellsL_length g4] at this
       rw [List.getElem?_take, if_pos hlt, List.getElem?_drop, Nat.add_zero]
       simpa using k1
 · refine ⟨σ, R.dead ht1, Ext.dead ht1, fun v' k2 => ?_⟩
   rcases gs_cases k2 hG with ⟨e0, a, ey⟩ | ⟨b', d', c', lo', k, hσ', ey, hn, hc, eo⟩
   · rw [ey]; exact nilCase _ a (hlen.trans e0)
   · rw [(R.nl B2 hnl).2] at hσ'; cases hσ'
theorem retellTail {P : Program} {σ : Sig} {A : AH} {w : World} (R : Rel P σ A w) {B p : Nat} {els tl tl2 : List Value} {e : TypeId} {v v2 : Value} {t : T AObj} (hB : A.t.get B = some (.gro els tl e)) (hp : (cellsL tl)[p]? = some v) (hv : ∀ v', VR σ v v' → VR σ v2 v') (hc : cellsL tl2 = (cellsL tl).set p v2)
 (hsz : ∀ x ∈ tl2, x.cells.size = P.cellsOf e) (hlen : tl2.length = tl.length) (ht : T.set FU A.t B (.gro els tl2 e) = some t) : Rel P σ ⟨t, A.next⟩ w ∧ Ext σ A w σ ⟨t, A.next⟩ w :=
 Rel.retell (o2 := .gro els tl2 e) R hB ht rfl rfl rfl (fun b3 d3 cp h => by
  obtain ⟨c', lo', hi', q1, q2, q3, q4, q5, q6⟩ := h
  refine ⟨c', lo', hi', q1, q2, fun i u hu => ?_, fun x hx => ?_, q5, by rw [List.length_append, hlen, ← List.length_append]; exact q6⟩
  · rw [cellsL_append, hc, List.getElem?_append] at hu
    have q3' := fun i v h => q3 i v h
    simp only [cellsL_append, List.getElem?_append] at q3'
    split at hu
    · rename_i hlt
      exact q3' i u (by rw [if_pos hlt]; exact hu)
    · rename_i hlt
      rw [List.getElem?_set] at hu
      split at hu
      · rename_i e
        split at hu
        · simp only [Option.some.injEq] at hu
          subst hu
          obtain ⟨v', k1, k2⟩ := q3' i v (by rw [if_neg hlt, ← e]; exact hp)
          exact ⟨v', k1, hv v' k2⟩
        · cases hu
      · exact q3' i u (by rw [if_neg hlt]; exact hu)
  · rcases List.mem_append.1 hx with hx | hx
    · exact q4 x (List.mem_append_left _ hx)
    · exact hsz x hx)
theorem Turns.nilCell {B j m : Nat} {e eb : TypeId} {c : List Value} {t1 t2 : T AObj} (hm : unk + 3 ≤ m) (hB : A.t.get B = some (.cells c eb)) (hv : c[j]? = some (.slice none 0 0)) (ht : T.set FU A.t B (.cells (c.set j (.slice (some ⟨A.next, 0, none⟩) 0 m)) eb) = some t1) (ht2 : T.set FU t1 A.next (.gro [] [] e) = some t2) :
 Turns E A0 n F A F ⟨t2, A.next + 1⟩ := by
 intro σ0 w0 a w ⟨σ, hF, R, hg, X⟩
 obtain ⟨p1, p2⟩ := Rel.retell (o2 := .cells (c.set j (.slice (some ⟨A.next, 0, none⟩) 0 m)) eb) R hB ht rfl rfl rfl (fun b d cp h => by
  obtain ⟨c', lo, hi, h1, h2, h3, h4⟩ := h
  refine ⟨c', lo, hi, h1, h2, fun i v hv2 => ?_, h4⟩
  rw [List.getElem?_set] at hv2
  split at hv2
  · rename_i e; subst e
    split at hv2
    · simp only [Option.some.injEq] at hv2
      subst hv2
      obtain ⟨v', k1, k2⟩ := h3 j _ hv
      refine ⟨v', k1, ?_⟩
      cases k2
      exact .gs0 _ _ _ none hm
    · cases hv2
  · exact h3 i v hv2)
 obtain ⟨q1, q2⟩ := Rel.nilGro (A := ⟨t1, A.next⟩) p1 ht2
 exact ⟨nilU σ A.next, hF.mono (nilU_sub σ _), q1, hg.sub (nilU_sub σ _), X.trans (p2.trans q2)⟩
theorem Turns.nilArr {B j m nn : Nat} {e eb : TypeId} {els rest : List Value} {t1 t2 : T AObj} (hm : unk + 3 ≤ m) (hB : A.t.get B = some (.arr els rest nn eb)) (hv : rest[j]? = some (.slice none 0 0)) (ht : T.set FU A.t B (.arr els (rest.set j (.slice (some ⟨A.next, 0, none⟩) 0 m)) nn eb) = some t1) (ht2 : T.set FU t1 A.next (.gro [] [] e) = some t2) :
 Turns E A0 n F A F ⟨t2, A.next + 1⟩ := by
 intro σ0 w0 a w ⟨σ, hF, R, hg, X⟩
 obtain ⟨p1, p2⟩ := Rel.retell (o2 := .arr els (rest.set j (.slice (some ⟨A.next, 0, none⟩) 0 m)) nn eb) R hB ht rfl rfl rfl (fun b d cp h => by
  obtain ⟨⟨c', lo, hi, h1, h2, h3, h4⟩, h5⟩ := h
  refine ⟨⟨c', lo, hi, h1, h2, fun i v hv2 => ?_, h4⟩, h5⟩
  have e1 : els ++ rest.set j (.slice (some ⟨A.next, 0, none⟩) 0 m) = (els ++ rest).set (els.length + j) (.slice (some ⟨A.next, 0, none⟩) 0 m) := by
   rw [List.set_append_right _ _ (by omega)]; congr 2; omega
  rw [e1, List.getElem?_set] at hv2
  split at hv2
  · rename_i e; subst e
    split at hv2
    · simp only [Option.some.injEq] at hv2
      subst hv2
      obtain ⟨v', k1, k2⟩ := h3 (els.length + j) _ (by rw [List.getElem?_append_right (by omega), show els.length + j - els.length = j by omega]; exact hv)
      refine ⟨v', k1, ?_⟩
      cases k2
      exact .gs0 _ _ _ none hm
    · cases hv2
  · exact h3 i v hv2)
 obtain ⟨q1, q2⟩ := Rel.nilGro (A := ⟨t1, A.next⟩) p1 ht2
 exact ⟨nilU σ A.next, hF.mono (nilU_sub σ _), q1, hg.sub (nilU_sub σ _), X.trans (p2.trans q2)⟩
theorem W.loopT {b : Code} (I : Nat → T Value → AH → Prop) (step : ∀ m F A, I m F A → W E A0 n b (Then (fun F' A' => ∃ m' F1 A1, m' < m ∧ I m' F1 A1 ∧ Turns E A0 n F' A' F1 A1) Q) F A) {m : Nat} (h : I m F1 A1) (ht : Turns E A0 n F A F1 A1) : W E A0 n (.loop b) Q F A := by
 intro σ0 w0 a w hat Q' hQ
 have key : ∀ k m F A a w, m < k → I m F A → At E σ0 A0 w0 n F A a w → Code.rounds E.P b Q' k a w := by
  intro k
  induction k with
  | zero => intro m F A a w hm; omega
  | succ k ih =>
    intro m F A a w hm hI hat
    show b.wp E.P (Exit.then (Code.rounds E.P b Q' k) Q') a w
    refine step m F A hI σ0 w0 a w hat _ fun ex F' A' a' w' hq hat' => ?_
    cases ex with
    | normal => obtain ⟨m', F2, A2, hm', hI', ht'⟩ := hq; exact ih m' F2 A2 a' w' (by omega) hI' (ht' _ _ _ _ hat')
    | exit id => exact hQ _ _ _ _ _ hq hat'
    | ret => exact hQ _ _ _ _ _ hq hat'
 exact wp_loop_rounds (m + 1) (key (m + 1) m F1 A1 a w (Nat.lt_succ_self _) h (ht _ _ _ _ hat))
theorem W.turns {c : Code} (ht : Turns E A0 n F A F1 A1) (k : W E A0 n c Q F1 A1) : W E A0 n c Q F A := W.turn ht k
end
def one (a : List Value) (v : Value) : List Value → Option Value := fun args => open Classical in if args = a then some v else none
theorem one_self (a : List Value) (v : Value) : one a v a = some v := by simp [one]
theorem con_one {E : Env} (ok : E.Ok) (hgl : GlOk E) {f : FuncId} {fn : Func} (hfn : E.fn f = some fn) {a : List Value} {v : Value} (hf : ∀ x ∈ a, HF x) (hw : Walk E fn a v) : Con E f (pureX (one a v)) :=
 con_pure ok hgl hfn fun args u h => by
  unfold one at h
  split at h
  · rename_i e
    cases h
    subst e
    exact ⟨hf, hw⟩
  · cases h
theorem i64_in {x : Int} (h0 : -9223372036854775808 ≤ x) (h1 : x < 9223372036854775808) : IntKind.i64.wrap x = x := by
 have e1 : (2 : Int) ^ IntKind.i64.bits = 18446744073709551616 := by decide
 have e2 : (2 : Int) ^ (IntKind.i64.bits - 1) = 9223372036854775808 := by decide
 have e3 : IntKind.i64.signed = true := rfl
 unfold IntKind.wrap
 rw [e1, e2, e3]
 simp only [Bool.true_and, decide_eq_true_eq]
 split <;> omega
end
end Go.AM
namespace Go.AM
open Go.ChangeShapes
def Opens (P : Program) (t : TypeId) (R : List Value → Prop) : Prop := ∀ {H : Type} (enc : TypeId × Value → H) (w : World) (base : Nat) (sp : Nat → Bool) (held : Bool) (fuel : Nat) (cs : List Value) (x : DataW H × List MemPlace),
 DataW.trod enc P w base sp held fuel t cs = some x → ∃ acs, R acs ∧ VRs (sig0 w) acs cs
theorem opens_int {P : Program} {t : TypeId} {k : IntKind} (ht : P.underlying t = some (.int k)) : Opens P t (fun acs => ∃ n, acs = [.int k n] ∧ (Lit.int k n).wf = true) := by
 intro H enc w base sp held fuel cs x h
 obtain ⟨n, rfl, _, hw⟩ := DataW.trod_int ht h
 exact ⟨_, ⟨n, rfl, hw⟩, .cons (.int _ _) .nil⟩
theorem addr_add {a : Addr} (h : a.spot = none) (x y : Nat) : (a.add x).add y = ⟨a.block, a.off + x + y, none⟩ := by
 obtain ⟨b, o, s⟩ := a
 simp only at h
 subst h
 unfold Addr.add
 by_cases hx : x = 0
 · subst hx
   by_cases hy : y = 0
   · simp [hy]
   · simp [hy]
 · by_cases hy : y = 0
   · simp [hx, hy]
   · simp [hx, hy]
theorem row_dat {P : Program} {w : World} {a : Addr} {len sz base : Nat} {α : Type} {ev : α → Value} (hsz : 0 < sz) (hev : ∀ x, (ev x).cells.toList.length = sz)
 (h : ∀ i, i < len → ∃ cs' x, w.cells? base (a.add (i * sz)) sz = some cs' ∧ VRs (sig0 w) (ev x).cells.toList cs') (hlen : 0 < len) :
 ∃ (c : Array Value) (e : TypeId) (fz : Nat × Nat) (xs : List α), a.spot = none ∧ w.heap[a.block]? = some (.cells c e fz) ∧ xs.length = len ∧ VRs (sig0 w) (cellsL (xs.map ev)) ((c.toList.drop a.off).take (len * sz)) := by
 have hcell : ∀ i, i < len → ∃ cs' x, (∀ j, j < sz → w.cell? ((a.add (i * sz)).add j) = cs'[j]?) ∧ cs'.length = sz ∧ VRs (sig0 w) (ev x).cells.toList cs' := fun i hi => by
  obtain ⟨cs', x, h1, h2⟩ := h i hi
  obtain ⟨g1, g2, g3⟩ := World.cells?_some h1
  exact ⟨cs', x, g3, g2, h2⟩
 obtain ⟨cs0, x0, g0, l0, _⟩ := hcell 0 hlen
 have hc0 : ∃ v, w.cell? a = some v := by
  have := g0 0 hsz
  simp only [Nat.zero_mul, Addr.add, if_true] at this
  exact ⟨cs0[0], by rw [this, List.getElem?_eq_getElem (by omega)]⟩
 obtain ⟨v0, hv0⟩ := hc0
 unfold World.cell? at hv0
 split at hv0
 case h_2 => cases hv0
 rename_i c e fz hb
 have hsp : a.spot = none := by
  split at hv0
  · cases hv0
  · rename_i hh; simpa using hh
 have hget : ∀ i j, i < len → j < sz → ∀ cs' : List Value, (∀ j, j < sz → w.cell? ((a.add (i * sz)).add j) = cs'[j]?) → c.toList[a.off + i * sz + j]? = cs'[j]? := fun i j hi hj cs' hcs => by
  rw [← hcs j hj]
  have e1 := addr_add (a := a) hsp (i * sz) j
  rw [e1]
  unfold World.cell?
  simp [hb]
 have key : ∀ k, k ≤ len → ∃ xs : List α, xs.length = k ∧ VRs (sig0 w) (cellsL (xs.map ev)) ((c.toList.drop a.off).take (k * sz)) := by
  intro k
  induction k with
  | zero => intro _; exact ⟨[], rfl, by simp [cellsL]; exact .nil⟩
  | succ k ih =>
    intro hk
    obtain ⟨xs, hl, hv⟩ := ih (by omega)
    obtain ⟨cs', x, g1, g2, g3⟩ := hcell k (by omega)
    refine ⟨xs ++ [x], by simp [hl], ?_⟩
    have e1 : cellsL ((xs ++ [x]).map ev) = cellsL (xs.map ev) ++ (ev x).cells.toList := by simp [cellsL]
    have e2 : (c.toList.drop a.off).take ((k + 1) * sz) = (c.toList.drop a.off).take (k * sz) ++ cs' := by
     rw [Nat.succ_mul, List.take_add]
     congr 1
     apply List.ext_getElem?
     intro j
     by_cases hj : j < sz
     · rw [List.getElem?_take, if_pos hj, List.getElem?_drop, List.getElem?_drop, ← hget k j (by omega) hj cs' g1]
       congr 1; omega
     · rw [List.getElem?_eq_none (by simp; omega), List.getElem?_eq_none (by omega)]
    rw [e1, e2]
    exact hv.append g3
 obtain ⟨xs, hl, hv⟩ := key len (Nat.le_refl _)
 exact ⟨c, e, fz, xs, hsp, hb, hl, hv⟩
theorem opens_slice {P : Program} {t e : TypeId} {R : List Value → Prop} {α : Type} {ev : α → Value} {sz : Nat} (ht : P.underlying t = some (.slice e)) (hc : P.cellsOf e = sz) (hsz : 0 < sz) (hev : ∀ x, (ev x).cells.toList.length = sz) (h : Opens P e R)
 (hR : ∀ acs, R acs → ∃ x, acs = (ev x).cells.toList) : Opens P t (fun acs => ∃ xs : List α, acs = [.func (.yield sz) ⟨xs.map ev⟩ ⟨[]⟩] ∧ xs.length ≤ maxLen) := by
 intro H enc w base sp held fuel cs x hx
 rcases Go.Deep.open_slice ht hx with ⟨rfl, _⟩ | ⟨a, len, cap, m, n, D, Pl, rfl, hb, hl, hm, hmm, _, hall⟩
 · exact ⟨_, ⟨[], rfl, by simp⟩, .cons (.datN _) .nil⟩
 · rw [hc] at hall
   have hle : len ≤ m := by rw [hmm]; split <;> omega
   have helem : ∀ i, i < len → ∃ cs' x, w.cells? base (a.add (i * sz)) sz = some cs' ∧ VRs (sig0 w) (ev x).cells.toList cs' := fun i hi => by
    obtain ⟨cs', h1, h2⟩ := hall i (by omega)
    obtain ⟨acs, r1, r2⟩ := h enc w base sp held n cs' _ h2
    obtain ⟨x, rfl⟩ := hR acs r1
    exact ⟨cs', x, h1, r2⟩
   by_cases h0 : len = 0
   · subst h0
     exact ⟨_, ⟨[], rfl, by simp⟩, .cons (.datE _ _ _) .nil⟩
   · obtain ⟨c, e', fz, xs, g1, g2, g3, g4⟩ := row_dat (P := P) hsz hev helem (by omega)
     refine ⟨_, ⟨xs, rfl, by omega⟩, .cons ?_ .nil⟩
     have ea : a = ⟨a.block, a.off, none⟩ := by cases a; simp_all
     rw [ea, ← g3]
     have : (sig0 w).ro a.block = some (.cells c e' fz) := g2
     have h5 := VR.dat (σ := sig0 w) (b := a.block) (o := a.off) (k := cap) (sz := sz) (e := e') (fz := fz) (c := c) (els := xs.map ev) this (fun y hy => by
      obtain ⟨z, _, rfl⟩ := List.mem_map.1 hy
      rw [← hev z]; rfl) (by simp; omega) (by simp only [List.length_map]; rw [g3]; exact g4)
     simpa using h5
theorem opens_trod {P : Program} {t : TypeId} {R : List Value → Prop} (h : Opens P t R) {H : Type} {enc : TypeId × Value → H} {w : World} {base : Nat} {sp : Nat → Bool} {held : Bool} {v : Value} {d : DataW H} {ps : List MemPlace} (hT : DataW.Trod enc P w base sp held t v d ps) : ∃ acs, R acs ∧ VRs (sig0 w) acs v.cells.toList := by
 obtain ⟨fuel, hf⟩ := hT
 exact h enc w base sp held fuel _ _ hf
theorem arg_slice {P : Program} {t e : TypeId} {α : Type} {ev : α → Value} {sz : Nat} (ht : P.underlying t = some (.slice e)) (h : Opens P t (fun acs => ∃ xs : List α, acs = [.func (.yield sz) ⟨xs.map ev⟩ ⟨[]⟩] ∧ xs.length ≤ maxLen)) {H : Type} {enc : TypeId × Value → H} {w : World} {r : Reach} {b0 base : Nat} {sp : Nat → Bool} {held : Bool} {v : Value} {d : DataW H} {ps : List MemPlace}
 (hv : Value.okWide P w r b0 t v) (hT : DataW.Trod enc P w base sp held t v d ps) : ∃ xs : List α, VR (sig0 w) (.func (.yield sz) ⟨xs.map ev⟩ ⟨[]⟩) v ∧ xs.length ≤ maxLen := by
 obtain ⟨a, len, cap, rfl⟩ := WideShapes.okWide_slice ht hv
 obtain ⟨acs, ⟨xs, rfl, hl⟩, hx⟩ := opens_trod h hT
 have e : (Value.slice a len cap).cells.toList = [.slice a len cap] := rfl
 rw [e] at hx
 cases hx with
 | cons h1 h2 => exact ⟨xs, h1, hl⟩
end Go.AM

/- A part of the proof. -/
import Derived.Test.YtgbjgffiejlooaaGreatDoorY3
import Derived.Test.YtgbjgffiejlooaaGreatDoorV
import Derived.Test.YtgbjgffiejlooaaGreatDoorRows
import Derived.KernelRfl
set_option linter.unusedVariables false
set_option linter.unusedSimpArgs false
set_option maxRecDepth 1000000
set_option maxHeartbeats 1000000
namespace Go.T9
open Go Go.AM Go.MK Go.ChangeShapes Go.Proofs.Tryz
open Go.Proofs.YtgbjgffiejlooaaGreatDoor (Rows.uptoBulk Rows.uptoBulkAll Rows.uptoSmall)
noncomputable section
theorem rd {w : World} (h : w.ShapedOpen Proofs.Tryz.prog) : ∃ m fz, w.heap[3]? = some (.cells #[.int .i64 m] 3 fz) :=
 nG (zero := #[.int .i64 0]) (t := 3) h (odt (by kernel_rfl)) (by kernel_rfl) rfl (by kernel_rfl) (by kernel_rfl) Proofs.Tryz.underlying3
theorem pm {w : World} {m : Int} {fz : Nat × Nat} (h : w.heap[3]? = some (.cells #[.int .i64 m] 3 fz)) : Glob (envM m) (sig0 w) := by
 intro g cs hg
 have hg : (bif Nat.beq g 3 then some [Value.int .i64 m] else none) = some cs := hg
 cases hb : Nat.beq g 3 with
 | false => rw [hb] at hg; cases hg
 | true =>
   rw [hb] at hg
   simp only [cond_true, osI] at hg
   subst hg
   obtain rfl := Nat.eq_of_beq_eq_true hb
   exact ⟨rfl, Nat.zero_lt_one, _, _, _, h, rfl⟩
def bkR : Bk where
 f := Rows.uptoBulk
 fs := Rows.uptoBulkAll
 str := fun _ => rfl
 agg := fun _ => rfl
 slice := fun _ _ => rfl
 nil := rfl
 none := rfl
 cons := fun _ _ => rfl
set_option maxHeartbeats 2000000
theorem SumR.mem {α : Type} {R : Nat → α → Prop} {c : Nat} {xs : List α} (h : SumR R c xs) : ∀ x ∈ xs, ∃ b, b ≤ c ∧ R b x := by
 induction h with
 | nil => intro x hx; cases hx
 | cons h t ih =>
   intro x hx
   rcases List.mem_cons.1 hx with rfl | hx
   · exact ⟨_, by omega, h⟩
   · obtain ⟨b, h1, h2⟩ := ih x hx
     exact ⟨b, by omega, h2⟩
theorem SumR.sum {α : Type} {R : Nat → α → Prop} {g : α → Nat} {c : Nat} {xs : List α} (h : SumR R c xs) (hg : ∀ b x, b ≤ c → R b x → g x ≤ b) : (xs.map g).sum ≤ c := by
 induction h with
 | nil => simp
 | @cons b c x l h t ih =>
   have h1 := hg b x (by omega) h
   have h2 := ih fun b' x' hb hR => hg b' x' (by omega) hR
   rw [List.map_cons, List.sum_cons]; omega
theorem cD (k : Nat) : OpensK bkR Proofs.Tryz.prog 9 (fun b acs => ∃ s : ByteArray, acs = [.string s] ∧ s.size < b ∧ s.size ≤ maxLen) k := iu Proofs.Tryz.underlying9 k
theorem eS (k : Nat) : OpensK bkR Proofs.Tryz.prog 3 (fun _ acs => ∃ n, acs = [.int .i64 n] ∧ (Lit.int .i64 n).wf = true) k := mt Proofs.Tryz.underlying3 k
theorem wr (k : Nat) : OpensK bkR Proofs.Tryz.prog 177 (fun b acs => ∃ x : SB × SB, acs = (pcv x).cells.toList ∧ x.1.size < b) (k + 1) :=
 (bq Proofs.Tryz.underlying177 (by kernel_rfl) (.cons (by kernel_rfl) (cD k) (.cons (by kernel_rfl) (cD k) .nil))).mono fun b acs h => by
  obtain ⟨c, hc, _, _, b1, c1, ⟨s, rfl, h1, _⟩, ⟨_, _, b2, c2, ⟨t, rfl, h2, _⟩, rfl, rfl, e2⟩, rfl, e1⟩ := h
  exact ⟨(s, t), rfl, by show s.size < b; omega⟩
theorem qY (k : Nat) : OpensK bkR Proofs.Tryz.prog 50 (fun b acs => ∃ (xs : List (SB × SB)) (c : Nat), acs = [.func (.yield 2) ⟨xs.map pcv⟩ ⟨[]⟩] ∧ xs.length ≤ maxLen ∧ SumR (fun b x => x.1.size < b) c xs ∧ c < b) (k + 1 + 1) :=
 bF (sz := 2) (ev := pcv) Proofs.Tryz.underlying50 (by kernel_rfl) (by decide) (fun _ => rfl) (wr k) (fun _ _ h => h)
theorem wo (k : Nat) : OpensK bkR Proofs.Tryz.prog 179 (fun b acs => ∃ x : TK, acs = (tkv1 x).cells.toList ∧ x.2.1.size < b ∧ x.2.2.1.size < b) (k + 1) :=
 (bq Proofs.Tryz.underlying179 (by kernel_rfl) (.cons (by kernel_rfl) (eS k) (.cons (by kernel_rfl) (cD k) (.cons (by kernel_rfl) (cD k) (.cons (by kernel_rfl) (cD k) .nil))))).mono fun b acs h => by
  obtain ⟨c, hc, _, _, b1, c1, ⟨n, rfl, _⟩, ⟨_, _, b2, c2, ⟨t, rfl, h2, _⟩, ⟨_, _, b3, c3, ⟨u, rfl, h3, _⟩, ⟨_, _, b4, c4, ⟨x, rfl, h4, _⟩, rfl, rfl, e4⟩, rfl, e3⟩, rfl, e2⟩, rfl, e1⟩ := h
  exact ⟨(n, t, u, x), rfl, by show t.size < b; omega, by show u.size < b; omega⟩
theorem qX (k : Nat) : OpensK bkR Proofs.Tryz.prog 82 (fun b acs => ∃ (xs : List TK) (c : Nat), acs = [.func (.yield 4) ⟨xs.map tkv1⟩ ⟨[]⟩] ∧ xs.length ≤ maxLen ∧ SumR (fun b x => x.2.1.size < b ∧ x.2.2.1.size < b) c xs ∧ c < b) (k + 1 + 1) :=
 bF (sz := 4) (ev := tkv1) Proofs.Tryz.underlying82 (by kernel_rfl) (by decide) (fun _ => rfl) (wo k) (fun _ _ h => h)
theorem n8 (k : Nat) : OpensK bkR Proofs.Tryz.prog 85 (fun b acs => ∃ x : TS, acs = (tsv1 x).cells.toList ∧ True) (k + 1) :=
 (bq Proofs.Tryz.underlying85 (by kernel_rfl) (.cons (by kernel_rfl) (eS k) (.cons (by kernel_rfl) (cD k) (.cons (by kernel_rfl) (cD k) (.cons (by kernel_rfl) (eS k) (.cons (by kernel_rfl) (eS k) .nil)))))).mono fun b acs h => by
  obtain ⟨c, hc, _, _, b1, c1, ⟨n, rfl, _⟩, ⟨_, _, b2, c2, ⟨t, rfl, h2, _⟩, ⟨_, _, b3, c3, ⟨u, rfl, h3, _⟩, ⟨_, _, b4, c4, ⟨x, rfl, _⟩, ⟨_, _, b5, c5, ⟨y, rfl, _⟩, rfl, rfl, e5⟩, rfl, e4⟩, rfl, e3⟩, rfl, e2⟩, rfl, e1⟩ := h
  exact ⟨(n, t, u, x, y), rfl, trivial⟩
theorem qW (k : Nat) : OpensK bkR Proofs.Tryz.prog 83 (fun b acs => ∃ (xs : List TS) (c : Nat), acs = [.func (.yield 5) ⟨xs.map tsv1⟩ ⟨[]⟩] ∧ xs.length ≤ maxLen ∧ SumR (fun b x => True) c xs ∧ c < b) (k + 1 + 1) :=
 bF (sz := 5) (ev := tsv1) Proofs.Tryz.underlying83 (by kernel_rfl) (by decide) (fun _ => rfl) (n8 k) (fun _ _ h => h)
def stvs (l : List SR) : List Value := l.map stpV
def RSl (k b : Nat) (l : List SR) : Prop := b ≤ 1048576 → (∀ r ∈ l, StN k (stpV r)) ∧ mT (k + 1) (stvs l) < b
def RSt (k b : Nat) (r : SR) : Prop := b ≤ 1048576 → StN (k + 1) (stpV r) ∧ 1 + kT (k + 1) (ksR r) ≤ b
abbrev WL := Int × List SR
def wlv (w : WL) : Value := wyv (w.1, stvs w.2)
theorem sF (ws : List WL) : ws.map wlv = wyvs (ws.map fun w => (w.1, stvs w.2)) := by unfold wyvs; rw [List.map_map]; rfl
theorem mT_lt {k : Nat} {xs : List SR} {c : Nat} (h : SumR (RSt k) c xs) (hc : c ≤ 1048576) : mT (k + 1 + 1) (stvs xs) ≤ c := by
 have := SumR.sum (g := fun r => 1 + kT (k + 1) (ksR r)) h fun b x hb hx => (hx (by omega)).2
 unfold stvs
 rw [mT, List.map_map]
 exact this
theorem ok_way {k : Nat} (h : OpensK bkR Proofs.Tryz.prog 22 (fun b acs => ∃ l : List SR, acs = [dat 19 (stvs l)] ∧ RSl k b l) k) : OpensK bkR Proofs.Tryz.prog 122 (fun b acs => ∃ x : WL, acs = (wlv x).cells.toList ∧ RSl k b x.2) (k + 1) :=
 (bq Proofs.Tryz.underlying122 (by kernel_rfl) (.cons (by kernel_rfl) (eS k) (.cons (by kernel_rfl) h .nil))).mono fun b acs h => by
  obtain ⟨c, hc, _, _, b1, c1, ⟨n, rfl, _⟩, ⟨_, _, b2, c2, ⟨t, rfl, h2⟩, rfl, rfl, e2⟩, rfl, e1⟩ := h
  refine ⟨(n, t), rfl, fun hb => ?_⟩
  obtain ⟨q1, q2⟩ := h2 (by omega)
  exact ⟨q1, by show mT (k + 1) (stvs t) < b; omega⟩
theorem wn {k : Nat} (h : OpensK bkR Proofs.Tryz.prog 22 (fun b acs => ∃ l : List SR, acs = [dat 19 (stvs l)] ∧ RSl k b l) k) : OpensK bkR Proofs.Tryz.prog 86 (fun b acs => ∃ (xs : List WL) (c : Nat), acs = [.func (.yield 2) ⟨xs.map wlv⟩ ⟨[]⟩] ∧ xs.length ≤ maxLen ∧ SumR (fun b x => RSl k b x.2) c xs ∧ c < b) k :=
 (bF (sz := 2) (ev := wlv) Proofs.Tryz.underlying86 (by kernel_rfl) (by decide) (fun _ => rfl) (ok_way h) (fun _ _ h => h)).le (by omega)
theorem kA {k : Nat} {l : List SR} (h : ∀ r ∈ l, StN k (stpV r)) : HF (dat 19 (stvs l)) := .dat fun x hx => by
 obtain ⟨r, hr, rfl⟩ := List.mem_map.1 hx
 exact (bW (h r hr)).2.1.2
theorem vo {α : Type} (l : List α) : (l.map fun _ => 1).sum = l.length := by
 induction l with
 | nil => rfl
 | cons a l ih => rw [List.map_cons, List.sum_cons, List.length_cons, ih]; omega
theorem vw {k b : Nat} {kind : Int} {name meth whr : SB} {ps : List (SB × SB)} {body val : SB} {lo hi : Int} {ts : List TK} {cs : List TS} {tr : Int} {ta tb : SB} {tx ty : Int} {thn els : List SR} {ws : List WL}
 (hP : PsP ps) (hT : TsP ts) (hm : meth.size ≤ 1048576) (hn : name.size ≤ 1048576) (h1 : ∀ r ∈ thn, StN k (stpV r)) (h2 : ∀ r ∈ els, StN k (stpV r)) (h3 : ∀ w ∈ ws, ∀ r ∈ w.2, StN k (stpV r)) (hl : ws.length ≤ 1048576)
 (hb : 1 + mT (k + 1) (stvs thn) + mT (k + 1) (stvs els) + (ws.map fun w => mT (k + 1) (stvs w.2)).sum ≤ b) :
 StN (k + 1) (stpV ⟨kind, name, meth, whr, pv ps, body, val, lo, hi, tkvs ts, tsvs cs, tr, ta, tb, tx, ty, stvs thn, stvs els, ws.map wlv⟩) ∧ 1 + kT (k + 1) (ksR ⟨kind, name, meth, whr, pv ps, body, val, lo, hi, tkvs ts, tsvs cs, tr, ta, tb, tx, ty, stvs thn, stvs els, ws.map wlv⟩) ≤ b := by
 have ek : ksR ⟨kind, name, meth, whr, pv ps, body, val, lo, hi, tkvs ts, tsvs cs, tr, ta, tb, tx, ty, stvs thn, stvs els, ws.map wlv⟩ = stvs thn :: stvs els :: ws.map fun w => stvs w.2 := by
  unfold ksR kdL
  dsimp only
  rw [sF, dj, List.map_map]; rfl
 refine ⟨⟨_, rfl, ⟨⟨ps, ts, cs, ws.map fun w => (w.1, stvs w.2), rfl, rfl, rfl, sF ws, hP, hT, hm, hn, by rw [List.length_map]; exact hl⟩, ?_⟩, ?_⟩, ?_⟩
 · refine .agg (HF.cons (HFi _ _) (HF.cons (.scal rfl) (HF.cons (.scal rfl) (HF.cons (.scal rfl) (HF.cons (.dat (eK ps)) (HF.cons (.scal rfl) (HF.cons (.scal rfl) (HF.cons (HFi _ _) (HF.cons (HFi _ _) (HF.cons (.dat (gw ts)) (HF.cons (.dat (gv cs)) (HF.cons (HFi _ _) (HF.cons (.scal rfl) (HF.cons (.scal rfl) (HF.cons (HFi _ _) (HF.cons (HFi _ _) (HF.cons (kA h1) (HF.cons (kA h2) (HF.cons (.dat fun x hx => ?_) HF.nil)))))))))))))))))))
   obtain ⟨w, hw, rfl⟩ := List.mem_map.1 hx
   exact .agg (HF.cons (HFi _ _) (HF.cons (kA (h3 w hw)) HF.nil))
 · rw [ek]
   intro x hx y hy
   rcases List.mem_cons.1 hx with rfl | hx
   · obtain ⟨r, hr, rfl⟩ := List.mem_map.1 hy; exact h1 r hr
   rcases List.mem_cons.1 hx with rfl | hx
   · obtain ⟨r, hr, rfl⟩ := List.mem_map.1 hy; exact h2 r hr
   obtain ⟨w, hw, rfl⟩ := List.mem_map.1 hx
   obtain ⟨r, hr, rfl⟩ := List.mem_map.1 hy
   exact h3 w hw r hr
 · rw [ek, gb, gb]
   have : kT (k + 1) (ws.map fun w => stvs w.2) = (ws.map fun w => mT (k + 1) (stvs w.2)).sum := by unfold kT; rw [List.map_map]; rfl
   omega
theorem wq {k : Nat} (h : OpensK bkR Proofs.Tryz.prog 22 (fun b acs => ∃ l : List SR, acs = [dat 19 (stvs l)] ∧ RSl k b l) k) : OpensK bkR Proofs.Tryz.prog 88 (fun b acs => ∃ r : SR, acs = (stpV r).cells.toList ∧ RSt k b r) (k + 1) :=
 (bq Proofs.Tryz.underlying88 (by kernel_rfl) (.cons (by kernel_rfl) (eS k) (.cons (by kernel_rfl) (cD k) (.cons (by kernel_rfl) (cD k) (.cons (by kernel_rfl) (cD k) (.cons (by kernel_rfl) ((qY k).le (by omega)) (.cons (by kernel_rfl) (cD k) (.cons (by kernel_rfl) (cD k) (.cons (by kernel_rfl) (eS k) (.cons (by kernel_rfl) (eS k) (.cons (by kernel_rfl) ((qX k).le (by omega)) (.cons (by kernel_rfl) ((qW k).le (by omega)) (.cons (by kernel_rfl) ((n8 k).le (by omega)) (.cons (by kernel_rfl) h (.cons (by kernel_rfl) h (.cons (by kernel_rfl) (wn h) .nil)))))))))))))))).mono fun b acs h => by
  obtain ⟨c, hc, h⟩ := h
  obtain ⟨_, a1, b1, d1, ⟨kind, rfl, _⟩, h, f1, e1⟩ := h
  obtain ⟨_, a2, b2, d2, ⟨name, rfl, h_name, _⟩, h, f2, e2⟩ := h
  obtain ⟨_, a3, b3, d3, ⟨meth, rfl, h_meth, _⟩, h, f3, e3⟩ := h
  obtain ⟨_, a4, b4, d4, ⟨whr, rfl, h_whr, _⟩, h, f4, e4⟩ := h
  obtain ⟨_, a5, b5, d5, ⟨ps, q_ps, rfl, _, s_ps, l_ps⟩, h, f5, e5⟩ := h
  obtain ⟨_, a6, b6, d6, ⟨body, rfl, h_body, _⟩, h, f6, e6⟩ := h
  obtain ⟨_, a7, b7, d7, ⟨val, rfl, h_val, _⟩, h, f7, e7⟩ := h
  obtain ⟨_, a8, b8, d8, ⟨lo, rfl, _⟩, h, f8, e8⟩ := h
  obtain ⟨_, a9, b9, d9, ⟨hi, rfl, _⟩, h, f9, e9⟩ := h
  obtain ⟨_, a10, b10, d10, ⟨ts, q_ts, rfl, _, s_ts, l_ts⟩, h, f10, e10⟩ := h
  obtain ⟨_, a11, b11, d11, ⟨cs, q_cs, rfl, _, s_cs, l_cs⟩, h, f11, e11⟩ := h
  obtain ⟨_, a12, b12, d12, ⟨⟨t0, t1, t2, t3, t4⟩, rfl, _⟩, h, f12, e12⟩ := h
  obtain ⟨_, a13, b13, d13, ⟨thn, rfl, r_thn⟩, h, f13, e13⟩ := h
  obtain ⟨_, a14, b14, d14, ⟨els, rfl, r_els⟩, h, f14, e14⟩ := h
  obtain ⟨_, a15, b15, d15, ⟨ws, q_ws, rfl, _, s_ws, l_ws⟩, h, f15, e15⟩ := h
  subst h f15 f14 f13 f12 f11 f10 f9 f8 f7 f6 f5 f4 f3 f2 f1
  refine ⟨⟨kind, name, meth, whr, pv ps, body, val, lo, hi, tkvs ts, tsvs cs, t0, t1, t2, t3, t4, stvs thn, stvs els, ws.map wlv⟩, rfl, fun hb => ?_⟩
  obtain ⟨g1, g2⟩ := r_thn (by omega)
  obtain ⟨g3, g4⟩ := r_els (by omega)
  have g5 := SumR.sum (g := fun w : WL => mT (k + 1) (stvs w.2)) s_ws fun b' x hb' hx => Nat.le_of_lt (hx (by omega)).2
  have g6 := SumR.sum (g := fun w : WL => 1) s_ws fun b' x hb' hx => by have := (hx (by omega)).2; omega
  have g7 : (ws.map fun w : WL => 1).sum = ws.length := vo ws
  refine vw (fun p hp => ?_) (fun t ht => ?_) (by omega) (by omega) g1 g3 (fun w hw => ?_) (by omega) (by omega)
  · obtain ⟨b', k1, k2⟩ := SumR.mem s_ps p hp; omega
  · obtain ⟨b', k1, k2, k3⟩ := SumR.mem s_ts t ht; omega
  · obtain ⟨b', k1, k2⟩ := SumR.mem s_ws w hw; exact (k2 (by omega)).1
theorem li : ∀ k, OpensK bkR Proofs.Tryz.prog 22 (fun b acs => ∃ l : List SR, acs = [dat 19 (stvs l)] ∧ RSl k b l) k
 | 0 => fun H enc w base sp held fuel cs x hf hx => by
   obtain rfl : fuel = 0 := by omega
   simp [DataW.trod] at hx
 | k + 1 => ((bF (sz := 19) (ev := stpV) Proofs.Tryz.underlying22 (by kernel_rfl) (by decide) (fun _ => rfl) (wq (li k)) (fun _ _ h => h)).le (by omega)).mono fun b acs h => by
   obtain ⟨xs, c, rfl, _, hs, hc⟩ := h
   refine ⟨xs, rfl, fun hb => ⟨fun r hr => ?_, by have := mT_lt hs (by omega); omega⟩⟩
   obtain ⟨b', k1, k2⟩ := SumR.mem hs r hr
   exact (k2 (by omega)).1
theorem arg_steps {H : Type} {enc : TypeId × Value → H} {w : World} {r : Reach} {b0 base : Nat} {sp : Nat → Bool} {held : Bool} {v : Value} {d : DataW H} {ps : List MemPlace} (hv : Value.okWide Proofs.Tryz.prog w r b0 22 v) (hT : DataW.Trod enc Proofs.Tryz.prog w base sp held 22 v d ps) (hb : Rows.uptoBulk d ≤ 1048576) :
 ∃ (n : Nat) (l : List Value), lsP n l ∧ VR (sig0 w) (dat 19 l) v := by
 obtain ⟨k, xs, h, h2⟩ := m7 (B := bkR) (ev := stpV) (S := RSl) Proofs.Tryz.underlying22 li hv hT
 obtain ⟨h3, h4⟩ := h2 hb
 refine ⟨k + 1, stvs xs, ⟨fun x hx => ?_, by have : bkR.f d ≤ 1048576 := hb; omega⟩, h⟩
 obtain ⟨r, hr, rfl⟩ := List.mem_map.1 hx
 exact h3 r hr
theorem bulk_part {H : Type} {d : DataW H} : ∀ {l : List (DataW H)}, d ∈ l → Rows.uptoBulk d ≤ Rows.uptoBulkAll l
 | [], h => by cases h
 | x :: r, h => by
   simp only [Rows.uptoBulkAll]
   cases List.mem_cons.1 h with
   | inl e => subst e; omega
   | inr e => have := bulk_part e; omega
end
end Go.T9

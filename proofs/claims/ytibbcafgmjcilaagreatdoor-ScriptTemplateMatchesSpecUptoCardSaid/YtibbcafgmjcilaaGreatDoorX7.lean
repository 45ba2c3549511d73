/- A part of the proof. -/
import Derived.Test.YtibbcafgmjcilaaGreatDoorX6
import Derived.Test.YtibbcafgmjcilaaGreatDoorRows
import Derived.KernelRfl
set_option maxRecDepth 1000000
set_option linter.unusedVariables false
set_option linter.unusedSimpArgs false
set_option maxHeartbeats 4000000
namespace Go.T9
open Go Go.AM Go.MK Go.ChangeShapes
open Go.Proofs.YtibbcafgmjcilaaGreatDoor (Rows.uptoBulk Rows.uptoBulkAll Rows.uptoSmall)
noncomputable section
theorem bulk_pos {H : Type} (d : DataW H) : 1 ≤ Rows.uptoBulk d := by
  cases d with
  | lit l => cases l <;> simp [Rows.uptoBulk]
  | nil => simp [Rows.uptoBulk]
  | ptr d => simp [Rows.uptoBulk]
  | slice elems spare => simp [Rows.uptoBulk]
  | agg parts => simp [Rows.uptoBulk]
  | iface t d => simp [Rows.uptoBulk]
  | map entries => simp [Rows.uptoBulk]
  | held h => simp [Rows.uptoBulk]
theorem bulk_part {H : Type} {d : DataW H} : ∀ {l : List (DataW H)}, d ∈ l → Rows.uptoBulk d ≤ Rows.uptoBulkAll l
  | [], h => by cases h
  | x :: r, h => by
    simp only [Rows.uptoBulkAll]
    cases List.mem_cons.1 h with
    | inl e => subst e; omega
    | inr e => have := bulk_part e; omega
theorem bulk_len {H : Type} : ∀ l : List (DataW H), l.length ≤ Rows.uptoBulkAll l
  | [] => by simp [Rows.uptoBulkAll]
  | x :: r => by have := bulk_len r; have := bulk_pos x; simp only [Rows.uptoBulkAll, List.length_cons]; omega
def OpensB (P : Program) (t : TypeId) (R : List Value → Prop) : Prop := ∀ {H : Type} (enc : TypeId × Value → H) (w : World) (base : Nat) (sp : Nat → Bool) (held : Bool) (fuel : Nat) (cs : List Value) (x : DataW H × List MemPlace),
  DataW.trod enc P w base sp held fuel t cs = some x → Rows.uptoBulk x.1 ≤ 1048576 → ∃ acs, R acs ∧ VRs (sig0 w) acs cs
theorem opensB_string {P : Program} {t : TypeId} (ht : P.underlying t = some .string) : OpensB P t (fun acs => ∃ s : SB, acs = [.string s] ∧ s.size ≤ 1048576) := by
  intro H enc w base sp held fuel cs x h hb
  obtain ⟨s, rfl, hx, hs⟩ := DataW.trod_string ht h
  refine ⟨_, ⟨s, rfl, ?_⟩, .cons (.string _) .nil⟩
  rw [hx] at hb
  have e : Rows.uptoBulk (DataW.lit (H := H) (.string s.data.toList)) = s.data.toList.length + 1 := by rw [Rows.uptoBulk]
  have hb : Rows.uptoBulk (DataW.lit (H := H) (.string s.data.toList)) ≤ 1048576 := hb
  have := tl_len s
  omega
theorem opensB_two {P : Program} {t : TypeId} {f0 f1 : Field} {R S : List Value → Prop} (ht : P.underlying t = some (.struct #[f0, f1])) (h0 : OpensB P f0.type R) (h1 : OpensB P f1.type S) (o0 : f0.offset = 0) (o1 : f1.offset = P.cellsOf f0.type) (hc : P.cellsOf t = P.cellsOf f0.type + P.cellsOf f1.type) :
    OpensB P t (fun acs => ∃ a b, R a ∧ S b ∧ acs = a ++ b) := by
  intro H enc w base sp held fuel cs x h hb
  obtain ⟨y0, y1, n, rfl, hl, g0, g1⟩ := trod_struct2 ht h
  have e0 : Rows.uptoBulk y0.1 ≤ Rows.uptoBulkAll [y0.1, y1.1] := bulk_part (by simp)
  have e1 : Rows.uptoBulk y1.1 ≤ Rows.uptoBulkAll [y0.1, y1.1] := bulk_part (by simp)
  have hb : Rows.uptoBulk (DataW.agg [y0.1, y1.1]) ≤ 1048576 := hb
  have e2 : Rows.uptoBulk (DataW.agg [y0.1, y1.1]) = Rows.uptoBulkAll [y0.1, y1.1] + 1 := by rw [Rows.uptoBulk]
  obtain ⟨a, ra, va⟩ := h0 enc w base sp held n _ y0 g0 (by omega)
  obtain ⟨b, rb, vb⟩ := h1 enc w base sp held n _ y1 g1 (by omega)
  refine ⟨a ++ b, ⟨a, b, ra, rb, rfl⟩, ?_⟩
  rw [o0, List.drop_zero] at va
  have e : cs = cs.take (P.cellsOf f0.type) ++ (cs.drop f1.offset).take (P.cellsOf f1.type) := by
    rw [o1, List.take_of_length_le (l := cs.drop _) (by rw [List.length_drop, hl, hc]; omega), List.take_append_drop]
  rw [e]
  exact va.append vb
theorem opensB_slice {P : Program} {t e : TypeId} {R : List Value → Prop} {α : Type} {ev : α → Value} {sz : Nat} (ht : P.underlying t = some (.slice e)) (hc : P.cellsOf e = sz) (hsz : 0 < sz) (hev : ∀ x, (ev x).cells.toList.length = sz) (h : OpensB P e R)
    (hR : ∀ acs, R acs → ∃ x, acs = (ev x).cells.toList) : OpensB P t (fun acs => ∃ xs : List α, acs = [.func (.yield sz) ⟨xs.map ev⟩ ⟨[]⟩] ∧ xs.length ≤ 1048576) := by
  intro H enc w base sp held fuel cs x hx hbk
  rcases Go.Deep.open_slice ht hx with ⟨rfl, _⟩ | ⟨a, len, cap, m, n, D, Pl, rfl, hb, hl, hm, hmm, rfl, hall⟩
  · exact ⟨_, ⟨[], rfl, by simp⟩, .cons (.datN _) .nil⟩
  · rw [hc] at hall
    have hle : len ≤ m := by rw [hmm]; split <;> omega
    have hbk2 : Rows.uptoBulkAll ((List.range len).map D) ≤ 1048576 := by
      have e2 : ∀ u v : List (DataW H), Rows.uptoBulk (DataW.slice u v) = Rows.uptoBulkAll u + Rows.uptoBulkAll v + 1 := fun u v => by rw [Rows.uptoBulk]
      have hbk := Nat.le_trans (Nat.le_of_eq (e2 _ _).symm) hbk
      omega
    have hlen : len ≤ 1048576 := by have := bulk_len ((List.range len).map D); simp at this; omega
    have helem : ∀ i, i < len → ∃ cs' x, w.cells? base (a.add (i * sz)) sz = some cs' ∧ VRs (sig0 w) (ev x).cells.toList cs' := fun i hi => by
      obtain ⟨cs', h1, h2⟩ := hall i (by omega)
      have hb1 : Rows.uptoBulk (D i) ≤ Rows.uptoBulkAll ((List.range len).map D) := bulk_part (List.mem_map.2 ⟨i, List.mem_range.2 hi, rfl⟩)
      obtain ⟨acs, r1, r2⟩ := h enc w base sp held n cs' _ h2 (by simp only; omega)
      obtain ⟨x, rfl⟩ := hR acs r1
      exact ⟨cs', x, h1, r2⟩
    by_cases h0 : len = 0
    · subst h0
      exact ⟨_, ⟨[], rfl, by simp⟩, .cons (.datE _ _ _) .nil⟩
    · obtain ⟨c, e', fz, xs, g1, g2, g3, g4⟩ := row_dat (P := P) hsz hev helem (by omega)
      refine ⟨_, ⟨xs, rfl, by omega⟩, .cons ?_ .nil⟩
      have ea : a = ⟨a.block, a.off, none⟩ := by cases a; simp_all
      rw [ea, ← g3]
      have : (sig0 w).ro a.block = some (.cells c e' fz) := g2
      have h5 := VR.dat (σ := sig0 w) (b := a.block) (o := a.off) (k := cap) (sz := sz) (e := e') (fz := fz) (c := c) (els := xs.map ev) this (fun y hy => by
        obtain ⟨z, _, rfl⟩ := List.mem_map.1 hy
        rw [← hev z]; rfl) (by simp; omega) (by simp only [List.length_map]; rw [g3]; exact g4)
      simpa using h5
abbrev SM := {s : SB // s.size ≤ 1048576}
theorem opensB_sm : OpensB Proofs.Tryz.prog 9 (fun acs => ∃ x : SM, acs = (Value.string x.1).cells.toList) := by
  intro H enc w base sp held fuel cs x hx hb
  obtain ⟨acs, ⟨s, rfl, hs⟩, hv⟩ := opensB_string Proofs.Tryz.underlying9 enc w base sp held fuel cs x hx hb
  exact ⟨_, ⟨⟨s, hs⟩, rfl⟩, hv⟩
def pcm (x : SM × SM) : Value := pcv (x.1.1, x.2.1)
theorem opensB_pair : OpensB Proofs.Tryz.prog 82 (fun acs => ∃ x : SM × SM, acs = (pcm x).cells.toList) := by
  intro H enc w base sp held fuel cs x hx hb
  obtain ⟨acs, ⟨_, _, ⟨a, rfl⟩, ⟨b, rfl⟩, rfl⟩, hv⟩ := opensB_two Proofs.Tryz.underlying82 opensB_sm opensB_sm (by kernel_rfl) (by kernel_rfl) (by kernel_rfl) enc w base sp held fuel cs x hx hb
  exact ⟨_, ⟨(a, b), rfl⟩, hv⟩
theorem opensB_vars : OpensB Proofs.Tryz.prog 36 (fun acs => ∃ xs : List (SM × SM), acs = [.func (.yield 2) ⟨xs.map pcm⟩ ⟨[]⟩] ∧ xs.length ≤ 1048576) :=
  opensB_slice (sz := 2) (ev := pcm) Proofs.Tryz.underlying36 (by kernel_rfl) (by decide) (fun _ => rfl) opensB_pair (fun _ h => h)
theorem arg_vars {H : Type} {enc : TypeId × Value → H} {w : World} {r : Reach} {b0 base : Nat} {sp : Nat → Bool} {held : Bool} {v : Value} {d : DataW H} {ps : List MemPlace} (hv : Value.okWide Proofs.Tryz.prog w r b0 36 v) (hT : DataW.Trod enc Proofs.Tryz.prog w base sp held 36 v d ps) (hb : Rows.uptoBulk d ≤ 1048576) :
    ∃ l : List (SB × SB), SmP l ∧ VR (sig0 w) (dat 2 (pv l)) v := by
  obtain ⟨a, len, cap, rfl⟩ := WideShapes.okWide_slice Proofs.Tryz.underlying36 hv
  obtain ⟨fuel, hf⟩ := hT
  obtain ⟨acs, ⟨xs, rfl, hl⟩, hx⟩ := opensB_vars enc w base sp held fuel _ _ hf hb
  have e : (Value.slice a len cap).cells.toList = [.slice a len cap] := rfl
  rw [e] at hx
  cases hx with
  | cons h1 h2 =>
    refine ⟨xs.map fun x => (x.1.1, x.2.1), ⟨by rw [List.length_map]; exact hl, fun p hp => ?_⟩, ?_⟩
    · obtain ⟨x, _, rfl⟩ := List.mem_map.1 hp; exact ⟨x.1.2, x.2.2⟩
    · have e1 : pv (xs.map fun x => (x.1.1, x.2.1)) = xs.map pcm := by unfold pv; rw [List.map_map]; rfl
      rw [e1]; exact h1
end
end Go.T9

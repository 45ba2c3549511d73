/- A part of the proof. -/
import Derived.Test.YtgbjgffiejlooaaGreatDoorX2
import Derived.KernelRfl
import Derived.Test.YtgbjgffiejlooaaGreatDoorU1
import Derived.Test.YtgbjgffiejlooaaGreatDoorV
set_option linter.unusedVariables false
set_option linter.unusedSimpArgs false
set_option maxRecDepth 1000000
set_option maxHeartbeats 4000000
namespace Go.T9
open Go Go.AM Go.MK Go.Proofs.Tryz
noncomputable section
def tabR1 : Tab := [(172, aj pcPre pcX), (124, aj (fun _ => none) qcX)]
theorem qi : TabOk envX tabR1 := .cons pc_tab (.cons qc_tab .nil)
def XR1 : SX := ⟨envX, tabR1, elA, fun _ => .unroll 0⟩
theorem uh : XR1.Ok := ⟨ag, aw, ah, qi⟩
def jCt (K : KV) (s : SB) : Prop := sxFn XR1 2 f119 [.string s] K
def jRt (K : KV) (s : SB) : Prop := sxFn XR1 2 f71 [.string s] K
theorem jCt_nf (K : KV) (s : SB) : jCt K s = (Sp (decide (1000000 < (s.size : Int))) (K (Vt [Vi 0, Vi 3]) (AH.mk Lf 0)) (s.size ≤ 1000000 ∧ Sp (decide (0 ≤ Prod.snd (pcs s 0 [] []))) (K (Vt [Vi (Prod.snd (pcs s 0 [] [])), Vi 6]) (AH.mk Lf 0)) (K (Vt [Vi 0, Vi 0]) (AH.mk Lf 0)))) := by kernel_rfl
theorem jRt_nf (K : KV) (s : SB) : jRt K s = (K (Vt [Vi (qA s), Vi (qE s)]) (AH.mk Lf 0)) := by kernel_rfl
theorem zC (s : SB) : Walk envX f119 [.string s] (.tuple ⟨[.int .i64 (qA s), .int .i64 (qE s)]⟩) := by
 refine be uh (d := 2) ((jCt_nf _ s).mpr ?_)
 have HT : ∀ a b : Int, HF (.tuple ⟨[.int .i64 a, .int .i64 b]⟩) := fun a b => .tuple (HF.cons (HFi _ _) (HF.cons (HFi _ _) HF.nil))
 refine Sp.intro (fun c => ?_) (fun c => ⟨by have := odf c; omega, Sp.intro (fun c2 => ?_) (fun c2 => ?_)⟩)
 · have e : (.tuple ⟨[.int .i64 (qA s), .int .i64 (qE s)]⟩ : Value) = .tuple ⟨[.int .i64 0, .int .i64 3]⟩ := by unfold qA qE; rw [c]; rfl
   rw [e]; exact .same (HT _ _)
 · have h : decide ((pcs s 0 [] []).2 < 0) = false := by have := odt c2; simp; omega
   have e : (.tuple ⟨[.int .i64 (qA s), .int .i64 (qE s)]⟩ : Value) = .tuple ⟨[.int .i64 (pcs s 0 [] []).2, .int .i64 6]⟩ := by unfold qA qE; rw [c, h]; rfl
   rw [e]; exact .same (HT _ _)
 · have h : decide ((pcs s 0 [] []).2 < 0) = true := by have := odf c2; simp; omega
   have e : (.tuple ⟨[.int .i64 (qA s), .int .i64 (qE s)]⟩ : Value) = .tuple ⟨[.int .i64 0, .int .i64 0]⟩ := by unfold qA qE; rw [c, h]; rfl
   rw [e]; exact .same (HT _ _)
theorem vM (s : SB) : Walk envX f71 [.string s] (.tuple ⟨[.int .i64 (qA s), .int .i64 (qE s)]⟩) := by
 refine be uh (d := 2) ((jRt_nf _ s).mpr ?_)
 exact .same (.tuple (HF.cons (HFi _ _) (HF.cons (HFi _ _) HF.nil)))
def ctX : List Value → Option Value
 | [.string s] => some (.tuple ⟨[.int .i64 (qA s), .int .i64 (qE s)]⟩)
 | _ => none
theorem po : ∀ args A p v A', aj (fun _ => none) ctX args A = some (p, v, A') → PH p → an envX 119 args A v A' := ai ag ah (fn := f119) rfl fun args v h hp => by
 unfold ctX at h
 split at h
 · simp only [osI] at h
   subst h
   exact ⟨HF.cons (.scal rfl) HF.nil, zC _⟩
 · cases h
theorem nI : ∀ args A p v A', aj (fun _ => none) ctX args A = some (p, v, A') → PH p → an envX 71 args A v A' := ai ag ah (fn := f71) rfl fun args v h hp => by
 unfold ctX at h
 split at h
 · simp only [osI] at h
   subst h
   exact ⟨HF.cons (.scal rfl) HF.nil, vM _⟩
 · cases h
def paAt (els : List Value) (i : Int) : SB := match nth els i.toNat with | some (.agg ⟨[.string a, .string b]⟩) => a | _ => ByteArray.empty
def pbAt (els : List Value) (i : Int) : SB := match nth els i.toNat with | some (.agg ⟨[.string a, .string b]⟩) => b | _ => ByteArray.empty
theorem k7 {l : List (SB × SB)} {i : Nat} (h : i < l.length) : nth (pv l) i = some (.agg ⟨[.string l[i].1, .string l[i].2]⟩) := by
 rw [aI]; simp [pv, pcv, List.getElem?_eq_getElem h]
theorem pa_at {l : List (SB × SB)} {i : Nat} (h : i < l.length) : paAt (pv l) (i : Int) = l[i].1 := by simp only [paAt, Int.toNat_natCast, k7 h]
theorem pb_at {l : List (SB × SB)} {i : Nat} (h : i < l.length) : pbAt (pv l) (i : Int) = l[i].2 := by simp only [pbAt, Int.toNat_natCast, k7 h]
end
end Go.T9
namespace Go.T9
open Go Go.AM Go.MK
noncomputable section
theorem aR (s : SB) : s.data.toList.length = s.size := by simp
theorem dR (l : List UInt8) : (aa l).size = l.length := by simp [aa, ByteArray.size]
theorem SpTr {p q : Prop} : Sp true p q = p := rfl
theorem SpFa {p q : Prop} : Sp false p q = q := rfl
theorem ju (w : World) : Glob envX (sig0 w) := fun g cs h => by cases h
abbrev LB := List (List UInt8)
def stv (ks : LB) : List Value := ks.map fun k => Value.string (aa k)
theorem eI (ks : LB) : ∀ x ∈ stv ks, HF x := fun x hx => by obtain ⟨p, _, rfl⟩ := List.mem_map.1 hx; exact .scal rfl
theorem bv (ks : LB) : (stv ks).length = ks.length := by simp [stv]
def hN (els : List Value) : AH := ⟨Nd Lf (some (.gro els [] 9)) Lf, 1⟩
theorem fG {ks : LB} {k : Nat} (h : k < ks.length) : nth (stv ks) k = some (.string (aa ks[k])) := by
 rw [aI]; simp [stv, List.getElem?_eq_getElem h]
theorem nv {ks : LB} {k : Nat} (h : k < ks.length) : bX (stv ks) (k : Int) = aa ks[k] := by simp only [bX, Int.toNat_natCast, fG h]
theorem iz (l : List UInt8) : (aa l).data.toList = l := by simp [aa]
theorem qM (ks : LB) : ∀ x ∈ ao (stv ks ++ []), HF x := fun x hx => by
 rw [List.append_nil] at hx
 obtain ⟨y, hy, hxy⟩ := List.mem_flatMap.1 hx
 obtain ⟨p, _, rfl⟩ := List.mem_map.1 hy
 have : x = .string (aa p) := by simpa [Value.cells] using hxy
 rw [this]; exact .scal rfl
def unL (els : List Value) : LB := els.map fun v => match v with | .string s => s.data.toList | _ => []
theorem iQ (ks : LB) : unL (stv ks) = ks := by
 unfold unL stv
 rw [List.map_map]
 exact (List.map_congr_left fun x _ => iz x).trans (List.map_id _)
theorem tP {A : AH} {B n : Nat} {els tl : List Value} {e : TypeId} {l : LB} (hg : A.t.get B = some (.gro els tl e)) (h0 : els ++ tl = stv l) (hn : n ≤ l.length) : Frz A (.slice (some ⟨B, 0, none⟩) n (unk + 3 + 1)) (.func (.yield 1) ⟨stv (l.take n)⟩ ⟨[]⟩) := by
 have hsz : ∀ x ∈ stv l, x.cells.size = 1 := fun x hx => by obtain ⟨p, _, rfl⟩ := List.mem_map.1 hx; rfl
 have ht : ((stv l).drop 0).take n = stv (l.take n) := by rw [List.drop_zero]; unfold stv; rw [List.map_take]
 refine .gsl (lo := 0) (els0 := stv l) (c2 := ao (stv (l.take n))) hg h0 (by kernel_rfl) (by kernel_rfl) (by decide) rfl hsz (by rw [bv]; omega) ?_ rfl (fun x hx => by obtain ⟨p, _, rfl⟩ := List.mem_map.1 hx; rfl) (by rw [bv, List.length_take]; omega)
 rw [ht]
 exact FrzL.same fun x hx => qM (l.take n) x (by rw [List.append_nil]; exact hx)
theorem gy (ks : LB) : HF (dat 1 (stv ks)) := .dat (eI ks)
end
end Go.T9

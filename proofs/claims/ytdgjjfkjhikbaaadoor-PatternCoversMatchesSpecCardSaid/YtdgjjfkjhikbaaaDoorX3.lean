/- A part of the proof. -/
import Derived.Test.YtdgjjfkjhikbaaaDoorX2
set_option linter.unusedVariables false
set_option linter.unusedSimpArgs false
set_option maxRecDepth 1000000
namespace Go.T9
open Go Go.AM Go.MK
noncomputable section
theorem jCv_nf (K : KV) (x : Bool) (y : Bool) : jCv K x y = (Sp y (K (Value.bool !x) (AH.mk Lf 0)) (K (Value.bool false) (AH.mk Lf 0))) := by kernel_rfl
theorem jSp_nf (K : KV) (x y c s : Int) (acc : List Bool) (nx : List (List Int)) (s2 : Int) (acc2 : List Bool) (nx2 : List (List Int)) : jSp K x y c s acc nx s2 acc2 nx2 = ((0 ≤ x ∧ x < (↑(List.length (roV nx)) : Int)) ∧ nth (roV nx) (Int.toNat (↑(Int.toNat x) : Int)) = some (Vd 1 (rowAt (roV nx) (↑(Int.toNat x) : Int))) ∧ (0 ≤ c ∧ c < (↑(List.length (rowAt (roV nx) (↑(Int.toNat x) : Int))) : Int)) ∧ nth (rowAt (roV nx) (↑(Int.toNat x) : Int)) (Int.toNat (↑(Int.toNat c) : Int)) = some (Vi (intAt (rowAt (roV nx) (↑(Int.toNat x) : Int)) (↑(Int.toNat c) : Int))) ∧ (0 ≤ y ∧ y < (↑(List.length (roV nx2)) : Int)) ∧ nth (roV nx2) (Int.toNat (↑(Int.toNat y) : Int)) = some (Vd 1 (rowAt (roV nx2) (↑(Int.toNat y) : Int))) ∧ (0 ≤ c ∧ c < (↑(List.length (rowAt (roV nx2) (↑(Int.toNat y) : Int))) : Int)) ∧ nth (rowAt (roV nx2) (↑(Int.toNat y) : Int)) (Int.toNat (↑(Int.toNat c) : Int)) = some (Vi (intAt (rowAt (roV nx2) (↑(Int.toNat y) : Int)) (↑(Int.toNat c) : Int))) ∧ K (Value.agg (Array.mk [Vi (intAt (rowAt (roV nx) (↑(Int.toNat x) : Int)) (↑(Int.toNat c) : Int)), Vi (intAt (rowAt (roV nx2) (↑(Int.toNat y) : Int)) (↑(Int.toNat c) : Int))])) (AH.mk (Nd (Nd (Nd Lf (some (AObj.cells [Vi (intAt (rowAt (roV nx) (↑(Int.toNat x) : Int)) (↑(Int.toNat c) : Int)), Vi (intAt (rowAt (roV nx2) (↑(Int.toNat y) : Int)) (↑(Int.toNat c) : Int))] 125)) Lf) (some (AObj.cells [Vi s2, Vd 1 (blV acc2), Vd 1 (roV nx2)] 29)) Lf) (some (AObj.cells [Vi s, Vd 1 (blV acc), Vd 1 (roV nx)] 29)) (Nd Lf (some (AObj.cells [Vi x, Vi y] 125)) Lf)) 24)) := by kernel_rfl
theorem jSs_nf (K : KV) (x y c s : Int) (acc : List Bool) (nx : List (List Int)) : jSs K x y c s acc nx = ((0 ≤ x ∧ x < (↑(List.length (roV nx)) : Int)) ∧ nth (roV nx) (Int.toNat (↑(Int.toNat x) : Int)) = some (Vd 1 (rowAt (roV nx) (↑(Int.toNat x) : Int))) ∧ (0 ≤ c ∧ c < (↑(List.length (rowAt (roV nx) (↑(Int.toNat x) : Int))) : Int)) ∧ nth (rowAt (roV nx) (↑(Int.toNat x) : Int)) (Int.toNat (↑(Int.toNat c) : Int)) = some (Vi (intAt (rowAt (roV nx) (↑(Int.toNat x) : Int)) (↑(Int.toNat c) : Int))) ∧ K (Value.agg (Array.mk [Vi (intAt (rowAt (roV nx) (↑(Int.toNat x) : Int)) (↑(Int.toNat c) : Int)), Vi 0])) (AH.mk (Nd (Nd Lf (some (AObj.cells [Vi x, Vi y] 125)) Lf) (some (AObj.cells [Vi s, Vd 1 (blV acc), Vd 1 (roV nx)] 29)) (Nd Lf (some (AObj.cells [Vi (intAt (rowAt (roV nx) (↑(Int.toNat x) : Int)) (↑(Int.toNat c) : Int)), Vi 0] 125)) Lf)) 3)) := by kernel_rfl
theorem jAs_nf (K : KV) (x y s : Int) (acc : List Bool) (nx : List (List Int)) : jAs K x y s acc nx = ((0 ≤ x ∧ x < (↑(List.length (blV acc)) : Int)) ∧ nth (blV acc) (Int.toNat (↑(Int.toNat x) : Int)) = some (Value.bool (boolAt (blV acc) (↑(Int.toNat x) : Int))) ∧ K (Value.bool (boolAt (blV acc) (↑(Int.toNat x) : Int))) (AH.mk (Nd (Nd Lf (some (AObj.cells [Vi x, Vi y] 125)) Lf) (some (AObj.cells [Vi s, Vd 1 (blV acc), Vd 1 (roV nx)] 29)) Lf) 2)) := by kernel_rfl
theorem jAp_nf (K : KV) (x y s : Int) (acc : List Bool) (nx : List (List Int)) (s2 : Int) (acc2 : List Bool) (nx2 : List (List Int)) : jAp K x y s acc nx s2 acc2 nx2 = ((0 ≤ x ∧ x < (↑(List.length (blV acc)) : Int)) ∧ nth (blV acc) (Int.toNat (↑(Int.toNat x) : Int)) = some (Value.bool (boolAt (blV acc) (↑(Int.toNat x) : Int))) ∧ (0 ≤ y ∧ y < (↑(List.length (blV acc2)) : Int)) ∧ nth (blV acc2) (Int.toNat (↑(Int.toNat y) : Int)) = some (Value.bool (boolAt (blV acc2) (↑(Int.toNat y) : Int))) ∧ K (Value.bool (bif boolAt (blV acc2) (↑(Int.toNat y) : Int) then !boolAt (blV acc) (↑(Int.toNat x) : Int) else false)) (AH.mk (Nd (Nd (Nd Lf (some (AObj.cells [Vi x, Vi y] 125)) Lf) (some (AObj.cells [Vi s, Vd 1 (blV acc), Vd 1 (roV nx)] 29)) Lf) (some (AObj.cells [Value.func (Go.Fn.func 34) ⟨[]⟩ ⟨[]⟩] 87)) (Nd Lf (some (AObj.cells [Vi s2, Vd 1 (blV acc2), Vd 1 (roV nx2)] 29)) Lf)) 19)) := by kernel_rfl
theorem cv_walk (x y : Bool) : Walk env Proofs.Tryd.f34 [.bool x, .bool y] (.bool (bif y then !x else false)) :=
 plainF XCv_ok (d := 1) (HFb _) ((jCv_nf _ x y).mpr (Sp.intro (fun h => by subst h; rfl) (fun h => by subst h; rfl)))
theorem cv_tab : ∀ args A p v A', pureR (fun _ => none) coX1 args A = some (p, v, A') → PH p → CallAt env 34 args A v A' := walk_tab env_ok env_gl (fn := Proofs.Tryd.f34) rfl fun args v h hp => by
 unfold coX1 at h
 split at h
 · simp only [Option.some.injEq] at h
   subst h
   exact ⟨HF.cons (HFb _) (HF.cons (HFb _) HF.nil), cv_walk _ _⟩
 · cases h
theorem XAp_ok : XAp.Ok := ⟨env_ok, env_sym, env_gl, .cons cv_tab .nil⟩
def accA (a : AU) (q : Int) : Bool := a.2.1.getD q.toNat false
def inA (a : AU) (q : Int) : Prop := 0 ≤ q ∧ q < a.2.2.length
def stP (a b : AU) (k : PR) (c : Nat) : PR := (stp a.2.2 k.1 c, stp b.2.2 k.2 c)
def acP2 (a b : AU) (k : PR) : Bool := bif accA b k.2 then !accA a k.1 else false
def stS (a : AU) (k : PR) (c : Nat) : PR := (stp a.2.2 k.1 c, 0)
def acS (a : AU) (k : PR) : Bool := accA a k.1
theorem acc_at {a : AU} (h : OkA a) {q : Int} (hq : inA a q) : (0 ≤ q ∧ q < ((blV a.2.1).length : Int)) ∧ nth (blV a.2.1) q.toNat = some (.bool (boolAt (blV a.2.1) q)) ∧ boolAt (blV a.2.1) q = accA a q := by
 obtain ⟨h0, h1⟩ := hq
 have ha := h.acc
 have hl : q.toNat < a.2.1.length := by omega
 have e0 : (↑q.toNat : Int) = q := by omega
 have e1 := boolAt_bl hl
 rw [e0] at e1
 rw [blV_len, e1]
 refine ⟨⟨h0, by omega⟩, nth_bl hl, ?_⟩
 unfold accA
 rw [gD hl]
theorem sp_walk {a b : AU} (h : OkA a) (h2 : OkA b) {k : PR} (hk : inA a k.1 ∧ inA b k.2) {c : Nat} (hc : c < 256) : WalkF env Proofs.Tryd.f67 [prV k, .int .i64 c, .pointer (some ⟨0, 0, none⟩), .pointer (some ⟨1, 0, none⟩)] (hA2 a.1 a.2.1 a.2.2 b.1 b.2.1 b.2.2) (prV (stP a b k c)) (hA2 a.1 a.2.1 a.2.2 b.1 b.2.1 b.2.2) := by
 obtain ⟨g1, g2, g3, g4, g5⟩ := stp_row h hk.1.1 hk.1.2 hc
 obtain ⟨f1, f2, f3, f4, f5⟩ := stp_row h2 hk.2.1 hk.2.2 hc
 obtain ⟨s, acc, nx⟩ := a
 obtain ⟨s2, acc2, nx2⟩ := b
 obtain ⟨x, y⟩ := k
 obtain ⟨⟨h0, _⟩, h1, _⟩ := hk
 dsimp only at *
 have e0 : (↑x.toNat : Int) = x := by omega
 have e1 : (↑y.toNat : Int) = y := by omega
 have e2 : (↑(Int.toNat (c : Int)) : Int) = c := by omega
 refine sxFnF_walk XSp_ok (d := 1) (ns := []) (zs := []) (ws := []) ((jSp_nf _ x y c s acc nx s2 acc2 nx2).mpr ?_)
 rw [e0, e1, e2, Int.toNat_natCast]
 refine ⟨g1, g2, ⟨by omega, by omega⟩, g4, f1, f2, ⟨by omega, by omega⟩, f4, ?_⟩
 rw [g5, f5]
 have : endF env (hA2 s acc nx s2 acc2 nx2) [] [] [] (fun v1 N1 => v1 = prV (stP (s, acc, nx) (s2, acc2, nx2) (x, y) c) ∧ N1 = hA2 s acc nx s2 acc2 nx2) (.agg ⟨[.int .i64 (stp nx x c), .int .i64 (stp nx2 y c)]⟩) ⟨(.node (.node (.node .leaf (some (.cells [.int .i64 (stp nx x c), .int .i64 (stp nx2 y c)] 125)) .leaf) (some (auC s2 acc2 nx2)) .leaf) (some (auC s acc nx)) (.node .leaf (some (.cells [.int .i64 x, .int .i64 y] 125)) .leaf)), 24⟩ = (HF (dat 1 (blV acc)) ∧ HF (dat 1 (roV nx)) ∧ HF (dat 1 (blV acc2)) ∧ HF (dat 1 (roV nx2)) ∧ (Value.agg ⟨[.int .i64 (stp nx x c), .int .i64 (stp nx2 y c)]⟩ = prV (stP (s, acc, nx) (s2, acc2, nx2) (x, y) c) ∧ hA2 s acc nx s2 acc2 nx2 = hA2 s acc nx s2 acc2 nx2)) := by kernel_rfl
 exact this.mpr ⟨.dat (HF_bl _), .dat (HF_ro _), .dat (HF_bl _), .dat (HF_ro _), rfl, rfl⟩
theorem ss_walk {a : AU} (h : OkA a) {k : PR} (hk : inA a k.1) {c : Nat} (hc : c < 256) : WalkF env Proofs.Tryd.f72 [prV k, .int .i64 c, .pointer (some ⟨0, 0, none⟩)] (hA1 a.1 a.2.1 a.2.2) (prV (stS a k c)) (hA1 a.1 a.2.1 a.2.2) := by
 obtain ⟨g1, g2, g3, g4, g5⟩ := stp_row h hk.1 hk.2 hc
 obtain ⟨s, acc, nx⟩ := a
 obtain ⟨x, y⟩ := k
 obtain ⟨h0, _⟩ := hk
 dsimp only at *
 have e0 : (↑x.toNat : Int) = x := by omega
 have e2 : (↑(Int.toNat (c : Int)) : Int) = c := by omega
 refine sxFnF_walk XSs_ok (d := 1) (ns := []) (zs := []) (ws := []) ((jSs_nf _ x y c s acc nx).mpr ?_)
 rw [e0, e2, Int.toNat_natCast]
 refine ⟨g1, g2, ⟨by omega, by omega⟩, g4, ?_⟩
 rw [g5]
 have : endF env (hA1 s acc nx) [] [] [] (fun v1 N1 => v1 = prV (stS (s, acc, nx) (x, y) c) ∧ N1 = hA1 s acc nx) (.agg ⟨[.int .i64 (stp nx x c), .int .i64 0]⟩) ⟨(.node (.node .leaf (some (.cells [.int .i64 x, .int .i64 y] 125)) .leaf) (some (auC s acc nx)) (.node .leaf (some (.cells [.int .i64 (stp nx x c), .int .i64 0] 125)) .leaf)), 3⟩ = (HF (dat 1 (blV acc)) ∧ HF (dat 1 (roV nx)) ∧ (Value.agg ⟨[.int .i64 (stp nx x c), .int .i64 0]⟩ = prV (stS (s, acc, nx) (x, y) c) ∧ hA1 s acc nx = hA1 s acc nx)) := by kernel_rfl
 exact this.mpr ⟨.dat (HF_bl _), .dat (HF_ro _), rfl, rfl⟩
theorem as_walk {a : AU} (h : OkA a) {k : PR} (hk : inA a k.1) : WalkF env Proofs.Tryd.f71 [prV k, .pointer (some ⟨0, 0, none⟩)] (hA1 a.1 a.2.1 a.2.2) (.bool (acS a k)) (hA1 a.1 a.2.1 a.2.2) := by
 obtain ⟨g1, g2, g3⟩ := acc_at h hk
 obtain ⟨s, acc, nx⟩ := a
 obtain ⟨x, y⟩ := k
 obtain ⟨h0, _⟩ := hk
 dsimp only at *
 have e0 : (↑x.toNat : Int) = x := by omega
 refine sxFnF_walk XAs_ok (d := 1) (ns := []) (zs := []) (ws := []) ((jAs_nf _ x y s acc nx).mpr ?_)
 rw [e0]
 refine ⟨g1, g2, ?_⟩
 rw [g3]
 have : endF env (hA1 s acc nx) [] [] [] (fun v1 N1 => v1 = .bool (acS (s, acc, nx) (x, y)) ∧ N1 = hA1 s acc nx) (.bool (accA (s, acc, nx) x)) ⟨(.node (.node .leaf (some (.cells [.int .i64 x, .int .i64 y] 125)) .leaf) (some (auC s acc nx)) .leaf), 2⟩ = (HF (dat 1 (blV acc)) ∧ HF (dat 1 (roV nx)) ∧ (Value.bool (accA (s, acc, nx) x) = .bool (acS (s, acc, nx) (x, y)) ∧ hA1 s acc nx = hA1 s acc nx)) := by kernel_rfl
 exact this.mpr ⟨.dat (HF_bl _), .dat (HF_ro _), rfl, rfl⟩
theorem ap_walk {a b : AU} (h : OkA a) (h2 : OkA b) {k : PR} (hk : inA a k.1 ∧ inA b k.2) : WalkF env Proofs.Tryd.f65 [prV k, .pointer (some ⟨0, 0, none⟩), .pointer (some ⟨1, 0, none⟩), .pointer (some ⟨2, 0, none⟩)] (hA3 a.1 a.2.1 a.2.2 b.1 b.2.1 b.2.2) (.bool (acP2 a b k)) (hA3 a.1 a.2.1 a.2.2 b.1 b.2.1 b.2.2) := by
 obtain ⟨g1, g2, g3⟩ := acc_at h hk.1
 obtain ⟨f1, f2, f3⟩ := acc_at h2 hk.2
 obtain ⟨s, acc, nx⟩ := a
 obtain ⟨s2, acc2, nx2⟩ := b
 obtain ⟨x, y⟩ := k
 obtain ⟨⟨h0, _⟩, h1, _⟩ := hk
 dsimp only at *
 have e0 : (↑x.toNat : Int) = x := by omega
 have e1 : (↑y.toNat : Int) = y := by omega
 refine sxFnF_walk XAp_ok (d := 1) (ns := []) (zs := []) (ws := []) ((jAp_nf _ x y s acc nx s2 acc2 nx2).mpr ?_)
 rw [e0, e1]
 refine ⟨g1, g2, f1, f2, ?_⟩
 rw [g3, f3]
 have : endF env (hA3 s acc nx s2 acc2 nx2) [] [] [] (fun v1 N1 => v1 = .bool (acP2 (s, acc, nx) (s2, acc2, nx2) (x, y)) ∧ N1 = hA3 s acc nx s2 acc2 nx2) (.bool (bif accA (s2, acc2, nx2) y then !accA (s, acc, nx) x else false)) ⟨(.node (.node (.node .leaf (some (.cells [.int .i64 x, .int .i64 y] 125)) .leaf) (some (auC s acc nx)) .leaf) (some (fnO)) (.node .leaf (some (auC s2 acc2 nx2)) .leaf)), 19⟩ = (HF (dat 1 (blV acc)) ∧ HF (dat 1 (roV nx)) ∧ HF (dat 1 (blV acc2)) ∧ HF (dat 1 (roV nx2)) ∧ (Value.bool (bif accA (s2, acc2, nx2) y then !accA (s, acc, nx) x else false) = .bool (acP2 (s, acc, nx) (s2, acc2, nx2) (x, y)) ∧ hA3 s acc nx s2 acc2 nx2 = hA3 s acc nx s2 acc2 nx2)) := by kernel_rfl
 exact this.mpr ⟨.dat (HF_bl _), .dat (HF_ro _), .dat (HF_bl _), .dat (HF_ro _), rfl, rfl⟩
def spSp : List Value → List AObj → Option (Option Prop × Value × List AObj)
 | [.agg ⟨[.int .i64 x, .int .i64 y]⟩, .int .i64 c, .pointer (some ⟨B, o, none⟩), .pointer (some ⟨B2, o2, none⟩)], [u, v] => (match auO u, auO v with
   | some a, some b => bif (Nat.beq B 0 && Nat.beq o 0) && (Nat.beq B2 1 && Nat.beq o2 0) then some (some (okO u a ∧ okO v b ∧ (inA a x ∧ inA b y) ∧ 0 ≤ c ∧ c < 256), prV (stP a b (x, y) c.toNat), [u, v]) else none
   | _, _ => none)
 | _, _ => none
def spSs : List Value → List AObj → Option (Option Prop × Value × List AObj)
 | [.agg ⟨[.int .i64 x, .int .i64 y]⟩, .int .i64 c, .pointer (some ⟨B, o, none⟩)], [u] => (match auO u with
   | some a => bif Nat.beq B 0 && Nat.beq o 0 then some (some (okO u a ∧ inA a x ∧ 0 ≤ c ∧ c < 256), prV (stS a (x, y) c.toNat), [u]) else none
   | _ => none)
 | _, _ => none
def spAs : List Value → List AObj → Option (Option Prop × Value × List AObj)
 | [.agg ⟨[.int .i64 x, .int .i64 y]⟩, .pointer (some ⟨B, o, none⟩)], [u] => (match auO u with
   | some a => bif Nat.beq B 0 && Nat.beq o 0 then some (some (okO u a ∧ inA a x), .bool (acS a (x, y)), [u]) else none
   | _ => none)
 | _, _ => none
def spAp : List Value → List AObj → Option (Option Prop × Value × List AObj)
 | [.agg ⟨[.int .i64 x, .int .i64 y]⟩, .pointer (some ⟨B0, o0, none⟩), .pointer (some ⟨B, o, none⟩), .pointer (some ⟨B2, o2, none⟩)], [f, u, v] => (match auO u, auO v with
   | some a, some b => bif (Nat.beq B0 0 && Nat.beq o0 0) && ((Nat.beq B 1 && Nat.beq o 0) && (Nat.beq B2 2 && Nat.beq o2 0)) then some (some (f = fnO ∧ okO u a ∧ okO v b ∧ inA a x ∧ inA b y), .bool (acP2 a b (x, y)), [f, u, v]) else none
   | _, _ => none)
 | _, _ => none
theorem heap_a3 (a b : AU) : heapN [fnO, auCo a, auCo b] = hA3 a.1 a.2.1 a.2.2 b.1 b.2.1 b.2.2 := by kernel_rfl
theorem sp_tab : ∀ args A p v A', frmR noAr spSp args A = some (p, v, A') → PH p → CallAt env 67 args A v A' := frmR_ok env_ok (fn := Proofs.Tryd.f67) rfl fun args objs p v objs' h hp => by
 unfold spSp at h
 split at h
 · rename_i x y c B o B2 o2 u w
   split at h
   · rename_i a b ha hb0
     cases hb : (Nat.beq B 0 && Nat.beq o 0) && (Nat.beq B2 1 && Nat.beq o2 0) with
     | false => rw [hb] at h; cases h
     | true =>
       rw [hb] at h
       simp only [cond_true, Option.some.injEq, Prod.mk.injEq] at h
       obtain ⟨rfl, rfl, rfl⟩ := h
       simp only [Bool.and_eq_true, Nat.beq_eq] at hb
       obtain ⟨⟨rfl, rfl⟩, rfl, rfl⟩ := hb
       obtain ⟨⟨rfl, h2⟩, ⟨rfl, h3⟩, h6, h4, h5⟩ : okO u a ∧ okO w b ∧ (inA a x ∧ inA b y) ∧ 0 ≤ c ∧ c < 256 := hp
       obtain ⟨n, rfl⟩ := Int.eq_ofNat_of_zero_le h4
       rw [heap_a2]
       exact sp_walk h2 h3 (k := (x, y)) h6 (by omega)
   · cases h
 · cases h
theorem ss_tab : ∀ args A p v A', frmR noAr spSs args A = some (p, v, A') → PH p → CallAt env 72 args A v A' := frmR_ok env_ok (fn := Proofs.Tryd.f72) rfl fun args objs p v objs' h hp => by
 unfold spSs at h
 split at h
 · rename_i x y c B o u
   split at h
   · rename_i a ha
     cases hb : Nat.beq B 0 && Nat.beq o 0 with
     | false => rw [hb] at h; cases h
     | true =>
       rw [hb] at h
       simp only [cond_true, Option.some.injEq, Prod.mk.injEq] at h
       obtain ⟨rfl, rfl, rfl⟩ := h
       simp only [Bool.and_eq_true, Nat.beq_eq] at hb
       obtain ⟨rfl, rfl⟩ := hb
       obtain ⟨⟨rfl, h2⟩, h6, h4, h5⟩ : okO u a ∧ inA a x ∧ 0 ≤ c ∧ c < 256 := hp
       obtain ⟨n, rfl⟩ := Int.eq_ofNat_of_zero_le h4
       rw [heap_a1]
       exact ss_walk h2 (k := (x, y)) h6 (by omega)
   · cases h
 · cases h
theorem as_tab : ∀ args A p v A', frmR noAr spAs args A = some (p, v, A') → PH p → CallAt env 71 args A v A' := frmR_ok env_ok (fn := Proofs.Tryd.f71) rfl fun args objs p v objs' h hp => by
 unfold spAs at h
 split at h
 · rename_i x y B o u
   split at h
   · rename_i a ha
     cases hb : Nat.beq B 0 && Nat.beq o 0 with
     | false => rw [hb] at h; cases h
     | true =>
       rw [hb] at h
       simp only [cond_true, Option.some.injEq, Prod.mk.injEq] at h
       obtain ⟨rfl, rfl, rfl⟩ := h
       simp only [Bool.and_eq_true, Nat.beq_eq] at hb
       obtain ⟨rfl, rfl⟩ := hb
       obtain ⟨⟨rfl, h2⟩, h6⟩ : okO u a ∧ inA a x := hp
       rw [heap_a1]
       exact as_walk h2 (k := (x, y)) h6
   · cases h
 · cases h
theorem ap_tab : ∀ args A p v A', frmR noAr spAp args A = some (p, v, A') → PH p → CallAt env 65 args A v A' := frmR_ok env_ok (fn := Proofs.Tryd.f65) rfl fun args objs p v objs' h hp => by
 unfold spAp at h
 split at h
 · rename_i x y B0 o0 B o B2 o2 f u w
   split at h
   · rename_i a b ha hb0
     cases hb : (Nat.beq B0 0 && Nat.beq o0 0) && ((Nat.beq B 1 && Nat.beq o 0) && (Nat.beq B2 2 && Nat.beq o2 0)) with
     | false => rw [hb] at h; cases h
     | true =>
       rw [hb] at h
       simp only [cond_true, Option.some.injEq, Prod.mk.injEq] at h
       obtain ⟨rfl, rfl, rfl⟩ := h
       simp only [Bool.and_eq_true, Nat.beq_eq] at hb
       obtain ⟨⟨rfl, rfl⟩, ⟨rfl, rfl⟩, rfl, rfl⟩ := hb
       obtain ⟨rfl, ⟨rfl, h2⟩, ⟨rfl, h3⟩, h6⟩ : f = fnO ∧ okO u a ∧ okO w b ∧ inA a x ∧ inA b y := hp
       rw [heap_a3]
       exact ap_walk h2 h3 (k := (x, y)) h6
   · cases h
 · cases h
def vP : Value → PR
 | .agg ⟨[.int _ a, .int _ b]⟩ => (a, b)
 | _ => (0, 0)
def enP (m : List (PR × Int)) : Ents := ents prV (Value.int .i64) m
def mgP (es : Ents) (k : Value) : Int := (aget (inv vP deI es) (vP k)).getD 0
def mhP (es : Ents) (k : Value) : Bool := (aget (inv vP deI es) (vP k)).isSome
def msP (es : Ents) (k v : Value) : Ents := enP (aset (inv vP deI es) (vP k) (deI v))
def mnP (es : Ents) (k v : Value) : Nat := (aset (inv vP deI es) (vP k) (deI v)).length
theorem and2 (a b : PR) : (decide (a.1 = b.1) && (decide (a.2 = b.2) && true)) = decide (a = b) := by
 obtain ⟨a1, a2⟩ := a
 obtain ⟨b1, b2⟩ := b
 simp only [Prod.mk.injEq, Bool.decide_and, Bool.and_true]
theorem eqkP (a b : PR) : eqKey env 125 (prV a) (prV b) = some (decide (a.1 = b.1) && (decide (a.2 = b.2) && true)) := by kernel_rfl
theorem koP : KeyOk env 131 125 3 prV (.int .i64 0) := ⟨by kernel_rfl, fun _ => rfl, fun emp k => by cases emp <;> kernel_rfl, ⟨_, rfl, .inr ⟨fun _ _ => rfl, fun a b => (eqkP a b).trans (congrArg some (and2 a b))⟩⟩, fun k => by simp [prV, Instr.sameBits], ⟨_, rfl, rfl, rfl⟩⟩
theorem invP (m : List (PR × Int)) : inv vP deI (enP m) = m := inv_ents (fun _ => rfl) (fun _ => rfl) m
theorem lookP (m : List (PR × Int)) (k : PR) : lookE env 131 (enP m) (prV k) = some (.int .i64 (mgP (enP m) (prV k)), mhP (enP m) (prV k)) := by
 refine (look_ents koP (Value.int .i64) k m).trans ?_
 unfold mgP mhP
 rw [invP]
 show _ = some (Value.int .i64 ((aget m k).getD 0), (aget m k).isSome)
 cases aget m k <;> rfl
theorem updP (m : List (PR × Int)) (k : PR) (v : Int) : mapUpdE env 131 (enP m) m.length (prV k) (.int .i64 v) = some (enP (aset m k v), (aset m k v).length) := upd_ents koP (Value.int .i64) k v m
theorem HF_enP (m : List (PR × Int)) : HF (.agg ⟨(enP m).map fun x => x.2.1⟩) := HF_ents (fun v => .scal rfl) m
def prs (l : List PR) : List Value := l.map prV
def prAt (els : List Value) (i : Int) : PR := match nth els i.toNat with | some v => vP v | none => (0, 0)
def elEx : El := { El.of (fun _ t els i => bif Nat.beq t 31 then some (.agg ⟨[.int .i64 (prAt els i).1, .int .i64 (prAt els i).2]⟩) else some (.int .i64 (intAt els i))) with app := true, gm := fun _ => true, ml := fun _ es k => some (.int .i64 (mgP es k), mhP es k), mu := fun _ es _ k v => some (msP es k v, mnP es k v) }
def nsEx : List (NPos × TypeId × Nat) := [(.slot 9, 125, 2), (.cell 0 257, 4, 1), (.cell 0 258, 50, 1)]
def XEx : SX := ⟨env, [(67, frmR noAr spSp), (72, frmR noAr spSs), (71, frmR noAr spAs), (65, frmR noAr spAp)], elEx, fun k => bif Nat.beq k 4 then .autoN nsEx [.cell 0 258] [] [0, 2, 3, 8, 9, 10] else .autoN [] [] [] [0, 2, 3, 8, 9, 10, 11, 12, 42, 43, 44]⟩
theorem XEx_ok : XEx.Ok := ⟨env_ok, env_sym, env_gl, .cons sp_tab (.cons ss_tab (.cons as_tab (.cons ap_tab .nil)))⟩
def kFinEx (K : KV) : KX := finK XEx.E (Proofs.Tryd.f66.results).toList K
def groP (B n : Nat) : Value := .slice (some ⟨B, 0, none⟩) n (unk + 3 + 2)
def cAs (B : Nat) : Value := .func (.func 71) ⟨[]⟩ ⟨[.pointer (some ⟨B, 0, none⟩)]⟩
def cSs (B : Nat) : Value := .func (.func 72) ⟨[]⟩ ⟨[.pointer (some ⟨B, 0, none⟩)]⟩
def cAp (B0 B B2 : Nat) : Value := .func (.func 65) ⟨[]⟩ ⟨[.pointer (some ⟨B0, 0, none⟩), .pointer (some ⟨B, 0, none⟩), .pointer (some ⟨B2, 0, none⟩)]⟩
def cSp (B B2 : Nat) : Value := .func (.func 67) ⟨[]⟩ ⟨[.pointer (some ⟨B, 0, none⟩), .pointer (some ⟨B2, 0, none⟩)]⟩
def hEs0 (C F : List Int) (s : Int) (acc : List Bool) (nx : List (List Int)) : AH := ⟨(.node (.node .leaf (some (auC s acc nx)) .leaf) (some (dfO C [groS 2 F.length, nilS, nilS])) (.node .leaf (some (.gro (inV F) [] 3)) .leaf)), 3⟩
def hEsL (C F : List Int) (ks : List PR) (ac : List Bool) (rw : List (List Int)) (s : Int) (acc : List Bool) (nx : List (List Int)) : AH := ⟨(.node (.node (.node .leaf (some (.map (enP (mkM ks)) ks.length)) .leaf) (some (auC s acc nx)) (.node .leaf (some (.gro (blV ac) [] 4)) .leaf)) (some (dfO C [groS 2 F.length, groS 5 ac.length, groS 6 rw.length])) (.node (.node .leaf (some (.gro (prs ks) [] 125)) .leaf) (some (.gro (inV F) [] 3)) (.node .leaf (some (.gro (roV rw) [] 50)) .leaf))), 7⟩
def hEsI (C F : List Int) (ks : List PR) (ac : List Bool) (rw : List (List Int)) (k : PR) (r : List Int) (s : Int) (acc : List Bool) (nx : List (List Int)) : AH := ⟨(.node (.node (.node (.node .leaf (some (.gro (blV ac) [] 4)) .leaf) (some (.map (enP (mkM ks)) ks.length)) .leaf) (some (auC s acc nx)) (.node .leaf (some (.cells [.int .i64 k.1, .int .i64 k.2] 125)) .leaf)) (some (dfO C [groS 2 F.length, groS 7 ac.length, groS 8 rw.length])) (.node (.node (.node .leaf (some (.gro (roV rw) [] 50)) .leaf) (some (.gro (prs ks) [] 125)) .leaf) (some (.gro (inV F) [] 3)) (.node .leaf (some (.gro (inV r) [] 3)) .leaf))), 9⟩
def frEsL (n i : Nat) : T Value := (.node (.node (.node .leaf (some (cSs 1)) .leaf) none (.node (.node .leaf (some (groP 4 n)) .leaf) none .leaf)) (some (.pointer (some ⟨0, 0, none⟩))) (.node (.node (.node .leaf (some (.map (some 3))) .leaf) none .leaf) (some (cAs 1)) (.node (.node .leaf (some (.int .i64 i)) .leaf) none .leaf)))
def frEsI (n nF nr i c : Nat) : T Value := (.node (.node (.node .leaf (some (cSs 1)) (.node .leaf (some (.pointer (some ⟨5, 0, none⟩))) (.node (.node .leaf (some (.int .i64 nF)) .leaf) none .leaf))) none (.node (.node .leaf (some (groP 4 n)) .leaf) none .leaf)) (some (.pointer (some ⟨0, 0, none⟩))) (.node (.node (.node .leaf (some (.map (some 3))) .leaf) none (.node .leaf (some (groS 6 nr)) (.node (.node .leaf (some (.int .i64 c)) .leaf) none .leaf))) (some (cAs 1)) (.node (.node .leaf (some (.int .i64 i)) (.node (.node .leaf (some (groS 2 nF)) .leaf) none .leaf)) none .leaf)))
def jEs (K : KV) (C F : List Int) (st : PR) (s : Int) (acc : List Bool) (nx : List (List Int)) : Prop := sxFnF XEx 1 Proofs.Tryd.f66 [.pointer (some ⟨0, 0, none⟩), .agg ⟨[.int .i64 st.1, .int .i64 st.2]⟩, cAs 1, cSs 1] (hEs0 C F s acc nx) K
def jEsL (K : KV) (again : KF) (C0 F0 C F : List Int) (ks : List PR) (ac : List Bool) (rw : List (List Int)) (s : Int) (acc : List Bool) (nx : List (List Int)) (i : Nat) : Prop := sxStepF XEx 1 (Func.ntmps Proofs.Tryd.f66) (hEs0 C0 F0 s acc nx) (bodyOf Proofs.Tryd.f66) [1, 1, 1, 1, 0] (kFinEx K) nsEx [.cell 0 258] [] [0, 2, 3, 8, 9, 10] again (frEsL ks.length i) (hEsL C F ks ac rw s acc nx)
def kEs2 (K : KV) (again2 : KF) (C0 F0 : List Int) (s : Int) (acc : List Bool) (nx : List (List Int)) : KX := stepF XEx 1 (Func.ntmps Proofs.Tryd.f66) (hEs0 C0 F0 s acc nx) (bodyOf Proofs.Tryd.f66) [1, 1, 1, 1, 0] (kFinEx K) nsEx [.cell 0 258] [] [0, 2, 3, 8, 9, 10] again2
def jEsI (K : KV) (again2 again : KF) (C0 F0 C F : List Int) (ks : List PR) (ac : List Bool) (rw : List (List Int)) (k : PR) (r : List Int) (s : Int) (acc : List Bool) (nx : List (List Int)) (i c : Nat) : Prop := sxStepF XEx 1 (Func.ntmps Proofs.Tryd.f66) (hEs0 C0 F0 s acc nx) (loopBody (subC [1, 1, 1, 1, 0] (bodyOf Proofs.Tryd.f66))) [1, 0, 0, 1, 1, 0, 1, 0] (kEs2 K again2 C0 F0 s acc nx) [] [] [] [0, 2, 3, 8, 9, 10, 11, 12, 42, 43, 44] again (frEsI ks.length F.length r.length i c) (hEsI C F ks ac rw k r s acc nx)
def hEp0 (C F : List Int) (s : Int) (acc : List Bool) (nx : List (List Int)) (s2 : Int) (acc2 : List Bool) (nx2 : List (List Int)) : AH := ⟨(.node (.node (.node .leaf (some (auC s2 acc2 nx2)) .leaf) (some (fnO)) .leaf) (some (dfO C [groS 4 F.length, nilS, nilS])) (.node (.node .leaf (some (.gro (inV F) [] 3)) .leaf) (some (auC s acc nx)) .leaf)), 5⟩
def hEpL (C F : List Int) (ks : List PR) (ac : List Bool) (rw : List (List Int)) (s : Int) (acc : List Bool) (nx : List (List Int)) (s2 : Int) (acc2 : List Bool) (nx2 : List (List Int)) : AH := ⟨(.node (.node (.node (.node .leaf (some (.gro (blV ac) [] 4)) .leaf) (some (auC s2 acc2 nx2)) .leaf) (some (fnO)) (.node .leaf (some (.map (enP (mkM ks)) ks.length)) .leaf)) (some (dfO C [groS 4 F.length, groS 7 ac.length, groS 8 rw.length])) (.node (.node (.node .leaf (some (.gro (roV rw) [] 50)) .leaf) (some (.gro (inV F) [] 3)) .leaf) (some (auC s acc nx)) (.node .leaf (some (.gro (prs ks) [] 125)) .leaf))), 9⟩
def hEpI (C F : List Int) (ks : List PR) (ac : List Bool) (rw : List (List Int)) (k : PR) (r : List Int) (s : Int) (acc : List Bool) (nx : List (List Int)) (s2 : Int) (acc2 : List Bool) (nx2 : List (List Int)) : AH := ⟨(.node (.node (.node (.node .leaf (some (.cells [.int .i64 k.1, .int .i64 k.2] 125)) .leaf) (some (auC s2 acc2 nx2)) .leaf) (some (fnO)) (.node (.node .leaf (some (.gro (blV ac) [] 4)) .leaf) (some (.map (enP (mkM ks)) ks.length)) .leaf)) (some (dfO C [groS 4 F.length, groS 9 ac.length, groS 10 rw.length])) (.node (.node (.node .leaf (some (.gro (inV r) [] 3)) .leaf) (some (.gro (inV F) [] 3)) .leaf) (some (auC s acc nx)) (.node (.node .leaf (some (.gro (roV rw) [] 50)) .leaf) (some (.gro (prs ks) [] 125)) .leaf))), 11⟩
def frEpL (n i : Nat) : T Value := (.node (.node (.node .leaf (some (cSp 2 3)) .leaf) none (.node (.node .leaf (some (groP 6 n)) .leaf) none .leaf)) (some (.pointer (some ⟨0, 0, none⟩))) (.node (.node (.node .leaf (some (.map (some 5))) .leaf) none .leaf) (some (cAp 1 2 3)) (.node (.node .leaf (some (.int .i64 i)) .leaf) none .leaf)))
def frEpI (n nF nr i c : Nat) : T Value := (.node (.node (.node .leaf (some (cSp 2 3)) (.node .leaf (some (.pointer (some ⟨7, 0, none⟩))) (.node (.node .leaf (some (.int .i64 nF)) .leaf) none .leaf))) none (.node (.node .leaf (some (groP 6 n)) .leaf) none .leaf)) (some (.pointer (some ⟨0, 0, none⟩))) (.node (.node (.node .leaf (some (.map (some 5))) .leaf) none (.node .leaf (some (groS 8 nr)) (.node (.node .leaf (some (.int .i64 c)) .leaf) none .leaf))) (some (cAp 1 2 3)) (.node (.node .leaf (some (.int .i64 i)) (.node (.node .leaf (some (groS 4 nF)) .leaf) none .leaf)) none .leaf)))
def jEp (K : KV) (C F : List Int) (st : PR) (s : Int) (acc : List Bool) (nx : List (List Int)) (s2 : Int) (acc2 : List Bool) (nx2 : List (List Int)) : Prop := sxFnF XEx 1 Proofs.Tryd.f66 [.pointer (some ⟨0, 0, none⟩), .agg ⟨[.int .i64 st.1, .int .i64 st.2]⟩, cAp 1 2 3, cSp 2 3] (hEp0 C F s acc nx s2 acc2 nx2) K
def jEpL (K : KV) (again : KF) (C0 F0 C F : List Int) (ks : List PR) (ac : List Bool) (rw : List (List Int)) (s : Int) (acc : List Bool) (nx : List (List Int)) (s2 : Int) (acc2 : List Bool) (nx2 : List (List Int)) (i : Nat) : Prop := sxStepF XEx 1 (Func.ntmps Proofs.Tryd.f66) (hEp0 C0 F0 s acc nx s2 acc2 nx2) (bodyOf Proofs.Tryd.f66) [1, 1, 1, 1, 0] (kFinEx K) nsEx [.cell 0 258] [] [0, 2, 3, 8, 9, 10] again (frEpL ks.length i) (hEpL C F ks ac rw s acc nx s2 acc2 nx2)
def kEp2 (K : KV) (again2 : KF) (C0 F0 : List Int) (s : Int) (acc : List Bool) (nx : List (List Int)) (s2 : Int) (acc2 : List Bool) (nx2 : List (List Int)) : KX := stepF XEx 1 (Func.ntmps Proofs.Tryd.f66) (hEp0 C0 F0 s acc nx s2 acc2 nx2) (bodyOf Proofs.Tryd.f66) [1, 1, 1, 1, 0] (kFinEx K) nsEx [.cell 0 258] [] [0, 2, 3, 8, 9, 10] again2
def jEpI (K : KV) (again2 again : KF) (C0 F0 C F : List Int) (ks : List PR) (ac : List Bool) (rw : List (List Int)) (k : PR) (r : List Int) (s : Int) (acc : List Bool) (nx : List (List Int)) (s2 : Int) (acc2 : List Bool) (nx2 : List (List Int)) (i c : Nat) : Prop := sxStepF XEx 1 (Func.ntmps Proofs.Tryd.f66) (hEp0 C0 F0 s acc nx s2 acc2 nx2) (loopBody (subC [1, 1, 1, 1, 0] (bodyOf Proofs.Tryd.f66))) [1, 0, 0, 1, 1, 0, 1, 0] (kEp2 K again2 C0 F0 s acc nx s2 acc2 nx2) [] [] [] [0, 2, 3, 8, 9, 10, 11, 12, 42, 43, 44] again (frEpI ks.length F.length r.length i c) (hEpI C F ks ac rw k r s acc nx s2 acc2 nx2)
set_option maxHeartbeats 1000000
theorem jEs_nf (K : KV) (C : List Int) (F : List Int) (st : PR) (s : Int) (acc : List Bool) (nx : List (List Int)) : jEs K C F st s acc nx = (mapUpdE (SX.E XEx) 131 [] 0 (Value.agg (Array.mk [Vi (Prod.fst st), Vi (Prod.snd st)])) (Vi 0) = some ([(Value.agg (Array.mk [Vi (Prod.fst st), Vi (Prod.snd st)]), Vi 0, 0)], 1) ∧ HF (Value.agg (Array.mk (inV C))) ∧ HF (Vd 1 (blV acc)) ∧ HF (Vd 1 (roV nx)) ∧ HF (Value.agg (Array.mk (inV F))) ∧ HF (Value.agg (Array.mk [Vi 0])) ∧ HF (Value.agg (Array.mk [Value.agg (Array.mk [Vi (Prod.fst st), Vi (Prod.snd st)])])) ∧ HF (Value.agg ⟨[]⟩) ∧ HF (Value.agg ⟨[]⟩) ∧ LAtZ XEx 1 (Func.ntmps Proofs.Tryd.f66) (hEs0 C F s acc nx) (bodyOf Proofs.Tryd.f66) [1, 1, 1, 1, 0] (finK (SX.E XEx) (Array.toList (Func.results Proofs.Tryd.f66)) K) (Nd (Nd (Nd Lf (some (Value.func (Go.Fn.func 72) ⟨[]⟩ (Array.mk [Value.pointer (some ⟨1, 0, none⟩)]))) Lf) none (Nd (Nd Lf (some (Value.slice (some ⟨4, 0, none⟩) 1 18446744073709551621)) Lf) none Lf)) (some (Value.pointer (some ⟨0, 0, none⟩))) (Nd (Nd (Nd Lf (some (Value.map (some 3))) Lf) none Lf) (some (Value.func (Go.Fn.func 71) ⟨[]⟩ (Array.mk [Value.pointer (some ⟨1, 0, none⟩)]))) (Nd (Nd Lf (some (Vi 0)) Lf) none Lf))) (AH.mk (Nd (Nd (Nd Lf (some (AObj.map [(Value.agg (Array.mk [Vi (Prod.fst st), Vi (Prod.snd st)]), Vi 0, 0)] 1)) Lf) (some (AObj.cells [Vi s, Vd 1 (blV acc), Vd 1 (roV nx)] 29)) (Nd Lf (some (AObj.gro [] [] 4)) Lf)) (some (AObj.arr (inV C) [Value.slice (some ⟨2, 0, none⟩) (List.length F) 18446744073709551620, Value.slice (some ⟨5, 0, none⟩) 0 18446744073709551620, Value.slice (some ⟨6, 0, none⟩) 0 18446744073709551620] 256 68)) (Nd (Nd Lf (some (AObj.gro [Value.agg (Array.mk [Vi (Prod.fst st), Vi (Prod.snd st)])] [] 125)) Lf) (some (AObj.gro (inV F) [] 3)) (Nd Lf (some (AObj.gro [] [] 50)) Lf))) 7)) := by kernel_rfl
theorem jEsL_nf (K : KV) (again : KF) (C0 : List Int) (F0 : List Int) (C : List Int) (F : List Int) (ks : List PR) (ac : List Bool) (rw : List (List Int)) (s : Int) (acc : List Bool) (nx : List (List Int)) (i : Nat) : jEsL K again C0 F0 C F ks ac rw s acc nx i = (Sp (decide ((i : Int) < (↑(List.length ks) : Int))) ((0 ≤ (i : Int) ∧ (i : Int) < (↑(List.length ks) : Int)) ∧ nth (prs ks) (i) = some (Value.agg (Array.mk [Vi (Prod.fst (prAt (prs ks) (i : Int))), Vi (Prod.snd (prAt (prs ks) (i : Int)))])) ∧ (0 ≤ (↑(List.length F) : Int) ∧ (↑(List.length F) : Int) ≤ (↑(List.length F) : Int) ∧ (↑(List.length F) : Int) ≤ 281474976710656 ∧ 8 * List.length F ≤ 281474976710656) ∧ HF (Value.agg (Array.mk (inV C))) ∧ HF (Vd 1 (blV acc)) ∧ HF (Vd 1 (roV nx)) ∧ HF (Value.agg (Array.mk (inV F))) ∧ HF (Value.agg (Array.mk (mvl (enP (mkM ks))))) ∧ HF (Value.agg (Array.mk (prs ks))) ∧ HF (Value.agg (Array.mk (List.replicate (List.length F) (Vi 0)))) ∧ HF (Value.agg (Array.mk (blV ac))) ∧ HF (Value.agg (Array.mk (roV rw))) ∧ LAtZ XEx 1 (Func.ntmps Proofs.Tryd.f66) (hEs0 C0 F0 s acc nx) (loopBody (subC [1, 1, 1, 1, 0] (bodyOf Proofs.Tryd.f66))) [1, 0, 0, 1, 1, 0, 1, 0] (stepF XEx 1 (Func.ntmps Proofs.Tryd.f66) (hEs0 C0 F0 s acc nx) (bodyOf Proofs.Tryd.f66) [1, 1, 1, 1, 0] (kFinEx K) nsEx [NPos.cell 0 258] [] [0, 2, 3, 8, 9, 10] again) (Nd (Nd (Nd Lf (some (Value.func (Go.Fn.func 72) ⟨[]⟩ (Array.mk [Value.pointer (some ⟨1, 0, none⟩)]))) (Nd Lf (some (Value.pointer (some ⟨5, 0, none⟩))) (Nd (Nd Lf (some (Vi (↑(List.length F) : Int))) Lf) none Lf))) none (Nd (Nd Lf (some (Value.slice (some ⟨4, 0, none⟩) (List.length ks) 18446744073709551621)) Lf) none Lf)) (some (Value.pointer (some ⟨0, 0, none⟩))) (Nd (Nd (Nd Lf (some (Value.map (some 3))) Lf) none (Nd Lf (some (Value.slice (some ⟨6, 0, none⟩) (List.length F) 18446744073709551620)) (Nd (Nd Lf (some (Vi 0)) Lf) none Lf))) (some (Value.func (Go.Fn.func 71) ⟨[]⟩ (Array.mk [Value.pointer (some ⟨1, 0, none⟩)]))) (Nd (Nd Lf (some (Vi (i : Int))) (Nd (Nd Lf (some (Value.slice (some ⟨2, 0, none⟩) (List.length F) 18446744073709551620)) Lf) none Lf)) none Lf))) (AH.mk (Nd (Nd (Nd (Nd Lf (some (AObj.gro (blV ac) [] 4)) Lf) (some (AObj.map (enP (mkM ks)) (List.length ks))) Lf) (some (AObj.cells [Vi s, Vd 1 (blV acc), Vd 1 (roV nx)] 29)) (Nd Lf (some (AObj.cells [Vi (Prod.fst (prAt (prs ks) (i : Int))), Vi (Prod.snd (prAt (prs ks) (i : Int)))] 125)) Lf)) (some (AObj.arr (inV C) [Value.slice (some ⟨2, 0, none⟩) (List.length F) 18446744073709551620, Value.slice (some ⟨7, 0, none⟩) (List.length ac) 18446744073709551620, Value.slice (some ⟨8, 0, none⟩) (List.length rw) 18446744073709551620] 256 68)) (Nd (Nd (Nd Lf (some (AObj.gro (roV rw) [] 50)) Lf) (some (AObj.gro (prs ks) [] 125)) Lf) (some (AObj.gro (inV F) [] 3)) (Nd Lf (some (AObj.gro (List.replicate (List.length F) (Vi 0)) [] 3)) Lf))) 9)) (K (Value.tuple ⟨[]⟩) (AH.mk (Nd (Nd (Nd Lf (some (AObj.map (enP (mkM ks)) (List.length ks))) Lf) (some (AObj.cells [Vi s, Vd 1 (blV acc), Vd 1 (roV nx)] 29)) (Nd Lf (some (AObj.gro (blV ac) [] 4)) Lf)) (some (AObj.arr (inV C) [Value.slice (some ⟨2, 0, none⟩) (List.length F) 18446744073709551620, Value.slice (some ⟨5, 0, none⟩) (List.length ac) 18446744073709551620, Value.slice (some ⟨6, 0, none⟩) (List.length rw) 18446744073709551620] 256 68)) (Nd (Nd Lf (some (AObj.gro (prs ks) [] 125)) Lf) (some (AObj.gro (inV F) [] 3)) (Nd Lf (some (AObj.gro (roV rw) [] 50)) Lf))) 7))) := by kernel_rfl
theorem jEsI_nf (K : KV) (again2 : KF) (again : KF) (C0 : List Int) (F0 : List Int) (C : List Int) (F : List Int) (ks : List PR) (ac : List Bool) (rw : List (List Int)) (k : PR) (r : List Int) (s : Int) (acc : List Bool) (nx : List (List Int)) (i c : Nat) : jEsI K again2 again C0 F0 C F ks ac rw k r s acc nx i c = (Sp (decide ((c : Int) < (↑(List.length F) : Int))) ((0 ≤ (c : Int) ∧ (c : Int) < (↑(List.length F) : Int)) ∧ nth (inV F) (c) = some (Vi (intAt (inV F) (c : Int))) ∧ HFs [Vd 1 (blV acc), Vd 1 (roV nx), Vd 1 (blV acc), Vd 1 (roV nx)] (PH (Prod.fst (some (okO (AObj.cells [Vi s, Vd 1 (blV acc), Vd 1 (roV nx)] 29) (s, List.map deB (blV acc), List.map deR (roV nx)) ∧ inA (s, List.map deB (blV acc), List.map deR (roV nx)) (Prod.fst k) ∧ 0 ≤ intAt (inV F) (c : Int) ∧ intAt (inV F) (c : Int) < 256), Value.agg (Array.mk [Vi (stp (List.map deR (roV nx)) (Prod.fst k) (Int.toNat (intAt (inV F) (c : Int)))), Vi 0]), [AObj.cells [Vi s, Vd 1 (blV acc), Vd 1 (roV nx)] 29]))) ∧ lookE (SX.E XEx) 131 (enP (mkM ks)) (Value.agg (Array.mk [Vi (stp (List.map deR (roV nx)) (Prod.fst k) (Int.toNat (intAt (inV F) (c : Int)))), Vi 0])) = some (Vi (mgP (enP (mkM ks)) (Value.agg (Array.mk [Vi (stp (List.map deR (roV nx)) (Prod.fst k) (Int.toNat (intAt (inV F) (c : Int)))), Vi 0]))), mhP (enP (mkM ks)) (Value.agg (Array.mk [Vi (stp (List.map deR (roV nx)) (Prod.fst k) (Int.toNat (intAt (inV F) (c : Int)))), Vi 0]))) ∧ Sp (!mhP (enP (mkM ks)) (Value.agg (Array.mk [Vi (stp (List.map deR (roV nx)) (Prod.fst k) (Int.toNat (intAt (inV F) (c : Int)))), Vi 0]))) (mapUpdE (SX.E XEx) 131 (enP (mkM ks)) (List.length ks) (Value.agg (Array.mk [Vi (stp (List.map deR (roV nx)) (Prod.fst k) (Int.toNat (intAt (inV F) (c : Int)))), Vi 0])) (Vi (↑(List.length ks) : Int)) = some (msP (enP (mkM ks)) (Value.agg (Array.mk [Vi (stp (List.map deR (roV nx)) (Prod.fst k) (Int.toNat (intAt (inV F) (c : Int)))), Vi 0])) (Vi (↑(List.length ks) : Int)), mnP (enP (mkM ks)) (Value.agg (Array.mk [Vi (stp (List.map deR (roV nx)) (Prod.fst k) (Int.toNat (intAt (inV F) (c : Int)))), Vi 0])) (Vi (↑(List.length ks) : Int))) ∧ (List.all [Vi (stp (List.map deR (roV nx)) (Prod.fst k) (Int.toNat (intAt (inV F) (c : Int)))), Vi 0] cellv = true ∧ List.length ks + 0 = List.length (prs ks) ∧ List.length ks + (1 : Nat) ≤ (70368744177664 : Nat) ∧ (List.length ks + 1) * (16 : Nat) ≤ (140737488355328 : Nat)) ∧ (0 ≤ (c : Int) ∧ (c : Int) < (↑(List.length r) : Int)) ∧ c < List.length (inV r) ∧ HF (Value.agg (Array.mk (inV C))) ∧ HF (Vd 1 (blV acc)) ∧ HF (Vd 1 (roV nx)) ∧ HF (Value.agg (Array.mk (inV F))) ∧ HF (Value.agg (Array.mk (mvl (msP (enP (mkM ks)) (Value.agg (Array.mk [Vi (stp (List.map deR (roV nx)) (Prod.fst k) (Int.toNat (intAt (inV F) (c : Int)))), Vi 0])) (Vi (↑(List.length ks) : Int)))))) ∧ HF (Value.agg (Array.mk (prs ks ++ [Value.agg (Array.mk [Vi (stp (List.map deR (roV nx)) (Prod.fst k) (Int.toNat (intAt (inV F) (c : Int)))), Vi 0])]))) ∧ HF (Value.agg (Array.mk (List.set (inV r) (c) (Vi (↑(List.length ks) : Int))))) ∧ HF (Value.agg (Array.mk (blV ac))) ∧ HF (Value.agg (Array.mk (roV rw))) ∧ again (Nd (Nd (Nd Lf (some (Value.func (Go.Fn.func 72) ⟨[]⟩ (Array.mk [Value.pointer (some ⟨1, 0, none⟩)]))) (Nd Lf (some (Value.pointer (some ⟨5, 0, none⟩))) (Nd (Nd Lf (some (Vi (↑(List.length F) : Int))) Lf) none Lf))) none (Nd (Nd Lf (some (Value.slice (some ⟨4, 0, none⟩) (List.length ks + 1) 18446744073709551621)) Lf) none Lf)) (some (Value.pointer (some ⟨0, 0, none⟩))) (Nd (Nd (Nd Lf (some (Value.map (some 3))) Lf) none (Nd Lf (some (Value.slice (some ⟨6, 0, none⟩) (List.length r) 18446744073709551620)) (Nd (Nd Lf (some (Vi (IntKind.wrap .i64 ((c : Int) + 1)))) Lf) none Lf))) (some (Value.func (Go.Fn.func 71) ⟨[]⟩ (Array.mk [Value.pointer (some ⟨1, 0, none⟩)]))) (Nd (Nd Lf (some (Vi (i : Int))) (Nd (Nd Lf (some (Value.slice (some ⟨2, 0, none⟩) (List.length F) 18446744073709551620)) Lf) none Lf)) none Lf))) (AH.mk (Nd (Nd (Nd (Nd Lf (some (AObj.gro (blV ac) [] 4)) Lf) (some (AObj.map (msP (enP (mkM ks)) (Value.agg (Array.mk [Vi (stp (List.map deR (roV nx)) (Prod.fst k) (Int.toNat (intAt (inV F) (c : Int)))), Vi 0])) (Vi (↑(List.length ks) : Int))) (mnP (enP (mkM ks)) (Value.agg (Array.mk [Vi (stp (List.map deR (roV nx)) (Prod.fst k) (Int.toNat (intAt (inV F) (c : Int)))), Vi 0])) (Vi (↑(List.length ks) : Int))))) Lf) (some (AObj.cells [Vi s, Vd 1 (blV acc), Vd 1 (roV nx)] 29)) (Nd Lf (some (AObj.cells [Vi (Prod.fst k), Vi (Prod.snd k)] 125)) Lf)) (some (AObj.arr (inV C) [Value.slice (some ⟨2, 0, none⟩) (List.length F) 18446744073709551620, Value.slice (some ⟨7, 0, none⟩) (List.length ac) 18446744073709551620, Value.slice (some ⟨8, 0, none⟩) (List.length rw) 18446744073709551620] 256 68)) (Nd (Nd (Nd Lf (some (AObj.gro (roV rw) [] 50)) Lf) (some (AObj.gro (prs ks ++ [Value.agg (Array.mk [Vi (stp (List.map deR (roV nx)) (Prod.fst k) (Int.toNat (intAt (inV F) (c : Int)))), Vi 0])]) [] 125)) Lf) (some (AObj.gro (inV F) [] 3)) (Nd Lf (some (AObj.gro (List.set (inV r) (c) (Vi (↑(List.length ks) : Int))) [] 3)) Lf))) 9)) ((0 ≤ (c : Int) ∧ (c : Int) < (↑(List.length r) : Int)) ∧ c < List.length (inV r) ∧ HF (Value.agg (Array.mk (inV C))) ∧ HF (Vd 1 (blV acc)) ∧ HF (Vd 1 (roV nx)) ∧ HF (Value.agg (Array.mk (inV F))) ∧ HF (Value.agg (Array.mk (mvl (enP (mkM ks))))) ∧ HF (Value.agg (Array.mk (prs ks))) ∧ HF (Value.agg (Array.mk (List.set (inV r) (c) (Vi (mgP (enP (mkM ks)) (Value.agg (Array.mk [Vi (stp (List.map deR (roV nx)) (Prod.fst k) (Int.toNat (intAt (inV F) (c : Int)))), Vi 0]))))))) ∧ HF (Value.agg (Array.mk (blV ac))) ∧ HF (Value.agg (Array.mk (roV rw))) ∧ again (Nd (Nd (Nd Lf (some (Value.func (Go.Fn.func 72) ⟨[]⟩ (Array.mk [Value.pointer (some ⟨1, 0, none⟩)]))) (Nd Lf (some (Value.pointer (some ⟨5, 0, none⟩))) (Nd (Nd Lf (some (Vi (↑(List.length F) : Int))) Lf) none Lf))) none (Nd (Nd Lf (some (Value.slice (some ⟨4, 0, none⟩) (List.length ks) 18446744073709551621)) Lf) none Lf)) (some (Value.pointer (some ⟨0, 0, none⟩))) (Nd (Nd (Nd Lf (some (Value.map (some 3))) Lf) none (Nd Lf (some (Value.slice (some ⟨6, 0, none⟩) (List.length r) 18446744073709551620)) (Nd (Nd Lf (some (Vi (IntKind.wrap .i64 ((c : Int) + 1)))) Lf) none Lf))) (some (Value.func (Go.Fn.func 71) ⟨[]⟩ (Array.mk [Value.pointer (some ⟨1, 0, none⟩)]))) (Nd (Nd Lf (some (Vi (i : Int))) (Nd (Nd Lf (some (Value.slice (some ⟨2, 0, none⟩) (List.length F) 18446744073709551620)) Lf) none Lf)) none Lf))) (AH.mk (Nd (Nd (Nd (Nd Lf (some (AObj.gro (blV ac) [] 4)) Lf) (some (AObj.map (enP (mkM ks)) (List.length ks))) Lf) (some (AObj.cells [Vi s, Vd 1 (blV acc), Vd 1 (roV nx)] 29)) (Nd Lf (some (AObj.cells [Vi (Prod.fst k), Vi (Prod.snd k)] 125)) Lf)) (some (AObj.arr (inV C) [Value.slice (some ⟨2, 0, none⟩) (List.length F) 18446744073709551620, Value.slice (some ⟨7, 0, none⟩) (List.length ac) 18446744073709551620, Value.slice (some ⟨8, 0, none⟩) (List.length rw) 18446744073709551620] 256 68)) (Nd (Nd (Nd Lf (some (AObj.gro (roV rw) [] 50)) Lf) (some (AObj.gro (prs ks) [] 125)) Lf) (some (AObj.gro (inV F) [] 3)) (Nd Lf (some (AObj.gro (List.set (inV r) (c) (Vi (mgP (enP (mkM ks)) (Value.agg (Array.mk [Vi (stp (List.map deR (roV nx)) (Prod.fst k) (Int.toNat (intAt (inV F) (c : Int)))), Vi 0]))))) [] 3)) Lf))) 9))) ((List.all [Value.slice (some ⟨6, 0, none⟩) (List.length r) 18446744073709551620] cellv = true ∧ List.length rw + 0 = List.length (roV rw) ∧ List.length rw + (1 : Nat) ≤ (70368744177664 : Nat) ∧ (List.length rw + 1) * (24 : Nat) ≤ (140737488355328 : Nat)) ∧ HFs [Vd 1 (blV acc), Vd 1 (roV nx), Vd 1 (blV acc), Vd 1 (roV nx)] (PH (Prod.fst (some (okO (AObj.cells [Vi s, Vd 1 (blV acc), Vd 1 (roV nx)] 29) (s, List.map deB (blV acc), List.map deR (roV nx)) ∧ inA (s, List.map deB (blV acc), List.map deR (roV nx)) (Prod.fst k)), Value.bool (acS (s, List.map deB (blV acc), List.map deR (roV nx)) k), [AObj.cells [Vi s, Vd 1 (blV acc), Vd 1 (roV nx)] 29]))) ∧ Value.slice (some ⟨7, 0, none⟩) (List.length ac) 18446744073709551620 = Value.slice (some ⟨7, 0, none⟩) (List.length ac) 18446744073709551620 ∧ (List.all [Value.bool (acS (s, List.map deB (blV acc), List.map deR (roV nx)) k)] cellv = true ∧ List.length ac + 0 = List.length (blV ac) ∧ List.length ac + (1 : Nat) ≤ (70368744177664 : Nat) ∧ (List.length ac + 1) * (1 : Nat) ≤ (140737488355328 : Nat)) ∧ List.length (inV r) = List.length r ∧ HF (Value.agg (Array.mk (inV C))) ∧ HF (Vd 1 (blV acc)) ∧ HF (Vd 1 (roV nx)) ∧ HF (Value.agg (Array.mk (inV F))) ∧ HF (Value.agg (Array.mk (mvl (enP (mkM ks))))) ∧ HF (Value.agg (Array.mk (prs ks))) ∧ HF (Value.agg (Array.mk (blV ac ++ [Value.bool (acS (s, List.map deB (blV acc), List.map deR (roV nx)) k)]))) ∧ HF (Value.agg (Array.mk (roV rw ++ [Vd 1 (inV r)]))) ∧ again2 (Nd (Nd (Nd Lf (some (Value.func (Go.Fn.func 72) ⟨[]⟩ (Array.mk [Value.pointer (some ⟨1, 0, none⟩)]))) Lf) none (Nd (Nd Lf (some (Value.slice (some ⟨4, 0, none⟩) (List.length ks) 18446744073709551621)) Lf) none Lf)) (some (Value.pointer (some ⟨0, 0, none⟩))) (Nd (Nd (Nd Lf (some (Value.map (some 3))) Lf) none Lf) (some (Value.func (Go.Fn.func 71) ⟨[]⟩ (Array.mk [Value.pointer (some ⟨1, 0, none⟩)]))) (Nd (Nd Lf (some (Vi (IntKind.wrap .i64 ((i : Int) + 1)))) Lf) none Lf))) (AH.mk (Nd (Nd (Nd Lf (some (AObj.map (enP (mkM ks)) (List.length ks))) Lf) (some (AObj.cells [Vi s, Vd 1 (blV acc), Vd 1 (roV nx)] 29)) (Nd Lf (some (AObj.gro (blV ac ++ [Value.bool (acS (s, List.map deB (blV acc), List.map deR (roV nx)) k)]) [] 4)) Lf)) (some (AObj.arr (inV C) [Value.slice (some ⟨2, 0, none⟩) (List.length F) 18446744073709551620, Value.slice (some ⟨5, 0, none⟩) (List.length ac + 1) 18446744073709551620, Value.slice (some ⟨6, 0, none⟩) (List.length rw + 1) 18446744073709551620] 256 68)) (Nd (Nd Lf (some (AObj.gro (prs ks) [] 125)) Lf) (some (AObj.gro (inV F) [] 3)) (Nd Lf (some (AObj.gro (roV rw ++ [Vd 1 (inV r)]) [] 50)) Lf))) 7))) := by kernel_rfl
theorem jEp_nf (K : KV) (C : List Int) (F : List Int) (st : PR) (s : Int) (acc : List Bool) (nx : List (List Int)) (s2 : Int) (acc2 : List Bool) (nx2 : List (List Int)) : jEp K C F st s acc nx s2 acc2 nx2 = (mapUpdE (SX.E XEx) 131 [] 0 (Value.agg (Array.mk [Vi (Prod.fst st), Vi (Prod.snd st)])) (Vi 0) = some ([(Value.agg (Array.mk [Vi (Prod.fst st), Vi (Prod.snd st)]), Vi 0, 0)], 1) ∧ HF (Value.agg (Array.mk (inV C))) ∧ HF (Vd 1 (blV acc)) ∧ HF (Vd 1 (roV nx)) ∧ HF (Vd 1 (blV acc2)) ∧ HF (Vd 1 (roV nx2)) ∧ HF (Value.agg (Array.mk (inV F))) ∧ HF (Value.agg (Array.mk [Vi 0])) ∧ HF (Value.agg (Array.mk [Value.agg (Array.mk [Vi (Prod.fst st), Vi (Prod.snd st)])])) ∧ HF (Value.agg ⟨[]⟩) ∧ HF (Value.agg ⟨[]⟩) ∧ LAtZ XEx 1 (Func.ntmps Proofs.Tryd.f66) (hEp0 C F s acc nx s2 acc2 nx2) (bodyOf Proofs.Tryd.f66) [1, 1, 1, 1, 0] (finK (SX.E XEx) (Array.toList (Func.results Proofs.Tryd.f66)) K) (Nd (Nd (Nd Lf (some (Value.func (Go.Fn.func 67) ⟨[]⟩ (Array.mk [Value.pointer (some ⟨2, 0, none⟩), Value.pointer (some ⟨3, 0, none⟩)]))) Lf) none (Nd (Nd Lf (some (Value.slice (some ⟨6, 0, none⟩) 1 18446744073709551621)) Lf) none Lf)) (some (Value.pointer (some ⟨0, 0, none⟩))) (Nd (Nd (Nd Lf (some (Value.map (some 5))) Lf) none Lf) (some (Value.func (Go.Fn.func 65) ⟨[]⟩ (Array.mk [Value.pointer (some ⟨1, 0, none⟩), Value.pointer (some ⟨2, 0, none⟩), Value.pointer (some ⟨3, 0, none⟩)]))) (Nd (Nd Lf (some (Vi 0)) Lf) none Lf))) (AH.mk (Nd (Nd (Nd (Nd Lf (some (AObj.gro [] [] 4)) Lf) (some (AObj.cells [Vi s2, Vd 1 (blV acc2), Vd 1 (roV nx2)] 29)) Lf) (some (AObj.cells [Value.func (Go.Fn.func 34) ⟨[]⟩ ⟨[]⟩] 87)) (Nd Lf (some (AObj.map [(Value.agg (Array.mk [Vi (Prod.fst st), Vi (Prod.snd st)]), Vi 0, 0)] 1)) Lf)) (some (AObj.arr (inV C) [Value.slice (some ⟨4, 0, none⟩) (List.length F) 18446744073709551620, Value.slice (some ⟨7, 0, none⟩) 0 18446744073709551620, Value.slice (some ⟨8, 0, none⟩) 0 18446744073709551620] 256 68)) (Nd (Nd (Nd Lf (some (AObj.gro [] [] 50)) Lf) (some (AObj.gro (inV F) [] 3)) Lf) (some (AObj.cells [Vi s, Vd 1 (blV acc), Vd 1 (roV nx)] 29)) (Nd Lf (some (AObj.gro [Value.agg (Array.mk [Vi (Prod.fst st), Vi (Prod.snd st)])] [] 125)) Lf))) 9)) := by kernel_rfl
theorem jEpL_nf (K : KV) (again : KF) (C0 : List Int) (F0 : List Int) (C : List Int) (F : List Int) (ks : List PR) (ac : List Bool) (rw : List (List Int)) (s : Int) (acc : List Bool) (nx : List (List Int)) (s2 : Int) (acc2 : List Bool) (nx2 : List (List Int)) (i : Nat) : jEpL K again C0 F0 C F ks ac rw s acc nx s2 acc2 nx2 i = (Sp (decide ((i : Int) < (↑(List.length ks) : Int))) ((0 ≤ (i : Int) ∧ (i : Int) < (↑(List.length ks) : Int)) ∧ nth (prs ks) (i) = some (Value.agg (Array.mk [Vi (Prod.fst (prAt (prs ks) (i : Int))), Vi (Prod.snd (prAt (prs ks) (i : Int)))])) ∧ (0 ≤ (↑(List.length F) : Int) ∧ (↑(List.length F) : Int) ≤ (↑(List.length F) : Int) ∧ (↑(List.length F) : Int) ≤ 281474976710656 ∧ 8 * List.length F ≤ 281474976710656) ∧ HF (Value.agg (Array.mk (inV C))) ∧ HF (Vd 1 (blV acc)) ∧ HF (Vd 1 (roV nx)) ∧ HF (Vd 1 (blV acc2)) ∧ HF (Vd 1 (roV nx2)) ∧ HF (Value.agg (Array.mk (inV F))) ∧ HF (Value.agg (Array.mk (mvl (enP (mkM ks))))) ∧ HF (Value.agg (Array.mk (prs ks))) ∧ HF (Value.agg (Array.mk (List.replicate (List.length F) (Vi 0)))) ∧ HF (Value.agg (Array.mk (blV ac))) ∧ HF (Value.agg (Array.mk (roV rw))) ∧ LAtZ XEx 1 (Func.ntmps Proofs.Tryd.f66) (hEp0 C0 F0 s acc nx s2 acc2 nx2) (loopBody (subC [1, 1, 1, 1, 0] (bodyOf Proofs.Tryd.f66))) [1, 0, 0, 1, 1, 0, 1, 0] (stepF XEx 1 (Func.ntmps Proofs.Tryd.f66) (hEp0 C0 F0 s acc nx s2 acc2 nx2) (bodyOf Proofs.Tryd.f66) [1, 1, 1, 1, 0] (kFinEx K) nsEx [NPos.cell 0 258] [] [0, 2, 3, 8, 9, 10] again) (Nd (Nd (Nd Lf (some (Value.func (Go.Fn.func 67) ⟨[]⟩ (Array.mk [Value.pointer (some ⟨2, 0, none⟩), Value.pointer (some ⟨3, 0, none⟩)]))) (Nd Lf (some (Value.pointer (some ⟨7, 0, none⟩))) (Nd (Nd Lf (some (Vi (↑(List.length F) : Int))) Lf) none Lf))) none (Nd (Nd Lf (some (Value.slice (some ⟨6, 0, none⟩) (List.length ks) 18446744073709551621)) Lf) none Lf)) (some (Value.pointer (some ⟨0, 0, none⟩))) (Nd (Nd (Nd Lf (some (Value.map (some 5))) Lf) none (Nd Lf (some (Value.slice (some ⟨8, 0, none⟩) (List.length F) 18446744073709551620)) (Nd (Nd Lf (some (Vi 0)) Lf) none Lf))) (some (Value.func (Go.Fn.func 65) ⟨[]⟩ (Array.mk [Value.pointer (some ⟨1, 0, none⟩), Value.pointer (some ⟨2, 0, none⟩), Value.pointer (some ⟨3, 0, none⟩)]))) (Nd (Nd Lf (some (Vi (i : Int))) (Nd (Nd Lf (some (Value.slice (some ⟨4, 0, none⟩) (List.length F) 18446744073709551620)) Lf) none Lf)) none Lf))) (AH.mk (Nd (Nd (Nd (Nd Lf (some (AObj.cells [Vi (Prod.fst (prAt (prs ks) (i : Int))), Vi (Prod.snd (prAt (prs ks) (i : Int)))] 125)) Lf) (some (AObj.cells [Vi s2, Vd 1 (blV acc2), Vd 1 (roV nx2)] 29)) Lf) (some (AObj.cells [Value.func (Go.Fn.func 34) ⟨[]⟩ ⟨[]⟩] 87)) (Nd (Nd Lf (some (AObj.gro (blV ac) [] 4)) Lf) (some (AObj.map (enP (mkM ks)) (List.length ks))) Lf)) (some (AObj.arr (inV C) [Value.slice (some ⟨4, 0, none⟩) (List.length F) 18446744073709551620, Value.slice (some ⟨9, 0, none⟩) (List.length ac) 18446744073709551620, Value.slice (some ⟨10, 0, none⟩) (List.length rw) 18446744073709551620] 256 68)) (Nd (Nd (Nd Lf (some (AObj.gro (List.replicate (List.length F) (Vi 0)) [] 3)) Lf) (some (AObj.gro (inV F) [] 3)) Lf) (some (AObj.cells [Vi s, Vd 1 (blV acc), Vd 1 (roV nx)] 29)) (Nd (Nd Lf (some (AObj.gro (roV rw) [] 50)) Lf) (some (AObj.gro (prs ks) [] 125)) Lf))) 11)) (K (Value.tuple ⟨[]⟩) (AH.mk (Nd (Nd (Nd (Nd Lf (some (AObj.gro (blV ac) [] 4)) Lf) (some (AObj.cells [Vi s2, Vd 1 (blV acc2), Vd 1 (roV nx2)] 29)) Lf) (some (AObj.cells [Value.func (Go.Fn.func 34) ⟨[]⟩ ⟨[]⟩] 87)) (Nd Lf (some (AObj.map (enP (mkM ks)) (List.length ks))) Lf)) (some (AObj.arr (inV C) [Value.slice (some ⟨4, 0, none⟩) (List.length F) 18446744073709551620, Value.slice (some ⟨7, 0, none⟩) (List.length ac) 18446744073709551620, Value.slice (some ⟨8, 0, none⟩) (List.length rw) 18446744073709551620] 256 68)) (Nd (Nd (Nd Lf (some (AObj.gro (roV rw) [] 50)) Lf) (some (AObj.gro (inV F) [] 3)) Lf) (some (AObj.cells [Vi s, Vd 1 (blV acc), Vd 1 (roV nx)] 29)) (Nd Lf (some (AObj.gro (prs ks) [] 125)) Lf))) 9))) := by kernel_rfl
theorem jEpI_nf (K : KV) (again2 : KF) (again : KF) (C0 : List Int) (F0 : List Int) (C : List Int) (F : List Int) (ks : List PR) (ac : List Bool) (rw : List (List Int)) (k : PR) (r : List Int) (s : Int) (acc : List Bool) (nx : List (List Int)) (s2 : Int) (acc2 : List Bool) (nx2 : List (List Int)) (i c : Nat) : jEpI K again2 again C0 F0 C F ks ac rw k r s acc nx s2 acc2 nx2 i c = (Sp (decide ((c : Int) < (↑(List.length F) : Int))) ((0 ≤ (c : Int) ∧ (c : Int) < (↑(List.length F) : Int)) ∧ nth (inV F) (c) = some (Vi (intAt (inV F) (c : Int))) ∧ HFs [Vd 1 (blV acc), Vd 1 (roV nx), Vd 1 (blV acc2), Vd 1 (roV nx2), Vd 1 (blV acc), Vd 1 (roV nx), Vd 1 (blV acc2), Vd 1 (roV nx2)] (PH (Prod.fst (some (okO (AObj.cells [Vi s, Vd 1 (blV acc), Vd 1 (roV nx)] 29) (s, List.map deB (blV acc), List.map deR (roV nx)) ∧ okO (AObj.cells [Vi s2, Vd 1 (blV acc2), Vd 1 (roV nx2)] 29) (s2, List.map deB (blV acc2), List.map deR (roV nx2)) ∧ (inA (s, List.map deB (blV acc), List.map deR (roV nx)) (Prod.fst k) ∧ inA (s2, List.map deB (blV acc2), List.map deR (roV nx2)) (Prod.snd k)) ∧ 0 ≤ intAt (inV F) (c : Int) ∧ intAt (inV F) (c : Int) < 256), Value.agg (Array.mk [Vi (stp (List.map deR (roV nx)) (Prod.fst k) (Int.toNat (intAt (inV F) (c : Int)))), Vi (stp (List.map deR (roV nx2)) (Prod.snd k) (Int.toNat (intAt (inV F) (c : Int))))]), [AObj.cells [Vi s, Vd 1 (blV acc), Vd 1 (roV nx)] 29, AObj.cells [Vi s2, Vd 1 (blV acc2), Vd 1 (roV nx2)] 29]))) ∧ lookE (SX.E XEx) 131 (enP (mkM ks)) (Value.agg (Array.mk [Vi (stp (List.map deR (roV nx)) (Prod.fst k) (Int.toNat (intAt (inV F) (c : Int)))), Vi (stp (List.map deR (roV nx2)) (Prod.snd k) (Int.toNat (intAt (inV F) (c : Int))))])) = some (Vi (mgP (enP (mkM ks)) (Value.agg (Array.mk [Vi (stp (List.map deR (roV nx)) (Prod.fst k) (Int.toNat (intAt (inV F) (c : Int)))), Vi (stp (List.map deR (roV nx2)) (Prod.snd k) (Int.toNat (intAt (inV F) (c : Int))))]))), mhP (enP (mkM ks)) (Value.agg (Array.mk [Vi (stp (List.map deR (roV nx)) (Prod.fst k) (Int.toNat (intAt (inV F) (c : Int)))), Vi (stp (List.map deR (roV nx2)) (Prod.snd k) (Int.toNat (intAt (inV F) (c : Int))))]))) ∧ Sp (!mhP (enP (mkM ks)) (Value.agg (Array.mk [Vi (stp (List.map deR (roV nx)) (Prod.fst k) (Int.toNat (intAt (inV F) (c : Int)))), Vi (stp (List.map deR (roV nx2)) (Prod.snd k) (Int.toNat (intAt (inV F) (c : Int))))]))) (mapUpdE (SX.E XEx) 131 (enP (mkM ks)) (List.length ks) (Value.agg (Array.mk [Vi (stp (List.map deR (roV nx)) (Prod.fst k) (Int.toNat (intAt (inV F) (c : Int)))), Vi (stp (List.map deR (roV nx2)) (Prod.snd k) (Int.toNat (intAt (inV F) (c : Int))))])) (Vi (↑(List.length ks) : Int)) = some (msP (enP (mkM ks)) (Value.agg (Array.mk [Vi (stp (List.map deR (roV nx)) (Prod.fst k) (Int.toNat (intAt (inV F) (c : Int)))), Vi (stp (List.map deR (roV nx2)) (Prod.snd k) (Int.toNat (intAt (inV F) (c : Int))))])) (Vi (↑(List.length ks) : Int)), mnP (enP (mkM ks)) (Value.agg (Array.mk [Vi (stp (List.map deR (roV nx)) (Prod.fst k) (Int.toNat (intAt (inV F) (c : Int)))), Vi (stp (List.map deR (roV nx2)) (Prod.snd k) (Int.toNat (intAt (inV F) (c : Int))))])) (Vi (↑(List.length ks) : Int))) ∧ (List.all [Vi (stp (List.map deR (roV nx)) (Prod.fst k) (Int.toNat (intAt (inV F) (c : Int)))), Vi (stp (List.map deR (roV nx2)) (Prod.snd k) (Int.toNat (intAt (inV F) (c : Int))))] cellv = true ∧ List.length ks + 0 = List.length (prs ks) ∧ List.length ks + (1 : Nat) ≤ (70368744177664 : Nat) ∧ (List.length ks + 1) * (16 : Nat) ≤ (140737488355328 : Nat)) ∧ (0 ≤ (c : Int) ∧ (c : Int) < (↑(List.length r) : Int)) ∧ c < List.length (inV r) ∧ HF (Value.agg (Array.mk (inV C))) ∧ HF (Vd 1 (blV acc)) ∧ HF (Vd 1 (roV nx)) ∧ HF (Vd 1 (blV acc2)) ∧ HF (Vd 1 (roV nx2)) ∧ HF (Value.agg (Array.mk (inV F))) ∧ HF (Value.agg (Array.mk (mvl (msP (enP (mkM ks)) (Value.agg (Array.mk [Vi (stp (List.map deR (roV nx)) (Prod.fst k) (Int.toNat (intAt (inV F) (c : Int)))), Vi (stp (List.map deR (roV nx2)) (Prod.snd k) (Int.toNat (intAt (inV F) (c : Int))))])) (Vi (↑(List.length ks) : Int)))))) ∧ HF (Value.agg (Array.mk (prs ks ++ [Value.agg (Array.mk [Vi (stp (List.map deR (roV nx)) (Prod.fst k) (Int.toNat (intAt (inV F) (c : Int)))), Vi (stp (List.map deR (roV nx2)) (Prod.snd k) (Int.toNat (intAt (inV F) (c : Int))))])]))) ∧ HF (Value.agg (Array.mk (List.set (inV r) (c) (Vi (↑(List.length ks) : Int))))) ∧ HF (Value.agg (Array.mk (blV ac))) ∧ HF (Value.agg (Array.mk (roV rw))) ∧ again (Nd (Nd (Nd Lf (some (Value.func (Go.Fn.func 67) ⟨[]⟩ (Array.mk [Value.pointer (some ⟨2, 0, none⟩), Value.pointer (some ⟨3, 0, none⟩)]))) (Nd Lf (some (Value.pointer (some ⟨7, 0, none⟩))) (Nd (Nd Lf (some (Vi (↑(List.length F) : Int))) Lf) none Lf))) none (Nd (Nd Lf (some (Value.slice (some ⟨6, 0, none⟩) (List.length ks + 1) 18446744073709551621)) Lf) none Lf)) (some (Value.pointer (some ⟨0, 0, none⟩))) (Nd (Nd (Nd Lf (some (Value.map (some 5))) Lf) none (Nd Lf (some (Value.slice (some ⟨8, 0, none⟩) (List.length r) 18446744073709551620)) (Nd (Nd Lf (some (Vi (IntKind.wrap .i64 ((c : Int) + 1)))) Lf) none Lf))) (some (Value.func (Go.Fn.func 65) ⟨[]⟩ (Array.mk [Value.pointer (some ⟨1, 0, none⟩), Value.pointer (some ⟨2, 0, none⟩), Value.pointer (some ⟨3, 0, none⟩)]))) (Nd (Nd Lf (some (Vi (i : Int))) (Nd (Nd Lf (some (Value.slice (some ⟨4, 0, none⟩) (List.length F) 18446744073709551620)) Lf) none Lf)) none Lf))) (AH.mk (Nd (Nd (Nd (Nd Lf (some (AObj.cells [Vi (Prod.fst k), Vi (Prod.snd k)] 125)) Lf) (some (AObj.cells [Vi s2, Vd 1 (blV acc2), Vd 1 (roV nx2)] 29)) Lf) (some (AObj.cells [Value.func (Go.Fn.func 34) ⟨[]⟩ ⟨[]⟩] 87)) (Nd (Nd Lf (some (AObj.gro (blV ac) [] 4)) Lf) (some (AObj.map (msP (enP (mkM ks)) (Value.agg (Array.mk [Vi (stp (List.map deR (roV nx)) (Prod.fst k) (Int.toNat (intAt (inV F) (c : Int)))), Vi (stp (List.map deR (roV nx2)) (Prod.snd k) (Int.toNat (intAt (inV F) (c : Int))))])) (Vi (↑(List.length ks) : Int))) (mnP (enP (mkM ks)) (Value.agg (Array.mk [Vi (stp (List.map deR (roV nx)) (Prod.fst k) (Int.toNat (intAt (inV F) (c : Int)))), Vi (stp (List.map deR (roV nx2)) (Prod.snd k) (Int.toNat (intAt (inV F) (c : Int))))])) (Vi (↑(List.length ks) : Int))))) Lf)) (some (AObj.arr (inV C) [Value.slice (some ⟨4, 0, none⟩) (List.length F) 18446744073709551620, Value.slice (some ⟨9, 0, none⟩) (List.length ac) 18446744073709551620, Value.slice (some ⟨10, 0, none⟩) (List.length rw) 18446744073709551620] 256 68)) (Nd (Nd (Nd Lf (some (AObj.gro (List.set (inV r) (c) (Vi (↑(List.length ks) : Int))) [] 3)) Lf) (some (AObj.gro (inV F) [] 3)) Lf) (some (AObj.cells [Vi s, Vd 1 (blV acc), Vd 1 (roV nx)] 29)) (Nd (Nd Lf (some (AObj.gro (roV rw) [] 50)) Lf) (some (AObj.gro (prs ks ++ [Value.agg (Array.mk [Vi (stp (List.map deR (roV nx)) (Prod.fst k) (Int.toNat (intAt (inV F) (c : Int)))), Vi (stp (List.map deR (roV nx2)) (Prod.snd k) (Int.toNat (intAt (inV F) (c : Int))))])]) [] 125)) Lf))) 11)) ((0 ≤ (c : Int) ∧ (c : Int) < (↑(List.length r) : Int)) ∧ c < List.length (inV r) ∧ HF (Value.agg (Array.mk (inV C))) ∧ HF (Vd 1 (blV acc)) ∧ HF (Vd 1 (roV nx)) ∧ HF (Vd 1 (blV acc2)) ∧ HF (Vd 1 (roV nx2)) ∧ HF (Value.agg (Array.mk (inV F))) ∧ HF (Value.agg (Array.mk (mvl (enP (mkM ks))))) ∧ HF (Value.agg (Array.mk (prs ks))) ∧ HF (Value.agg (Array.mk (List.set (inV r) (c) (Vi (mgP (enP (mkM ks)) (Value.agg (Array.mk [Vi (stp (List.map deR (roV nx)) (Prod.fst k) (Int.toNat (intAt (inV F) (c : Int)))), Vi (stp (List.map deR (roV nx2)) (Prod.snd k) (Int.toNat (intAt (inV F) (c : Int))))]))))))) ∧ HF (Value.agg (Array.mk (blV ac))) ∧ HF (Value.agg (Array.mk (roV rw))) ∧ again (Nd (Nd (Nd Lf (some (Value.func (Go.Fn.func 67) ⟨[]⟩ (Array.mk [Value.pointer (some ⟨2, 0, none⟩), Value.pointer (some ⟨3, 0, none⟩)]))) (Nd Lf (some (Value.pointer (some ⟨7, 0, none⟩))) (Nd (Nd Lf (some (Vi (↑(List.length F) : Int))) Lf) none Lf))) none (Nd (Nd Lf (some (Value.slice (some ⟨6, 0, none⟩) (List.length ks) 18446744073709551621)) Lf) none Lf)) (some (Value.pointer (some ⟨0, 0, none⟩))) (Nd (Nd (Nd Lf (some (Value.map (some 5))) Lf) none (Nd Lf (some (Value.slice (some ⟨8, 0, none⟩) (List.length r) 18446744073709551620)) (Nd (Nd Lf (some (Vi (IntKind.wrap .i64 ((c : Int) + 1)))) Lf) none Lf))) (some (Value.func (Go.Fn.func 65) ⟨[]⟩ (Array.mk [Value.pointer (some ⟨1, 0, none⟩), Value.pointer (some ⟨2, 0, none⟩), Value.pointer (some ⟨3, 0, none⟩)]))) (Nd (Nd Lf (some (Vi (i : Int))) (Nd (Nd Lf (some (Value.slice (some ⟨4, 0, none⟩) (List.length F) 18446744073709551620)) Lf) none Lf)) none Lf))) (AH.mk (Nd (Nd (Nd (Nd Lf (some (AObj.cells [Vi (Prod.fst k), Vi (Prod.snd k)] 125)) Lf) (some (AObj.cells [Vi s2, Vd 1 (blV acc2), Vd 1 (roV nx2)] 29)) Lf) (some (AObj.cells [Value.func (Go.Fn.func 34) ⟨[]⟩ ⟨[]⟩] 87)) (Nd (Nd Lf (some (AObj.gro (blV ac) [] 4)) Lf) (some (AObj.map (enP (mkM ks)) (List.length ks))) Lf)) (some (AObj.arr (inV C) [Value.slice (some ⟨4, 0, none⟩) (List.length F) 18446744073709551620, Value.slice (some ⟨9, 0, none⟩) (List.length ac) 18446744073709551620, Value.slice (some ⟨10, 0, none⟩) (List.length rw) 18446744073709551620] 256 68)) (Nd (Nd (Nd Lf (some (AObj.gro (List.set (inV r) (c) (Vi (mgP (enP (mkM ks)) (Value.agg (Array.mk [Vi (stp (List.map deR (roV nx)) (Prod.fst k) (Int.toNat (intAt (inV F) (c : Int)))), Vi (stp (List.map deR (roV nx2)) (Prod.snd k) (Int.toNat (intAt (inV F) (c : Int))))]))))) [] 3)) Lf) (some (AObj.gro (inV F) [] 3)) Lf) (some (AObj.cells [Vi s, Vd 1 (blV acc), Vd 1 (roV nx)] 29)) (Nd (Nd Lf (some (AObj.gro (roV rw) [] 50)) Lf) (some (AObj.gro (prs ks) [] 125)) Lf))) 11))) ((List.all [Value.slice (some ⟨8, 0, none⟩) (List.length r) 18446744073709551620] cellv = true ∧ List.length rw + 0 = List.length (roV rw) ∧ List.length rw + (1 : Nat) ≤ (70368744177664 : Nat) ∧ (List.length rw + 1) * (24 : Nat) ≤ (140737488355328 : Nat)) ∧ HFs [Vd 1 (blV acc), Vd 1 (roV nx), Vd 1 (blV acc2), Vd 1 (roV nx2), Vd 1 (blV acc), Vd 1 (roV nx), Vd 1 (blV acc2), Vd 1 (roV nx2)] (PH (Prod.fst (some (AObj.cells [Value.func (Go.Fn.func 34) ⟨[]⟩ ⟨[]⟩] 87 = AObj.cells [Value.func (Go.Fn.func 34) ⟨[]⟩ ⟨[]⟩] 87 ∧ okO (AObj.cells [Vi s, Vd 1 (blV acc), Vd 1 (roV nx)] 29) (s, List.map deB (blV acc), List.map deR (roV nx)) ∧ okO (AObj.cells [Vi s2, Vd 1 (blV acc2), Vd 1 (roV nx2)] 29) (s2, List.map deB (blV acc2), List.map deR (roV nx2)) ∧ inA (s, List.map deB (blV acc), List.map deR (roV nx)) (Prod.fst k) ∧ inA (s2, List.map deB (blV acc2), List.map deR (roV nx2)) (Prod.snd k)), Value.bool (acP2 (s, List.map deB (blV acc), List.map deR (roV nx)) (s2, List.map deB (blV acc2), List.map deR (roV nx2)) k), [AObj.cells [Value.func (Go.Fn.func 34) ⟨[]⟩ ⟨[]⟩] 87, AObj.cells [Vi s, Vd 1 (blV acc), Vd 1 (roV nx)] 29, AObj.cells [Vi s2, Vd 1 (blV acc2), Vd 1 (roV nx2)] 29]))) ∧ Value.slice (some ⟨9, 0, none⟩) (List.length ac) 18446744073709551620 = Value.slice (some ⟨9, 0, none⟩) (List.length ac) 18446744073709551620 ∧ (List.all [Value.bool (acP2 (s, List.map deB (blV acc), List.map deR (roV nx)) (s2, List.map deB (blV acc2), List.map deR (roV nx2)) k)] cellv = true ∧ List.length ac + 0 = List.length (blV ac) ∧ List.length ac + (1 : Nat) ≤ (70368744177664 : Nat) ∧ (List.length ac + 1) * (1 : Nat) ≤ (140737488355328 : Nat)) ∧ List.length (inV r) = List.length r ∧ HF (Value.agg (Array.mk (inV C))) ∧ HF (Vd 1 (blV acc)) ∧ HF (Vd 1 (roV nx)) ∧ HF (Vd 1 (blV acc2)) ∧ HF (Vd 1 (roV nx2)) ∧ HF (Value.agg (Array.mk (inV F))) ∧ HF (Value.agg (Array.mk (mvl (enP (mkM ks))))) ∧ HF (Value.agg (Array.mk (prs ks))) ∧ HF (Value.agg (Array.mk (blV ac ++ [Value.bool (acP2 (s, List.map deB (blV acc), List.map deR (roV nx)) (s2, List.map deB (blV acc2), List.map deR (roV nx2)) k)]))) ∧ HF (Value.agg (Array.mk (roV rw ++ [Vd 1 (inV r)]))) ∧ again2 (Nd (Nd (Nd Lf (some (Value.func (Go.Fn.func 67) ⟨[]⟩ (Array.mk [Value.pointer (some ⟨2, 0, none⟩), Value.pointer (some ⟨3, 0, none⟩)]))) Lf) none (Nd (Nd Lf (some (Value.slice (some ⟨6, 0, none⟩) (List.length ks) 18446744073709551621)) Lf) none Lf)) (some (Value.pointer (some ⟨0, 0, none⟩))) (Nd (Nd (Nd Lf (some (Value.map (some 5))) Lf) none Lf) (some (Value.func (Go.Fn.func 65) ⟨[]⟩ (Array.mk [Value.pointer (some ⟨1, 0, none⟩), Value.pointer (some ⟨2, 0, none⟩), Value.pointer (some ⟨3, 0, none⟩)]))) (Nd (Nd Lf (some (Vi (IntKind.wrap .i64 ((i : Int) + 1)))) Lf) none Lf))) (AH.mk (Nd (Nd (Nd (Nd Lf (some (AObj.gro (blV ac ++ [Value.bool (acP2 (s, List.map deB (blV acc), List.map deR (roV nx)) (s2, List.map deB (blV acc2), List.map deR (roV nx2)) k)]) [] 4)) Lf) (some (AObj.cells [Vi s2, Vd 1 (blV acc2), Vd 1 (roV nx2)] 29)) Lf) (some (AObj.cells [Value.func (Go.Fn.func 34) ⟨[]⟩ ⟨[]⟩] 87)) (Nd Lf (some (AObj.map (enP (mkM ks)) (List.length ks))) Lf)) (some (AObj.arr (inV C) [Value.slice (some ⟨4, 0, none⟩) (List.length F) 18446744073709551620, Value.slice (some ⟨7, 0, none⟩) (List.length ac + 1) 18446744073709551620, Value.slice (some ⟨8, 0, none⟩) (List.length rw + 1) 18446744073709551620] 256 68)) (Nd (Nd (Nd Lf (some (AObj.gro (roV rw ++ [Vd 1 (inV r)]) [] 50)) Lf) (some (AObj.gro (inV F) [] 3)) Lf) (some (AObj.cells [Vi s, Vd 1 (blV acc), Vd 1 (roV nx)] 29)) (Nd Lf (some (AObj.gro (prs ks) [] 125)) Lf))) 9))) := by kernel_rfl
theorem mhP_e (ks : List PR) (k : PR) : mhP (enP (mkM ks)) (prV k) = decide (k ∈ ks) := by
 unfold mhP
 rw [invP]
 show (aget (mkM ks) k).isSome = _
 rw [mkM_get]
 by_cases h : k ∈ ks <;> simp [h]
theorem mgP_e (ks : List PR) (k : PR) (h : k ∈ ks) : mgP (enP (mkM ks)) (prV k) = (idN ks k : Nat) := by
 unfold mgP
 rw [invP]
 show (aget (mkM ks) k).getD 0 = _
 rw [mkM_get, if_pos h]; rfl
theorem msP_e (ks : List PR) (k : PR) (h : ¬ k ∈ ks) : msP (enP (mkM ks)) (prV k) (.int .i64 (ks.length : Nat)) = enP (mkM (ks ++ [k])) := by
 unfold msP
 rw [invP]
 show enP (aset (mkM ks) k ((ks.length : Nat) : Int)) = _
 rw [mkM_set h]
theorem mnP_e (ks : List PR) (k : PR) (h : ¬ k ∈ ks) : mnP (enP (mkM ks)) (prV k) (.int .i64 (ks.length : Nat)) = (ks ++ [k]).length := by
 unfold mnP
 rw [invP]
 show (aset (mkM ks) k ((ks.length : Nat) : Int)).length = _
 rw [mkM_set h, mkM_len]
theorem updP_e (ks : List PR) (k : PR) (h : ¬ k ∈ ks) : mapUpdE env 131 (enP (mkM ks)) ks.length (prV k) (.int .i64 (ks.length : Nat)) = some (enP (mkM (ks ++ [k])), (ks ++ [k]).length) := by
 have := updP (mkM ks) k (ks.length : Nat)
 rw [mkM_len, mkM_set h, mkM_len] at this
 exact this
theorem idN_new {S : Type} [DecidableEq S] {s : S} : ∀ {ks : List S}, ¬ s ∈ ks → idN (ks ++ [s]) s = ks.length
 | [], _ => by simp [idN]
 | x :: l, h => by
   have hx : ¬ x = s := fun e => h (by simp [e])
   have hl : ¬ s ∈ l := fun e => h (by simp [e])
   simp only [List.cons_append, idN, if_neg hx, List.length_cons, idN_new hl]
theorem prs_len (l : List PR) : (prs l).length = l.length := List.length_map _
theorem prs_app (l r : List PR) : prs l ++ prs r = prs (l ++ r) := by unfold prs; rw [List.map_append]
theorem HF_prs (l : List PR) : HF (.agg ⟨prs l⟩) := .agg fun x hx => by
 obtain ⟨k, _, rfl⟩ := List.mem_map.1 hx
 exact .agg (HF.cons (HFi _ _) (HF.cons (HFi _ _) HF.nil))
theorem nth_prs {l : List PR} {i : Nat} (h : i < l.length) : nth (prs l) i = some (prV l[i]) := by
 rw [nth_eq]; simp [prs, h]
theorem prAt_prs {l : List PR} {i : Nat} (h : i < l.length) : prAt (prs l) (i : Int) = l[i] := by
 unfold prAt; rw [Int.toNat_natCast, nth_prs h]; rfl
theorem HF_blA (l : List Bool) : HF (.agg ⟨blV l⟩) := .agg (HF_bl l)
theorem HF_roA (l : List (List Int)) : HF (.agg ⟨roV l⟩) := .agg (HF_ro l)
theorem blV_app (l : List Bool) (b : Bool) : blV l ++ [.bool b] = blV (l ++ [b]) := by unfold blV; rw [List.map_append]; rfl
theorem roV_app (l : List (List Int)) (r : List Int) : roV l ++ [dat 1 (inV r)] = roV (l ++ [r]) := by unfold roV; rw [List.map_append]; rfl
theorem set_rep (A : List Int) (m : Nat) (x : Int) (h : 0 < m) : (A ++ List.replicate m 0).set A.length x = (A ++ [x]) ++ List.replicate (m - 1) 0 := by
 obtain ⟨m, rfl⟩ : ∃ j, m = j + 1 := ⟨m - 1, by omega⟩
 rw [List.set_append_right _ _ (Nat.le_refl _), Nat.sub_self, List.replicate_succ, List.set_cons_zero, Nat.add_sub_cancel, List.append_assoc]; rfl
theorem inV_rep (n : Nat) : List.replicate n (Value.int .i64 0) = inV (List.replicate n 0) := by unfold inV; rw [List.map_replicate]
def inF (F : List Nat) : List Int := F.map Int.ofNat
theorem inF_len (F : List Nat) : (inF F).length = F.length := List.length_map _
theorem inF_at {F : List Nat} {c : Nat} (h : c < F.length) : (inF F)[c]'(by rw [inF_len]; exact h) = (F[c] : Int) := by simp [inF]
def scF (F : List Nat) (f : PR → Nat → PR) (k : PR) : List PR := F.map (f k)
def inS (a : AU) (k : PR) : Prop := inA a k.1 ∧ k.2 = 0
def inP2 (a b : AU) (k : PR) : Prop := inA a k.1 ∧ inA b k.2
theorem inS_le {a : AU} (h : OkA a) (l : List PR) (hd : l.Nodup) (hp : ∀ k ∈ l, inS a k) : l.length ≤ 90000 := pairs_le l hd fun k hk => by
 obtain ⟨⟨h1, h2⟩, h3⟩ := hp k hk
 have := h.n1
 omega
theorem inP_le {a b : AU} (h : OkA a) (h2 : OkA b) (l : List PR) (hd : l.Nodup) (hp : ∀ k ∈ l, inP2 a b k) : l.length ≤ 90000 := pairs_le l hd fun k hk => by
 obtain ⟨⟨g1, g2⟩, g3, g4⟩ := hp k hk
 have := h.n1
 have := h2.n1
 omega
theorem inS_step {a : AU} (h : OkA a) {F : List Nat} (hF : ∀ c ∈ F, c < 256) (k : PR) (hk : inS a k) : ∀ s ∈ scF F (stS a) k, inS a s := fun s hs => by
 obtain ⟨c, hc, rfl⟩ := List.mem_map.1 hs
 exact ⟨stp_in h hk.1.1 hk.1.2 (hF c hc), rfl⟩
theorem inP_step {a b : AU} (h : OkA a) (h2 : OkA b) {F : List Nat} (hF : ∀ c ∈ F, c < 256) (k : PR) (hk : inP2 a b k) : ∀ s ∈ scF F (stP a b) k, inP2 a b s := fun s hs => by
 obtain ⟨c, hc, rfl⟩ := List.mem_map.1 hs
 exact ⟨stp_in h hk.1.1 hk.1.2 (hF c hc), stp_in h2 hk.2.1 hk.2.2 (hF c hc)⟩
def rowC (ks l : List PR) (n c : Nat) : List Int := nums ks l ++ List.replicate (n - c) 0
theorem rowC_len {ks l : List PR} {n c : Nat} (h : l.length = c) (hc : c ≤ n) : (rowC ks l n c).length = n := by
 unfold rowC; rw [List.length_append, nums_len, List.length_replicate]; omega
theorem rowC_new {ks l : List PR} {n c : Nat} {s : PR} (h : l.length = c) (hc : c < n) (hl : ∀ x ∈ l, x ∈ ks) (hs : ¬ s ∈ ks) : (rowC ks l n c).set c (ks.length : Nat) = rowC (ks ++ [s]) (l ++ [s]) n (c + 1) := by
 unfold rowC
 have hn := nums_len ks l
 rw [h] at hn
 have := set_rep (nums ks l) (n - c) (ks.length : Nat) (by omega)
 rw [hn] at this
 rw [this]
 have e : nums (ks ++ [s]) (l ++ [s]) = nums ks l ++ [((ks.length : Nat) : Int)] := by
  have e1 : nums (ks ++ [s]) (l ++ [s]) = nums (ks ++ [s]) l ++ nums (ks ++ [s]) [s] := List.map_append
  rw [e1, nums_app [s] hl]
  show _ ++ [((idN (ks ++ [s]) s : Nat) : Int)] = _
  rw [idN_new hs]
 rw [e, show n - c - 1 = n - (c + 1) by omega]
theorem rowC_old {ks l : List PR} {n c : Nat} {s : PR} (h : l.length = c) (hc : c < n) : (rowC ks l n c).set c (idN ks s : Nat) = rowC ks (l ++ [s]) n (c + 1) := by
 unfold rowC
 have hn := nums_len ks l
 rw [h] at hn
 have := set_rep (nums ks l) (n - c) (idN ks s : Nat) (by omega)
 rw [hn] at this
 rw [this]
 have e : nums ks (l ++ [s]) = nums ks l ++ [((idN ks s : Nat) : Int)] := List.map_append
 rw [e, show n - c - 1 = n - (c + 1) by omega]
theorem rowC_end (ks l : List PR) (n : Nat) : rowC ks l n n = nums ks l := by unfold rowC; simp
theorem take_map_snoc {F : List Nat} {f : Nat → PR} {c : Nat} (h : c < F.length) : (F.take (c + 1)).map f = (F.take c).map f ++ [f F[c]] := by
 rw [List.take_succ_eq_append_getElem h, List.map_append]; rfl
theorem es_inner (K : KV) (again2 : KF) (C0 F0 C : List Int) (F : List Nat) (hF : ∀ c ∈ F, c < 256) (hFl : F.length ≤ 256) {a : AU} (ok : OkA a) (ks0 : List PR) (nd : ks0.Nodup) (inp : ∀ k ∈ ks0, inS a k) (k : PR) (hk : inS a k) (ac : List Bool) (rw0 : List (List Int)) (hac : ac.length ≤ 90000) (hrw : rw0.length ≤ 90000) (i : Nat) (hi : i ≤ 90000)
 (hag : again2 (frEsL (addS ks0 (scF F (stS a) k)).length (i + 1)) (hEsL C (inF F) (addS ks0 (scF F (stS a) k)) (ac ++ [acS a k]) (rw0 ++ [nums (addS ks0 (scF F (stS a) k)) (scF F (stS a) k)]) a.1 a.2.1 a.2.2)) :
 LAtZ XEx 1 (Func.ntmps Proofs.Tryd.f66) (hEs0 C0 F0 a.1 a.2.1 a.2.2) (loopBody (subC [1, 1, 1, 1, 0] (bodyOf Proofs.Tryd.f66))) [1, 0, 0, 1, 1, 0, 1, 0] (kEs2 K again2 C0 F0 a.1 a.2.1 a.2.2) (frEsI ks0.length (inF F).length (rowC ks0 [] F.length 0).length i 0) (hEsI C (inF F) ks0 ac rw0 k (rowC ks0 [] F.length 0) a.1 a.2.1 a.2.2) := by
 obtain ⟨s, acc, nx⟩ := a
 have hFi := inF_len F
 refine LAtZ.stepF XEx_ok [] [] [] [0, 2, 3, 8, 9, 10, 11, 12, 42, 43, 44] (by kernel_rfl) (fun m G A => ∃ c : Nat, G = frEsI (addS ks0 ((F.take c).map (stS (s, acc, nx) k))).length (inF F).length (rowC (addS ks0 ((F.take c).map (stS (s, acc, nx) k))) ((F.take c).map (stS (s, acc, nx) k)) F.length c).length i c ∧ A = hEsI C (inF F) (addS ks0 ((F.take c).map (stS (s, acc, nx) k))) ac rw0 k (rowC (addS ks0 ((F.take c).map (stS (s, acc, nx) k))) ((F.take c).map (stS (s, acc, nx) k)) F.length c) s acc nx ∧ c + m = F.length) ?_ (k := F.length) ⟨0, rfl, rfl, by omega⟩
 rintro m G A ⟨c, rfl, rfl, hcm⟩
 generalize hl : (F.take c).map (stS (s, acc, nx) k) = l
 generalize hks : addS ks0 l = ks
 have hll : l.length = c := by rw [← hl, List.length_map, List.length_take]; omega
 have hlm : ∀ x ∈ l, x ∈ ks := fun x hx => by rw [← hks]; exact addS_new hx
 have hnd : ks.Nodup := by rw [← hks]; exact addS_nodup nd
 have hinp : ∀ x ∈ ks, inS (s, acc, nx) x := fun x hx => by
  rw [← hks] at hx
  rcases addS_mem hx with q | q
  · exact inp x q
  · rw [← hl] at q
    obtain ⟨b, hb, rfl⟩ := List.mem_map.1 q
    exact inS_step ok hF k hk _ (List.mem_map.2 ⟨b, List.mem_of_mem_take hb, rfl⟩)
 have hkl : ks.length ≤ 90000 := inS_le ok ks hnd hinp
 have hrl := rowC_len (ks := ks) (n := F.length) hll (by omega)
 refine (jEsI_nf _ _ _ C0 F0 C (inF F) ks ac rw0 k (rowC ks l F.length c) s acc nx i c).mpr (Sp.intro (fun q => ?_) (fun q => ?_))
 · have q := of_decide_eq_true q
   rw [hFi] at q
   have hc : c < F.length := by omega
   have hc' : c < (inF F).length := by rw [hFi]; exact hc
   have hb : F[c] < 256 := hF _ (List.getElem_mem hc)
   have hsn := addS_snoc (stS (s, acc, nx) k F[c]) l ks0
   rw [hks] at hsn
   have hlc : (F.take (c + 1)).map (stS (s, acc, nx) k) = l ++ [stS (s, acc, nx) k F[c]] := by rw [take_map_snoc hc, hl]
   rw [intAt_in hc', inF_at hc, Int.toNat_natCast, blV_de, roV_de, hrl, hFi]
   have es : Value.agg (Array.mk [Vi (stp nx (Prod.fst k) F[c]), Vi 0]) = prV (stS (s, acc, nx) k F[c]) := rfl
   rw [es, mhP_e]
   refine ⟨⟨by omega, q⟩, by have := nth_in hc'; rw [inF_at hc] at this; exact this, ⟨.dat (HF_bl _), .dat (HF_ro _), .dat (HF_bl _), .dat (HF_ro _), ⟨rfl, ok⟩, hk.1, by omega, by omega⟩, (lookP _ _).trans (by rw [mhP_e]), Sp.intro (fun g => ?_) (fun g => ?_)⟩
   · have g : ¬ stS (s, acc, nx) k F[c] ∈ ks := by simpa using g
     rw [if_neg g] at hsn
     have ep : [prV (stS (s, acc, nx) k F[c])] = prs [stS (s, acc, nx) k F[c]] := rfl
     rw [msP_e _ _ g, mnP_e _ _ g, ep, prs_app, inV_set, rowC_new hll hc hlm g, i64_in (x := (c : Int) + 1) (by omega) (by omega)]
     refine ⟨updP_e _ _ g, ⟨rfl, by rw [prs_len]; omega, by omega, by omega⟩, ⟨by omega, by omega⟩, by rw [inV_len, hrl]; omega, HF_inA _, .dat (HF_bl _), .dat (HF_ro _), HF_inA _, HF_enP _, HF_prs _, HF_inA _, HF_blA _, HF_roA _, m - 1, by omega, c + 1, ?_, ?_, by omega⟩
     · rw [hlc, hsn]
       have hrl2 := rowC_len (ks := ks ++ [stS (s, acc, nx) k F[c]]) (l := l ++ [stS (s, acc, nx) k F[c]]) (n := F.length) (c := c + 1) (by rw [List.length_append, hll]; rfl) (by omega)
       rw [hrl2, List.length_append]; rfl
     · rw [hlc, hsn]
       unfold hEsI
       rw [hFi]; rfl
   · have g : stS (s, acc, nx) k F[c] ∈ ks := by simpa using g
     rw [if_pos g] at hsn
     rw [mgP_e _ _ g, inV_set, rowC_old hll hc, i64_in (x := (c : Int) + 1) (by omega) (by omega)]
     refine ⟨⟨by omega, by omega⟩, by rw [inV_len, hrl]; omega, HF_inA _, .dat (HF_bl _), .dat (HF_ro _), HF_inA _, HF_enP _, HF_prs _, HF_inA _, HF_blA _, HF_roA _, m - 1, by omega, c + 1, ?_, ?_, by omega⟩
     · rw [hlc, hsn]
       have hrl2 := rowC_len (ks := ks) (l := l ++ [stS (s, acc, nx) k F[c]]) (n := F.length) (c := c + 1) (by rw [List.length_append, hll]; rfl) (by omega)
       rw [hrl2]; rfl
     · rw [hlc, hsn]
       unfold hEsI
       rw [hFi]; rfl
 · have q := of_decide_eq_false q
   rw [hFi] at q
   obtain rfl : c = F.length := by omega
   rw [List.take_length] at hl
   have hle : l = scF F (stS (s, acc, nx)) k := hl.symm
   rw [← hle, hks] at hag
   rw [rowC_end, blV_de, roV_de, blV_app, i64_in (x := (i : Int) + 1) (by omega) (by omega)]
   have hn1 := nums_len ks l
   refine ⟨⟨rfl, by rw [roV_len]; omega, by omega, by omega⟩, ⟨.dat (HF_bl _), .dat (HF_ro _), .dat (HF_bl _), .dat (HF_ro _), ⟨rfl, ok⟩, hk.1⟩, rfl, ⟨rfl, by rw [blV_len]; omega, by omega, by omega⟩, by rw [inV_len], HF_inA _, .dat (HF_bl _), .dat (HF_ro _), HF_inA _, HF_enP _, HF_prs _, HF_blA _, ?_, ?_⟩
   · exact (roV_app rw0 (nums ks l)) ▸ HF_roA _
   · have e1 : roV rw0 ++ [Vd 1 (inV (nums ks l))] = roV (rw0 ++ [nums ks l]) := roV_app _ _
     rw [e1]
     unfold hEsL at hag
     rw [List.length_append, List.length_append] at hag
     exact hag
theorem ep_inner (K : KV) (again2 : KF) (C0 F0 C : List Int) (F : List Nat) (hF : ∀ c ∈ F, c < 256) (hFl : F.length ≤ 256) {a b : AU} (ok : OkA a) (ok2 : OkA b) (ks0 : List PR) (nd : ks0.Nodup) (inp : ∀ k ∈ ks0, inP2 a b k) (k : PR) (hk : inP2 a b k) (ac : List Bool) (rw0 : List (List Int)) (hac : ac.length ≤ 90000) (hrw : rw0.length ≤ 90000) (i : Nat) (hi : i ≤ 90000)
 (hag : again2 (frEpL (addS ks0 (scF F (stP a b) k)).length (i + 1)) (hEpL C (inF F) (addS ks0 (scF F (stP a b) k)) (ac ++ [acP2 a b k]) (rw0 ++ [nums (addS ks0 (scF F (stP a b) k)) (scF F (stP a b) k)]) a.1 a.2.1 a.2.2 b.1 b.2.1 b.2.2)) :
 LAtZ XEx 1 (Func.ntmps Proofs.Tryd.f66) (hEp0 C0 F0 a.1 a.2.1 a.2.2 b.1 b.2.1 b.2.2) (loopBody (subC [1, 1, 1, 1, 0] (bodyOf Proofs.Tryd.f66))) [1, 0, 0, 1, 1, 0, 1, 0] (kEp2 K again2 C0 F0 a.1 a.2.1 a.2.2 b.1 b.2.1 b.2.2) (frEpI ks0.length (inF F).length (rowC ks0 [] F.length 0).length i 0) (hEpI C (inF F) ks0 ac rw0 k (rowC ks0 [] F.length 0) a.1 a.2.1 a.2.2 b.1 b.2.1 b.2.2) := by
 obtain ⟨s, acc, nx⟩ := a
 obtain ⟨s2, acc2, nx2⟩ := b
 have hFi := inF_len F
 refine LAtZ.stepF XEx_ok [] [] [] [0, 2, 3, 8, 9, 10, 11, 12, 42, 43, 44] (by kernel_rfl) (fun m G A => ∃ c : Nat, G = frEpI (addS ks0 ((F.take c).map (stP (s, acc, nx) (s2, acc2, nx2) k))).length (inF F).length (rowC (addS ks0 ((F.take c).map (stP (s, acc, nx) (s2, acc2, nx2) k))) ((F.take c).map (stP (s, acc, nx) (s2, acc2, nx2) k)) F.length c).length i c ∧ A = hEpI C (inF F) (addS ks0 ((F.take c).map (stP (s, acc, nx) (s2, acc2, nx2) k))) ac rw0 k (rowC (addS ks0 ((F.take c).map (stP (s, acc, nx) (s2, acc2, nx2) k))) ((F.take c).map (stP (s, acc, nx) (s2, acc2, nx2) k)) F.length c) s acc nx s2 acc2 nx2 ∧ c + m = F.length) ?_ (k := F.length) ⟨0, rfl, rfl, by omega⟩
 rintro m G A ⟨c, rfl, rfl, hcm⟩
 generalize hl : (F.take c).map (stP (s, acc, nx) (s2, acc2, nx2) k) = l
 generalize hks : addS ks0 l = ks
 have hll : l.length = c := by rw [← hl, List.length_map, List.length_take]; omega
 have hlm : ∀ x ∈ l, x ∈ ks := fun x hx => by rw [← hks]; exact addS_new hx
 have hnd : ks.Nodup := by rw [← hks]; exact addS_nodup nd
 have hinp : ∀ x ∈ ks, inP2 (s, acc, nx) (s2, acc2, nx2) x := fun x hx => by
  rw [← hks] at hx
  rcases addS_mem hx with q | q
  · exact inp x q
  · rw [← hl] at q
    obtain ⟨b, hb, rfl⟩ := List.mem_map.1 q
    exact inP_step ok ok2 hF k hk _ (List.mem_map.2 ⟨b, List.mem_of_mem_take hb, rfl⟩)
 have hkl : ks.length ≤ 90000 := inP_le ok ok2 ks hnd hinp
 have hrl := rowC_len (ks := ks) (n := F.length) hll (by omega)
 refine (jEpI_nf _ _ _ C0 F0 C (inF F) ks ac rw0 k (rowC ks l F.length c) s acc nx s2 acc2 nx2 i c).mpr (Sp.intro (fun q => ?_) (fun q => ?_))
 · have q := of_decide_eq_true q
   rw [hFi] at q
   have hc : c < F.length := by omega
   have hc' : c < (inF F).length := by rw [hFi]; exact hc
   have hb : F[c] < 256 := hF _ (List.getElem_mem hc)
   have hsn := addS_snoc (stP (s, acc, nx) (s2, acc2, nx2) k F[c]) l ks0
   rw [hks] at hsn
   have hlc : (F.take (c + 1)).map (stP (s, acc, nx) (s2, acc2, nx2) k) = l ++ [stP (s, acc, nx) (s2, acc2, nx2) k F[c]] := by rw [take_map_snoc hc, hl]
   rw [intAt_in hc', inF_at hc, Int.toNat_natCast, blV_de, roV_de, blV_de, roV_de, hrl, hFi]
   have es : Value.agg (Array.mk [Vi (stp nx (Prod.fst k) F[c]), Vi (stp nx2 (Prod.snd k) F[c])]) = prV (stP (s, acc, nx) (s2, acc2, nx2) k F[c]) := rfl
   rw [es, mhP_e]
   refine ⟨⟨by omega, q⟩, by have := nth_in hc'; rw [inF_at hc] at this; exact this, ⟨.dat (HF_bl _), .dat (HF_ro _), .dat (HF_bl _), .dat (HF_ro _), .dat (HF_bl _), .dat (HF_ro _), .dat (HF_bl _), .dat (HF_ro _), ⟨rfl, ok⟩, ⟨rfl, ok2⟩, hk, by omega, by omega⟩, (lookP _ _).trans (by rw [mhP_e]), Sp.intro (fun g => ?_) (fun g => ?_)⟩
   · have g : ¬ stP (s, acc, nx) (s2, acc2, nx2) k F[c] ∈ ks := by simpa using g
     rw [if_neg g] at hsn
     have ep : [prV (stP (s, acc, nx) (s2, acc2, nx2) k F[c])] = prs [stP (s, acc, nx) (s2, acc2, nx2) k F[c]] := rfl
     rw [msP_e _ _ g, mnP_e _ _ g, ep, prs_app, inV_set, rowC_new hll hc hlm g, i64_in (x := (c : Int) + 1) (by omega) (by omega)]
     refine ⟨updP_e _ _ g, ⟨rfl, by rw [prs_len]; omega, by omega, by omega⟩, ⟨by omega, by omega⟩, by rw [inV_len, hrl]; omega, HF_inA _, .dat (HF_bl _), .dat (HF_ro _), .dat (HF_bl _), .dat (HF_ro _), HF_inA _, HF_enP _, HF_prs _, HF_inA _, HF_blA _, HF_roA _, m - 1, by omega, c + 1, ?_, ?_, by omega⟩
     · rw [hlc, hsn]
       have hrl2 := rowC_len (ks := ks ++ [stP (s, acc, nx) (s2, acc2, nx2) k F[c]]) (l := l ++ [stP (s, acc, nx) (s2, acc2, nx2) k F[c]]) (n := F.length) (c := c + 1) (by rw [List.length_append, hll]; rfl) (by omega)
       rw [hrl2, List.length_append]; rfl
     · rw [hlc, hsn]
       unfold hEpI
       rw [hFi]; rfl
   · have g : stP (s, acc, nx) (s2, acc2, nx2) k F[c] ∈ ks := by simpa using g
     rw [if_pos g] at hsn
     rw [mgP_e _ _ g, inV_set, rowC_old hll hc, i64_in (x := (c : Int) + 1) (by omega) (by omega)]
     refine ⟨⟨by omega, by omega⟩, by rw [inV_len, hrl]; omega, HF_inA _, .dat (HF_bl _), .dat (HF_ro _), .dat (HF_bl _), .dat (HF_ro _), HF_inA _, HF_enP _, HF_prs _, HF_inA _, HF_blA _, HF_roA _, m - 1, by omega, c + 1, ?_, ?_, by omega⟩
     · rw [hlc, hsn]
       have hrl2 := rowC_len (ks := ks) (l := l ++ [stP (s, acc, nx) (s2, acc2, nx2) k F[c]]) (n := F.length) (c := c + 1) (by rw [List.length_append, hll]; rfl) (by omega)
       rw [hrl2]; rfl
     · rw [hlc, hsn]
       unfold hEpI
       rw [hFi]; rfl
 · have q := of_decide_eq_false q
   rw [hFi] at q
   obtain rfl : c = F.length := by omega
   rw [List.take_length] at hl
   have hle : l = scF F (stP (s, acc, nx) (s2, acc2, nx2)) k := hl.symm
   rw [← hle, hks] at hag
   rw [rowC_end, blV_de, roV_de, blV_de, roV_de, blV_app, i64_in (x := (i : Int) + 1) (by omega) (by omega)]
   have hn1 := nums_len ks l
   refine ⟨⟨rfl, by rw [roV_len]; omega, by omega, by omega⟩, ⟨.dat (HF_bl _), .dat (HF_ro _), .dat (HF_bl _), .dat (HF_ro _), .dat (HF_bl _), .dat (HF_ro _), .dat (HF_bl _), .dat (HF_ro _), rfl, ⟨rfl, ok⟩, ⟨rfl, ok2⟩, hk⟩, rfl, ⟨rfl, by rw [blV_len]; omega, by omega, by omega⟩, by rw [inV_len], HF_inA _, .dat (HF_bl _), .dat (HF_ro _), .dat (HF_bl _), .dat (HF_ro _), HF_inA _, HF_enP _, HF_prs _, HF_blA _, ?_, ?_⟩
   · exact (roV_app rw0 (nums ks l)) ▸ HF_roA _
   · have e1 : roV rw0 ++ [Vd 1 (inV (nums ks l))] = roV (rw0 ++ [nums ks l]) := roV_app _ _
     rw [e1]
     unfold hEpL at hag
     rw [List.length_append, List.length_append] at hag
     exact hag
theorem rowC_0 (ks : List PR) (n : Nat) : rowC ks [] n 0 = List.replicate n 0 := rfl
def reS (F : List Nat) (a : AU) : List PR := exS (scF F (stS a)) 90001 [(a.1, 0)] 0
def reP (F : List Nat) (a b : AU) : List PR := exS (scF F (stP a b)) 90001 [(a.1, b.1)] 0
def hEsE (C F : List Int) (ac : List Bool) (rw : List (List Int)) (s : Int) (acc : List Bool) (nx : List (List Int)) : AH := ⟨(.node (.node (.node .leaf (some (.gro (blV ac) [] 4)) .leaf) (some (auC s acc nx)) .leaf) (some (dfO C [groS 2 F.length, groS 3 ac.length, groS 4 rw.length])) (.node (.node .leaf (some (.gro (roV rw) [] 50)) .leaf) (some (.gro (inV F) [] 3)) .leaf)), 5⟩
theorem end_es (Q : Value → AH → Prop) (C0 F0 C F : List Int) (ks : List PR) (ac : List Bool) (rw : List (List Int)) (s : Int) (acc : List Bool) (nx : List (List Int)) : endF env (hEs0 C0 F0 s acc nx) [] [] [] Q (.tuple ⟨[]⟩) (hEsL C F ks ac rw s acc nx) = (HF (.agg ⟨inV C⟩) ∧ HF (dat 1 (blV acc)) ∧ HF (dat 1 (roV nx)) ∧ HF (.agg ⟨inV F⟩) ∧ HF (.agg ⟨blV ac⟩) ∧ HF (.agg ⟨roV rw⟩) ∧ Q (.tuple ⟨[]⟩) (hEsE C F ac rw s acc nx)) := by kernel_rfl
theorem es_walk (C : List Int) (F : List Nat) (hF : ∀ c ∈ F, c < 256) (hFl : F.length ≤ 256) {a : AU} (ok : OkA a) : WalkF env Proofs.Tryd.f66 [.pointer (some ⟨0, 0, none⟩), prV (a.1, 0), cAs 1, cSs 1] (hEs0 C (inF F) a.1 a.2.1 a.2.2) (.tuple ⟨[]⟩) (hEsE C (inF F) ((reS F a).map (acS a)) (rowsT (scF F (stS a)) (reS F a) (reS F a).length) a.1 a.2.1 a.2.2) := by
 obtain ⟨s, acc, nx⟩ := a
 have hFi := inF_len F
 have hst := ok.st
 refine sxFnF_walk XEx_ok (d := 1) (ns := []) (zs := []) (ws := []) ((jEs_nf _ C (inF F) (s, 0) s acc nx).mpr ⟨?_, HF_inA _, .dat (HF_bl _), .dat (HF_ro _), HF_inA _, HF_inA [0], HF_prs [(s, 0)], HF_blA [], HF_roA [], ?_⟩)
 · have := updP ([] : List (PR × Int)) (s, 0) 0
   exact this
 refine LAtZ.stepF XEx_ok nsEx [.cell 0 258] [] [0, 2, 3, 8, 9, 10] (by kernel_rfl) (fun m G A => ∃ (i : Nat) (ks : List PR), G = frEsL ks.length i ∧ A = hEsL C (inF F) ks ((ks.take i).map (acS (s, acc, nx))) (rowsT (scF F (stS (s, acc, nx))) ks i) s acc nx ∧ EI (scF F (stS (s, acc, nx))) (inS (s, acc, nx)) 90001 (s, 0) ks i ∧ i + m = 90001) ?_ (k := 90001) ⟨0, [(s, 0)], rfl, rfl, EI.init ⟨hst, rfl⟩, by omega⟩
 rintro m G A ⟨i, ks, rfl, rfl, hE, him⟩
 have hkl : ks.length ≤ 90000 := inS_le ok ks hE.nd hE.inp
 have hil := hE.le
 refine (jEsL_nf _ _ C (inF F) C (inF F) ks _ _ s acc nx i).mpr (Sp.intro (fun q => ?_) (fun q => ?_))
 · have q := of_decide_eq_true q
   have hi : i < ks.length := by omega
   have hk := hE.inp _ (List.getElem_mem hi)
   have hgi : ks[i]? = some ks[i] := List.getElem?_eq_getElem hi
   obtain ⟨hE2, hrow⟩ := hE.step (inS_step ok hF) hgi (by omega)
   have hl1 : ((ks.take i).map (acS (s, acc, nx))).length = i := by rw [List.length_map, List.length_take]; omega
   have hl2 : (rowsT (scF F (stS (s, acc, nx))) ks i).length = i := by unfold rowsT; rw [List.length_map, List.length_take]; omega
   rw [prAt_prs hi, hFi]
   refine ⟨⟨by omega, q⟩, nth_prs hi, ⟨by omega, by omega, by omega, by omega⟩, HF_inA _, .dat (HF_bl _), .dat (HF_ro _), HF_inA _, HF_enP _, HF_prs _, ?_, HF_blA _, HF_roA _, ?_⟩
   · rw [inV_rep]; exact HF_inA _
   · have key := fun (K : KV) (ag : KF) => es_inner K ag C (inF F) C F hF hFl ok ks hE.nd hE.inp ks[i] hk ((ks.take i).map (acS (s, acc, nx))) (rowsT (scF F (stS (s, acc, nx))) ks i) (by rw [hl1]; omega) (by rw [hl2]; omega) i (by omega)
     simp only [rowC_0, List.length_replicate, hEsI, hFi] at key
     rw [inV_rep]
     refine key _ _ ?_
     refine ⟨m - 1, by omega, i + 1, addS ks (scF F (stS (s, acc, nx)) ks[i]), rfl, ?_, hE2, by omega⟩
     rw [hrow]
     obtain ⟨r, hr⟩ := addS_pre (scF F (stS (s, acc, nx)) ks[i]) ks
     have e2 : ((addS ks (scF F (stS (s, acc, nx)) ks[i])).take (i + 1)).map (acS (s, acc, nx)) = (ks.take i).map (acS (s, acc, nx)) ++ [acS (s, acc, nx) ks[i]] := by
      rw [hr, List.take_append_of_le_length (by omega), List.take_succ_eq_append_getElem hi, List.map_append]; rfl
     rw [e2]
 · have q := of_decide_eq_false q
   obtain ⟨e1, e2⟩ := hE.done (by omega) (by omega)
   subst e1
   refine (end_es _ C (inF F) C (inF F) ks _ _ s acc nx).mpr ⟨HF_inA _, .dat (HF_bl _), .dat (HF_ro _), HF_inA _, HF_blA _, HF_roA _, rfl, ?_⟩
   rw [List.take_length, e2]; rfl
def hEpE (C F : List Int) (ac : List Bool) (rw : List (List Int)) (s : Int) (acc : List Bool) (nx : List (List Int)) (s2 : Int) (acc2 : List Bool) (nx2 : List (List Int)) : AH := ⟨(.node (.node (.node .leaf (some (auC s2 acc2 nx2)) .leaf) (some (fnO)) (.node .leaf (some (.gro (blV ac) [] 4)) .leaf)) (some (dfO C [groS 4 F.length, groS 5 ac.length, groS 6 rw.length])) (.node (.node .leaf (some (.gro (inV F) [] 3)) .leaf) (some (auC s acc nx)) (.node .leaf (some (.gro (roV rw) [] 50)) .leaf))), 7⟩
theorem end_ep (Q : Value → AH → Prop) (C0 F0 C F : List Int) (ks : List PR) (ac : List Bool) (rw : List (List Int)) (s : Int) (acc : List Bool) (nx : List (List Int)) (s2 : Int) (acc2 : List Bool) (nx2 : List (List Int)) : endF env (hEp0 C0 F0 s acc nx s2 acc2 nx2) [] [] [] Q (.tuple ⟨[]⟩) (hEpL C F ks ac rw s acc nx s2 acc2 nx2) = (HF (.agg ⟨inV C⟩) ∧ HF (dat 1 (blV acc)) ∧ HF (dat 1 (roV nx)) ∧ HF (dat 1 (blV acc2)) ∧ HF (dat 1 (roV nx2)) ∧ HF (.agg ⟨inV F⟩) ∧ HF (.agg ⟨blV ac⟩) ∧ HF (.agg ⟨roV rw⟩) ∧ Q (.tuple ⟨[]⟩) (hEpE C F ac rw s acc nx s2 acc2 nx2)) := by kernel_rfl
theorem ep_walk (C : List Int) (F : List Nat) (hF : ∀ c ∈ F, c < 256) (hFl : F.length ≤ 256) {a b : AU} (ok : OkA a) (ok2 : OkA b) : WalkF env Proofs.Tryd.f66 [.pointer (some ⟨0, 0, none⟩), prV (a.1, b.1), cAp 1 2 3, cSp 2 3] (hEp0 C (inF F) a.1 a.2.1 a.2.2 b.1 b.2.1 b.2.2) (.tuple ⟨[]⟩) (hEpE C (inF F) ((reP F a b).map (acP2 a b)) (rowsT (scF F (stP a b)) (reP F a b) (reP F a b).length) a.1 a.2.1 a.2.2 b.1 b.2.1 b.2.2) := by
 obtain ⟨s, acc, nx⟩ := a
 obtain ⟨s2, acc2, nx2⟩ := b
 have hFi := inF_len F
 have hst := ok.st
 refine sxFnF_walk XEx_ok (d := 1) (ns := []) (zs := []) (ws := []) ((jEp_nf _ C (inF F) (s, s2) s acc nx s2 acc2 nx2).mpr ⟨?_, HF_inA _, .dat (HF_bl _), .dat (HF_ro _), .dat (HF_bl _), .dat (HF_ro _), HF_inA _, HF_inA [0], HF_prs [(s, s2)], HF_blA [], HF_roA [], ?_⟩)
 · have := updP ([] : List (PR × Int)) (s, s2) 0
   exact this
 refine LAtZ.stepF XEx_ok nsEx [.cell 0 258] [] [0, 2, 3, 8, 9, 10] (by kernel_rfl) (fun m G A => ∃ (i : Nat) (ks : List PR), G = frEpL ks.length i ∧ A = hEpL C (inF F) ks ((ks.take i).map (acP2 (s, acc, nx) (s2, acc2, nx2))) (rowsT (scF F (stP (s, acc, nx) (s2, acc2, nx2))) ks i) s acc nx s2 acc2 nx2 ∧ EI (scF F (stP (s, acc, nx) (s2, acc2, nx2))) (inP2 (s, acc, nx) (s2, acc2, nx2)) 90001 (s, s2) ks i ∧ i + m = 90001) ?_ (k := 90001) ⟨0, [(s, s2)], rfl, rfl, EI.init ⟨ok.st, ok2.st⟩, by omega⟩
 rintro m G A ⟨i, ks, rfl, rfl, hE, him⟩
 have hkl : ks.length ≤ 90000 := inP_le ok ok2 ks hE.nd hE.inp
 have hil := hE.le
 refine (jEpL_nf _ _ C (inF F) C (inF F) ks _ _ s acc nx s2 acc2 nx2 i).mpr (Sp.intro (fun q => ?_) (fun q => ?_))
 · have q := of_decide_eq_true q
   have hi : i < ks.length := by omega
   have hk := hE.inp _ (List.getElem_mem hi)
   have hgi : ks[i]? = some ks[i] := List.getElem?_eq_getElem hi
   obtain ⟨hE2, hrow⟩ := hE.step (inP_step ok ok2 hF) hgi (by omega)
   have hl1 : ((ks.take i).map (acP2 (s, acc, nx) (s2, acc2, nx2))).length = i := by rw [List.length_map, List.length_take]; omega
   have hl2 : (rowsT (scF F (stP (s, acc, nx) (s2, acc2, nx2))) ks i).length = i := by unfold rowsT; rw [List.length_map, List.length_take]; omega
   rw [prAt_prs hi, hFi]
   refine ⟨⟨by omega, q⟩, nth_prs hi, ⟨by omega, by omega, by omega, by omega⟩, HF_inA _, .dat (HF_bl _), .dat (HF_ro _), .dat (HF_bl _), .dat (HF_ro _), HF_inA _, HF_enP _, HF_prs _, ?_, HF_blA _, HF_roA _, ?_⟩
   · rw [inV_rep]; exact HF_inA _
   · have key := fun (K : KV) (ag : KF) => ep_inner K ag C (inF F) C F hF hFl ok ok2 ks hE.nd hE.inp ks[i] hk ((ks.take i).map (acP2 (s, acc, nx) (s2, acc2, nx2))) (rowsT (scF F (stP (s, acc, nx) (s2, acc2, nx2))) ks i) (by rw [hl1]; omega) (by rw [hl2]; omega) i (by omega)
     simp only [rowC_0, List.length_replicate, hEpI, hFi] at key
     rw [inV_rep]
     refine key _ _ ?_
     refine ⟨m - 1, by omega, i + 1, addS ks (scF F (stP (s, acc, nx) (s2, acc2, nx2)) ks[i]), rfl, ?_, hE2, by omega⟩
     rw [hrow]
     obtain ⟨r, hr⟩ := addS_pre (scF F (stP (s, acc, nx) (s2, acc2, nx2)) ks[i]) ks
     have e2 : ((addS ks (scF F (stP (s, acc, nx) (s2, acc2, nx2)) ks[i])).take (i + 1)).map (acP2 (s, acc, nx) (s2, acc2, nx2)) = (ks.take i).map (acP2 (s, acc, nx) (s2, acc2, nx2)) ++ [acP2 (s, acc, nx) (s2, acc2, nx2) ks[i]] := by
      rw [hr, List.take_append_of_le_length (by omega), List.take_succ_eq_append_getElem hi, List.map_append]; rfl
     rw [e2]
 · have q := of_decide_eq_false q
   obtain ⟨e1, e2⟩ := hE.done (by omega) (by omega)
   subst e1
   refine (end_ep _ C (inF F) C (inF F) ks _ _ s acc nx s2 acc2 nx2).mpr ⟨HF_inA _, .dat (HF_bl _), .dat (HF_ro _), .dat (HF_bl _), .dat (HF_ro _), HF_inA _, HF_blA _, HF_roA _, rfl, ?_⟩
   rw [List.take_length, e2]; rfl
end
end Go.T9

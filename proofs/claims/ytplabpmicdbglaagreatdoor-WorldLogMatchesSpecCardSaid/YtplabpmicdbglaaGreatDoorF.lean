/-
  Walks by computation: what a part of a body asks, as a proposition that the kernel computes.
-/
import Derived.Test.YtplabpmicdbglaaGreatDoorC
set_option linter.unusedVariables false
namespace Go.AM
noncomputable section

/-! ### Splits and conditions -/
def Sp (b : Bool) (p q : Prop) : Prop := Bool.rec (motive := fun _ => Prop) q p b
theorem Sp.intro {b : Bool} {p q : Prop} (h : b = true → p) (k : b = false → q) : Sp b p q := by
  cases b with
  | true => exact h rfl
  | false => exact k rfl
theorem Sp.cases {b : Bool} {p q : Prop} (h : Sp b p q) : (b = true ∧ p) ∨ (b = false ∧ q) := by
  cases b with
  | true => exact .inl ⟨rfl, h⟩
  | false => exact .inr ⟨rfl, h⟩

/-- Where a walk gets stuck: it never holds. -/
inductive Stop {α : Type} (x : α) : Prop
theorem Stop.elim {α : Type} {x : α} {p : Prop} (h : Stop x) : p := nomatch h
/-- Where a walk ends. -/
inductive Leaf (p : Prop) : Prop
  | mk (h : p) : Leaf p
theorem Leaf.get {p : Prop} (h : Leaf p) : p := by cases h with | mk h => exact h

def pc (p : Option Prop) (q : Prop) : Prop := match p with | none => q | some p => p ∧ q
def PH (p : Option Prop) : Prop := match p with | none => True | some p => p
theorem pc_iff {p : Option Prop} {q : Prop} (h : pc p q) : PH p ∧ q := by
  cases p with
  | none => exact ⟨trivial, h⟩
  | some p => exact h

/-- What is taken to lie at a place of a row: its size, the slot with its address, the row, the number. -/
abbrev El := Nat → Nat → List Value → Int → Option Value
abbrev KF := T Value → AH → Prop
abbrev KV := Value → AH → Prop
abbrev RunF := List Value → AH → Option (Option Prop × Value × AH)
abbrev Tab := List (FuncId × RunF)
abbrev Inl := Func → List Value → AH → KV → Prop

def tabOf : Tab → FuncId → Option RunF
  | [], _ => none
  | (g, x) :: l, f => bif Nat.beq f g then some x else tabOf l f

def callT (l : Tab) : CallF := fun f args A => match tabOf l f with
  | some x => (match x args A with | some (p, v, A') => (open Classical in if PH p then some (v, A') else none) | none => none)
  | none => none

/-- What a call does. -/
def CallAt (E : Env) (f : FuncId) (args : List Value) (A : AH) (v : Value) (A' : AH) : Prop := ∀ σ w args', Rel E.P σ A w → Glob E σ → VRs σ args args' →
  Calls E.P f ⟨args'⟩ w (fun e w' => ∃ v' σ', e = .returned v' ∧ VR σ' v v' ∧ Rel E.P σ' A' w' ∧ Ext σ A w σ' A' w')

inductive TabOk (E : Env) : Tab → Prop
  | nil : TabOk E []
  | cons {f : FuncId} {x : RunF} {l : Tab} (h : ∀ args A p v A', x args A = some (p, v, A') → PH p → CallAt E f args A v A') (t : TabOk E l) : TabOk E ((f, x) :: l)

theorem TabOk.get {E : Env} : ∀ {l : Tab}, TabOk E l → ∀ {f : FuncId} {x : RunF}, tabOf l f = some x → ∀ args A p v A', x args A = some (p, v, A') → PH p → CallAt E f args A v A'
  | _, .nil, f, x, h => by simp [tabOf] at h
  | _, .cons (f := g) h t, f, x, hx => by
    simp only [tabOf] at hx
    cases e : Nat.beq f g with
    | true =>
      rw [e] at hx
      simp only [cond_true, Option.some.injEq] at hx
      subst hx
      obtain rfl := Nat.eq_of_beq_eq_true e
      exact h
    | false => rw [e] at hx; exact t.get hx

theorem callT_ok {E : Env} {l : Tab} (h : TabOk E l) : CallOk E (callT l) := by
  intro f args A v A' hc σ w args' R hg ha
  unfold callT at hc
  split at hc
  · rename_i x hx
    split at hc
    · rename_i p v0 A0 hr
      split at hc
      · rename_i hp
        simp only [Option.some.injEq, Prod.mk.injEq] at hc
        obtain ⟨rfl, rfl⟩ := hc
        exact h.get hx args A p _ _ hr hp σ w args' R hg ha
      · cases hc
    · cases hc
  · cases hc

/-- A contract that takes and gives plain data. -/
def pureR (pre : List Value → Option Prop) (val : List Value → Option Value) : RunF := fun args A => match val args with | some v => some (pre args, v, A) | none => none

theorem callAt_con {E : Env} {f : FuncId} {args : List Value} {v : Value} (h : Con E f (pureX (one args v))) (A : AH) : CallAt E f args A v A := by
  intro σ w args' R hg ha
  exact h args A v A (by simp [pureX, one_self]) σ w args' R hg ha

theorem callAt_walk {E : Env} (ok : E.Ok) (hgl : ∀ g, E.gl g = false) {f : FuncId} {fn : Func} (hfn : E.fn f = some fn) {args : List Value} {v : Value} (hf : ∀ x ∈ args, HF x) (hw : Walk E fn args v) (A : AH) : CallAt E f args A v A :=
  callAt_con (con_one ok hgl hfn hf hw) A

theorem pureR_ok {E : Env} {f : FuncId} {pre : List Value → Option Prop} {val : List Value → Option Value} (h : ∀ args v, val args = some v → PH (pre args) → ∀ A, CallAt E f args A v A) : ∀ args A p v A', pureR pre val args A = some (p, v, A') → PH p → CallAt E f args A v A' := by
  intro args A p v A' hr hp
  unfold pureR at hr
  split at hr
  · rename_i u hu
    simp only [Option.some.injEq, Prod.mk.injEq] at hr
    obtain ⟨rfl, rfl, rfl⟩ := hr
    exact h args u hu hp A
  · cases hr

/-! ### Quiet operations, with conditions where values are symbolic -/
def intAt (els : List Value) (i : Int) : Int := match nth els i.toNat with | some (.int _ n) => n | _ => 0
def boolAt (els : List Value) (i : Int) : Bool := match nth els i.toNat with | some (.bool b) => b | _ => false
def strAt (els : List Value) (i : Int) : ByteArray := match nth els i.toNat with | some (.string s) => s | _ => ByteArray.empty
def opTmp : Operand → Nat
  | .tmp t => t
  | _ => 0

def qd (E : Env) (A : AH) (ρ : Operand → Option Value) (ty : TypeId) (op : Op) : Option (Option Prop × Value) := match quiet E A ρ ty op with | some v => some (none, v) | none => none

def sxIdx (E : Env) (A : AH) (ρ : Operand → Option Value) (ty : TypeId) (t : TypeId) (x i : Operand) : Option (Option Prop × Value) :=
  match ρ x with
  | some (.func (.yield sz) ⟨els⟩ ⟨[]⟩) => (match ρ i, und E t with
    | some (.int _ n), some (.slice e) => (match E.ti e with
      | some ie => bif Nat.beq ie.size sz && Nat.blt 0 sz then some (some (0 ≤ n ∧ n < els.length), .func (.yield sz) ⟨els⟩ ⟨[.int .i64 n.toNat, .int .i64 (0 : Nat)]⟩) else none
      | none => none)
    | _, _ => none)
  | _ => qd E A ρ ty (.indexAddr t x i)

def sxLoad (E : Env) (el : El) (A : AH) (ρ : Operand → Option Value) (ty : TypeId) (t : TypeId) (a : Operand) : Option (Option Prop × Value) :=
  match ρ a with
  | some (.func (.yield sz) ⟨els⟩ ⟨[.int .i64 i, .int .i64 j]⟩) => (match el sz (opTmp a) els i with
    | some u => (match ldat E t [u] 0 j.toNat with | some v => some (some (nth els i.toNat = some u), v) | none => none)
    | none => qd E A ρ ty (.load t a))
  | _ => qd E A ρ ty (.load t a)

/-- Not nought. -/
def NZ (b : Int) : Prop := b ≠ 0

def sxDiv (E : Env) (A : AH) (ρ : Operand → Option Value) (ty : TypeId) (op : BinOp) (t : TypeId) (x y : Operand) (t2 : TypeId) (f : IntKind → Int → Int → Int) : Option (Option Prop × Value) :=
  match ρ x with
  | some (.int k a) => (match ρ y with
    | some (.int k' b) => bif kindEq k k' then some (some (NZ b), .int k (f k a b)) else none
    | _ => none)
  | _ => qd E A ρ ty (.binOp op t x y t2)

def sxSli (E : Env) (A : AH) (ρ : Operand → Option Value) (ty : TypeId) (t : TypeId) (x : Operand) (lo hi mx : Option Operand) : Option (Option Prop × Value) :=
  match ρ x with
  | some (.func (.yield sz) ⟨els⟩ ⟨[]⟩) => (match mx, lo, hi with
    | none, none, some h => (match ρ h, und E t with
      | some (.int _ b), some (.slice e) => (match E.ti e with
        | some ie => bif Nat.beq ie.size sz then some (some (0 ≤ b ∧ b ≤ els.length), .func (.yield sz) ⟨els.take b.toNat⟩ ⟨[]⟩) else none
        | none => none)
      | _, _ => none)
    | none, some l, none => (match ρ l, und E t with
      | some (.int _ a), some (.slice e) => (match E.ti e with
        | some ie => bif Nat.beq ie.size sz then some (some (0 ≤ a ∧ a ≤ els.length), .func (.yield sz) ⟨els.drop a.toNat⟩ ⟨[]⟩) else none
        | none => none)
      | _, _ => none)
    | _, _, _ => qd E A ρ ty (.slice t x lo hi mx))
  | _ => qd E A ρ ty (.slice t x lo hi mx)

theorem minI (a b : Int) : (if b < a then b else a) = min a b := by rw [Int.min_def]; split <;> split <;> omega
theorem maxI (a b : Int) : (if b > a then b else a) = max a b := by rw [Int.max_def]; split <;> split <;> omega

theorem quiet_min {E : Env} {A : AH} {ρ : Operand → Option Value} {ty : TypeId} {c : Call} {k k' : IntKind} {a b : Int} (hc : c.callee = .builtin .min) (ha : mapO ρ c.args.toList = some [.int k a, .int k' b]) : quiet E A ρ ty (.call c) = some (.int k (min a b)) := by
  have h0 : quiet0 E A ρ ty (.call c) = some (.int k (min a b)) := by
    simp only [quiet0, hc, quietB, ha]
    rw [← minI a b]
    rfl
  unfold quiet
  split
  · exact h0
  · have : symQ E ρ (.call c) = none := by simp [symQ, hc]
    rw [this]; exact h0

theorem quiet_max {E : Env} {A : AH} {ρ : Operand → Option Value} {ty : TypeId} {c : Call} {k k' : IntKind} {a b : Int} (hc : c.callee = .builtin .max) (ha : mapO ρ c.args.toList = some [.int k a, .int k' b]) : quiet E A ρ ty (.call c) = some (.int k (max a b)) := by
  have h0 : quiet0 E A ρ ty (.call c) = some (.int k (max a b)) := by
    simp only [quiet0, hc, quietB, ha]
    rw [← maxI a b]
    rfl
  unfold quiet
  split
  · exact h0
  · have : symQ E ρ (.call c) = none := by simp [symQ, hc]
    rw [this]; exact h0

def sxBlt (E : Env) (A : AH) (ρ : Operand → Option Value) (ty : TypeId) (c : Call) : Option (Option Prop × Value) :=
  match c.callee with
  | .builtin .min => (match mapO ρ c.args.toList with
    | some [.int k a, .int _ b] => some (none, .int k (min a b))
    | _ => qd E A ρ ty (.call c))
  | .builtin .max => (match mapO ρ c.args.toList with
    | some [.int k a, .int _ b] => some (none, .int k (max a b))
    | _ => qd E A ρ ty (.call c))
  | .builtin _ => qd E A ρ ty (.call c)
  | _ => none

def sxQ (E : Env) (el : El) (A : AH) (ρ : Operand → Option Value) (ty : TypeId) (op : Op) : Option (Option Prop × Value) :=
  match op with
  | .indexAddr t x i => sxIdx E A ρ ty t x i
  | .load t a => sxLoad E el A ρ ty t a
  | .slice t x lo hi mx => sxSli E A ρ ty t x lo hi mx
  | .binOp op t x y t2 => (match op with
    | .quo => sxDiv E A ρ ty .quo t x y t2 (fun k a b => k.wrap (a.tdiv b))
    | .rem => sxDiv E A ρ ty .rem t x y t2 (fun k a b => a.tmod b)
    | op => qd E A ρ ty (.binOp op t x y t2))
  | .call c => sxBlt E A ρ ty c
  | op => qd E A ρ ty op

theorem qd_ok {E : Env} {A : AH} {ρ : Operand → Option Value} {ty : TypeId} {op : Op} {p : Option Prop} {v : Value} (h : qd E A ρ ty op = some (p, v)) : quiet E A ρ ty op = some v := by
  unfold qd at h
  split at h
  · rename_i u hu
    simp only [Option.some.injEq, Prod.mk.injEq] at h
    rw [hu, h.2]
  · cases h

theorem sxQ_ok {E : Env} (hs : E.sym = true) {el : El} {A : AH} {ρ : Operand → Option Value} {ty : TypeId} {op : Op} {p : Option Prop} {v : Value} (h : sxQ E el A ρ ty op = some (p, v)) (hp : PH p) : quiet E A ρ ty op = some v := by
  unfold sxQ at h
  split at h
  · rename_i t x i
    unfold sxIdx at h
    split at h
    · rename_i sz els hx
      split at h
      · rename_i k n e hi hu
        split at h
        · rename_i ie hie
          cases hz : (Nat.beq ie.size sz && Nat.blt 0 sz) with
          | false => rw [hz] at h; cases h
          | true =>
            rw [hz] at h
            simp only [cond_true, Option.some.injEq, Prod.mk.injEq] at h
            obtain ⟨rfl, rfl⟩ := h
            exact quiet_idx hs hx hi hu hie hz hp.1 hp.2
        · cases h
      · cases h
    · exact qd_ok h
  · rename_i t a
    unfold sxLoad at h
    split at h
    · rename_i sz els i j ha
      split at h
      · rename_i u hu
        split at h
        · rename_i v0 hv
          simp only [Option.some.injEq, Prod.mk.injEq] at h
          obtain ⟨rfl, rfl⟩ := h
          exact quiet_load hs ha hp hv
        · cases h
      · exact qd_ok h
    · exact qd_ok h
  · rename_i t x lo hi mx
    unfold sxSli at h
    split at h
    · rename_i sz els hx
      split at h
      · rename_i hh
        split at h
        · rename_i k b e hb hu
          split at h
          · rename_i ie hie
            cases hz : Nat.beq ie.size sz with
            | false => rw [hz] at h; cases h
            | true =>
              rw [hz] at h
              simp only [cond_true, Option.some.injEq, Prod.mk.injEq] at h
              obtain ⟨rfl, rfl⟩ := h
              obtain ⟨h0, h1⟩ : 0 ≤ b ∧ b ≤ els.length := hp
              have h2 : b.toNat ≤ els.length := by omega
              have e1 : Nat.ble b.toNat els.length = true := by rw [Nat.ble_eq]; exact h2
              have e2 : Nat.ble els.length els.length = true := by rw [Nat.ble_eq]; omega
              have e3 : Nat.ble 0 b.toNat = true := by rw [Nat.ble_eq]; omega
              refine quiet_sym hs ?_
              simp [symQ, hx, optA, hb, scal, hu, bnds, bound, h0, e1, e2, e3, hie, hz]
          · cases h
        · cases h
      · rename_i ll
        split at h
        · rename_i k a e ha hu
          split at h
          · rename_i ie hie
            cases hz : Nat.beq ie.size sz with
            | false => rw [hz] at h; cases h
            | true =>
              rw [hz] at h
              simp only [cond_true, Option.some.injEq, Prod.mk.injEq] at h
              obtain ⟨rfl, rfl⟩ := h
              obtain ⟨h0, h1⟩ : 0 ≤ a ∧ a ≤ els.length := hp
              have h2 : a.toNat ≤ els.length := by omega
              have e1 : Nat.ble a.toNat els.length = true := by rw [Nat.ble_eq]; exact h2
              have e2 : Nat.ble els.length els.length = true := by rw [Nat.ble_eq]; omega
              refine quiet_sym hs ?_
              simp [symQ, hx, optA, ha, scal, hu, bnds, bound, h0, e1, e2, hie, hz]
          · cases h
        · cases h
      · exact qd_ok h
    · exact qd_ok h
  · rename_i op t x y t2
    split at h
    · unfold sxDiv at h
      split at h
      · rename_i k a hx
        split at h
        · rename_i k' b hy
          cases hk : kindEq k k' with
          | false => rw [hk] at h; cases h
          | true =>
            rw [hk] at h
            simp only [cond_true, Option.some.injEq, Prod.mk.injEq] at h
            obtain ⟨rfl, rfl⟩ := h
            have hb : b ≠ 0 := hp
            have e : k = k' := by simpa [kindEq] using hk
            subst e
            exact quiet_quo hs hx hy (by simp [hb])
        · cases h
      · exact qd_ok h
    · unfold sxDiv at h
      split at h
      · rename_i k a hx
        split at h
        · rename_i k' b hy
          cases hk : kindEq k k' with
          | false => rw [hk] at h; cases h
          | true =>
            rw [hk] at h
            simp only [cond_true, Option.some.injEq, Prod.mk.injEq] at h
            obtain ⟨rfl, rfl⟩ := h
            have hb : b ≠ 0 := hp
            have e : k = k' := by simpa [kindEq] using hk
            subst e
            exact quiet_rem hs hx hy (by simp [hb])
        · cases h
      · exact qd_ok h
    · exact qd_ok h
  · rename_i c
    unfold sxBlt at h
    split at h
    · rename_i hc
      split at h
      · rename_i k a k' b ha
        simp only [Option.some.injEq, Prod.mk.injEq] at h
        obtain ⟨rfl, rfl⟩ := h
        exact quiet_min hc ha
      · exact qd_ok h
    · rename_i hc
      split at h
      · rename_i k a k' b ha
        simp only [Option.some.injEq, Prod.mk.injEq] at h
        obtain ⟨rfl, rfl⟩ := h
        exact quiet_max hc ha
      · exact qd_ok h
    · exact qd_ok h
    · cases h
  · exact qd_ok h

/-! ### Guards, slots -/
def putK (n : Nat) (F : T Value) (dst : Option Tmp) (v : Value) (k : T Value → Prop) : Prop := match put n F dst v with | some F' => k F' | none => False

def setK (F : T Value) (d : Nat) (v : Value) (k : T Value → Prop) : Prop := match T.set FU F d v with | some F' => k F' | none => False

theorem setK_ok {F : T Value} {d : Nat} {v : Value} {k : T Value → Prop} (h : setK F d v k) : ∃ F', T.set FU F d v = some F' ∧ k F' := by
  unfold setK at h
  split at h
  · rename_i F' hF; exact ⟨F', hF, h⟩
  · exact h.elim

def sxG (ops : List Oper) (F : T Value) (o : Oper) (kT kF : T Value → Prop) : Prop :=
  match o.guard with
  | none => kT F
  | some (j, want) => (match nth ops j with
    | some oj => (match oj.dst with
      | some d => (match slot F d with
        | some (.bool b) => Sp b (setK F d (.bool true) (fun F' => Bool.rec (motive := fun _ => Prop) (kF F') (kT F') want)) (setK F d (.bool false) (fun F' => Bool.rec (motive := fun _ => Prop) (kT F') (kF F') want))
        | some _ => kF F
        | none => False)
      | none => kF F)
    | none => kF F)

theorem sxG_ok {ops : List Oper} {F : T Value} {o : Oper} {kT kF : T Value → Prop} (h : sxG ops F o kT kF) : (wantA ops F o = some true ∧ kT F) ∨ (wantA ops F o = some false ∧ kF F) := by
  unfold sxG at h
  unfold wantA
  split at h
  · rename_i hg; rw [hg]; exact .inl ⟨rfl, h⟩
  · rename_i j want hg
    rw [hg]
    simp only
    split at h
    · rename_i oj hj
      rw [hj]
      simp only
      split at h
      · rename_i d hd
        rw [hd]
        simp only
        split at h
        · rename_i b hs
          rw [hs]
          simp only
          unfold slot at hs
          rcases h.cases with ⟨hb, h5⟩ | ⟨hb, h5⟩
          · obtain ⟨F', hF, h6⟩ := setK_ok h5
            rw [hb] at hs ⊢
            rw [set_same _ _ _ _ _ hs hF] at h6
            cases want with
            | true => exact .inl ⟨rfl, h6⟩
            | false => exact .inr ⟨rfl, h6⟩
          · obtain ⟨F', hF, h6⟩ := setK_ok h5
            rw [hb] at hs ⊢
            rw [set_same _ _ _ _ _ hs hF] at h6
            cases want with
            | true => exact .inr ⟨rfl, h6⟩
            | false => exact .inl ⟨rfl, h6⟩
        · rename_i u hnb hs
          rw [hs]
          refine .inr ⟨?_, h⟩
          cases u <;> first | rfl | exact absurd rfl (hnb _)
        · exact h.elim
      · rename_i hd; rw [hd]; exact .inr ⟨rfl, h⟩
    · rename_i hj; rw [hj]; exact .inr ⟨rfl, h⟩

/-! ### Appends to slices of unknown length -/
def symApp (el : El) : Bool := match el 0 0 [] 0 with | some (.bool b) => b | _ => false

def appS (E : Env) (A : AH) (ts : List TypeId) (B sl : Nat) (x : Value) : Option (Option Prop × Value × AH) :=
  match ts with
  | [t, tx] => (match und E t, und E tx with
    | some (.slice e), some dx => (match E.ti e with
      | some ie => (match ie.zero, srcA A ie.size x with
        | some z, some (n, news) =>
          bif (slcOrStr dx && (Nat.beq z.cells.toList.length ie.size && Nat.blt 0 ie.size)) && !Nat.beq n 0 then
            (match A.t.get B with
            | some (.cells c eb) => bif Nat.beq eb e then
              (match T.set FU A.t B .dead with
              | some t' => (match T.set FU t' A.next (.cells (c.take (sl * ie.size) ++ news) e) with
                | some t'' => some (some (sl + n ≤ 70368744177664 ∧ (sl + n) * ie.bytes ≤ 140737488355328 ∧ sl * ie.size ≤ c.length), .slice (some ⟨A.next, 0, none⟩) (sl + n) unk, ⟨t'', A.next + 1⟩)
                | none => none)
              | none => none) else none
            | _ => none) else none
        | _, _ => none)
      | none => none)
    | _, _ => none)
  | _ => none

theorem appS_ok {E : Env} {A : AH} {ts : List TypeId} {B o sl : Nat} {x : Value} {p : Option Prop} {v : Value} {A' : AH} (h : appS E A ts B sl x = some (p, v, A')) (hp : PH p) : appendA E A ts (.slice (some ⟨B, o, none⟩) sl unk) x = some (v, A') := by
  unfold appS at h
  split at h
  · rename_i t tx
    split at h
    · rename_i e dx hu hx
      split at h
      · rename_i ie hie
        split at h
        · rename_i z n news hz hs
          cases hb : ((slcOrStr dx && (Nat.beq z.cells.toList.length ie.size && Nat.blt 0 ie.size)) && !Nat.beq n 0) with
          | false => rw [hb] at h; cases h
          | true =>
            rw [hb] at h
            simp only [cond_true] at h
            simp only [Bool.and_eq_true, Bool.not_eq_true'] at hb
            split at h
            · rename_i c eb hB
              cases he : Nat.beq eb e with
              | false => rw [he] at h; cases h
              | true =>
                rw [he] at h
                simp only [cond_true] at h
                split at h
                · rename_i t' ht'
                  split at h
                  · rename_i t'' ht''
                    simp only [Option.some.injEq, Prod.mk.injEq] at h
                    obtain ⟨rfl, rfl, rfl⟩ := h
                    obtain ⟨h1, h2, h3⟩ : sl + n ≤ 70368744177664 ∧ (sl + n) * ie.bytes ≤ 140737488355328 ∧ sl * ie.size ≤ c.length := hp
                    have e1 : Nat.ble (sl + n) 70368744177664 = true := by rw [Nat.ble_eq]; exact h1
                    have e2 : Nat.ble ((sl + n) * ie.bytes) 140737488355328 = true := by rw [Nat.ble_eq]; exact h2
                    have e3 : Nat.ble (sl * ie.size) c.length = true := by rw [Nat.ble_eq]; exact h3
                    have e4 : Nat.blt unk unk = false := by rw [blt_eq]; simp
                    have e5 : Nat.beq unk unk = true := by rw [beq_eq]; simp
                    simp only [appendA, hu, hx, hie, hz, hs, hb.1.1, hb.1.2.1, hb.1.2.2, hb.2, Bool.and_self, cond_true, cond_false, e1, e2, e3, e4, e5, hB, he, ht', ht'']
                  · cases h
                · cases h
            · cases h
        · cases h
      · cases h
    · cases h
  · cases h

def sxApp (E : Env) (A : AH) (ρ : Operand → Option Value) (op : Op) : Option (Option Prop × Value × AH) :=
  match op with
  | .call c => (match c.callee with
    | .builtin .append => (match c.args.toList with
      | [x, y] => (match ρ x, ρ y with
        | some (.slice (some ⟨B, _, none⟩) sl sk), some src => bif Nat.beq sk unk then appS E A c.argTypes.toList B sl src else none
        | _, _ => none)
      | _ => none)
    | _ => none)
  | _ => none

theorem sxApp_ok {E : Env} {A : AH} {ρ : Operand → Option Value} {op : Op} {p : Option Prop} {v : Value} {A' : AH} (h : sxApp E A ρ op = some (p, v, A')) (hp : PH p) : effA E A ρ op = some (v, A') := by
  unfold sxApp at h
  split at h
  · rename_i c
    split at h
    · rename_i hc
      split at h
      · rename_i x y hargs
        split at h
        · rename_i B o sl sk src hx hy
          cases hk : Nat.beq sk unk with
          | false => rw [hk] at h; cases h
          | true =>
            rw [hk] at h
            obtain rfl := Nat.eq_of_beq_eq_true hk
            simp only [cond_true] at h
            simp only [effA, hc, effB, hargs, hx, hy]
            exact appS_ok h hp
        · cases h
      · cases h
    · cases h
  · cases h

/-! ### Operations in the order of the text -/
def sxCall (tab : Tab) (inl : Inl) (E : Env) (A : AH) (g : FuncId) (args : List Value) (K : KV) : Prop :=
  match E.fn g with
  | some fn => (match tabOf tab g with
    | some x => (match x args A with | some r => pc r.1 (K r.2.1 r.2.2) | none => Stop (g, args))
    | none => inl fn args A K)
  | none => (match E.ext g with
    | some x => (match x args A with | some r => K r.1 r.2 | none => Stop (g, args))
    | none => Stop (g, args))

def sxEff0 (tab : Tab) (inl : Inl) (E : Env) (A : AH) (ρ : Operand → Option Value) (op : Op) (K : KV) : Prop :=
  match effA E A ρ op with
  | some r => K r.1 r.2
  | none => (match enterA E ρ op with
    | some r => sxCall tab inl E A r.1 r.2 K
    | none => Stop (op, A))

def sxEff (tab : Tab) (inl : Inl) (E : Env) (el : El) (A : AH) (ρ : Operand → Option Value) (op : Op) (K : KV) : Prop :=
  match symApp el with
  | true => (match sxApp E A ρ op with | some r => pc r.1 (K r.2.1 r.2.2) | none => sxEff0 tab inl E A ρ op K)
  | false => sxEff0 tab inl E A ρ op K

def sxOp (tab : Tab) (inl : Inl) (E : Env) (el : El) (A : AH) (ρ : Operand → Option Value) (ty : TypeId) (op : Op) (K : KV) : Prop :=
  match sxQ E el A ρ ty op with
  | some r => pc r.1 (K r.2 A)
  | none => (match allocA E ρ op with
    | some r => (match newBlock A r.1 with | some A' => K (r.2 A.next) A' | none => False)
    | none => sxEff tab inl E el A ρ op K)

def sxOps (tab : Tab) (inl : Inl) (E : Env) (el : El) (ops : List Oper) (n : Nat) (l : List Oper) : T Value → AH → KF → Prop :=
  List.rec (motive := fun _ => T Value → AH → KF → Prop) (fun F A K => K F A)
    (fun o _ ih F A K => sxG ops F o (fun F => sxOp tab inl E el A (ev E F) o.type o.op (fun v A' => putK n F o.dst v (fun F' => ih F' A' K))) (fun F => putK n F o.dst undef (fun F' => ih F' A K))) l

def InlOk (E : Env) (inl : Inl) : Prop := ∀ g fn, E.fn g = some fn → ∀ args A K, inl fn args A K → ∀ σ w args', Rel E.P σ A w → Glob E σ → VRs σ args args' →
  Calls E.P g ⟨args'⟩ w (fun e w' => ∃ v A' v' σ', e = .returned v' ∧ K v A' ∧ VR σ' v v' ∧ Rel E.P σ' A' w' ∧ Ext σ A w σ' A' w')

def DoesK (E : Env) (σ : Sig) (A : AH) (w : World) (o : Oper) (a : Act) (K : KV) : Prop :=
  ∀ (K1 : Act → World → Prop) (Q : Exit → Act → World → Prop), (∀ v A' v' w' σ', K v A' → VR σ' v v' → Rel E.P σ' A' w' → Ext σ A w σ' A' w' → K1 (a.put o.dst v') w') → o.wp E.P a w K1 Q

theorem DoesK.of {E : Env} {σ : Sig} {A A' : AH} {w : World} {o : Oper} {a : Act} {v : Value} {K : KV} (h : Does E σ A w o a v A') (k : K v A') : DoesK E σ A w o a K :=
  fun K1 Q hK => h K1 Q fun v' w' σ' h1 h2 h3 => hK v A' v' w' σ' k h1 h2 h3

theorem sxOp_ok {E : Env} (ok : E.Ok) (hs : E.sym = true) {tab : Tab} (ht : TabOk E tab) {inl : Inl} (hi : InlOk E inl) {el : El} {σ : Sig} {A : AH} {w : World} (R : Rel E.P σ A w) (hg : Glob E σ) {ρ : Operand → Option Value} {o : Oper} {a : Act} (hρ : OpR σ ρ a.eval) {K : KV}
    (h : sxOp tab inl E el A ρ o.type o.op K) : DoesK E σ A w o a K := by
  unfold sxOp at h
  split at h
  · rename_i r hr
    obtain ⟨hp, k⟩ := pc_iff h
    exact .of (does_quiet ok R hρ (sxQ_ok hs hr hp)) k
  · split at h
    · rename_i r hr
      split at h
      · rename_i A' hn
        exact .of (does_alloc ok R hρ (ob := r.1) (fv := r.2) hr hn) h
      · exact h.elim
    · suffices key : ∀ K, sxEff0 tab inl E A ρ o.op K → DoesK E σ A w o a K by
        unfold sxEff at h
        split at h
        · split at h
          · rename_i r hr
            obtain ⟨hp, k⟩ := pc_iff h
            exact .of (does_of_good (eff_ok ok R hρ (sxApp_ok (p := r.1) (v := r.2.1) (A' := r.2.2) hr hp))) k
          · exact key _ h
        · exact key _ h
      clear h
      intro K h
      unfold sxEff0 at h
      split at h
      · rename_i r hr
        exact .of (does_of_good (eff_ok ok R hρ hr)) h
      · split at h
        · rename_i r hen
          obtain ⟨args', ha, hrun⟩ := enter_ok ok hρ (g := r.1) (args := r.2) hen
          unfold sxCall at h
          split at h
          · rename_i fn hfn
            have enter : ∀ Q1 : Ending → World → Prop, True := fun _ => trivial
            split at h
            · rename_i x hx
              split at h
              · rename_i r2 hr2
                obtain ⟨hp, k⟩ := pc_iff h
                intro K1 Q hK
                unfold Oper.wp
                rw [hrun, callFunc_enter ok hfn]
                show Calls E.P r.1 ⟨args'⟩ w _
                refine (ht.get hx r.2 A r2.1 r2.2.1 r2.2.2 hr2 hp σ w args' R hg ha).mono fun e w' he => ?_
                obtain ⟨v', σ', rfl, h1, h2, h3⟩ := he
                exact hK _ _ v' w' σ' k h1 h2 h3
              · exact h.elim
            · intro K1 Q hK
              unfold Oper.wp
              rw [hrun, callFunc_enter ok hfn]
              show Calls E.P r.1 ⟨args'⟩ w _
              refine (hi r.1 fn hfn r.2 A K h σ w args' R hg ha).mono fun e w' he => ?_
              obtain ⟨v, A', v', σ', rfl, k, h1, h2, h3⟩ := he
              exact hK _ _ v' w' σ' k h1 h2 h3
          · split at h
            · rename_i x hx
              split at h
              · rename_i r2 hr2
                refine .of (does_of_good ?_) h
                rw [hrun]
                exact ok.ext r.1 x r.2 A r2.1 r2.2 hx hr2 σ w args' R ha
              · exact h.elim
            · exact h.elim
        · exact h.elim

theorem putK_ok {n : Nat} {F : T Value} {dst : Option Tmp} {v : Value} {k : T Value → Prop} (h : putK n F dst v k) : ∃ F', put n F dst v = some F' ∧ k F' := by
  unfold putK at h
  split at h
  · rename_i F' hF; exact ⟨F', hF, h⟩
  · exact h.elim

theorem sxOps_ok {E : Env} (ok : E.Ok) (hs : E.sym = true) {tab : Tab} (ht : TabOk E tab) {inl : Inl} (hi : InlOk E inl) {el : El} {ops : Array Oper} {n : Nat} {Q : Exit → Act → World → Prop} : ∀ (l : List Oper) (k : Nat) (F : T Value) (A : AH) (σ : Sig) (a : Act) (w : World) (K : KF),
    sxOps tab inl E el ops.toList n l F A K → (∀ (i : Nat), i < l.length → ops[k + i]? = l[i]?) → Rel E.P σ A w → Glob E σ → FR σ F n a →
    (∀ F' A' a' w' σ', K F' A' → FR σ' F' n a' → Rel E.P σ' A' w' → Ext σ A w σ' A' w' → Q .normal a' w') → wpOps E.P ops Q (List.range' k l.length) a w
  | [], k, F, A, σ, a, w, K, h, _, R, hg, hF, hQ => hQ F A a w σ h hF R (Ext.refl _ _ _)
  | o :: rest, k, F, A, σ, a, w, K, h, hl, R, hg, hF, hQ => by
    have h0 : ops[k]? = some o := by have := hl 0 (by simp); simpa using this
    have hr : ∀ (i : Nat), i < rest.length → ops[k + 1 + i]? = rest[i]? := fun i hi => by
      have := hl (i + 1) (by simp; omega)
      rw [show k + 1 + i = k + (i + 1) by omega, this]
      simp
    rw [List.length_cons, List.range'_succ, wpOps_cons]
    unfold wpOp
    simp only [h0]
    have h : sxG ops.toList F o (fun F => sxOp tab inl E el A (ev E F) o.type o.op (fun v A' => putK n F o.dst v (fun F' => sxOps tab inl E el ops.toList n rest F' A' K))) (fun F => putK n F o.dst undef (fun F' => sxOps tab inl E el ops.toList n rest F' A K)) := h
    rcases sxG_ok h with ⟨hw, h⟩ | ⟨hw, h⟩
    · rw [want_eq (σ := σ) (F := F) (fun _ _ _ d _ _ _ => hF.val d) hw]
      rw [if_pos rfl]
      left
      refine sxOp_ok ok hs ht hi R hg (ev_rel hg hF.val) h _ _ fun v A1 v' w' σ' hk h1 h2 h3 => ?_
      obtain ⟨F1, hput, hk⟩ := putK_ok hk
      have hsub := Ext.sub R h3
      exact sxOps_ok ok hs ht hi rest (k + 1) F1 A1 σ' _ w' K hk hr h2 (hg.sub hsub) (put_rel (hF.mono hsub) h1 hput) fun F2 A2 a2 w2 σ2 q k1 k2 k3 => hQ F2 A2 a2 w2 σ2 q k1 k2 (h3.trans k3)
    · rw [want_eq (σ := σ) (F := F) (fun _ _ _ d _ _ _ => hF.val d) hw]
      rw [if_neg (by simp)]
      obtain ⟨F1, hput, hk⟩ := putK_ok h
      exact sxOps_ok ok hs ht hi rest (k + 1) F1 A σ _ w K hk hr R hg (put_rel hF (undef_refl σ) hput) hQ

theorem W.sxOps {E : Env} (ok : E.Ok) (hs : E.sym = true) {tab : Tab} (ht : TabOk E tab) {inl : Inl} (hi : InlOk E inl) {el : El} {A0 : AH} {n : Nat} {F : T Value} {A : AH} {Q : Post} {id : Nat} {ops : Array Oper}
    (h : AM.sxOps tab inl E el ops.toList n ops.toList F A (Q .normal)) : W E A0 n (.region id ops false) Q F A := by
  intro σ0 w0 a w hat Q' hQ
  obtain ⟨σ, h1, h2, h3, h4⟩ := hat
  refine wp_region ?_
  have := sxOps_ok ok hs ht hi (Q := Q') ops.toList 0 F A σ a w _ h (fun i hi => by simp) h2 h3 h1 (fun F' A' a' w' σ' hk q1 q2 q3 => hQ .normal F' A' a' w' hk ⟨σ', q1, q2, h3.sub (Ext.sub h2 q3), h4.trans q3⟩)
  rw [List.range_eq_range']
  simpa using this

end
end Go.AM
set_option linter.unusedVariables false
namespace Go.AM
noncomputable section

/-! ### Regions that draw their order -/
def sxEffD0 (tab : Tab) (E : Env) (A : AH) (ρ : Operand → Option Value) (op : Op) (K : KV) : Prop :=
  match effA E A ρ op with
  | some r => K r.1 r.2
  | none => (match enterA E ρ op with
    | some r => (match E.fn r.1 with
      | some _ => (match tabOf tab r.1 with
        | some x => (match x r.2 A with | some r => pc r.1 (K r.2.1 r.2.2) | none => Stop r)
        | none => Stop r)
      | none => (match E.ext r.1 with
        | some x => (match x r.2 A with | some r => K r.1 r.2 | none => Stop r)
        | none => Stop r))
    | none => Stop (op, A))

theorem sxEffD0_ok {tab : Tab} {E : Env} {A : AH} {ρ : Operand → Option Value} {op : Op} {K : KV} (h : sxEffD0 tab E A ρ op K) : ∃ v A', effAll (callT tab) E A ρ op = some (v, A') ∧ K v A' := by
  unfold sxEffD0 at h
  unfold effAll
  split at h
  · rename_i r hr; rw [hr]; exact ⟨_, _, rfl, h⟩
  · rename_i hr
    rw [hr]
    simp only
    split at h
    · rename_i r hen
      rw [hen]
      simp only
      split at h
      · rename_i fn hfn
        rw [hfn]
        simp only
        split at h
        · rename_i x hx
          split at h
          · rename_i r2 hr2
            obtain ⟨hp, k⟩ := pc_iff h
            refine ⟨r2.2.1, r2.2.2, ?_, k⟩
            obtain ⟨p, v, A'⟩ := r2
            unfold callT
            rw [hx]
            simp only [hr2]
            rw [if_pos hp]
          · exact h.elim
        · exact h.elim
      · rename_i hfn
        rw [hfn]
        simp only
        split at h
        · rename_i x hx
          rw [hx]
          simp only
          split at h
          · rename_i r2 hr2; exact ⟨_, _, hr2, h⟩
          · exact h.elim
        · exact h.elim
    · exact h.elim

def sxEffD (tab : Tab) (E : Env) (el : El) (A : AH) (ρ : Operand → Option Value) (op : Op) (K : KV) : Prop :=
  match symApp el with
  | true => (match sxApp E A ρ op with | some r => pc r.1 (K r.2.1 r.2.2) | none => sxEffD0 tab E A ρ op K)
  | false => sxEffD0 tab E A ρ op K

theorem sxEffD_ok {tab : Tab} {E : Env} {el : El} {A : AH} {ρ : Operand → Option Value} {op : Op} {K : KV} (h : sxEffD tab E el A ρ op K) : ∃ v A', effAll (callT tab) E A ρ op = some (v, A') ∧ K v A' := by
  unfold sxEffD at h
  split at h
  · split at h
    · rename_i r hr
      obtain ⟨hp, k⟩ := pc_iff h
      refine ⟨r.2.1, r.2.2, ?_, k⟩
      unfold effAll
      rw [sxApp_ok (p := r.1) (v := r.2.1) (A' := r.2.2) hr hp]
    · exact sxEffD0_ok h
  · exact sxEffD0_ok h

def qcK (E : Env) (el : El) (als : List Al) (G : AH) (q : Qu) (K : Prop) : Prop :=
  match addAl q.m als G with
  | some H => (match sxQ E el H (rho E q.F (tmpsOf q.o.op)) q.o.type q.o.op with | some r => pc r.1 (r.2 = q.v ∧ K) | none => False)
  | none => False

theorem qcK_ok {E : Env} (hs : E.sym = true) {el : El} {als : List Al} {G : AH} {q : Qu} {K : Prop} (h : qcK E el als G q K) : QC E als G q ∧ K := by
  unfold qcK at h
  split at h
  · rename_i H hH
    split at h
    · rename_i r hr
      obtain ⟨hp, e, k⟩ := pc_iff h
      exact ⟨⟨H, hH, by rw [← e]; exact sxQ_ok hs hr hp⟩, k⟩
    · exact h.elim
  · exact h.elim

def qsK (E : Env) (el : El) (als : List Al) (G : AH) (m : Nat) (qs : List Qu) (K : Prop) : Prop :=
  List.rec (motive := fun _ => Prop) K (fun q _ ih => bif m.testBit q.i then ih else qcK E el als G q ih) qs

theorem qsK_ok {E : Env} (hs : E.sym = true) {el : El} {als : List Al} {G : AH} {m : Nat} {K : Prop} : ∀ {qs : List Qu}, qsK E el als G m qs K → QOk E als G m qs ∧ K
  | [], h => ⟨.nil, h⟩
  | q :: qs, h => by
    have h : (bif m.testBit q.i then qsK E el als G m qs K else qcK E el als G q (qsK E el als G m qs K)) := h
    cases hb : m.testBit q.i with
    | true =>
      rw [hb] at h
      obtain ⟨h1, h2⟩ := qsK_ok hs (qs := qs) h
      exact ⟨.bit hb h1, h2⟩
    | false =>
      rw [hb] at h
      obtain ⟨h0, h⟩ := qcK_ok hs h
      obtain ⟨h1, h2⟩ := qsK_ok hs (qs := qs) h
      exact ⟨.chk h0 h1, h2⟩

def pastK (E : Env) (el : El) (als : List Al) (q : Qu) (past : List (Nat × AH)) (K : Prop) : Prop :=
  List.rec (motive := fun _ => Prop) K (fun x _ ih => bif q.m.testBit x.1 then K else qcK E el als x.2 q ih) past

theorem pastK_ok {E : Env} (hs : E.sym = true) {el : El} {als : List Al} {q : Qu} {K : Prop} : ∀ {past : List (Nat × AH)}, pastK E el als q past K → POk E als q past ∧ K
  | [], h => ⟨.nil, h⟩
  | x :: past, h => by
    have h : (bif q.m.testBit x.1 then K else qcK E el als x.2 q (pastK E el als q past K)) := h
    cases hb : q.m.testBit x.1 with
    | true => rw [hb] at h; exact ⟨.bit hb, h⟩
    | false =>
      rw [hb] at h
      obtain ⟨h0, h⟩ := qcK_ok hs h
      obtain ⟨h1, h2⟩ := pastK_ok hs (past := past) h
      exact ⟨.chk h0 h1, h2⟩

def mk (ms : List Nat) (i : Nat) : Nat := (nth ms i).getD 0

def rlStep (tab : Tab) (E : Env) (el : El) (ms : List Nat) (n n0 sz : Nat) (o : Oper) (ih : Nat → RS → (RS → Prop) → Prop) (i : Nat) (F : T Value) (G : AH) (past : List (Nat × AH)) (als : List Al) (qs : List Qu) (K : RS → Prop) : Prop :=
  match isEff E o.op with
  | true => (match addAl (mk ms i) als G with
    | some H => sxEffD tab E el H (rho E F (tmpsOf o.op)) o.op (fun v G' => bif als.all (keepB H G') && Nat.ble (n0 + sz) G'.next then
        qsK E el als G' (mk ms i) qs (putK n F o.dst v (fun F' => ih (i + 1) ⟨F', G', (i, G) :: past, als, qs⟩ K)) else False)
    | none => False)
  | false => (match allocA E (rho E F (tmpsOf o.op)) o.op with
    | some r => bif (vis G (n0 + i)).isNone && past.all (fun p => (vis p.2 (n0 + i)).isNone) then putK n F o.dst (r.2 (n0 + i)) (fun F' => ih (i + 1) ⟨F', G, past, (i, n0 + i, r.1) :: als, qs⟩ K) else False
    | none => (match addAl (mk ms i) als G with
      | some H => (match sxQ E el H (rho E F (tmpsOf o.op)) o.type o.op with
        | some r => pc r.1 (match hdep o.op with
          | true => pastK E el als ⟨i, mk ms i, o, F, r.2⟩ past (putK n F o.dst r.2 (fun F' => ih (i + 1) ⟨F', G, past, als, ⟨i, mk ms i, o, F, r.2⟩ :: qs⟩ K))
          | false => putK n F o.dst r.2 (fun F' => ih (i + 1) ⟨F', G, past, als, qs⟩ K))
        | none => Stop (o.op, H))
      | none => False))

def sxRL (tab : Tab) (E : Env) (el : El) (ops : List Oper) (ms : List Nat) (n n0 sz : Nat) (l : List Oper) : Nat → RS → (RS → Prop) → Prop :=
  List.rec (motive := fun _ => Nat → RS → (RS → Prop) → Prop) (fun _ S K => K S)
    (fun o _ ih i S K => sxG ops S.F o (fun F => rlStep tab E el ms n n0 sz o ih i F S.G S.past S.als S.qs K) (fun F => putK n F o.dst undef (fun F' => ih (i + 1) ⟨F', S.G, S.past, S.als, S.qs⟩ K))) l

theorem sxRL_ok {tab : Tab} {E : Env} (hs : E.sym = true) {el : El} {ops : List Oper} {ms : List Nat} {n n0 sz : Nat} : ∀ (l : List Oper) (i : Nat) (S : RS) (K : RS → Prop), sxRL tab E el ops ms n n0 sz l i S K → RL (callT tab) E ops ms n n0 sz l i S K
  | [], i, S, K, h => .nil h
  | o :: l, i, ⟨F, G, past, als, qs⟩, K, h => by
    have h : sxG ops F o (fun F => rlStep tab E el ms n n0 sz o (sxRL tab E el ops ms n n0 sz l) i F G past als qs K) (fun F => putK n F o.dst undef (fun F' => sxRL tab E el ops ms n n0 sz l (i + 1) ⟨F', G, past, als, qs⟩ K)) := h
    rcases sxG_ok h with ⟨hw, h⟩ | ⟨hw, h⟩
    · unfold rlStep at h
      split at h
      · rename_i he
        split at h
        · rename_i H hH
          obtain ⟨v, G', hx, h⟩ := sxEffD_ok h
          cases hb : (als.all (keepB H G') && Nat.ble (n0 + sz) G'.next) with
          | false => rw [hb] at h; exact h.elim
          | true =>
            rw [hb] at h
            simp only [Bool.and_eq_true] at hb
            obtain ⟨hq, h⟩ := qsK_ok hs h
            obtain ⟨F', hp, h⟩ := putK_ok h
            exact RL.eff hs hw he hH hx hb.1 hq hb.2 hp (sxRL_ok hs l (i + 1) _ K h)
        · exact h.elim
      · rename_i he
        split at h
        · rename_i r ha
          cases hb : ((vis G (n0 + i)).isNone && past.all (fun p => (vis p.2 (n0 + i)).isNone)) with
          | false => rw [hb] at h; exact h.elim
          | true =>
            rw [hb] at h
            obtain ⟨F', hp, h⟩ := putK_ok h
            exact RL.alloc hw he (ob := r.1) (fv := r.2) ha hb hp (sxRL_ok hs l (i + 1) _ K h)
        · rename_i ha
          split at h
          · rename_i H hH
            split at h
            · rename_i r hr
              obtain ⟨hp, h⟩ := pc_iff h
              have hq := sxQ_ok hs hr hp
              split at h
              · rename_i hd
                obtain ⟨hpast, h⟩ := pastK_ok hs h
                obtain ⟨F', hput, h⟩ := putK_ok h
                exact RL.read hs hw he ha hH hq hd hpast hput (sxRL_ok hs l (i + 1) _ K h)
              · rename_i hd
                obtain ⟨F', hput, h⟩ := putK_ok h
                exact RL.quiet hw he ha hH hq hd hput (sxRL_ok hs l (i + 1) _ K h)
            · exact h.elim
          · exact h.elim
    · obtain ⟨F', hput, h⟩ := putK_ok h
      exact RL.skip hw hput (sxRL_ok hs l (i + 1) _ K h)

def sxReg (tab : Tab) (E : Env) (el : El) (ops : Array Oper) (l : List Oper) (sz : Nat) (n : Nat) (F : T Value) (A : AH) (K : KF) : Prop :=
  bif regOk E ops && Nat.blt (A.next + sz + 1) 1099511627776 then
    sxRL tab E el l (masks l []) n A.next sz l 0 ⟨F, ⟨A.t, A.next + sz⟩, [], [], []⟩ (fun S => match addAl (2 ^ sz - 1) S.als S.G with | some A' => K S.F A' | none => False)
  else False

theorem W.sxReg {E : Env} (ok : E.Ok) (hs : E.sym = true) {tab : Tab} (ht : TabOk E tab) {el : El} {A0 : AH} {n : Nat} {F : T Value} {A : AH} {Q : Post} {id : Nat} {ops : Array Oper}
    (h : AM.sxReg tab E el ops ops.toList ops.toList.length n F A (Q .normal)) : W E A0 n (.region id ops true) Q F A := by
  unfold AM.sxReg at h
  cases hb : (regOk E ops && Nat.blt (A.next + ops.toList.length + 1) 1099511627776) with
  | false => rw [hb] at h; exact h.elim
  | true =>
    rw [hb] at h
    simp only [Bool.and_eq_true] at hb
    refine W.drawn ok (callT_ok ht) hb.1 rfl rfl rfl hb.2 ?_
    obtain ⟨S', h1, h2⟩ := sxRL_ok hs _ _ _ _ h
    refine ⟨S', h1, ?_⟩
    split at h2
    · rename_i A' hA; exact ⟨A', hA, h2⟩
    · exact h2.elim

/-! ### A state told anew -/
def fwd : List (Nat × Nat) → Nat → Option Nat
  | [], _ => none
  | x :: m, B => bif Nat.beq B x.2 then some x.1 else fwd m B

def bak (m : List (Nat × Nat)) (B B' : Nat) : Bool := match back m B' with | some C => Nat.beq C B | none => false

/-- The new number of a block. -/
def renB (m : List (Nat × Nat)) (B : Nat) : Option Nat := match fwd m B with | some B' => bif bak m B B' then some B' else none | none => none

theorem renB_ok {m : List (Nat × Nat)} {B B' : Nat} (h : renB m B = some B') : back m B' = some B := by
  unfold renB at h
  split at h
  · rename_i C hC
    cases hb : bak m B C with
    | false => rw [hb] at h; cases h
    | true =>
      rw [hb] at h
      simp only [cond_true, Option.some.injEq] at h
      subst h
      unfold bak at hb
      split at hb
      · rename_i D hD; rw [hD, Nat.eq_of_beq_eq_true hb]
      · cases hb
  · cases h

abbrev RL2 := Option (List Value × Value)

def renL (f : Value → RL2) (l : List Value) : Option (List Value × List Value) :=
  List.rec (motive := fun _ => Option (List Value × List Value)) (some ([], [])) (fun v _ ih => match f v with
    | some r => (match ih with | some s => some (r.1 ++ s.1, r.2 :: s.2) | none => none)
    | none => none) l

/-- A value with other numbers of blocks, and what of it has to be plain. -/
def renV (m : List (Nat × Nat)) : Nat → Value → RL2
  | 0, _ => none
  | k + 1, v => match v with
    | .pointer (some ⟨B, i, none⟩) => (match renB m B with | some B' => some ([], .pointer (some ⟨B', i, none⟩)) | none => none)
    | .slice (some ⟨B, i, none⟩) n c => (match renB m B with | some B' => some ([], .slice (some ⟨B', i, none⟩) n c) | none => none)
    | .map (some B) => (match renB m B with | some B' => some ([], .map (some B')) | none => none)
    | .agg ⟨xs⟩ => (match renL (renV m k) xs with | some r => some (r.1, .agg ⟨r.2⟩) | none => none)
    | .tuple ⟨xs⟩ => (match renL (renV m k) xs with | some r => some (r.1, .tuple ⟨r.2⟩) | none => none)
    | .iface t x => (match renV m k x with | some r => some (r.1, .iface t r.2) | none => none)
    | .func (.yield sz) xs ys => some ([.func (.yield sz) xs ys], .func (.yield sz) xs ys)
    | .func (.func g) ⟨xs⟩ ⟨ys⟩ => (match renL (renV m k) xs, renL (renV m k) ys with | some r, some s => some (r.1 ++ s.1, .func (.func g) ⟨r.2⟩ ⟨s.2⟩) | _, _ => none)
    | v => bif scal v then some ([], v) else none

def HFs (l : List Value) (p : Prop) : Prop := List.rec (motive := fun _ => Prop) p (fun v _ ih => HF v ∧ ih) l

theorem HFs_iff {p : Prop} : ∀ {l : List Value}, HFs l p → (∀ x ∈ l, HF x) ∧ p
  | [], h => ⟨fun x hx => by simp at hx, h⟩
  | v :: l, h => by
    obtain ⟨h1, h2⟩ := HFs_iff (l := l) h.2
    exact ⟨HF.cons h.1 h1, h2⟩

theorem renL_ok {ρ : Nat → Option Nat} {f : Value → RL2} (hf : ∀ v r, f v = some r → (∀ x ∈ r.1, HF x) → RV ρ v r.2) : ∀ {l : List Value} {r : List Value × List Value}, renL f l = some r → (∀ x ∈ r.1, HF x) → RVs ρ l r.2
  | [], r, h, _ => by
    have h : some ([], []) = some r := h
    simp only [Option.some.injEq] at h
    subst h
    exact .nil
  | v :: l, r, h, hh => by
    have h : (match f v with | some r => (match renL f l with | some s => some (r.1 ++ s.1, r.2 :: s.2) | none => none) | none => none) = some r := h
    split at h
    · rename_i r1 h1
      split at h
      · rename_i s hs
        simp only [Option.some.injEq] at h
        subst h
        exact .cons (hf v r1 h1 fun x hx => hh x (by simp [hx])) (renL_ok hf hs fun x hx => hh x (by simp [hx]))
      · cases h
    · cases h

theorem renV_ok {m : List (Nat × Nat)} : ∀ (k : Nat) (v : Value) (r : List Value × Value), renV m k v = some r → (∀ x ∈ r.1, HF x) → RV (back m) v r.2
  | 0, v, r, h, _ => by cases h
  | k + 1, v, r, h, hh => by
    unfold renV at h
    split at h
    · split at h
      · rename_i B' hB; simp only [Option.some.injEq] at h; subst h; exact .ptr (renB_ok hB)
      · cases h
    · split at h
      · rename_i B' hB; simp only [Option.some.injEq] at h; subst h; exact .slice (renB_ok hB)
      · cases h
    · split at h
      · rename_i B' hB; simp only [Option.some.injEq] at h; subst h; exact .map (renB_ok hB)
      · cases h
    · split at h
      · rename_i s hs; simp only [Option.some.injEq] at h; subst h; exact .agg (renL_ok (renV_ok k) hs hh)
      · cases h
    · split at h
      · rename_i s hs; simp only [Option.some.injEq] at h; subst h; exact .tuple (renL_ok (renV_ok k) hs hh)
      · cases h
    · split at h
      · rename_i s hs; simp only [Option.some.injEq] at h; subst h; exact .iface (renV_ok k _ _ hs hh)
      · cases h
    · simp only [Option.some.injEq] at h; subst h; exact .hf (hh _ (by simp))
    · split at h
      · rename_i s1 s2 h1 h2
        simp only [Option.some.injEq] at h
        subst h
        exact .func rfl (renL_ok (renV_ok k) h1 fun x hx => hh x (by simp [hx])) (renL_ok (renV_ok k) h2 fun x hx => hh x (by simp [hx]))
      · cases h
    · rw [Bool.cond_eq_ite] at h
      split at h
      · rename_i hb
        simp only [Option.some.injEq] at h
        subst h
        exact .hf (.scal hb)
      · cases h

/-- The kept slots. -/
def tellF (m : List (Nat × Nat)) (F : T Value) (l : List Nat) : Option (List Value × List (Nat × Value)) :=
  List.rec (motive := fun _ => Option (List Value × List (Nat × Value))) (some ([], [])) (fun t _ ih => match F.get t with
    | some v => (match renV m 8 v with
      | some r => (match ih with | some s => some (r.1 ++ s.1, (t, r.2) :: s.2) | none => none)
      | none => none)
    | none => none) l

theorem tellF_ok {m : List (Nat × Nat)} {F : T Value} : ∀ {l : List Nat} {r}, tellF m F l = some r → (∀ x ∈ r.1, HF x) → RenF m F r.2
  | [], r, h, _ => by
    have h : some ([], []) = some r := h
    simp only [Option.some.injEq] at h
    subst h
    exact .nil
  | t :: l, r, h, hh => by
    have h : (match F.get t with
      | some v => (match renV m 8 v with
        | some r => (match tellF m F l with | some s => some (r.1 ++ s.1, (t, r.2) :: s.2) | none => none)
        | none => none)
      | none => none) = some r := h
    split at h
    · rename_i v hv
      split at h
      · rename_i r1 h1
        split at h
        · rename_i s hs
          simp only [Option.some.injEq] at h
          subst h
          exact .cons hv (renV_ok 8 v r1 h1 fun x hx => hh x (by simp [hx])) (tellF_ok hs fun x hx => hh x (by simp [hx]))
        · cases h
      · cases h
    · cases h

def inL (k : Nat) (l : List Nat) : Bool := l.any fun x => Nat.beq x k

def renW (o : AObj) : Option (List Value × AObj) :=
  match o with
  | .cells c e => some ([.agg ⟨c⟩], .cells c e)
  | _ => none

def isWh (ws : List Nat) (o : AObj) : Bool := match o with | .cells _ e => inL e ws | _ => false

theorem HF_agg {c : List Value} (h : HF (.agg ⟨c⟩)) : ∀ x ∈ c, HF x := by
  cases h with
  | scal h => simp [scal] at h
  | agg h => exact h

theorem renW_ok {ρ : Nat → Option Nat} {o : AObj} {r : List Value × AObj} (h : renW o = some r) (hh : ∀ x ∈ r.1, HF x) : RO ρ o r.2 := by
  unfold renW at h
  split at h
  · simp only [Option.some.injEq] at h
    subst h
    exact .cells (RVs.hf (HF_agg (hh _ (by simp))))
  · cases h

def renO (m : List (Nat × Nat)) (o : AObj) : Option (List Value × AObj) :=
  match o with
  | .cells c e => (match renL (renV m 8) c with | some r => some (r.1, .cells r.2 e) | none => none)
  | .ro c e => (match renL (renV m 8) c with | some r => some (r.1, .ro r.2 e) | none => none)
  | _ => none

theorem renO_ok {m : List (Nat × Nat)} {o : AObj} {r : List Value × AObj} (h : renO m o = some r) (hh : ∀ x ∈ r.1, HF x) : RO (back m) o r.2 := by
  unfold renO at h
  split at h
  · split at h
    · rename_i s hs; simp only [Option.some.injEq] at h; subst h; exact .cells (renL_ok (renV_ok 8) hs hh)
    · cases h
  · split at h
    · rename_i s hs; simp only [Option.some.injEq] at h; subst h; exact .ro (renL_ok (renV_ok 8) hs hh)
    · cases h
  · cases h

/-- The kept blocks. -/
def tellH (ws : List Nat) (m : List (Nat × Nat)) (A : AH) (l : List (Nat × Nat)) : Option (List Value × List (Nat × AObj)) :=
  List.rec (motive := fun _ => Option (List Value × List (Nat × AObj))) (some ([], [])) (fun x _ ih => match A.t.get x.2 with
    | some o => (match (bif isWh ws o then renW o else renO m o) with
      | some r => (match ih with | some s => some (r.1 ++ s.1, (x.1, r.2) :: s.2) | none => none)
      | none => none)
    | none => none) l

theorem tellH_ok {ws : List Nat} {m : List (Nat × Nat)} {A : AH} : ∀ {l : List (Nat × Nat)} {r}, tellH ws m A l = some r → (∀ x ∈ l, back m x.1 = some x.2) → (∀ x ∈ r.1, HF x) → RenH m A r.2
  | [], r, h, _, _ => by
    have h : some ([], []) = some r := h
    simp only [Option.some.injEq] at h
    subst h
    exact .nil
  | t :: l, r, h, hb, hh => by
    have h : (match A.t.get t.2 with
      | some o => (match (bif isWh ws o then renW o else renO m o) with
        | some r => (match tellH ws m A l with | some s => some (r.1 ++ s.1, (t.1, r.2) :: s.2) | none => none)
        | none => none)
      | none => none) = some r := h
    split at h
    · rename_i v hv
      split at h
      · rename_i r1 h1
        split at h
        · rename_i s hs
          simp only [Option.some.injEq] at h
          subst h
          have h2 : RO (back m) v r1.2 := by
            cases hw : isWh ws v with
            | true => rw [hw] at h1; exact renW_ok h1 fun x hx => hh x (by simp [hx])
            | false => rw [hw] at h1; exact renO_ok h1 fun x hx => hh x (by simp [hx])
          exact .cons (hb t (by simp)) hv h2 (tellH_ok hs (fun x hx => hb x (by simp [hx])) fun x hx => hh x (by simp [hx]))
        · cases h
      · cases h
    · cases h

def baks (m : List (Nat × Nat)) : Bool := m.all fun x => bak m x.2 x.1

def tellW (ws : List Nat) (m : List (Nat × Nat)) (slots : List Nat) (nx : Nat) (F : T Value) (A : AH) (K : KF) : Prop :=
  match tellF m F slots with
  | some r => (match tellH ws m A m with
    | some s => (match ofL r.2 .leaf with
      | some F1 => (match ofL s.2 .leaf with
        | some t1 => bif backOk nx m && baks m then HFs (r.1 ++ s.1) (K F1 ⟨t1, nx⟩) else False
        | none => False)
      | none => False)
    | none => False)
  | none => False

theorem tellW_ok {E : Env} (hgl : ∀ g, E.gl g = false) {A0 : AH} (h0 : A0.next = 0) {n : Nat} {ws : List Nat} {m : List (Nat × Nat)} {slots : List Nat} {nx : Nat} {F : T Value} {A : AH} {K : KF} (h : tellW ws m slots nx F A K) : ∃ F1 A1, K F1 A1 ∧ Turns E A0 n F A F1 A1 := by
  unfold tellW at h
  split at h
  · rename_i r hr
    split at h
    · rename_i s hs
      split at h
      · rename_i F1 hF
        split at h
        · rename_i t1 ht
          cases hb : (backOk nx m && baks m) with
          | false => rw [hb] at h; exact h.elim
          | true =>
            rw [hb] at h
            simp only [Bool.and_eq_true] at hb
            obtain ⟨hh, k⟩ := HFs_iff h
            refine ⟨F1, ⟨t1, nx⟩, k, Turns.ren hgl h0 m r.2 s.2 nx hb.1 hF ht (tellF_ok hr fun x hx => hh x (by simp [hx])) (tellH_ok hs (fun x hx => ?_) fun x hx => hh x (by simp [hx]))⟩
            have := List.all_eq_true.1 hb.2 x hx
            unfold bak at this
            split at this
            · rename_i C hC; rw [hC, Nat.eq_of_beq_eq_true this]
            · cases this
        · exact h.elim
      · exact h.elim
    · exact h.elim
  · exact h.elim

def tellK (m : List (Nat × Nat)) (slots : List Nat) (nx : Nat) (F : T Value) (A : AH) (K : KF) : Prop := tellW [] m slots nx F A K

/-! The blocks that the kept slots lead to, numbered anew in the order in which they are met. -/
def blksL (f : Value → List Nat) (l : List Value) : List Nat := List.rec (motive := fun _ => List Nat) [] (fun v _ ih => f v ++ ih) l
def blks : Nat → Value → List Nat
  | 0, _ => []
  | k + 1, v => match v with
    | .pointer (some ⟨B, _, _⟩) => [B]
    | .slice (some ⟨B, _, _⟩) _ _ => [B]
    | .map (some B) => [B]
    | .agg ⟨xs⟩ => blksL (blks k) xs
    | .tuple ⟨xs⟩ => blksL (blks k) xs
    | .iface _ x => blks k x
    | .func (.func _) ⟨xs⟩ ⟨ys⟩ => blksL (blks k) xs ++ blksL (blks k) ys
    | _ => []

def reach (ws : List Nat) (A : AH) (k : Nat) : List Nat → List Nat → List Nat :=
  Nat.rec (motive := fun _ => List Nat → List Nat → List Nat) (fun _ seen => seen) (fun _ ih todo seen => match todo with
    | [] => seen
    | B :: r => bif inL B seen then ih r seen else (match A.t.get B with
      | some (.cells c e) => bif inL e ws then ih r (seen ++ [B]) else ih (r ++ blksL (blks 8) c) (seen ++ [B])
      | some (.ro c e) => bif inL e ws then ih r (seen ++ [B]) else ih (r ++ blksL (blks 8) c) (seen ++ [B])
      | _ => ih r (seen ++ [B]))) k

def numb (l : List Nat) : Nat → List (Nat × Nat) := List.rec (motive := fun _ => Nat → List (Nat × Nat)) (fun _ => []) (fun B _ ih k => (k, B) :: ih (k + 1)) l

def slotB (F : T Value) (l : List Nat) : List Nat := List.rec (motive := fun _ => List Nat) [] (fun t _ ih => (match F.get t with | some v => blks 8 v | none => []) ++ ih) l

def autoM (ws slots : List Nat) (F : T Value) (A : AH) : List (Nat × Nat) := numb (reach ws A 64 (slotB F slots) []) 0

def lenM (m : List (Nat × Nat)) : Nat := List.rec (motive := fun _ => Nat) 0 (fun _ _ ih => ih + 1) m

def tellA (ws slots : List Nat) (F : T Value) (A : AH) (K : KF) : Prop := tellW ws (autoM ws slots F A) slots (lenM (autoM ws slots F A)) F A K

theorem tellA_ok {E : Env} (hgl : ∀ g, E.gl g = false) {A0 : AH} (h0 : A0.next = 0) {n : Nat} {ws slots : List Nat} {F : T Value} {A : AH} {K : KF} (h : tellA ws slots F A K) : ∃ F1 A1, K F1 A1 ∧ Turns E A0 n F A F1 A1 := tellW_ok hgl h0 h

/-! ### Code -/
/-- What is done at a loop: it is walked round by round, or the state is told anew and the walk ends there. -/
inductive LM where
  | unroll (m : Nat)
  | cutW (ws : List Nat) (m : List (Nat × Nat)) (slots : List Nat) (nx : Nat)
  | auto (ws slots : List Nat)

def LM.cut (m : List (Nat × Nat)) (slots : List Nat) (nx : Nat) : LM := .cutW [] m slots nx

structure SX where
  E : Env
  tab : Tab
  el : El
  lm : Nat → LM

structure SX.Ok (X : SX) : Prop where
  ok : X.E.Ok
  sym : X.E.sym = true
  gl : ∀ g, X.E.gl g = false
  tab : TabOk X.E X.tab

/-- The number of the first region: a loop's name. -/
def keyOf (c : Code) : Nat :=
  Code.rec (motive := fun _ => Nat) 0 (fun id _ _ => id) (fun _ _ x y => bif Nat.beq x 0 then y else x) (fun _ _ _ x y => bif Nat.beq x 0 then y else x) (fun _ _ x => x) (fun _ x => x) (fun _ _ _ _ x y => bif Nat.beq x 0 then y else x) (fun _ => 0) (fun _ x => x) (fun _ => 0) (fun _ => 0) 0 (fun _ => 0) c

abbrev KX := Ex → T Value → AH → Prop
abbrev SC := T Value → AH → KX → Prop

def sxBr (E : Env) (F : T Value) (b : Operand) (x y : T Value → Prop) : Prop := match b with
  | .tmp t => (match F.get t with | some (.bool v) => Sp v (setK F t (.bool true) x) (setK F t (.bool false) y) | _ => Stop b)
  | b => (match ev E F b with | some (.bool v) => Sp v (x F) (y F) | _ => Stop b)

theorem sxBr_ok {E : Env} {F : T Value} {b : Operand} {x y : T Value → Prop} (h : sxBr E F b x y) : ∃ t, ev E F b = some (.bool t) ∧ ((t = true ∧ x F) ∨ (t = false ∧ y F)) := by
  unfold sxBr at h
  split at h
  · rename_i t
    split at h
    · rename_i v hv
      refine ⟨v, hv, ?_⟩
      rcases h.cases with ⟨hb, h⟩ | ⟨hb, h⟩
      · obtain ⟨F', hF, h⟩ := setK_ok h
        rw [hb] at hv
        rw [set_same _ _ _ _ _ hv hF] at h
        exact .inl ⟨hb, h⟩
      · obtain ⟨F', hF, h⟩ := setK_ok h
        rw [hb] at hv
        rw [set_same _ _ _ _ _ hv hF] at h
        exact .inr ⟨hb, h⟩
    · exact h.elim
  · split at h
    · rename_i v hv; exact ⟨v, hv, h.cases⟩
    · exact h.elim

def sxRounds (b : SC) (m : Nat) (K : KX) : T Value → AH → Prop := Nat.rec (motive := fun _ => T Value → AH → Prop) (fun _ _ => False) (fun _ ih F A => b F A (Then ih K)) m

def sxLoop (X : SX) (A0 : AH) (n : Nat) (body : Code) (b : SC) : SC := fun F A K =>
  match X.lm (keyOf body) with
  | .unroll m => sxRounds b m K F A
  | .cutW ws m slots nx => bif Nat.beq A0.next 0 then tellW ws m slots nx F A (fun F1 A1 => Leaf (W X.E A0 n (.loop body) K F1 A1)) else False
  | .auto ws slots => bif Nat.beq A0.next 0 then tellA ws slots F A (fun F1 A1 => Leaf (W X.E A0 n (.loop body) K F1 A1)) else False

def sxRegion (X : SX) (inl : Inl) (n : Nat) (ops : Array Oper) (draw : Bool) : SC := fun F A K =>
  match draw with
  | false => sxOps X.tab inl X.E X.el ops.toList n ops.toList F A (K .normal)
  | true => sxReg X.tab X.E X.el ops ops.toList ops.toList.length n F A (K .normal)

def sxC (X : SX) (inl : Inl) (A0 : AH) (n : Nat) (c : Code) : SC :=
  Code.rec (motive := fun _ => SC)
    (fun F A K => K .normal F A)
    (fun _ ops draw => sxRegion X inl n ops draw)
    (fun _ _ x y F A K => x F A (Then (fun F' A' => y F' A' K) K))
    (fun b _ _ x y F A K => sxBr X.E F b (fun F => x F A K) (fun F => y F A K))
    (fun id _ x F A K => x F A (Blk id K))
    (fun body x => sxLoop X A0 n body x)
    (fun _ _ _ _ _ _ _ _ _ => False)
    (fun id F A K => K (.exit id) F A)
    (fun _ x F A K => x F A K)
    (fun _ F A K => K .normal F A)
    (fun _ _ _ _ => False)
    (fun F A K => K .ret F A)
    (fun _ _ _ _ => False) c

theorem sxRounds_ok {E : Env} {A0 : AH} {n : Nat} {body : Code} {b : SC} (hb : ∀ F A K, b F A K → W E A0 n body K F A) {K : KX} : ∀ (m : Nat) (F : T Value) (A : AH), sxRounds b m K F A → WR E A0 n body K m F A
  | 0, F, A, h => h.elim
  | m + 1, F, A, h => by
    refine WR.next ((hb F A _ h).mono fun ex F' A' q => ?_)
    cases ex with
    | normal => exact sxRounds_ok hb m F' A' q
    | exit id => exact q
    | ret => exact q

theorem sxC_ok {X : SX} (hX : X.Ok) {inl : Inl} (hi : InlOk X.E inl) {A0 : AH} {n : Nat} (c : Code) : ∀ F A K, sxC X inl A0 n c F A K → W X.E A0 n c K F A := by
  induction c with
  | skip => intro F A K h; exact W.skip h
  | region id ops draw =>
    intro F A K h
    have h : sxRegion X inl n ops draw F A K := h
    unfold sxRegion at h
    cases draw with
    | false => exact W.sxOps hX.ok hX.sym hX.tab hi h
    | true => exact W.sxReg hX.ok hX.sym hX.tab h
  | seq a b iha ihb =>
    intro F A K h
    have h : sxC X inl A0 n a F A (Then (fun F' A' => sxC X inl A0 n b F' A' K) K) := h
    refine W.seq ((iha F A _ h).mono fun ex F' A' q => ?_)
    cases ex with
    | normal => exact ihb F' A' K q
    | exit id => exact q
    | ret => exact q
  | cond b x y ihx ihy =>
    intro F A K h
    have h : sxBr X.E F b (fun F => sxC X inl A0 n x F A K) (fun F => sxC X inl A0 n y F A K) := h
    obtain ⟨t, ht, h⟩ := sxBr_ok h
    refine W.cond ht (fun e => ?_) (fun e => ?_)
    · rcases h with ⟨_, h⟩ | ⟨e2, _⟩
      · exact ihx F A K h
      · rw [e] at e2; cases e2
    · rcases h with ⟨e2, _⟩ | ⟨_, h⟩
      · rw [e] at e2; cases e2
      · exact ihy F A K h
  | block id b ih => intro F A K h; exact W.block (ih F A _ h)
  | loop b ih =>
    intro F A K h
    have h : sxLoop X A0 n b (sxC X inl A0 n b) F A K := h
    unfold sxLoop at h
    split at h
    · rename_i m _
      exact W.rounds m (sxRounds_ok (fun F A K h => ih F A K h) m F A h)
    · rename_i ws m slots nx _
      cases hz : Nat.beq A0.next 0 with
      | false => rw [hz] at h; exact h.elim
      | true =>
        rw [hz] at h
        have h : tellW ws m slots nx F A (fun F1 A1 => Leaf (W X.E A0 n (.loop b) K F1 A1)) := h
        obtain ⟨F1, A1, k, ht⟩ := tellW_ok (E := X.E) hX.gl (Nat.eq_of_beq_eq_true hz) (n := n) h
        exact W.turns ht k.get
    · rename_i ws slots _
      cases hz : Nat.beq A0.next 0 with
      | false => rw [hz] at h; exact h.elim
      | true =>
        rw [hz] at h
        have h : tellA ws slots F A (fun F1 A1 => Leaf (W X.E A0 n (.loop b) K F1 A1)) := h
        obtain ⟨F1, A1, k, ht⟩ := tellA_ok (E := X.E) hX.gl (Nat.eq_of_beq_eq_true hz) (n := n) h
        exact W.turns ht k.get
  | rangeFunc f ps a b => intro F A K h; exact False.elim h
  | exit id => intro F A K h; exact W.exit h
  | scope b ih => intro F A K h; exact W.scope (ih F A K h)
  | label l => intro F A K h; exact W.label h
  | goto l => intro F A K h; exact False.elim h
  | ret => intro F A K h; exact W.ret h
  | refuse s => intro F A K h; exact False.elim h

/-! ### Functions -/
def finK (E : Env) (rs : List ResultVar) (K : KV) : KX := fun ex F A =>
  match ex with
  | .exit _ => False
  | _ => (match resultsA E A F rs with | some v => K v A | none => False)

theorem finK_ok {E : Env} {fn : Func} {K : KV} {ex : Ex} {F : T Value} {A : AH} (h : finK E fn.results.toList K ex F A) : Fin E fn K ex F A := by
  cases ex with
  | exit id => exact h.elim
  | normal =>
    have h : (match resultsA E A F fn.results.toList with | some v => K v A | none => False) := h
    split at h
    · rename_i v hv; exact .normal hv h
    · exact h.elim
  | ret =>
    have h : (match resultsA E A F fn.results.toList with | some v => K v A | none => False) := h
    split at h
    · rename_i v hv; exact .ret hv h
    · exact h.elim

def bodyK (X : SX) (inl : Inl) (A0 : AH) (fn : Func) (c : Code) (args : List Value) (K : KV) : Prop :=
  match mkFrame args 0 .leaf with
  | some F => bif Nat.ble args.length fn.ntmps then sxC X inl A0 fn.ntmps c F A0 (finK X.E fn.results.toList K) else False
  | none => False

def inl1 (X : SX) (ih : Inl) : Inl := fun fn args A K => match fn.body with
  | some c => bodyK ⟨X.E, X.tab, X.el, fun _ => .unroll 12⟩ ih A fn c args K
  | none => False

def inlN (X : SX) (d : Nat) : Inl := Nat.rec (motive := fun _ => Inl) (fun _ _ _ _ => False) (fun _ ih => inl1 X ih) d

theorem inlN_ok {X : SX} (hX : X.Ok) : ∀ d, InlOk X.E (inlN X d)
  | 0 => fun g fn _ args A K h => by exact False.elim h
  | d + 1 => fun g fn hfn args A K h σ w args' R hg ha => by
    have h : inl1 X (inlN X d) fn args A K := h
    unfold inl1 at h
    split at h
    · rename_i c hc
      unfold bodyK at h
      split at h
      · rename_i F hF
        cases hb : Nat.ble args.length fn.ntmps with
        | false => rw [hb] at h; exact h.elim
        | true =>
          rw [hb] at h
          have hX2 : SX.Ok ⟨X.E, X.tab, X.el, fun _ => .unroll 12⟩ := ⟨hX.ok, hX.sym, hX.gl, hX.tab⟩
          have hW := (sxC_ok hX2 (inlN_ok hX d) c F A _ h).mono (R := Fin X.E fn K) fun ex F' A' q => finK_ok q
          refine (fun_calls hX.ok hfn hc hF (Nat.le_of_ble_eq_true hb) hW R hg ha).mono fun e w' he => ?_
          obtain ⟨v, v', A', σ', h1, h2, h3, h4, h5⟩ := he
          exact ⟨v, A', v', σ', h1, h2, h3, h4, h5⟩
      · exact h.elim
    · exact h.elim

/-- Part of a body. -/
def sx (X : SX) (d : Nat) (A0 : AH) (n : Nat) (c : Code) : SC := sxC X (inlN X d) A0 n c

theorem sx_ok {X : SX} (hX : X.Ok) {d : Nat} {A0 : AH} {n : Nat} {c : Code} {F : T Value} {A : AH} {K : KX} (h : sx X d A0 n c F A K) : W X.E A0 n c K F A := sxC_ok hX (inlN_ok hX d) c F A K h

def sxFn (X : SX) (d : Nat) (fn : Func) (args : List Value) (K : KV) : Prop := match fn.body with
  | some c => bodyK X (inlN X d) ⟨.leaf, 0⟩ fn c args K
  | none => False

theorem sxFn_gen {X : SX} (hX : X.Ok) {d : Nat} {fn : Func} {args : List Value} {K : KV} (h : sxFn X d fn args K) : ∃ c F, fn.body = some c ∧ Nat.ble args.length fn.ntmps = true ∧ mkFrame args 0 .leaf = some F ∧ W X.E ⟨.leaf, 0⟩ fn.ntmps c (Fin X.E fn K) F ⟨.leaf, 0⟩ := by
  unfold sxFn at h
  split at h
  · rename_i c hc
    unfold bodyK at h
    split at h
    · rename_i F hF
      cases hb : Nat.ble args.length fn.ntmps with
      | false => rw [hb] at h; exact h.elim
      | true =>
        rw [hb] at h
        exact ⟨c, F, hc, rfl, hF, (sx_ok hX (d := d) h).mono fun ex F' A' q => finK_ok q⟩
    · exact h.elim
  · exact h.elim

/-- Values without places of the heap, by sight. -/
def plainB : Nat → Value → Bool
  | 0, _ => false
  | k + 1, v => match v with
    | .agg ⟨xs⟩ => xs.all (plainB k)
    | .tuple ⟨xs⟩ => xs.all (plainB k)
    | .iface _ x => plainB k x
    | .func (.yield _) _ _ => true
    | v => scal v

def leafK (Q : Value → Prop) (QA : KV) : KV := fun v A => match plainB 8 v with | true => Q v | false => QA v A

theorem leafK_ok {Q : Value → Prop} {QA : KV} {v : Value} {A : AH} (h : leafK Q QA v A) : Q v ∨ QA v A := by
  unfold leafK at h
  split at h
  · exact .inl h
  · exact .inr h

/-- A function that gives plain data. -/
theorem sxFn_plain {X : SX} (hX : X.Ok) {d : Nat} {fn : Func} {args : List Value} {v : Value} (hv : HF v) (h : sxFn X d fn args (leafK (fun v2 => v2 = v) (fun v2 A2 => Frz A2 v2 v))) : Walk X.E fn args v := by
  obtain ⟨c, F, h1, h2, h3, h4⟩ := sxFn_gen hX h
  refine ⟨c, F, h1, h2, h3, h4.mono fun ex F' A' q => ?_⟩
  obtain ⟨q1, v2, q2, q3⟩ := q
  refine ⟨q1, v2, q2, ?_⟩
  rcases leafK_ok q3 with q3 | q3
  · rw [q3]; exact .same hv
  · exact q3

/-! ### Loops -/
def bodyOf (fn : Func) : Code := match fn.body with | some c => c | none => .skip
def loopBody : Code → Code
  | .loop b => b
  | c => c
def isLoop : Code → Bool
  | .loop _ => true
  | _ => false
theorem loop_eq {c : Code} (h : isLoop c = true) : c = .loop (loopBody c) := by
  cases c <;> first | rfl | (simp [isLoop] at h)

/-- A part of the code, by its path. -/
def subC : List Nat → Code → Code
  | [], c => c
  | i :: p, c => match c with
    | .seq a b => bif Nat.beq i 0 then subC p a else subC p b
    | .cond _ a b => bif Nat.beq i 0 then subC p a else subC p b
    | .block _ b => subC p b
    | .scope b => subC p b
    | .loop b => subC p b
    | c => c

/-- What comes behind it. -/
def ctxK (X : SX) (d : Nat) (n : Nat) : List Nat → Code → KX → KX
  | [], _, K => K
  | i :: p, c, K => match c with
    | .seq a b => bif Nat.beq i 0 then ctxK X d n p a (Then (fun F A => sx X d ⟨.leaf, 0⟩ n b F A K) K) else ctxK X d n p b K
    | .cond _ a b => bif Nat.beq i 0 then ctxK X d n p a K else ctxK X d n p b K
    | .block id b => ctxK X d n p b (Blk id K)
    | .scope b => ctxK X d n p b K
    | _ => K

/-- A loop that is come to. -/
def LAt (X : SX) (d n : Nat) (c : Code) (p : List Nat) (K : KX) (F : T Value) (A : AH) : Prop := Leaf (W X.E ⟨.leaf, 0⟩ n (subC p c) (ctxK X d n p c K) F A)

/-- One round of a loop, and what comes behind it. -/
def stepK (X : SX) (d : Nat) (fn : Func) (p : List Nat) (K : KV) (m : List (Nat × Nat)) (slots : List Nat) (nx : Nat) (again : KF) : KX := Then (fun F' A' => tellK m slots nx F' A' again) (ctxK X d fn.ntmps p (bodyOf fn) (finK X.E fn.results.toList K))
def sxStep (X : SX) (d : Nat) (fn : Func) (p : List Nat) (K : KV) (m : List (Nat × Nat)) (slots : List Nat) (nx : Nat) (again : KF) (F : T Value) (A : AH) : Prop := sx X d ⟨.leaf, 0⟩ fn.ntmps (loopBody (subC p (bodyOf fn))) F A (stepK X d fn p K m slots nx again)

theorem LAt.intro {X : SX} (hX : X.Ok) {d n : Nat} {c : Code} {p : List Nat} {K : KX} {F : T Value} {A : AH} (ws : List Nat) (m : List (Nat × Nat)) (slots : List Nat) (nx : Nat) (hl : isLoop (subC p c) = true) (I : Nat → T Value → AH → Prop)
    (step : ∀ k F A, I k F A → sx X d ⟨.leaf, 0⟩ n (loopBody (subC p c)) F A (Then (fun F' A' => tellW ws m slots nx F' A' (fun F1 A1 => ∃ k', k' < k ∧ I k' F1 A1)) (ctxK X d n p c K))) {k : Nat} (h : I k F A) : LAt X d n c p K F A := by
  refine .mk ?_
  rw [loop_eq hl]
  refine W.loopT I (fun k F A hI => ?_) h Turns.refl
  refine (sx_ok hX (step k F A hI)).mono fun ex F' A' q => ?_
  cases ex with
  | normal =>
    have q : tellW ws m slots nx F' A' (fun F1 A1 => ∃ k', k' < k ∧ I k' F1 A1) := q
    obtain ⟨F1, A1, ⟨k', h1, h2⟩, h3⟩ := tellW_ok (E := X.E) hX.gl (A0 := ⟨.leaf, 0⟩) rfl (n := n) q
    exact ⟨k', F1, A1, h1, h2, h3⟩
  | exit id => exact q
  | ret => exact q

/-- A loop of a function's body. -/
theorem LAt.step {X : SX} (hX : X.Ok) {d : Nat} {fn : Func} {p : List Nat} {K : KV} {F : T Value} {A : AH} (m : List (Nat × Nat)) (slots : List Nat) (nx : Nat) (hl : isLoop (subC p (bodyOf fn)) = true) (I : Nat → T Value → AH → Prop)
    (step : ∀ k F A, I k F A → sxStep X d fn p K m slots nx (fun F1 A1 => ∃ k', k' < k ∧ I k' F1 A1) F A) {k : Nat} (h : I k F A) : LAt X d fn.ntmps (bodyOf fn) p (finK X.E fn.results.toList K) F A :=
  LAt.intro hX [] m slots nx hl I step h

/-- The same: what is kept of the heap is found, blocks of some types are kept whole. -/
def stepA (X : SX) (d : Nat) (fn : Func) (p : List Nat) (K : KV) (ws slots : List Nat) (again : KF) : KX := Then (fun F' A' => tellA ws slots F' A' again) (ctxK X d fn.ntmps p (bodyOf fn) (finK X.E fn.results.toList K))
def sxStepA (X : SX) (d : Nat) (fn : Func) (p : List Nat) (K : KV) (ws slots : List Nat) (again : KF) (F : T Value) (A : AH) : Prop := sx X d ⟨.leaf, 0⟩ fn.ntmps (loopBody (subC p (bodyOf fn))) F A (stepA X d fn p K ws slots again)

theorem LAt.stepA {X : SX} (hX : X.Ok) {d : Nat} {fn : Func} {p : List Nat} {K : KV} {F : T Value} {A : AH} (ws slots : List Nat) (hl : isLoop (subC p (bodyOf fn)) = true) (I : Nat → T Value → AH → Prop)
    (step : ∀ k F A, I k F A → sxStepA X d fn p K ws slots (fun F1 A1 => ∃ k', k' < k ∧ I k' F1 A1) F A) {k : Nat} (h : I k F A) : LAt X d fn.ntmps (bodyOf fn) p (finK X.E fn.results.toList K) F A := by
  refine .mk ?_
  rw [loop_eq hl]
  refine W.loopT I (fun k F A hI => ?_) h Turns.refl
  refine (sx_ok hX (step k F A hI)).mono fun ex F' A' q => ?_
  cases ex with
  | normal =>
    have q : tellA ws slots F' A' (fun F1 A1 => ∃ k', k' < k ∧ I k' F1 A1) := q
    obtain ⟨F1, A1, ⟨k', h1, h2⟩, h3⟩ := tellA_ok (E := X.E) hX.gl (A0 := ⟨.leaf, 0⟩) rfl (n := fn.ntmps) q
    exact ⟨k', F1, A1, h1, h2, h3⟩
  | exit id => exact q
  | ret => exact q
end
end Go.AM
set_option linter.unusedVariables false
namespace Go.AM
noncomputable section

/-- The heap that holds one block. -/
def oneH (c : List Value) (e : TypeId) : AH := ⟨.node .leaf (some (.cells c e)) .leaf, 1⟩
def ptr0 : Value := .pointer (some ⟨0, 0, none⟩)

def WalkB (E : Env) (fn : Func) (e : TypeId) (c xs : List Value) (v : Value) (c2 : List Value) : Prop :=
  ∃ code F, fn.body = some code ∧ Nat.ble (ptr0 :: xs).length fn.ntmps = true ∧ mkFrame (ptr0 :: xs) 0 .leaf = some F ∧
    W E (oneH c e) fn.ntmps code (Fin E fn fun v2 A2 => v2 = v ∧ A2.t.get 0 = some (.cells c2 e)) F (oneH c e)

theorem oneH_get {c : List Value} {e : TypeId} {B : Nat} {o : AObj} (h : (oneH c e).t.get B = some o) : B = 0 ∧ o = .cells c e := by
  unfold oneH at h
  rw [T.get_node] at h
  by_cases h0 : B = 0
  · rw [if_pos h0] at h; cases h; exact ⟨h0, rfl⟩
  · rw [if_neg h0] at h
    split at h <;> simp [T.get_leaf] at h

theorem OR.cells_move {P : Program} {σ σ' : Sig} (hro : ∀ b o, σ.ro b = some o → σ'.ro b = some o) {ob : Option Obj} {d cp : Nat} {c : List Value} {e : TypeId} (hc : ∀ x ∈ c, HF x) (h : OR P σ ob d cp (.cells c e)) : OR P σ' ob d cp (.cells c e) := by
  obtain ⟨c', lo, hi, h1, h2, h3, h4⟩ := h
  refine ⟨c', lo, hi, h1, h2, fun i v hv => ?_, h4⟩
  obtain ⟨v', a, b⟩ := h3 i v hv
  exact ⟨v', a, (hc v (List.mem_of_getElem? hv)).move hro v' b⟩

theorem callAt_block {E : Env} (ok : E.Ok) (hgl : ∀ g, E.gl g = false) {f : FuncId} {fn : Func} (hfn : E.fn f = some fn) {e : TypeId} {c c2 xs : List Value} {v : Value} (hx : ∀ x ∈ xs, HF x) (hc : ∀ x ∈ c, HF x) (hc2 : ∀ x ∈ c2, HF x) (hv : HF v)
    (hw : WalkB E fn e c xs v c2) {A : AH} {B : Nat} {t' : T AObj} (hB : A.t.get B = some (.cells c e)) (ht : T.set FU A.t B (.cells c2 e) = some t') : CallAt E f (.pointer (some ⟨B, 0, none⟩) :: xs) A v ⟨t', A.next⟩ := by
  intro σ w args' R hg ha
  obtain ⟨code, F, hbody, hble, hframe, hW⟩ := hw
  cases ha with
  | cons hp hxs =>
  rename_i xs'
  cases hp with
  | ptr i hσ =>
  rename_i b d k
  let σ1 : Sig := ⟨fun B' => if B' = 0 then some (b, d, k) else none, σ.ro⟩
  have e0 : σ1 0 = some (b, d, k) := by show (if (0 : Nat) = 0 then some (b, d, k) else none) = _; rw [if_pos rfl]
  have eq1 : ∀ B' x, σ1 B' = some x → B' = 0 ∧ x = (b, d, k) := fun B' x h => by
    have h : (if B' = 0 then some (b, d, k) else none) = some x := h
    by_cases h0 : B' = 0
    · rw [if_pos h0] at h; cases h; exact ⟨h0, rfl⟩
    · rw [if_neg h0] at h; cases h
  obtain ⟨b1, d1, k1, hσ1, hOR⟩ := R.obj B _ hB rfl
  rw [hσ] at hσ1
  cases hσ1
  have hsepB : σ.ro b = none := R.sep B _ _ hB rfl hσ
  have R1 : Rel E.P σ1 (oneH c e) w := by
    refine ⟨fun B' o h hh => ?_, fun B1 B2 o1 o2 x1 x2 h1 h2 _ _ hne => ?_, fun B' x h => ?_, fun B' h => ?_, R.ro, fun B' o x h ho hx => ?_⟩
    · obtain ⟨rfl, rfl⟩ := oneH_get h
      exact ⟨b, d, k, e0, OR.cells_move (σ := σ) (σ' := σ1) (fun _ _ h => h) hc hOR⟩
    · exact absurd ((oneH_get h1).1.trans (oneH_get h2).1.symm) hne
    · obtain ⟨_, rfl⟩ := eq1 B' x h; exact R.lt B _ hσ
    · have h : 1 ≤ B' := h
      show (if B' = 0 then some (b, d, k) else none) = none
      rw [if_neg (by omega)]
    · obtain ⟨_, rfl⟩ := eq1 B' x hx; exact hsepB
  have ha1 : VRs σ1 (ptr0 :: xs) (.pointer (some ⟨b, d + 0, none⟩) :: xs') := .cons (.ptr 0 e0) (HF.moves (σ := σ) (σ' := σ1) (fun _ _ h => h) hx hxs)
  refine (fun_calls ok hfn hbody hframe (Nat.le_of_ble_eq_true hble) hW R1 (fun g hg => by rw [hgl] at hg; cases hg) ha1).mono fun en w' he => ?_
  obtain ⟨v2, v', A2, σ2, rfl, ⟨rfl, hA2⟩, hVR, R2, X⟩ := he
  have e2 : σ2 0 = some (b, d, k) := by rw [X.sig 0 (by show 0 < 1; omega)]; exact e0
  have hold : ∀ b', b' < w.heap.size → b' ≠ b → w'.heap[b']? = w.heap[b']? := fun b' hb' hne => X.frame b' hb' fun B0 o x h1 h2 h3 => by
    obtain ⟨_, rfl⟩ := eq1 B0 x h3
    exact fun e => hne e.symm
  have hro2 : ∀ b' o, σ2.ro b' = some o → (sigB σ w w').ro b' = some o := fun b' o h => by
    show (if b' < w.heap.size then σ.ro b' else w'.heap[b']?) = some o
    rcases X.rog b' o h with q | q | ⟨B0, o0, x0, q1, q2, q3, q4⟩
    · have q : σ.ro b' = some o := q
      rw [if_pos (get_lt (R.ro b' o q))]; exact q
    · rw [if_neg (by omega)]; exact R2.ro b' o h
    · obtain ⟨_, rfl⟩ := eq1 B0 x0 q3
      have q4 : b = b' := q4
      subst q4
      rw [R2.sep 0 _ _ hA2 rfl e2] at h
      cases h
  have hsub : σ.sub (sigB σ w w') := ⟨fun _ _ h => h, fun b' o h => by
    show (if b' < w.heap.size then σ.ro b' else w'.heap[b']?) = some o
    rw [if_pos (get_lt (R.ro b' o h))]; exact h⟩
  have hget : ∀ B', (⟨t', A.next⟩ : AH).t.get B' = if B' = B then some (.cells c2 e) else A.t.get B' := fun B' => T.get_set ht B'
  have horg : ∀ B' o, (⟨t', A.next⟩ : AH).t.get B' = some o → ∃ o0, A.t.get B' = some o0 ∧ o0.own = o.own ∧ o0.here = o.here := fun B' o h => by
    rw [hget] at h
    by_cases hB' : B' = B
    · subst hB'; rw [if_pos rfl] at h; cases h; exact ⟨_, hB, rfl, rfl⟩
    · rw [if_neg hB'] at h; exact ⟨o, h, rfl, rfl⟩
  refine ⟨v', sigB σ w w', rfl, hv.move hro2 v' hVR, ⟨fun B' o h hh => ?_, fun B1 B2 o1 o2 x1 x2 h1 h2 ho hh hne hx1 hx2 => ?_, fun B' x h => Nat.lt_of_lt_of_le (R.lt B' x h) X.size, R.fresh, fun b' o h => ?_, fun B' o x h ho hx => ?_⟩,
    ⟨fun _ _ => rfl, Nat.le_refl _, X.size, fun b' hb' hn => hold b' hb' (fun e => hn B _ _ hB rfl hσ e.symm), fun B' o x h ho hx => ?_, fun B' o x h ho hx => ?_, X.os, X.tape, X.output, fun b' o h => hsub.ro b' o h, fun b' o h => ?_⟩⟩
  · rw [hget] at h
    by_cases hB' : B' = B
    · subst hB'
      rw [if_pos rfl] at h
      cases h
      obtain ⟨b3, d3, k3, q1, q2⟩ := R2.obj 0 _ hA2 rfl
      rw [e2] at q1
      cases q1
      exact ⟨b, d, k, hσ, q2.cells_move hro2 hc2⟩
    · rw [if_neg hB'] at h
      obtain ⟨b3, d3, k3, q1, q2⟩ := R.obj B' o h hh
      have hne : b3 ≠ b := fun e => R.inj B B' _ o _ _ hB h rfl hh (fun e => hB' e.symm) hσ q1 e.symm
      exact ⟨b3, d3, k3, q1, by rw [hold b3 (R.lt B' _ q1) hne]; exact q2.mono hsub⟩
  · obtain ⟨p1, a1, a2, a3⟩ := horg B1 o1 h1
    obtain ⟨p2, c1, c2', c3⟩ := horg B2 o2 h2
    exact R.inj B1 B2 p1 p2 x1 x2 a1 c1 (a2.trans ho) (c3.trans hh) hne hx1 hx2
  · have h : (if b' < w.heap.size then σ.ro b' else w'.heap[b']?) = some o := h
    by_cases hlt : b' < w.heap.size
    · rw [if_pos hlt] at h
      rw [hold b' hlt (fun e => by subst e; rw [hsepB] at h; cases h)]
      exact R.ro b' o h
    · rw [if_neg hlt] at h; exact h
  · obtain ⟨p1, a1, a2, _⟩ := horg B' o h
    show (if x.1 < w.heap.size then σ.ro x.1 else w'.heap[x.1]?) = none
    rw [if_pos (R.lt B' x hx)]
    exact R.sep B' p1 x a1 (a2.trans ho) hx
  · obtain ⟨p1, a1, a2, _⟩ := horg B' o h
    exact .inr ⟨B', p1, x, a1, a2.trans ho, hx, rfl⟩
  · obtain ⟨p1, a1, _, a3⟩ := horg B' o h
    exact .inr ⟨B', p1, x, a1, a3.trans ho, hx, rfl⟩
  · have h : (if b' < w.heap.size then σ.ro b' else w'.heap[b']?) = some o := h
    by_cases hlt : b' < w.heap.size
    · rw [if_pos hlt] at h; exact .inl h
    · exact .inr (.inl (by omega))

def blockR (e : TypeId) (f : List Value → List Value → Option (Option Prop × Value × List Value)) : RunF := fun args A => match args with
  | .pointer (some ⟨B, 0, none⟩) :: xs => (match A.t.get B with
    | some (.cells c e') => bif Nat.beq e' e then (match f c xs with
      | some r => (match T.set FU A.t B (.cells r.2.2 e) with | some t' => some (r.1, r.2.1, ⟨t', A.next⟩) | none => none)
      | none => none) else none
    | _ => none)
  | _ => none

theorem blockR_ok {E : Env} (ok : E.Ok) (hgl : ∀ g, E.gl g = false) {g : FuncId} {fn : Func} (hfn : E.fn g = some fn) {e : TypeId} {f : List Value → List Value → Option (Option Prop × Value × List Value)}
    (h : ∀ c xs p v c2, f c xs = some (p, v, c2) → PH p → (∀ x ∈ xs, HF x) ∧ (∀ x ∈ c, HF x) ∧ (∀ x ∈ c2, HF x) ∧ HF v ∧ WalkB E fn e c xs v c2) : ∀ args A p v A', blockR e f args A = some (p, v, A') → PH p → CallAt E g args A v A' := by
  intro args A p v A' hr hp
  unfold blockR at hr
  split at hr
  · rename_i B xs
    split at hr
    · rename_i c e' hB
      cases he : Nat.beq e' e with
      | false => rw [he] at hr; cases hr
      | true =>
        rw [he] at hr
        obtain rfl := Nat.eq_of_beq_eq_true he
        simp only [cond_true] at hr
        split at hr
        · rename_i r hf
          split at hr
          · rename_i t' ht
            simp only [Option.some.injEq, Prod.mk.injEq] at hr
            obtain ⟨rfl, rfl, rfl⟩ := hr
            obtain ⟨h1, h2, h3, h4, h5⟩ := h c xs r.1 r.2.1 r.2.2 hf hp
            exact callAt_block ok hgl hfn h1 h2 h3 h4 h5 hB ht
          · cases hr
        · cases hr
    · cases hr
  · cases hr

/-- A function that gives what it has made. -/
theorem sxFn_frz {X : SX} (hX : X.Ok) {d : Nat} {fn : Func} {args : List Value} {v : Value} (h : sxFn X d fn args (fun v2 A2 => Frz A2 v2 v)) : Walk X.E fn args v := sxFn_gen hX h

theorem cellsL_ints (k : IntKind) : ∀ ns : List Int, cellsL (ns.map (Value.int k)) = ns.map (Value.int k)
  | [] => rfl
  | n :: ns => by
    show (Value.int k n) :: cellsL (ns.map (Value.int k)) = _
    rw [cellsL_ints k ns]; rfl

theorem HF_ints (k : IntKind) (ns : List Int) : ∀ x ∈ ns.map (Value.int k), HF x := fun x hx => by
  obtain ⟨n, _, rfl⟩ := List.mem_map.1 hx
  exact .scal rfl

/-- A slice of numbers that was made. -/
theorem Frz.ints {A : AH} {B n cap : Nat} {k : IntKind} {ns : List Int} (hl : look A B = some (ns.map (Value.int k))) (hn : n = ns.length) (hc : n ≤ cap) : Frz A (.slice (some ⟨B, 0, none⟩) n cap) (.func (.yield 1) ⟨ns.map (Value.int k)⟩ ⟨[]⟩) := by
  subst hn
  have e : ((ns.map (Value.int k)).drop 0).take (ns.length * 1) = ns.map (Value.int k) := by rw [List.drop_zero]; exact List.take_of_length_le (by simp)
  refine .slice hl (by simp) hc (c2 := ns.map (Value.int k)) (by rw [e]; exact FrzL.same (HF_ints k ns)) (cellsL_ints k ns) (fun x hx => ?_) (by simp)
  obtain ⟨m, _, rfl⟩ := List.mem_map.1 hx
  rfl

/-- Old contracts in a table. -/
theorem con_tab {E : Env} {f : FuncId} {val : List Value → Option Value} (h : Con E f (pureX val)) : ∀ args A p v A', pureR (fun _ => none) val args A = some (p, v, A') → PH p → CallAt E f args A v A' :=
  pureR_ok fun args v hv _ A σ w args' R hg ha => h args A v A (by simp [pureX, hv]) σ w args' R hg ha

theorem walk_tab {E : Env} (ok : E.Ok) (hgl : ∀ g, E.gl g = false) {f : FuncId} {fn : Func} (hfn : E.fn f = some fn) {pre : List Value → Option Prop} {val : List Value → Option Value} (h : ∀ args v, val args = some v → PH (pre args) → (∀ x ∈ args, HF x) ∧ Walk E fn args v) :
    ∀ args A p v A', pureR pre val args A = some (p, v, A') → PH p → CallAt E f args A v A' :=
  pureR_ok fun args v hv hp A => callAt_walk ok hgl hfn (h args v hv hp).1 (h args v hv hp).2 A

/-- A function that is given one block. -/
def sxFnB (X : SX) (d : Nat) (fn : Func) (e : TypeId) (c xs : List Value) (K : KV) : Prop := match fn.body with
  | some code => bodyK X (inlN X d) (oneH c e) fn code (ptr0 :: xs) K
  | none => False

def leafB (e : TypeId) (Q : Value → List Value → Prop) : KV := fun v A => match A.t.get 0 with
  | some (.cells c e') => bif Nat.beq e' e then Q v c else False
  | _ => False

theorem leafB_ok {e : TypeId} {Q : Value → List Value → Prop} {v : Value} {A : AH} (h : leafB e Q v A) : ∃ c, A.t.get 0 = some (.cells c e) ∧ Q v c := by
  unfold leafB at h
  split at h
  · rename_i c e' hg
    cases he : Nat.beq e' e with
    | false => rw [he] at h; exact h.elim
    | true =>
      rw [he] at h
      obtain rfl := Nat.eq_of_beq_eq_true he
      exact ⟨c, hg, h⟩
  · exact h.elim

theorem sxFnB_walk {X : SX} (hX : X.Ok) {d : Nat} {fn : Func} {e : TypeId} {c xs : List Value} {v : Value} {c2 : List Value} (h : sxFnB X d fn e c xs (leafB e fun v' c' => v' = v ∧ c' = c2)) : WalkB X.E fn e c xs v c2 := by
  unfold sxFnB at h
  split at h
  · rename_i code hc
    unfold bodyK at h
    split at h
    · rename_i F hF
      cases hb : Nat.ble (ptr0 :: xs).length fn.ntmps with
      | false => rw [hb] at h; exact h.elim
      | true =>
        rw [hb] at h
        refine ⟨code, F, hc, hb, hF, (sx_ok hX (d := d) h).mono fun ex F' A' q => ?_⟩
        obtain ⟨q1, v2, q2, q3⟩ := finK_ok q
        obtain ⟨c3, h3, rfl, rfl⟩ := leafB_ok q3
        exact ⟨q1, _, q2, rfl, h3⟩
    · exact h.elim
  · exact h.elim
end
end Go.AM

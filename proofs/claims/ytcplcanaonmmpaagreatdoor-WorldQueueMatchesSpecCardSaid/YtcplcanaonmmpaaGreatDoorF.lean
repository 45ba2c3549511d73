/- A part of the proof. -/
import Derived.Test.YtcplcanaonmmpaaGreatDoorC
import Derived.KernelRfl
set_option linter.unusedVariables false
set_option linter.unusedSimpArgs false
set_option linter.unusedSectionVars false
namespace Go.AM
noncomputable section
def Sp (b : Bool) (p q : Prop) : Prop := Bool.rec (motive := fun _ => Prop) q p b
theorem Sp.intro {b : Bool} {p q : Prop} (h : b = true → p) (k : b = false → q) : Sp b p q := by
 cases b with
 | true => exact h rfl
 | false => exact k rfl
theorem Sp.cases {b : Bool} {p q : Prop} (h : Sp b p q) : (b = true ∧ p) ∨ (b = false ∧ q) := by
 cases b with
 | true => exact .inl ⟨rfl, h⟩
 | false => exact .inr ⟨rfl, h⟩
inductive Stop {α : Type} (x : α) : Prop
theorem Stop.elim {α : Type} {x : α} {p : Prop} (h : Stop x) : p := nomatch h
inductive Leaf (p : Prop) : Prop
 | mk (h : p) : Leaf p
theorem Leaf.get {p : Prop} (h : Leaf p) : p := by cases h with | mk h => exact h
def pc (p : Option Prop) (q : Prop) : Prop := match p with | none => q | some p => p ∧ q
def PH (p : Option Prop) : Prop := match p with | none => True | some p => p
theorem pc_iff {p : Option Prop} {q : Prop} (h : pc p q) : PH p ∧ q := by
 cases p with
 | none => exact ⟨trivial, h⟩
 | some p => exact h
structure El where
 at' : Nat → Nat → List Value → Int → Option Value
 app : Bool
 gm : TypeId → Bool
 ml : TypeId → List (Value × Value × Nat) → Value → Option (Value × Bool)
 mu : TypeId → List (Value × Value × Nat) → Nat → Value → Value → Option (List (Value × Value × Nat) × Nat)
def El.of (f : Nat → Nat → List Value → Int → Option Value) : El := ⟨f, false, fun _ => false, fun _ _ _ => none, fun _ _ _ _ _ => none⟩
abbrev KF := T Value → AH → Prop
abbrev KV := Value → AH → Prop
abbrev RunF := List Value → AH → Option (Option Prop × Value × AH)
abbrev Tab := List (FuncId × RunF)
abbrev Inl := Func → List Value → AH → KV → Prop
def tabOf : Tab → FuncId → Option RunF
 | [], _ => none
 | (g, x) :: l, f => bif Nat.beq f g then some x else tabOf l f
def callT (l : Tab) : CallF := fun f args A => match tabOf l f with
 | some x => (match x args A with | some (p, v, A') => (open Classical in if PH p then some (v, A') else none) | none => none)
 | none => none
def CallAt (E : Env) (f : FuncId) (args : List Value) (A : AH) (v : Value) (A' : AH) : Prop := ∀ σ w args', Rel E.P σ A w → Glob E σ → VRs σ args args' →
 Calls E.P f ⟨args'⟩ w (fun e w' => ∃ v' σ', e = .returned v' ∧ VR σ' v v' ∧ Rel E.P σ' A' w' ∧ Ext σ A w σ' A' w')
inductive TabOk (E : Env) : Tab → Prop
 | nil : TabOk E []
 | cons {f : FuncId} {x : RunF} {l : Tab} (h : ∀ args A p v A', x args A = some (p, v, A') → PH p → CallAt E f args A v A') (t : TabOk E l) : TabOk E ((f, x) :: l)
theorem TabOk.get {E : Env} : ∀ {l : Tab}, TabOk E l → ∀ {f : FuncId} {x : RunF}, tabOf l f = some x → ∀ args A p v A', x args A = some (p, v, A') → PH p → CallAt E f args A v A'
 | _, .nil, f, x, h => by simp [tabOf] at h
 | _, .cons (f := g) h t, f, x, hx => by
   simp only [tabOf] at hx
   cases e : Nat.beq f g with
   | true =>
     rw [e] at hx
     simp only [cond_true, Option.some.injEq] at hx
     subst hx
     obtain rfl := Nat.eq_of_beq_eq_true e
     exact h
   | false => rw [e] at hx; exact t.get hx
theorem callT_ok {E : Env} {l : Tab} (h : TabOk E l) : CallOk E (callT l) := by
 intro f args A v A' hc σ w args' R hg ha
 unfold callT at hc
 split at hc
 · rename_i x hx
   split at hc
   · rename_i p v0 A0 hr
     split at hc
     · rename_i hp
       simp only [Option.some.injEq, Prod.mk.injEq] at hc
       obtain ⟨rfl, rfl⟩ := hc
       exact h.get hx args A p _ _ hr hp σ w args' R hg ha
     · cases hc
   · cases hc
 · cases hc
def pureR (pre : List Value → Option Prop) (val : List Value → Option Value) : RunF := fun args A => match val args with | some v => some (pre args, v, A) | none => none
theorem callAt_con {E : Env} {f : FuncId} {args : List Value} {v : Value} (h : Con E f (pureX (one args v))) (A : AH) : CallAt E f args A v A := by
 intro σ w args' R hg ha
 exact h args A v A (by simp [pureX, one_self]) σ w args' R hg ha
theorem callAt_walk {E : Env} (ok : E.Ok) (hgl : GlOk E) {f : FuncId} {fn : Func} (hfn : E.fn f = some fn) {args : List Value} {v : Value} (hf : ∀ x ∈ args, HF x) (hw : Walk E fn args v) (A : AH) : CallAt E f args A v A :=
 callAt_con (con_one ok hgl hfn hf hw) A
theorem pureR_ok {E : Env} {f : FuncId} {pre : List Value → Option Prop} {val : List Value → Option Value} (h : ∀ args v, val args = some v → PH (pre args) → ∀ A, CallAt E f args A v A) : ∀ args A p v A', pureR pre val args A = some (p, v, A') → PH p → CallAt E f args A v A' := by
 intro args A p v A' hr hp
 unfold pureR at hr
 split at hr
 · rename_i u hu
   simp only [Option.some.injEq, Prod.mk.injEq] at hr
   obtain ⟨rfl, rfl, rfl⟩ := hr
   exact h args u hu hp A
 · cases hr
def intAt (els : List Value) (i : Int) : Int := match nth els i.toNat with | some (.int _ n) => n | _ => 0
def opTmp : Operand → Nat
 | .tmp t => t
 | _ => 0
def qd (E : Env) (A : AH) (ρ : Operand → Option Value) (ty : TypeId) (op : Op) : Option (Option Prop × Value) := match quiet E A ρ ty op with | some v => some (none, v) | none => none
def sxIdx (E : Env) (A : AH) (ρ : Operand → Option Value) (ty : TypeId) (t : TypeId) (x i : Operand) : Option (Option Prop × Value) :=
 match ρ x with
 | some (.func (.yield sz) ⟨els⟩ ⟨[]⟩) => (match ρ i, und E t with
   | some (.int _ n), some (.slice e) => (match E.ti e with
     | some ie => bif Nat.beq ie.size sz && Nat.blt 0 sz then some (some (0 ≤ n ∧ n < els.length), .func (.yield sz) ⟨els⟩ ⟨[.int .i64 n.toNat, .int .i64 (0 : Nat)]⟩) else none
     | none => none)
   | _, _ => none)
 | some (.slice (some ⟨B, o, none⟩) n m) => (match isG m with
   | true => (match ρ i, und E t with
     | some (.int _ k), some (.slice e) => (match E.ti e with
       | some ie => bif Nat.beq ie.size (gsz m) && Nat.blt 0 (gsz m) then some (some (0 ≤ k ∧ k < n), gPtr (gsz m) B (gIdx (gsz m) o k.toNat) 0) else none
       | none => none)
     | _, _ => none)
   | false => qd E A ρ ty (.indexAddr t x i))
 | some (.pointer (some ⟨B, 0, none⟩)) => (match ρ i, und E t with
   | some (.int _ k), some (.array len el) => (match E.ti el with
     | some ie => bif Nat.beq ie.size 1 && Nat.ble 64 len then some (some (0 ≤ k ∧ k < len), gPtr 1 B k.toNat 0) else qd E A ρ ty (.indexAddr t x i)
     | none => none)
   | _, _ => qd E A ρ ty (.indexAddr t x i))
 | _ => qd E A ρ ty (.indexAddr t x i)
def sxLoad (E : Env) (el : El) (A : AH) (ρ : Operand → Option Value) (ty : TypeId) (t : TypeId) (a : Operand) : Option (Option Prop × Value) :=
 match ρ a with
 | some (.func (.yield sz) ⟨els⟩ ⟨[.int .i64 i, .int .i64 j]⟩) => (match el.at' sz (opTmp a) els i with
   | some u => (match ldat E t [u] 0 j.toNat with | some v => some (some (nth els i.toNat = some u), v) | none => none)
   | none => qd E A ρ ty (.load t a))
 | some (.func (.yield sz) ⟨[.pointer (some ⟨B, 0, none⟩)]⟩ ⟨[.int .i64 i, .int .i64 j, .bool true]⟩) => (match A.t.get B with
   | some (.gro els tl e) => (match E.ti e, el.at' sz (opTmp a) (glue els tl) i with
     | some ie, some u => bif Nat.beq ie.size sz then (match ldat E t [u] 0 j.toNat with | some v => some (some (nth (glue els tl) i.toNat = some u), v) | none => none) else none
     | _, _ => none)
   | some (.arr els rest n e) => (match und E t, el.at' 1 (opTmp a) els i with
     | some d, some u => bif isAggD d || !(Nat.beq sz 1 && Nat.beq j.toNat 0) then none else some (some (nth els i.toNat = some u), u)
     | _, _ => none)
   | _ => qd E A ρ ty (.load t a))
 | _ => qd E A ρ ty (.load t a)
def NZ (b : Int) : Prop := b ≠ 0
def sxDiv (E : Env) (A : AH) (ρ : Operand → Option Value) (ty : TypeId) (op : BinOp) (t : TypeId) (x y : Operand) (t2 : TypeId) (f : IntKind → Int → Int → Int) : Option (Option Prop × Value) :=
 match ρ x with
 | some (.int k a) => (match ρ y with
   | some (.int k' b) => bif kindEq k k' then some (some (NZ b), .int k (f k a b)) else none
   | _ => none)
 | _ => qd E A ρ ty (.binOp op t x y t2)
def subB (s : ByteArray) (a b : Int) : ByteArray := mkBytes ((s.data.toList.drop a.toNat).take (b.toNat - a.toNat))
def sxStr (E : Env) (ρ : Operand → Option Value) (t : TypeId) (s : ByteArray) (lo hi mx : Option Operand) : Option (Option Prop × Value) :=
 match mx, und E t with
 | none, some .string => (match lo, hi with
   | none, some h => (match ρ h with | some (.int _ b) => some (some (0 ≤ b ∧ b ≤ s.size), .string (subB s 0 b)) | _ => none)
   | some l, none => (match ρ l with | some (.int _ a) => some (some (0 ≤ a ∧ a ≤ s.size), .string (subB s a s.size)) | _ => none)
   | some l, some h => (match ρ l, ρ h with | some (.int _ a), some (.int _ b) => some (some (0 ≤ a ∧ a ≤ b ∧ b ≤ s.size), .string (subB s a b)) | _, _ => none)
   | none, none => none)
 | _, _ => none
def sxSli (E : Env) (A : AH) (ρ : Operand → Option Value) (ty : TypeId) (t : TypeId) (x : Operand) (lo hi mx : Option Operand) : Option (Option Prop × Value) :=
 match ρ x with
 | some (.func (.yield sz) ⟨els⟩ ⟨[]⟩) => (match mx, lo, hi with
   | none, none, some h => (match ρ h, und E t with
     | some (.int _ b), some (.slice e) => (match E.ti e with
       | some ie => bif Nat.beq ie.size sz then some (some (0 ≤ b ∧ b ≤ els.length), .func (.yield sz) ⟨els.take b.toNat⟩ ⟨[]⟩) else none
       | none => none)
     | _, _ => none)
   | none, some l, none => (match ρ l, und E t with
     | some (.int _ a), some (.slice e) => (match E.ti e with
       | some ie => bif Nat.beq ie.size sz then some (some (0 ≤ a ∧ a ≤ els.length), .func (.yield sz) ⟨els.drop a.toNat⟩ ⟨[]⟩) else none
       | none => none)
     | _, _ => none)
   | _, _, _ => qd E A ρ ty (.slice t x lo hi mx))
 | some (.slice (some ⟨B, o, none⟩) n m) => (match isG m with
   | true => (match und E t with
     | some (.slice e) => (match E.ti e with
       | some ie => bif Nat.beq ie.size (gsz m) && Nat.blt 0 (gsz m) then (match mx, lo, hi with
         | none, none, none => some (none, .slice (some ⟨B, o, none⟩) n m)
         | none, none, some h => (match ρ h with | some (.int _ b) => some (some (0 ≤ b ∧ b ≤ n), .slice (some ⟨B, o, none⟩) b.toNat m) | _ => none)
         | none, some l, none => (match ρ l with | some (.int _ a) => some (some (0 ≤ a ∧ a ≤ n), .slice (some ⟨B, gOff (gsz m) o a.toNat, none⟩) (n - a.toNat) m) | _ => none)
         | some z, none, some h => (match ρ h, ρ z with | some (.int _ b), some (.int _ q) => some (some (0 ≤ b ∧ b ≤ q ∧ q ≤ n), .slice (some ⟨B, o, none⟩) b.toNat m) | _, _ => none)
         | none, some l, some h => (match ρ l, ρ h with | some (.int _ a), some (.int _ b) => some (some (0 ≤ a ∧ a ≤ b ∧ b ≤ n), .slice (some ⟨B, gOff (gsz m) o a.toNat, none⟩) (b.toNat - a.toNat) m) | _, _ => none)
         | _, _, _ => none) else none
       | none => none)
     | _ => none)
   | false => qd E A ρ ty (.slice t x lo hi mx))
 | some (.string s) => sxStr E ρ t s lo hi mx
 | _ => qd E A ρ ty (.slice t x lo hi mx)
def lookE (E : Env) (t : TypeId) (es : List (Value × Value × Nat)) (k : Value) : Option (Value × Bool) :=
 match und E t with
 | some (.map kt et) => bif flat k && keyOk E es.isEmpty kt k then
  (match findK E kt k es with
  | some (some (_, v)) => some (v, true)
  | some none => (match E.ti et with
    | some i => (match i.zero with
      | some z => bif flat z then some (z, false) else none
      | none => none)
    | none => none)
  | none => none) else none
 | _ => none
def sxLk (E : Env) (el : El) (A : AH) (ρ : Operand → Option Value) (ty : TypeId) (t : TypeId) (x i : Operand) (cok : Bool) : Option (Option Prop × Value) :=
 match ρ x with
 | some (.map (some B)) => (match A.t.get B, ρ i with
   | some (.map es _), some k => (match el.ml t es k with
     | some r => some (some (lookE E t es k = some r), bif cok then .tuple ⟨[r.1, .bool r.2]⟩ else r.1)
     | none => qd E A ρ ty (.lookup t x i cok))
   | _, _ => none)
 | _ => qd E A ρ ty (.lookup t x i cok)
theorem minI (a b : Int) : (if b < a then b else a) = min a b := by rw [Int.min_def]; split <;> split <;> omega
theorem maxI (a b : Int) : (if b > a then b else a) = max a b := by rw [Int.max_def]; split <;> split <;> omega
theorem quiet_min {E : Env} {A : AH} {ρ : Operand → Option Value} {ty : TypeId} {c : Call} {k k' : IntKind} {a b : Int} (hc : c.callee = .builtin .min) (ha : mapO ρ c.args.toList = some [.int k a, .int k' b]) : quiet E A ρ ty (.call c) = some (.int k (min a b)) := by
 have h0 : quiet0 E A ρ ty (.call c) = some (.int k (min a b)) := by
  simp only [quiet0, hc, quietB, ha]
  rw [← minI a b]
  rfl
 unfold quiet
 split
 · exact h0
 · have : symQ E ρ (.call c) = none := by simp [symQ, hc]
   rw [this]; exact h0
theorem quiet_max {E : Env} {A : AH} {ρ : Operand → Option Value} {ty : TypeId} {c : Call} {k k' : IntKind} {a b : Int} (hc : c.callee = .builtin .max) (ha : mapO ρ c.args.toList = some [.int k a, .int k' b]) : quiet E A ρ ty (.call c) = some (.int k (max a b)) := by
 have h0 : quiet0 E A ρ ty (.call c) = some (.int k (max a b)) := by
  simp only [quiet0, hc, quietB, ha]
  rw [← maxI a b]
  rfl
 unfold quiet
 split
 · exact h0
 · have : symQ E ρ (.call c) = none := by simp [symQ, hc]
   rw [this]; exact h0
def sxBlt (E : Env) (A : AH) (ρ : Operand → Option Value) (ty : TypeId) (c : Call) : Option (Option Prop × Value) :=
 match c.callee with
 | .builtin .min => (match mapO ρ c.args.toList with
   | some [.int k a, .int _ b] => some (none, .int k (min a b))
   | _ => qd E A ρ ty (.call c))
 | .builtin .max => (match mapO ρ c.args.toList with
   | some [.int k a, .int _ b] => some (none, .int k (max a b))
   | _ => qd E A ρ ty (.call c))
 | .builtin _ => qd E A ρ ty (.call c)
 | _ => none
def byteAt (s : ByteArray) (i : Int) : Int := match nth s.data.toList i.toNat with | some b => (b.toNat : Int) | none => 0
def sxIx (E : Env) (A : AH) (ρ : Operand → Option Value) (ty : TypeId) (t : TypeId) (x i : Operand) : Option (Option Prop × Value) :=
 match ρ x with
 | some (.string s) => (match ρ i, und E t with
   | some (.int _ n), some .string => some (some (0 ≤ n ∧ n < s.size), .int .u8 (byteAt s n))
   | _, _ => none)
 | _ => qd E A ρ ty (.index t x i)
def u8L (c : List Value) (o n : Nat) : List UInt8 := ((c.drop o).take n).map fun v => match v with | .int _ k => UInt8.ofNat k.toNat | _ => 0
def IsB (c : List Value) (o n : Nat) : Prop := ∃ bs : List UInt8, (c.drop o).take n = bs.map (fun b => Value.int .u8 b.toNat) ∧ bs.length = n
theorem bytesA_map : ∀ bs : List UInt8, bytesA (bs.map fun b => Value.int .u8 b.toNat) = some bs
 | [] => rfl
 | b :: bs => by simp [bytesA, bytesA_map bs]
theorem u8_map (bs : List UInt8) : (bs.map fun b => Value.int .u8 b.toNat).map (fun v => match v with | .int _ k => UInt8.ofNat k.toNat | _ => 0) = bs := by
 rw [List.map_map]
 conv => rhs; rw [← List.map_id bs]
 exact List.map_congr_left fun x _ => by simp
theorem okB_map : ∀ bs : List UInt8, (bs.map fun b => Value.int .u8 b.toNat).all okB = true
 | [] => rfl
 | b :: bs => by
   have : okB (.int .u8 (b.toNat : Int)) = true := by
    show Nat.blt b.toNat 256 = true
    rw [Nat.blt_eq]; exact b.toNat_lt
   rw [List.map_cons, List.all_cons, this, okB_map bs]; rfl
theorem isB_get {c : List Value} {o n : Nat} (h : IsB c o n) : ∃ bs : List UInt8, (c.drop o).take n = bs.map (fun b => Value.int .u8 b.toNat) ∧ bs.length = n ∧ u8L c o n = bs := by
 obtain ⟨bs, h1, h2⟩ := h
 exact ⟨bs, h1, h2, by unfold u8L; rw [h1]; exact u8_map bs⟩
def sxCv (E : Env) (el : El) (A : AH) (ρ : Operand → Option Value) (ty : TypeId) (s t : TypeId) (x : Operand) : Option (Option Prop × Value) :=
 match el.app, ρ x with
 | true, some (.slice (some ⟨B, o, none⟩) n k) => (match isG k, und E s, und E t, A.t.get B with
   | false, some (.slice e), some .string, some (.cells c _) => (match und E e with
     | some (.int .u8) => some (some (IsB c o n), .string (mkBytes (u8L c o n)))
     | _ => none)
   | true, _, _, _ => none
   | _, _, _, _ => qd E A ρ ty (.convert s t x))
 | _, _ => qd E A ρ ty (.convert s t x)
def sxAdd (E : Env) (A : AH) (ρ : Operand → Option Value) (ty : TypeId) (t : TypeId) (x y : Operand) (t2 : TypeId) : Option (Option Prop × Value) :=
 match ρ x with
 | some (.string a) => (match ρ y with
   | some (.string b) => some (some (a.data.toList.length + b.data.toList.length ≤ 4611686018427387904), .string (mkBytes (a.data.toList ++ b.data.toList)))
   | _ => none)
 | _ => qd E A ρ ty (.binOp .add t x y t2)
def sxQ (E : Env) (el : El) (A : AH) (ρ : Operand → Option Value) (ty : TypeId) (op : Op) : Option (Option Prop × Value) :=
 match op with
 | .indexAddr t x i => sxIdx E A ρ ty t x i
 | .load t a => sxLoad E el A ρ ty t a
 | .slice t x lo hi mx => sxSli E A ρ ty t x lo hi mx
 | .binOp op t x y t2 => (match op with
   | .quo => sxDiv E A ρ ty .quo t x y t2 (fun k a b => k.wrap (a.tdiv b))
   | .rem => sxDiv E A ρ ty .rem t x y t2 (fun k a b => a.tmod b)
   | .add => sxAdd E A ρ ty t x y t2
   | op => qd E A ρ ty (.binOp op t x y t2))
 | .call c => sxBlt E A ρ ty c
 | .lookup t x i cok => sxLk E el A ρ ty t x i cok
 | .index t x i => sxIx E A ρ ty t x i
 | .convert s t x => sxCv E el A ρ ty s t x
 | op => qd E A ρ ty op
theorem quiet_gro {E : Env} (hs : E.sym = true) {A : AH} {ρ : Operand → Option Value} {ty : TypeId} {op : Op} {v : Value} (h1 : symQ E ρ op = none) (h : groQ E A ρ op = some v) : quiet E A ρ ty op = some v := by
 unfold quiet; rw [hs]; simp only [h1, h]
theorem quiet_low {E : Env} (hs : E.sym = true) {A : AH} {ρ : Operand → Option Value} {ty : TypeId} {op : Op} {v : Value} (h1 : symQ E ρ op = none) (h2 : groQ E A ρ op = none) (h : quiet0 E A ρ ty op = some v) (h3 : arrQ E A ρ op = none := by rfl) : quiet E A ρ ty op = some v := by
 unfold quiet; rw [hs]; simp only [h1, h2, h3, h]
theorem quiet_arr {E : Env} (hs : E.sym = true) {A : AH} {ρ : Operand → Option Value} {ty : TypeId} {op : Op} {v : Value} (h1 : symQ E ρ op = none) (h2 : groQ E A ρ op = none) (h : arrQ E A ρ op = some v) : quiet E A ρ ty op = some v := by
 unfold quiet; rw [hs]; simp only [h1, h2, h]
theorem lookE_ok {E : Env} {A : AH} {t : TypeId} {B : Nat} {es : List (Value × Value × Nat)} {cl : Nat} {k : Value} {r : Value × Bool} {cok : Bool} (hB : A.t.get B = some (.map es cl)) (h : lookE E t es k = some r) :
 lookupA E A t (.map (some B)) k cok = some (bif cok then .tuple ⟨[r.1, .bool r.2]⟩ else r.1) := by
 unfold lookE at h
 unfold lookupA
 split at h
 · rename_i kt et hu
   rw [hu]
   cases hb : (flat k && keyOk E es.isEmpty kt k) with
   | false => rw [hb] at h; simp at h
   | true =>
     rw [hb] at h
     simp only [cond_true] at h
     simp only [Bool.and_eq_true] at hb
     simp only [hb.1, cond_true, hB, hb.2]
     split at h
     · rename_i j v hf
       simp only [Option.some.injEq] at h
       subst h
       rw [hf]
     · rename_i hf
       rw [hf]
       simp only
       split at h
       · rename_i i hi
         rw [hi]
         simp only
         split at h
         · rename_i z hz
           rw [hz]
           simp only
           cases hfz : flat z with
           | false => rw [hfz] at h; simp at h
           | true =>
             rw [hfz] at h
             simp only [cond_true, Option.some.injEq] at h
             subst h
             rfl
         · cases h
       · cases h
     · cases h
 · cases h
theorem qd_ok {E : Env} {A : AH} {ρ : Operand → Option Value} {ty : TypeId} {op : Op} {p : Option Prop} {v : Value} (h : qd E A ρ ty op = some (p, v)) : quiet E A ρ ty op = some v := by
 unfold qd at h
 split at h
 · rename_i u hu
   simp only [Option.some.injEq, Prod.mk.injEq] at h
   rw [hu, h.2]
 · cases h
theorem quiet_ix {E : Env} (hs : E.sym = true) {A : AH} {ρ : Operand → Option Value} {ty t : TypeId} {x i : Operand} {s : ByteArray} {k : IntKind} {n : Int} (hx : ρ x = some (.string s)) (hi : ρ i = some (.int k n)) (hu : und E t = some .string) (h0 : 0 ≤ n) (h1 : n < s.size) : quiet E A ρ ty (.index t x i) = some (.int .u8 (byteAt s n)) := by
 refine quiet_low hs rfl rfl ?_
 have hl : n.toNat < s.data.toList.length := by
  have : s.data.toList.length = s.size := by simp
  omega
 have hn : nth s.data.toList n.toNat = some s.data.toList[n.toNat] := by rw [nth_eq]; exact List.getElem?_eq_getElem hl
 simp only [quiet0, hx, hi, indexA, hu, h0, decide_true, cond_true, hn, byteAt]
theorem sxStr_ok {E : Env} (hs : E.sym = true) {A : AH} {ρ : Operand → Option Value} {ty t : TypeId} {x : Operand} {s : ByteArray} {lo hi mx : Option Operand} {p : Option Prop} {v : Value} (hx : ρ x = some (.string s)) (h : sxStr E ρ t s lo hi mx = some (p, v)) (hp : PH p) : quiet E A ρ ty (.slice t x lo hi mx) = some v := by
 have en : Nat.ble s.size s.size = true := by rw [Nat.ble_eq]; omega
 unfold sxStr at h
 split at h
 · rename_i hu
   refine quiet_low hs (by simp [symQ, hx]) (by simp [groQ, hx]) ?_
   split at h
   · rename_i hh
     split at h
     · rename_i k b hb
       simp only [Option.some.injEq, Prod.mk.injEq] at h
       obtain ⟨rfl, rfl⟩ := h
       obtain ⟨h0, h1⟩ : 0 ≤ b ∧ b ≤ s.size := hp
       have e1 : Nat.ble b.toNat s.size = true := by rw [Nat.ble_eq]; omega
       have e3 : Nat.ble 0 b.toNat = true := by rw [Nat.ble_eq]; omega
       simp [quiet0, hx, optA, hb, scal, sliA, hu, bnds, bound, h0, en, e1, e3, subB]
     · cases h
   · rename_i ll
     split at h
     · rename_i k a ha
       simp only [Option.some.injEq, Prod.mk.injEq] at h
       obtain ⟨rfl, rfl⟩ := h
       obtain ⟨h0, h1⟩ : 0 ≤ a ∧ a ≤ s.size := hp
       have e1 : Nat.ble a.toNat s.size = true := by rw [Nat.ble_eq]; omega
       simp [quiet0, hx, optA, ha, scal, sliA, hu, bnds, bound, h0, en, e1, subB]
     · cases h
   · rename_i ll hh
     split at h
     · rename_i k1 a k2 b ha hb
       simp only [Option.some.injEq, Prod.mk.injEq] at h
       obtain ⟨rfl, rfl⟩ := h
       obtain ⟨h0, h1, h2⟩ : 0 ≤ a ∧ a ≤ b ∧ b ≤ s.size := hp
       have h3 : 0 ≤ b := by omega
       have e1 : Nat.ble a.toNat b.toNat = true := by rw [Nat.ble_eq]; omega
       have e2 : Nat.ble b.toNat s.size = true := by rw [Nat.ble_eq]; omega
       simp [quiet0, hx, optA, ha, hb, scal, sliA, hu, bnds, bound, h0, h3, en, e1, e2, subB]
     · cases h
   · cases h
 · cases h
theorem sxQ_ok {E : Env} (hs : E.sym = true) {el : El} {A : AH} {ρ : Operand → Option Value} {ty : TypeId} {op : Op} {p : Option Prop} {v : Value} (h : sxQ E el A ρ ty op = some (p, v)) (hp : PH p) : quiet E A ρ ty op = some v := by
 unfold sxQ at h
 split at h
 · rename_i t x i
   unfold sxIdx at h
   split at h
   · rename_i sz els hx
     split at h
     · rename_i k n e hi hu
       split at h
       · rename_i ie hie
         cases hz : (Nat.beq ie.size sz && Nat.blt 0 sz) with
         | false => rw [hz] at h; cases h
         | true =>
           rw [hz] at h
           simp only [cond_true, Option.some.injEq, Prod.mk.injEq] at h
           obtain ⟨rfl, rfl⟩ := h
           exact quiet_idx hs hx hi hu hie hz hp.1 hp.2
       · cases h
     · cases h
   · rename_i B o n m hx
     split at h
     · rename_i hg
       split at h
       · rename_i kk k e hi hu
         split at h
         · rename_i ie hie
           cases hz : (Nat.beq ie.size (gsz m) && Nat.blt 0 (gsz m)) with
           | false => rw [hz] at h; cases h
           | true =>
             rw [hz] at h
             simp only [cond_true, Option.some.injEq, Prod.mk.injEq] at h
             obtain ⟨rfl, rfl⟩ := h
             obtain ⟨h0, h1⟩ : 0 ≤ k ∧ k < (n : Int) := hp
             refine quiet_gro hs (by simp [symQ, hx]) ?_
             simp only [groQ, hx, hg, hi, hu, hie, hz, h0, h1, decide_true, Bool.and_self, cond_true]
         · cases h
       · cases h
     · exact qd_ok h
   · rename_i B hx
     split at h
     · rename_i kk k len el hi hu
       split at h
       · rename_i ie hie
         cases hz : (Nat.beq ie.size 1 && Nat.ble 64 len) with
         | false => rw [hz] at h; exact qd_ok h
         | true =>
           rw [hz] at h
           simp only [cond_true, Option.some.injEq, Prod.mk.injEq] at h
           obtain ⟨rfl, rfl⟩ := h
           obtain ⟨h0, h1⟩ : 0 ≤ k ∧ k < (len : Int) := hp
           refine quiet_arr hs (by simp [symQ, hx]) (by simp [groQ, hx]) ?_
           simp only [arrQ, hx, hi, hu, hie, hz, h0, h1, decide_true, Bool.and_self, cond_true]
       · cases h
     · exact qd_ok h
   · exact qd_ok h
 · rename_i t a
   unfold sxLoad at h
   split at h
   · rename_i sz els i j ha
     split at h
     · rename_i u hu
       split at h
       · rename_i v0 hv
         simp only [Option.some.injEq, Prod.mk.injEq] at h
         obtain ⟨rfl, rfl⟩ := h
         exact quiet_load hs ha hp hv
       · cases h
     · exact qd_ok h
   · rename_i sz B i j ha
     split at h
     · rename_i els tl e hB
       split at h
       · rename_i ie u hie hu
         cases hz : Nat.beq ie.size sz with
         | false => rw [hz] at h; cases h
         | true =>
           rw [hz] at h
           simp only [cond_true] at h
           split at h
           · rename_i v0 hv
             simp only [Option.some.injEq, Prod.mk.injEq] at h
             obtain ⟨rfl, rfl⟩ := h
             have hp : nth (glue els tl) i.toNat = some u := hp
             refine quiet_gro hs (by simp [symQ, ha]) ?_
             simp only [groQ, ha, hB, hie, hz, cond_true]
             rw [← hv]
             simp [ldat, hp, nth]
           · cases h
       · cases h
     · rename_i els rest n e hB
       split at h
       · rename_i d u hu hel
         cases hz : isAggD d || !(Nat.beq sz 1 && Nat.beq j.toNat 0) with
         | true => rw [hz] at h; cases h
         | false =>
           rw [hz] at h
           simp only [cond_false, Option.some.injEq, Prod.mk.injEq] at h
           obtain ⟨rfl, rfl⟩ := h
           have hp : nth els i.toNat = some u := hp
           refine quiet_arr hs (by simp [symQ, ha]) (by simp [groQ, ha, hB]) ?_
           simp only [arrQ, ha, hB, hu, hz, cond_false, hp]
       · cases h
     · exact qd_ok h
   · exact qd_ok h
 · rename_i t x lo hi mx
   unfold sxSli at h
   split at h
   · rename_i sz els hx
     split at h
     · rename_i hh
       split at h
       · rename_i k b e hb hu
         split at h
         · rename_i ie hie
           cases hz : Nat.beq ie.size sz with
           | false => rw [hz] at h; cases h
           | true =>
             rw [hz] at h
             simp only [cond_true, Option.some.injEq, Prod.mk.injEq] at h
             obtain ⟨rfl, rfl⟩ := h
             obtain ⟨h0, h1⟩ : 0 ≤ b ∧ b ≤ els.length := hp
             have h2 : b.toNat ≤ els.length := by omega
             have e1 : Nat.ble b.toNat els.length = true := by rw [Nat.ble_eq]; exact h2
             have e2 : Nat.ble els.length els.length = true := by rw [Nat.ble_eq]; omega
             have e3 : Nat.ble 0 b.toNat = true := by rw [Nat.ble_eq]; omega
             refine quiet_sym hs ?_
             simp [symQ, hx, optA, hb, scal, hu, bnds, bound, h0, e1, e2, e3, hie, hz]
         · cases h
       · cases h
     · rename_i ll
       split at h
       · rename_i k a e ha hu
         split at h
         · rename_i ie hie
           cases hz : Nat.beq ie.size sz with
           | false => rw [hz] at h; cases h
           | true =>
             rw [hz] at h
             simp only [cond_true, Option.some.injEq, Prod.mk.injEq] at h
             obtain ⟨rfl, rfl⟩ := h
             obtain ⟨h0, h1⟩ : 0 ≤ a ∧ a ≤ els.length := hp
             have h2 : a.toNat ≤ els.length := by omega
             have e1 : Nat.ble a.toNat els.length = true := by rw [Nat.ble_eq]; exact h2
             have e2 : Nat.ble els.length els.length = true := by rw [Nat.ble_eq]; omega
             refine quiet_sym hs ?_
             simp [symQ, hx, optA, ha, scal, hu, bnds, bound, h0, e1, e2, hie, hz]
         · cases h
       · cases h
     · exact qd_ok h
   · rename_i B o n m hx
     split at h
     · rename_i hg
       split at h
       · rename_i e hu
         split at h
         · rename_i ie hie
           cases hz : (Nat.beq ie.size (gsz m) && Nat.blt 0 (gsz m)) with
           | false => rw [hz] at h; cases h
           | true =>
             rw [hz] at h
             simp only [cond_true] at h
             have en : Nat.ble n n = true := by rw [Nat.ble_eq]; omega
             split at h
             · simp only [Option.some.injEq, Prod.mk.injEq] at h
               obtain ⟨rfl, rfl⟩ := h
               refine quiet_gro hs (by simp [symQ, hx]) ?_
               have e0 : Nat.ble 0 n = true := by rw [Nat.ble_eq]; omega
               simp [groQ, hx, hg, optA, hu, bnds, bound, en, e0, hie, hz, gOff_eq]
             · split at h
               · rename_i hh k b hb
                 simp only [Option.some.injEq, Prod.mk.injEq] at h
                 obtain ⟨rfl, rfl⟩ := h
                 obtain ⟨h0, h1⟩ : 0 ≤ b ∧ b ≤ (n : Int) := hp
                 have e1 : Nat.ble b.toNat n = true := by rw [Nat.ble_eq]; omega
                 have e3 : Nat.ble 0 b.toNat = true := by rw [Nat.ble_eq]; omega
                 refine quiet_gro hs (by simp [symQ, hx]) ?_
                 simp [groQ, hx, hg, optA, hb, scal, hu, bnds, bound, h0, en, e1, e3, hie, hz, gOff_eq]
               · cases h
             · split at h
               · rename_i ll k a ha
                 simp only [Option.some.injEq, Prod.mk.injEq] at h
                 obtain ⟨rfl, rfl⟩ := h
                 obtain ⟨h0, h1⟩ : 0 ≤ a ∧ a ≤ (n : Int) := hp
                 have e1 : Nat.ble a.toNat n = true := by rw [Nat.ble_eq]; omega
                 refine quiet_gro hs (by simp [symQ, hx]) ?_
                 simp [groQ, hx, hg, optA, ha, scal, hu, bnds, bound, h0, en, e1, hie, hz]
               · cases h
             · split at h
               · rename_i zz hh k1 b k2 q hb hq
                 simp only [Option.some.injEq, Prod.mk.injEq] at h
                 obtain ⟨rfl, rfl⟩ := h
                 obtain ⟨h0, h1, h2⟩ : 0 ≤ b ∧ b ≤ q ∧ q ≤ (n : Int) := hp
                 have h3 : 0 ≤ q := by omega
                 have e1 : Nat.ble b.toNat q.toNat = true := by rw [Nat.ble_eq]; omega
                 have e2 : Nat.ble q.toNat n = true := by rw [Nat.ble_eq]; omega
                 have e3 : Nat.ble 0 b.toNat = true := by rw [Nat.ble_eq]; omega
                 refine quiet_gro hs (by simp [symQ, hx]) ?_
                 simp [groQ, hx, hg, optA, hb, hq, scal, hu, bnds, bound, h0, h3, en, e1, e2, e3, hie, hz, gOff_eq]
               · cases h
             · split at h
               · rename_i ll hh k1 a k2 b ha hb
                 simp only [Option.some.injEq, Prod.mk.injEq] at h
                 obtain ⟨rfl, rfl⟩ := h
                 obtain ⟨h0, h1, h2⟩ : 0 ≤ a ∧ a ≤ b ∧ b ≤ (n : Int) := hp
                 have h3 : 0 ≤ b := by omega
                 have e1 : Nat.ble a.toNat b.toNat = true := by rw [Nat.ble_eq]; omega
                 have e2 : Nat.ble b.toNat n = true := by rw [Nat.ble_eq]; omega
                 refine quiet_gro hs (by simp [symQ, hx]) ?_
                 simp [groQ, hx, hg, optA, ha, hb, scal, hu, bnds, bound, h0, h3, en, e1, e2, hie, hz]
               · cases h
             · cases h
         · cases h
       · cases h
     · exact qd_ok h
   · rename_i s hx
     exact sxStr_ok hs hx h hp
   · exact qd_ok h
 · rename_i op t x y t2
   split at h
   · unfold sxDiv at h
     split at h
     · rename_i k a hx
       split at h
       · rename_i k' b hy
         cases hk : kindEq k k' with
         | false => rw [hk] at h; cases h
         | true =>
           rw [hk] at h
           simp only [cond_true, Option.some.injEq, Prod.mk.injEq] at h
           obtain ⟨rfl, rfl⟩ := h
           have hb : b ≠ 0 := hp
           have e : k = k' := by simpa [kindEq] using hk
           subst e
           exact quiet_quo hs hx hy (by simp [hb])
       · cases h
     · exact qd_ok h
   · unfold sxDiv at h
     split at h
     · rename_i k a hx
       split at h
       · rename_i k' b hy
         cases hk : kindEq k k' with
         | false => rw [hk] at h; cases h
         | true =>
           rw [hk] at h
           simp only [cond_true, Option.some.injEq, Prod.mk.injEq] at h
           obtain ⟨rfl, rfl⟩ := h
           have hb : b ≠ 0 := hp
           have e : k = k' := by simpa [kindEq] using hk
           subst e
           exact quiet_rem hs hx hy (by simp [hb])
       · cases h
     · exact qd_ok h
   · unfold sxAdd at h
     split at h
     · rename_i a hx
       split at h
       · rename_i b hy
         simp only [Option.some.injEq, Prod.mk.injEq] at h
         obtain ⟨rfl, rfl⟩ := h
         have hp : a.data.toList.length + b.data.toList.length ≤ 4611686018427387904 := hp
         refine quiet_low hs (by simp [symQ, hx]) (by simp [groQ]) ?_
         have e1 : Nat.ble (a.data.toList.length + b.data.toList.length) 4611686018427387904 = true := by rw [Nat.ble_eq]; exact hp
         simp only [quiet0, hx, hy, binA, fastBin, strO, e1, cond_true]
       · cases h
     · exact qd_ok h
   · exact qd_ok h
 · rename_i c
   unfold sxBlt at h
   split at h
   · rename_i hc
     split at h
     · rename_i k a k' b ha
       simp only [Option.some.injEq, Prod.mk.injEq] at h
       obtain ⟨rfl, rfl⟩ := h
       exact quiet_min hc ha
     · exact qd_ok h
   · rename_i hc
     split at h
     · rename_i k a k' b ha
       simp only [Option.some.injEq, Prod.mk.injEq] at h
       obtain ⟨rfl, rfl⟩ := h
       exact quiet_max hc ha
     · exact qd_ok h
   · exact qd_ok h
   · cases h
 · rename_i t x i cok
   unfold sxLk at h
   split at h
   · rename_i B hx
     split at h
     · rename_i es cl k hB hk
       split at h
       · rename_i r hr
         simp only [Option.some.injEq, Prod.mk.injEq] at h
         obtain ⟨rfl, rfl⟩ := h
         have hp : lookE E t es k = some r := hp
         refine quiet_low hs (by simp [symQ]) (by simp [groQ]) ?_
         simp only [quiet0, hx, hk]
         exact lookE_ok hB hp
       · exact qd_ok h
     · cases h
   · exact qd_ok h
 · rename_i t x i
   unfold sxIx at h
   split at h
   · rename_i s hx
     split at h
     · rename_i k n hi hu
       simp only [Option.some.injEq, Prod.mk.injEq] at h
       obtain ⟨rfl, rfl⟩ := h
       obtain ⟨h0, h1⟩ : 0 ≤ n ∧ n < s.size := hp
       exact quiet_ix hs hx hi hu h0 h1
     · cases h
   · exact qd_ok h
 · rename_i s t x
   unfold sxCv at h
   split at h
   · rename_i B o n k happ hx
     split at h
     · rename_i e c e2 hg hs1 ht hB
       split at h
       · rename_i he
         simp only [Option.some.injEq, Prod.mk.injEq] at h
         obtain ⟨rfl, rfl⟩ := h
         obtain ⟨bs, h1, h2, h3⟩ := isB_get hp
         refine quiet_low hs (by simp [symQ, hx]) (by simp [groQ]) ?_
         rw [h3]
         simp only [quiet0, hx, convA, hs1, ht, he]
         cases hn : Nat.beq n 0 with
         | true =>
           have hn0 := Nat.eq_of_beq_eq_true hn
           have : bs = [] := List.eq_nil_of_length_eq_zero (by omega)
           rw [this]; rfl
         | false =>
           have hl : lookN A B o n = some (bs.map fun b => Value.int .u8 b.toNat) := by
            have e1 : Nat.beq (bs.map fun b => Value.int .u8 b.toNat).length n = true := by rw [Nat.beq_eq]; simp [h2]
            simp only [lookN, look, hB, h1, e1, cond_true]
           simp only [cond_false, hl, bytesA_map]
       · cases h
     · cases h
     · exact qd_ok h
   · exact qd_ok h
 · exact qd_ok h
def putK (n : Nat) (F : T Value) (dst : Option Tmp) (v : Value) (k : T Value → Prop) : Prop := match put n F dst v with | some F' => k F' | none => False
def setK (F : T Value) (d : Nat) (v : Value) (k : T Value → Prop) : Prop := match T.set FU F d v with | some F' => k F' | none => False
theorem setK_ok {F : T Value} {d : Nat} {v : Value} {k : T Value → Prop} (h : setK F d v k) : ∃ F', T.set FU F d v = some F' ∧ k F' := by
 unfold setK at h
 split at h
 · rename_i F' hF; exact ⟨F', hF, h⟩
 · exact h.elim
def sxG (ops : List Oper) (F : T Value) (o : Oper) (kT kF : T Value → Prop) : Prop :=
 match o.guard with
 | none => kT F
 | some (j, want) => (match nth ops j with
   | some oj => (match oj.dst with
     | some d => (match slot F d with
       | some (.bool b) => Sp b (setK F d (.bool true) (fun F' => Bool.rec (motive := fun _ => Prop) (kF F') (kT F') want)) (setK F d (.bool false) (fun F' => Bool.rec (motive := fun _ => Prop) (kT F') (kF F') want))
       | some _ => kF F
       | none => False)
     | none => kF F)
   | none => kF F)
theorem sxG_ok {ops : List Oper} {F : T Value} {o : Oper} {kT kF : T Value → Prop} (h : sxG ops F o kT kF) : (wantA ops F o = some true ∧ kT F) ∨ (wantA ops F o = some false ∧ kF F) := by
 unfold sxG at h
 unfold wantA
 split at h
 · rename_i hg; rw [hg]; exact .inl ⟨rfl, h⟩
 · rename_i j want hg
   rw [hg]
   simp only
   split at h
   · rename_i oj hj
     rw [hj]
     simp only
     split at h
     · rename_i d hd
       rw [hd]
       simp only
       split at h
       · rename_i b hs
         rw [hs]
         simp only
         unfold slot at hs
         rcases h.cases with ⟨hb, h5⟩ | ⟨hb, h5⟩
         · obtain ⟨F', hF, h6⟩ := setK_ok h5
           rw [hb] at hs ⊢
           rw [set_same _ _ _ _ _ hs hF] at h6
           cases want with
           | true => exact .inl ⟨rfl, h6⟩
           | false => exact .inr ⟨rfl, h6⟩
         · obtain ⟨F', hF, h6⟩ := setK_ok h5
           rw [hb] at hs ⊢
           rw [set_same _ _ _ _ _ hs hF] at h6
           cases want with
           | true => exact .inr ⟨rfl, h6⟩
           | false => exact .inl ⟨rfl, h6⟩
       · rename_i u hnb hs
         rw [hs]
         refine .inr ⟨?_, h⟩
         cases u <;> first | rfl | exact absurd rfl (hnb _)
       · exact h.elim
     · rename_i hd; rw [hd]; exact .inr ⟨rfl, h⟩
   · rename_i hj; rw [hj]; exact .inr ⟨rfl, h⟩
def appS (E : Env) (A : AH) (ts : List TypeId) (B sl : Nat) (x : Value) : Option (Option Prop × Value × AH) :=
 match ts with
 | [t, tx] => (match und E t, und E tx with
   | some (.slice e), some dx => (match E.ti e with
     | some ie => (match ie.zero, srcA A ie.size x with
       | some z, some (n, news) =>
         bif (slcOrStr dx && (Nat.beq z.cells.toList.length ie.size && Nat.blt 0 ie.size)) && !Nat.beq n 0 then
          (match A.t.get B with
          | some (.cells c eb) => bif Nat.beq eb e then
            (match T.set FU A.t B .dead with
            | some t' => (match T.set FU t' A.next (.cells (c.take (sl * ie.size) ++ news) e) with
              | some t'' => some (some (sl + n ≤ 70368744177664 ∧ (sl + n) * ie.bytes ≤ 140737488355328 ∧ sl * ie.size ≤ c.length), .slice (some ⟨A.next, 0, none⟩) (sl + n) unk, ⟨t'', A.next + 1⟩)
              | none => none)
            | none => none) else none
          | _ => none) else none
       | _, _ => none)
     | none => none)
   | _, _ => none)
 | _ => none
theorem appS_ok {E : Env} {A : AH} {ts : List TypeId} {B o sl : Nat} {x : Value} {p : Option Prop} {v : Value} {A' : AH} (h : appS E A ts B sl x = some (p, v, A')) (hp : PH p) : appendA E A ts (.slice (some ⟨B, o, none⟩) sl unk) x = some (v, A') := by
 unfold appS at h
 split at h
 · rename_i t tx
   split at h
   · rename_i e dx hu hx
     split at h
     · rename_i ie hie
       split at h
       · rename_i z n news hz hs
         cases hb : ((slcOrStr dx && (Nat.beq z.cells.toList.length ie.size && Nat.blt 0 ie.size)) && !Nat.beq n 0) with
         | false => rw [hb] at h; cases h
         | true =>
           rw [hb] at h
           simp only [cond_true] at h
           simp only [Bool.and_eq_true, Bool.not_eq_true'] at hb
           split at h
           · rename_i c eb hB
             cases he : Nat.beq eb e with
             | false => rw [he] at h; cases h
             | true =>
               rw [he] at h
               simp only [cond_true] at h
               split at h
               · rename_i t' ht'
                 split at h
                 · rename_i t'' ht''
                   simp only [Option.some.injEq, Prod.mk.injEq] at h
                   obtain ⟨rfl, rfl, rfl⟩ := h
                   obtain ⟨h1, h2, h3⟩ : sl + n ≤ 70368744177664 ∧ (sl + n) * ie.bytes ≤ 140737488355328 ∧ sl * ie.size ≤ c.length := hp
                   have e1 : Nat.ble (sl + n) 70368744177664 = true := by rw [Nat.ble_eq]; exact h1
                   have e2 : Nat.ble ((sl + n) * ie.bytes) 140737488355328 = true := by rw [Nat.ble_eq]; exact h2
                   have e3 : Nat.ble (sl * ie.size) c.length = true := by rw [Nat.ble_eq]; exact h3
                   have e4 : Nat.blt unk unk = false := by rw [blt_eq]; simp
                   have e5 : Nat.beq unk unk = true := by rw [beq_eq]; simp
                   simp only [appendA, hu, hx, hie, hz, hs, hb.1.1, hb.1.2.1, hb.1.2.2, hb.2, Bool.and_self, cond_true, cond_false, e1, e2, e3, e4, e5, hB, he, ht', ht'']
                 · cases h
               · cases h
           · cases h
       · cases h
     · cases h
   · cases h
 · cases h
def groStS (E : Env) (el : El) (A : AH) (t : TypeId) (B sz : Nat) (i j : Int) (v : Value) (s : Nat) : Option (Option Prop × Value × AH) :=
 match E.ti t, A.t.get B with
 | some ti, some (.gro els0 tl e) => (match E.ti e with
   | some ie => bif (Nat.beq ie.size sz && Nat.beq v.cells.toList.length ti.size) && v.cells.toList.all cellv then
    (match Nat.beq v.cells.toList.length sz && Nat.beq j.toNat 0 with
    | true => (match T.set FU A.t B (.gro ((glue els0 tl).set i.toNat v) [] e) with | some t => some (some (i.toNat < (glue els0 tl).length), undef, ⟨t, A.next⟩) | none => none)
    | false => (match el.at' sz s (glue els0 tl) i with
      | some u => bif Nat.ble (j.toNat + v.cells.toList.length) sz && !Nat.beq v.cells.toList.length sz then
       (match T.set FU A.t B (.gro ((glue els0 tl).set i.toNat (.agg ⟨over u.cells.toList j.toNat v.cells.toList⟩)) [] e) with | some t => some (some (nth (glue els0 tl) i.toNat = some u), undef, ⟨t, A.next⟩) | none => none) else none
      | none => none))
    else none
   | none => none)
 | _, _ => none
theorem groStS_ok {E : Env} {el : El} {A A' : AH} {t : TypeId} {B sz : Nat} {i j : Int} {v v2 : Value} {s : Nat} {p : Option Prop} (h : groStS E el A t B sz i j v s = some (p, v2, A')) (hp : PH p) : groStore E A t B sz i.toNat j.toNat v = some A' ∧ v2 = undef := by
 unfold groStS at h
 unfold groStore
 split at h
 · rename_i ti els0 tl e hti hB
   rw [hti, hB]
   simp only
   generalize glue els0 tl = els at h ⊢
   split at h
   · rename_i ie hie
     rw [hie]
     cases hb : (Nat.beq ie.size sz && Nat.beq v.cells.toList.length ti.size) && v.cells.toList.all cellv with
     | false => rw [hb] at h; simp at h
     | true =>
       rw [hb] at h
       simp only [cond_true] at h
       simp only [Bool.and_eq_true] at hb
       split at h
       · rename_i hw
         simp only [Bool.and_eq_true, Nat.beq_eq] at hw
         split at h
         · rename_i t2 ht
           simp only [Option.some.injEq, Prod.mk.injEq] at h
           obtain ⟨rfl, rfl, rfl⟩ := h
           have hp : i.toNat < els.length := hp
           have hn : nth els i.toNat = some els[i.toNat] := by rw [nth_eq]; exact List.getElem?_eq_getElem hp
           rw [hn]
           have e1 : Nat.ble (j.toNat + v.cells.toList.length) sz = true := by rw [Nat.ble_eq]; omega
           have e2 : setEl els[i.toNat] v sz j.toNat = v := by
            unfold setEl
            have : Nat.beq v.cells.toList.length sz = true := by rw [Nat.beq_eq]; exact hw.1
            rw [this]; rfl
           simp only [hb.1.1, hb.1.2, hb.2, e1, e2, ht, Bool.and_self, cond_true, and_self]
         · cases h
       · split at h
         · rename_i u hu
           cases hb2 : (Nat.ble (j.toNat + v.cells.toList.length) sz && !Nat.beq v.cells.toList.length sz) with
           | false => rw [hb2] at h; simp at h
           | true =>
             rw [hb2] at h
             simp only [cond_true] at h
             simp only [Bool.and_eq_true, Bool.not_eq_true'] at hb2
             split at h
             · rename_i t2 ht
               simp only [Option.some.injEq, Prod.mk.injEq] at h
               obtain ⟨rfl, rfl, rfl⟩ := h
               have hp : nth els i.toNat = some u := hp
               rw [hp]
               have e2 : setEl u v sz j.toNat = .agg ⟨over u.cells.toList j.toNat v.cells.toList⟩ := by
                unfold setEl
                rw [hb2.2]; rfl
               simp only [hb.1.1, hb.1.2, hb.2, hb2.1, e2, ht, Bool.and_self, cond_true, and_self]
             · cases h
         · cases h
   · cases h
 · cases h
def srcS (E : Env) (A : AH) (e : TypeId) (sz : Nat) (x : Value) : Option (Option Prop × List Value) :=
 match x with
 | .slice (some ⟨B, o, none⟩) n m => (match isG m with
   | true => (match A.t.get B with
     | some (.gro els tl e2) => (match E.ti e2 with
       | some ie => bif (Nat.beq ie.size sz && Nat.beq (gsz m) sz) && Nat.blt 0 sz then some (some (n + gLo sz o ≤ (glue els tl).length), ((glue els tl).drop (gLo sz o)).take n) else none
       | none => none)
     | _ => none)
   | false => (match srcG E A e sz (.slice (some ⟨B, o, none⟩) n m) with | some l => some (none, l) | none => none))
 | x => (match srcG E A e sz x with | some l => some (none, l) | none => none)
theorem srcS_ok {E : Env} {A : AH} {e : TypeId} {sz : Nat} {x : Value} {p : Option Prop} {l : List Value} (h : srcS E A e sz x = some (p, l)) (hp : PH p) : srcG E A e sz x = some l := by
 unfold srcS at h
 split at h
 · rename_i B o n m
   split at h
   · rename_i hg
     split at h
     · rename_i els tl e2 hB
       split at h
       · rename_i ie hie
         cases hb : (Nat.beq ie.size sz && Nat.beq (gsz m) sz) && Nat.blt 0 sz with
         | false => rw [hb] at h; simp at h
         | true =>
           rw [hb] at h
           simp only [cond_true, Option.some.injEq, Prod.mk.injEq] at h
           obtain ⟨rfl, rfl⟩ := h
           have hp : n + gLo sz o ≤ (glue els tl).length := hp
           simp only [Bool.and_eq_true] at hb
           have e1 : Nat.ble (n + gLo sz o) (glue els tl).length = true := by rw [Nat.ble_eq]; exact hp
           simp only [srcG, hg, hB, hie, hb.1.1, hb.1.2, hb.2, e1, Bool.and_self, cond_true]
       · cases h
     · cases h
   · split at h
     · rename_i l' hl
       simp only [Option.some.injEq, Prod.mk.injEq] at h
       rw [hl, h.2]
     · cases h
 · split at h
   · rename_i l' hl
     simp only [Option.some.injEq, Prod.mk.injEq] at h
     rw [hl, h.2]
   · cases h
def dropS (o lo : Nat) (els : List Value) : List Value := match Nat.beq o 0 with
 | true => els
 | false => els.drop lo
def groAppS (E : Env) (A : AH) (ts : List TypeId) (B o n m : Nat) (x : Value) : Option (Option Prop × Value × AH) :=
 match ts with
 | [t, tx] => (match und E t, und E tx with
   | some (.slice e), some dx => (match E.ti e, A.t.get B with
     | some ie, some (.gro els tl eb) => (match ie.zero, srcS E A e ie.size x with
       | some z, some s =>
         bif (slcOrStr dx && (Nat.beq z.cells.toList.length ie.size && Nat.blt 0 ie.size)) && (Nat.beq eb e && (Nat.beq (gsz m) ie.size && isG m)) then
             (match T.set FU A.t B .dead with
             | some t' => (match T.set FU t' A.next (.gro (dropS o (gLo ie.size o) (glue els tl)) s.2 e) with
               | some t'' => some (some (pc s.1 ((cellsL s.2).all cellv = true ∧ n + gLo ie.size o = (glue els tl).length ∧ n + s.2.length ≤ 70368744177664 ∧ (n + s.2.length) * ie.bytes ≤ 140737488355328)), .slice (some ⟨A.next, 0, none⟩) (n + s.2.length) m, ⟨t'', A.next + 1⟩)
               | none => none)
             | none => none)
         else none
       | _, _ => none)
     | _, _ => none)
   | _, _ => none)
 | _ => none
theorem dropS_eq {o sz : Nat} (els : List Value) : dropS o (gLo sz o) els = els.drop (gLo sz o) := by
 unfold dropS
 split
 · rename_i h
   have := Nat.eq_of_beq_eq_true h
   subst this
   have : gLo sz 0 = 0 := by unfold gLo; cases Nat.beq sz 1 <;> simp
   rw [this]; rfl
 · rfl
theorem groAppS_ok {E : Env} {A A' : AH} {ts : List TypeId} {B o n m : Nat} {x v : Value} {p : Option Prop} (h : groAppS E A ts B o n m x = some (p, v, A')) (hp : PH p) : groApp E A ts B o n m x = some (v, A') := by
 unfold groAppS at h
 unfold groApp
 split at h
 · rename_i t tx
   simp only
   split at h
   · rename_i e dx hu hux
     rw [hu, hux]
     simp only
     split at h
     · rename_i ie els0 tl0 eb hie hB
       rw [hie, hB]
       simp only
       generalize glue els0 tl0 = els at h ⊢
       split at h
       · rename_i z s hz hs
         rw [hz]
         cases hb : (slcOrStr dx && (Nat.beq z.cells.toList.length ie.size && Nat.blt 0 ie.size)) && (Nat.beq eb e && (Nat.beq (gsz m) ie.size && isG m)) with
         | false => rw [hb] at h; simp at h
         | true =>
           rw [hb] at h
           simp only [cond_true] at h
           split at h
           · rename_i t1 ht1
             split at h
             · rename_i t2 ht2
               simp only [Option.some.injEq, Prod.mk.injEq] at h
               obtain ⟨rfl, rfl, rfl⟩ := h
               obtain ⟨hs1, c1, c2, c3, c4⟩ := pc_iff (show pc s.1 _ from hp)
               rw [srcS_ok (p := s.1) (l := s.2) hs hs1]
               rw [dropS_eq] at ht2
               have e2 : Nat.beq (n + gLo ie.size o) els.length = true := by rw [Nat.beq_eq]; exact c2
               have e3 : Nat.ble (n + s.2.length) 70368744177664 = true := by rw [Nat.ble_eq]; exact c3
               have e4 : Nat.ble ((n + s.2.length) * ie.bytes) 140737488355328 = true := by rw [Nat.ble_eq]; exact c4
               simp only [hb, c1, e2, e3, e4, ht1, ht2, Bool.and_self, cond_true]
             · cases h
           · cases h
       · cases h
     · cases h
   · cases h
 · cases h
def groApp2S (E : Env) (A : AH) (ts : List TypeId) (B o n m : Nat) (x : Value) : Option (Option Prop × Value × AH) :=
 match ts with
 | [t, tx] => (match und E t, und E tx with
   | some (.slice e), some dx => (match E.ti e, A.t.get B with
     | some ie, some (.gro els tl eb) => (match ie.zero, srcS E A e ie.size x with
       | some z, some s =>
         bif (slcOrStr dx && (Nat.beq z.cells.toList.length ie.size && Nat.blt 0 ie.size)) && (Nat.beq eb e && (Nat.beq (gsz m) ie.size && isG m)) then
             (match T.set FU A.t B .dead with
             | some t' => (match T.set FU t' A.next (.gro ((dropS o (gLo ie.size o) (glue els tl)).take n ++ s.2) [] e) with
               | some t'' => some (some (pc s.1 ((cellsL s.2).all cellv = true ∧ n + gLo ie.size o ≤ (glue els tl).length ∧ n + s.2.length ≤ 70368744177664 ∧ (n + s.2.length) * ie.bytes ≤ 140737488355328)), .slice (some ⟨A.next, 0, none⟩) (n + s.2.length) m, ⟨t'', A.next + 1⟩)
               | none => none)
             | none => none)
         else none
       | _, _ => none)
     | _, _ => none)
   | _, _ => none)
 | _ => none
theorem groApp2S_ok {E : Env} {A A' : AH} {ts : List TypeId} {B o n m : Nat} {x v : Value} {p : Option Prop} (h : groApp2S E A ts B o n m x = some (p, v, A')) (hp : PH p) : groApp2 E A ts B o n m x = some (v, A') := by
 unfold groApp2S at h
 unfold groApp2
 split at h
 · rename_i t tx
   simp only
   split at h
   · rename_i e dx hu hux
     rw [hu, hux]
     simp only
     split at h
     · rename_i ie els0 tl0 eb hie hB
       rw [hie, hB]
       simp only
       generalize glue els0 tl0 = els at h ⊢
       split at h
       · rename_i z s hz hs
         rw [hz]
         cases hb : (slcOrStr dx && (Nat.beq z.cells.toList.length ie.size && Nat.blt 0 ie.size)) && (Nat.beq eb e && (Nat.beq (gsz m) ie.size && isG m)) with
         | false => rw [hb] at h; simp at h
         | true =>
           rw [hb] at h
           simp only [cond_true] at h
           split at h
           · rename_i t1 ht1
             split at h
             · rename_i t2 ht2
               simp only [Option.some.injEq, Prod.mk.injEq] at h
               obtain ⟨rfl, rfl, rfl⟩ := h
               obtain ⟨hs1, c1, c2, c3, c4⟩ := pc_iff (show pc s.1 _ from hp)
               rw [srcS_ok (p := s.1) (l := s.2) hs hs1]
               rw [dropS_eq] at ht2
               have e2 : Nat.ble (n + gLo ie.size o) els.length = true := by rw [Nat.ble_eq]; exact c2
               have e3 : Nat.ble (n + s.2.length) 70368744177664 = true := by rw [Nat.ble_eq]; exact c3
               have e4 : Nat.ble ((n + s.2.length) * ie.bytes) 140737488355328 = true := by rw [Nat.ble_eq]; exact c4
               simp only [hb, c1, e2, e3, e4, ht1, ht2, Bool.and_self, cond_true]
             · cases h
           · cases h
       · cases h
     · cases h
   · cases h
 · cases h
def mapUpdE (E : Env) (t : TypeId) (es : List (Value × Value × Nat)) (clock : Nat) (k v : Value) : Option (List (Value × Value × Nat) × Nat) :=
 match und E t with
 | some (.map kt et) => bif flat k && keyOk E false kt k then
  (match findK E kt k es with
  | some none => some (es ++ [(k, v, clock)], clock + 1)
  | some (some (i, _)) => (match nth es i with
    | some (key, _, born) => bif Instr.sameBits 10000 key k then some (es.set i (k, v, born), clock) else none
    | none => none)
  | none => none) else none
 | _ => none
theorem mapUpdE_ok {E : Env} {A : AH} {t : TypeId} {B : Nat} {es es' : List (Value × Value × Nat)} {clock c' : Nat} {k v : Value} (hB : A.t.get B = some (.map es clock)) (h : mapUpdE E t es clock k v = some (es', c')) : mapUpdA E A t (.map (some B)) k v = setA A B (.map es' c') := by
 unfold mapUpdE at h
 unfold mapUpdA
 split at h
 · rename_i kt et hu
   rw [hu]
   cases hb : (flat k && keyOk E false kt k) with
   | false => rw [hb] at h; simp at h
   | true =>
     rw [hb] at h
     simp only [cond_true] at h
     simp only [hB, hb, cond_true]
     split at h
     · rename_i hf
       rw [hf]
       simp only [Option.some.injEq, Prod.mk.injEq] at h
       obtain ⟨rfl, rfl⟩ := h
       rfl
     · rename_i i u hf
       rw [hf]
       simp only
       split at h
       · rename_i key u2 born hn
         rw [hn]
         cases hsb : Instr.sameBits 10000 key k with
         | false => rw [hsb] at h; simp at h
         | true =>
           rw [hsb] at h
           simp only [cond_true, Option.some.injEq, Prod.mk.injEq] at h
           obtain ⟨rfl, rfl⟩ := h
           simp only [hsb, cond_true]
       · cases h
     · cases h
 · cases h
def mapUS (E : Env) (el : El) (A : AH) (t : TypeId) (B : Nat) (k v : Value) : Option (Option Prop × Value × AH) :=
 match A.t.get B with
 | some (.map es clock) => (match el.mu t es clock k v with
   | some r => (match setA A B (.map r.1 r.2) with | some A' => some (some (mapUpdE E t es clock k v = some r), undef, A') | none => none)
   | none => none)
 | _ => none
theorem mapUS_ok {E : Env} {el : El} {A A' : AH} {t : TypeId} {B : Nat} {k v v2 : Value} {p : Option Prop} (h : mapUS E el A t B k v = some (p, v2, A')) (hp : PH p) : mapUpdA E A t (.map (some B)) k v = some A' ∧ v2 = undef := by
 unfold mapUS at h
 split at h
 · rename_i es clock hB
   split at h
   · rename_i r hr
     split at h
     · rename_i A2 hA
       simp only [Option.some.injEq, Prod.mk.injEq] at h
       obtain ⟨rfl, rfl, rfl⟩ := h
       have hp : mapUpdE E t es clock k v = some (r.1, r.2) := hp
       rw [mapUpdE_ok hB hp]
       exact ⟨hA, rfl⟩
     · cases h
   · cases h
 · cases h
def groCpS (E : Env) (A : AH) (ts : List TypeId) (B o n m B2 o2 n2 m2 : Nat) : Option (Option Prop × Value × AH) :=
 match ts with
 | t :: _ => (match und E t with
   | some (.slice e) => (match E.ti e, A.t.get B, A.t.get B2 with
     | some ie, some (.gro els tl eb), some (.gro els2 tl2 eb2) =>
       bif ((Nat.beq eb e && Nat.beq eb2 e) && (Nat.beq (gsz m) ie.size && Nat.beq (gsz m2) ie.size)) && ((isG m && isG m2) && Nat.blt 0 ie.size) then
           (match T.set FU A.t B (.gro (splc (glue els tl) (gLo ie.size o) (((glue els2 tl2).drop (gLo ie.size o2)).take (Nat.min n2 n))) [] eb) with
           | some t' => some (some ((cellsL (((glue els2 tl2).drop (gLo ie.size o2)).take (Nat.min n2 n))).all cellv = true ∧ gLo ie.size o + n ≤ (glue els tl).length ∧ gLo ie.size o2 + n2 ≤ (glue els2 tl2).length), .int .i64 (Nat.min n2 n : Nat), ⟨t', A.next⟩)
           | none => none)
       else none
     | _, _, _ => none)
   | _ => none)
 | _ => none
theorem groCpS_ok {E : Env} {A A' : AH} {ts : List TypeId} {B o n m B2 o2 n2 m2 : Nat} {v : Value} {p : Option Prop} (h : groCpS E A ts B o n m B2 o2 n2 m2 = some (p, v, A')) (hp : PH p) : groCopy E A ts B o n m B2 o2 n2 m2 = some (v, A') := by
 unfold groCpS at h
 unfold groCopy
 split at h
 · rename_i t ts'
   simp only
   split at h
   · rename_i e hu
     rw [hu]
     simp only
     split at h
     · rename_i ie els tl eb els2 tl2 eb2 hie hB hB2
       rw [hie, hB, hB2]
       simp only
       cases hb : ((Nat.beq eb e && Nat.beq eb2 e) && (Nat.beq (gsz m) ie.size && Nat.beq (gsz m2) ie.size)) && ((isG m && isG m2) && Nat.blt 0 ie.size) with
       | false => rw [hb] at h; cases h
       | true =>
         rw [hb] at h
         simp only [cond_true] at h ⊢
         split at h
         · rename_i t1 ht1
           simp only [Option.some.injEq, Prod.mk.injEq] at h
           obtain ⟨rfl, rfl, rfl⟩ := h
           obtain ⟨c1, c2, c3⟩ : (cellsL (((glue els2 tl2).drop (gLo ie.size o2)).take (Nat.min n2 n))).all cellv = true ∧ gLo ie.size o + n ≤ (glue els tl).length ∧ gLo ie.size o2 + n2 ≤ (glue els2 tl2).length := hp
           have e1 : Nat.ble (gLo ie.size o + n) (glue els tl).length = true := by rw [Nat.ble_eq]; exact c2
           have e2 : Nat.ble (gLo ie.size o2 + n2) (glue els2 tl2).length = true := by rw [Nat.ble_eq]; exact c3
           simp only [c1, e1, e2, ht1, Bool.and_self, cond_true]
         · cases h
     · cases h
   · cases h
 · cases h
def sxUs (E : Env) (A : AH) (ats : List TypeId) (p n : Value) : Option (Option Prop × Value × AH) :=
 match ats, p, n with
 | [pt, _], .pointer (some ⟨B, o, none⟩), .int .i64 k => (match und E pt, A.t.get B with
   | some (.pointer e), some (.cells c e') => (match E.ti e, T.set FU A.t B .dead with
     | some j, some t => bif Nat.beq o 0 && (Nat.beq e e' && Nat.beq j.size 1) then
      some (some (IsB c 0 k.toNat ∧ 0 < k ∧ k ≤ 9223372036854775807), .string (mkBytes (u8L c 0 k.toNat)), ⟨t, A.next⟩) else none
     | _, _ => none)
   | _, _ => none)
 | _, _, _ => none
theorem sxUs_ok {E : Env} {A : AH} {ats : List TypeId} {p n : Value} {q : Option Prop} {v : Value} {A' : AH} (h : sxUs E A ats p n = some (q, v, A')) (hp : PH q) : ustrA E A ats p n = some (v, A') := by
 unfold sxUs at h
 split at h
 · rename_i pt it B o k
   split at h
   · rename_i e c e' hpt hB
     split at h
     · rename_i j t hj ht
       cases hb : Nat.beq o 0 && (Nat.beq e e' && Nat.beq j.size 1) with
       | false => rw [hb] at h; cases h
       | true =>
         rw [hb] at h
         simp only [cond_true, Option.some.injEq, Prod.mk.injEq] at h
         obtain ⟨rfl, rfl, rfl⟩ := h
         obtain ⟨hq, h0, h1⟩ : IsB c 0 k.toNat ∧ 0 < k ∧ k ≤ 9223372036854775807 := hp
         obtain ⟨bs, g1, g2, g3⟩ := isB_get hq
         obtain ⟨m, rfl⟩ : ∃ m : Nat, k = Int.ofNat m := ⟨k.toNat, (Int.toNat_of_nonneg (Int.le_of_lt h0)).symm⟩
         have em : (Int.ofNat m).toNat = m := rfl
         rw [em] at g1 g2 g3 ⊢
         simp only [Bool.and_eq_true] at hb
         have hm0 : Nat.beq m 0 = false := by
          cases hm : Nat.beq m 0 with
          | false => rfl
          | true => have := Nat.eq_of_beq_eq_true hm; subst this; exact absurd h0 (by decide)
         have hmx : Nat.ble m 9223372036854775807 = true := by rw [Nat.ble_eq]; exact Int.ofNat_le.1 h1
         have hl : lookN A B 0 m = some (bs.map fun b => Value.int .u8 b.toNat) := by
          have e1 : Nat.beq (bs.map fun b => Value.int .u8 b.toNat).length m = true := by rw [Nat.beq_eq]; simp [g2]
          simp only [lookN, look, hB, g1, e1, cond_true]
         rw [g3]
         simp only [ustrA, hm0, hb.1, cond_false, cond_true, hpt, hB, hj, hb.2.1, hb.2.2, hmx, Bool.and_self, hl, okB_map, bytesA_map, ht]
     · cases h
   · cases h
 · cases h
def arrStS (E : Env) (A : AH) (t : TypeId) (B sz : Nat) (i j : Int) (v : Value) : Option (Option Prop × Value × AH) :=
 match A.t.get B with
 | some (.arr els rest n e) => (match E.ti t, v.cells.toList with
   | some ti, [x] => bif (Nat.beq sz 1 && Nat.beq j.toNat 0) && (Nat.beq ti.size 1 && cellv x) then
    (match T.set FU A.t B (.arr (els.set i.toNat x) rest n e) with | some t => some (some (i.toNat < n), undef, ⟨t, A.next⟩) | none => none) else none
   | _, _ => none)
 | _ => none
theorem arrStS_ok {E : Env} {A A' : AH} {t : TypeId} {B sz : Nat} {i j : Int} {v v2 : Value} {p : Option Prop} (h : arrStS E A t B sz i j v = some (p, v2, A')) (hp : PH p) :
 storeA E A t (.func (.yield sz) ⟨[.pointer (some ⟨B, 0, none⟩)]⟩ ⟨[.int .i64 i, .int .i64 j, .bool true]⟩) v = some A' ∧ v2 = undef := by
 unfold arrStS at h
 split at h
 · rename_i els rest n e hB
   have h0 : storeA0 E A t (.func (.yield sz) ⟨[.pointer (some ⟨B, 0, none⟩)]⟩ ⟨[.int .i64 i, .int .i64 j, .bool true]⟩) v = none := by
    show groStore E A t B sz i.toNat j.toNat v = none
    unfold groStore
    rw [hB]
    cases E.ti t <;> rfl
   unfold storeA
   rw [h0]
   simp only [arrStore, hB]
   split at h
   · rename_i ti x hti hx
     rw [hti, hx]
     simp only
     cases hb : (Nat.beq sz 1 && Nat.beq j.toNat 0) && (Nat.beq ti.size 1 && cellv x) with
     | false => rw [hb] at h; simp at h
     | true =>
       rw [hb] at h
       simp only [cond_true] at h
       simp only [Bool.and_eq_true] at hb
       split at h
       · rename_i t2 ht
         simp only [Option.some.injEq, Prod.mk.injEq] at h
         obtain ⟨rfl, rfl, rfl⟩ := h
         have hp : i.toNat < n := hp
         have e1 : Nat.blt i.toNat n = true := by rw [Nat.blt_eq]; exact hp
         simp only [hb.1.1, hb.1.2, hb.2.1, hb.2.2, e1, Bool.and_self, cond_true, ht, and_self]
       · cases h
   · cases h
 · cases h
def isArr (A : AH) (B : Nat) : Bool := match A.t.get B with | some (.arr ..) => true | _ => false
def sxG1 (E : Env) (el : El) (A : AH) (ρ : Operand → Option Value) (op : Op) : Option (Option Prop × Value × AH) :=
 match op with
 | .store t a x => (match ρ a, ρ x with
   | some (.func (.yield sz) ⟨[.pointer (some ⟨B, 0, none⟩)]⟩ ⟨[.int .i64 i, .int .i64 j, .bool true]⟩), some v => (match isArr A B with
     | true => arrStS E A t B sz i j v
     | false => groStS E el A t B sz i j v (opTmp a))
   | _, _ => none)
 | .mapUpdate t m k x => (match ρ m, ρ k, ρ x with | some (.map (some B)), some k, some v => mapUS E el A t B k v | _, _, _ => none)
 | .insert t m k x => (match ρ m, ρ k, ρ x with | some (.map (some B)), some k, some v => mapUS E el A t B k v | _, _, _ => none)
 | .call c => (match c.callee with
   | .builtin .append => (match c.args.toList with
     | [x, y] => (match ρ x, ρ y with
       | some (.slice (some ⟨B, o, none⟩) sl sk), some src => (match isG sk with
         | true => bif sameB B src then groApp2S E A c.argTypes.toList B o sl sk src else groAppS E A c.argTypes.toList B o sl sk src
         | false => bif el.app && Nat.beq sk unk then appS E A c.argTypes.toList B sl src else none)
       | _, _ => none)
     | _ => none)
   | .builtin .copy => (match c.args.toList with
     | [x, y] => (match ρ x, ρ y with
       | some (.slice (some ⟨B, o, none⟩) n m), some (.slice (some ⟨B2, o2, none⟩) n2 m2) => (match isG m with
         | true => groCpS E A c.argTypes.toList B o n m B2 o2 n2 m2
         | false => none)
       | _, _ => none)
     | _ => none)
   | .builtin .unsafeString => (match el.app, c.args.toList with
     | true, [x, y] => (match ρ x, ρ y with
       | some p, some n => sxUs E A c.argTypes.toList p n
       | _, _ => none)
     | _, _ => none)
   | _ => none)
 | _ => none
theorem sxG1_ok {E : Env} {el : El} {A : AH} {ρ : Operand → Option Value} {op : Op} {p : Option Prop} {v : Value} {A' : AH} (h : sxG1 E el A ρ op = some (p, v, A')) (hp : PH p) : effA E A ρ op = some (v, A') := by
 unfold sxG1 at h
 split at h
 · rename_i t a x
   split at h
   · rename_i sz B i j v0 ha hx
     split at h
     · obtain ⟨h1, rfl⟩ := arrStS_ok h hp
       simp only [effA, ha, hx, h1]
     · obtain ⟨h1, rfl⟩ := groStS_ok h hp
       simp only [effA, ha, hx, storeA, storeA0, h1]
   · cases h
 · rename_i t m k x
   split at h
   · rename_i B k0 v0 hm hk hx
     obtain ⟨h1, rfl⟩ := mapUS_ok h hp
     simp only [effA, hm, hk, hx, h1]
   · cases h
 · rename_i t m k x
   split at h
   · rename_i B k0 v0 hm hk hx
     obtain ⟨h1, rfl⟩ := mapUS_ok h hp
     simp only [effA, hm, hk, hx, h1]
   · cases h
 · rename_i c
   split at h
   · rename_i hc
     split at h
     · rename_i x y hargs
       split at h
       · rename_i B o sl sk src hx hy
         simp only [effA, hc, effB, hargs, hx, hy]
         split at h
         · rename_i hg
           simp only [appAll, hg]
           cases hsb : sameB B src with
           | true => rw [hsb] at h; exact groApp2S_ok h hp
           | false => rw [hsb] at h; exact groAppS_ok h hp
         · rename_i hg
           simp only [appAll, hg]
           cases hk : (el.app && Nat.beq sk unk) with
           | false => rw [hk] at h; simp at h
           | true =>
             rw [hk] at h
             simp only [Bool.and_eq_true] at hk
             obtain rfl := Nat.eq_of_beq_eq_true hk.2
             simp only [cond_true] at h
             exact appS_ok h hp
       · cases h
     · cases h
   · rename_i hc
     split at h
     · rename_i x y hargs
       split at h
       · rename_i B o n m B2 o2 n2 m2 hx hy
         simp only [effA, hc, effB, hargs, hx, hy]
         split at h
         · rename_i hg
           simp only [copyAll, hg]
           exact groCpS_ok h hp
         · cases h
       · cases h
     · cases h
   · rename_i hc
     split at h
     · rename_i x y happ hargs
       split at h
       · rename_i p0 n0 hx hy
         simp only [effA, hc, effB, hargs, hx, hy]
         exact sxUs_ok h hp
       · cases h
     · cases h
   · cases h
 · cases h
def frzV (E : Env) (A : AH) (B2 n k : Nat) : Option (Option Prop × Value) :=
 match A.t.get B2 with
 | some (.cells c2 e2) => (match E.ti e2, und E e2 with
   | some i2, some d2 => bif (Nat.blt k unk && (Nat.ble n k && Nat.beq (c2.take (n * i2.size)).length (n * i2.size))) && ((c2.take (n * i2.size)).all cellv && (isAggD d2 || Nat.beq i2.size 1)) then
    some (none, .func (.yield i2.size) ⟨chunk (isAggD d2) i2.size n (c2.take (n * i2.size))⟩ ⟨[]⟩) else none
   | _, _ => none)
 | some (.gro els tl e2) => (match E.ti e2 with
   | some i2 => bif isG k && Nat.beq i2.size (gsz k) then some (some ((glue els tl).length = n), .func (.yield (gsz k)) ⟨glue els tl⟩ ⟨[]⟩) else none
   | none => none)
 | _ => none
theorem frzV_ok {E : Env} (ok : E.Ok) {σ : Sig} {A : AH} {w : World} (R : Rel E.P σ A w) {B2 n k : Nat} {p : Option Prop} {v : Value} {t1 : T AObj} (h : frzV E A B2 n k = some (p, v)) (hp : PH p) (ht1 : T.set FU A.t B2 .dead = some t1) :
 ∃ σ', Rel E.P σ' ⟨t1, A.next⟩ w ∧ Ext σ A w σ' ⟨t1, A.next⟩ w ∧ ∀ v', VR σ' (.slice (some ⟨B2, 0, none⟩) n k) v' → VR σ' v v' := by
 unfold frzV at h
 split at h
 · rename_i c2 e2 h2
   split at h
   · rename_i i2 d2 hi2 hd2
     cases hb : (Nat.blt k unk && (Nat.ble n k && Nat.beq (c2.take (n * i2.size)).length (n * i2.size))) && ((c2.take (n * i2.size)).all cellv && (isAggD d2 || Nat.beq i2.size 1)) with
     | false => rw [hb] at h; simp at h
     | true =>
       rw [hb] at h
       simp only [cond_true, Option.some.injEq, Prod.mk.injEq] at h
       obtain ⟨rfl, rfl⟩ := h
       simp only [Bool.and_eq_true, Bool.or_eq_true, Nat.ble_eq, Nat.beq_eq, Nat.blt_eq] at hb
       obtain ⟨⟨b0, b1, b2⟩, b3, b4⟩ := hb
       obtain ⟨p1, p2, p3⟩ := chunk_ok b4 n _ b2 b3
       exact freezeC R h2 b0 b1 p3 p2 p1 (by simp at b2; omega) ht1
   · cases h
 · rename_i els tl e2 h2
   split at h
   · rename_i i2 hi2
     cases hb : (isG k && Nat.beq i2.size (gsz k)) with
     | false => rw [hb] at h; simp at h
     | true =>
       rw [hb] at h
       simp only [cond_true, Option.some.injEq, Prod.mk.injEq] at h
       obtain ⟨rfl, rfl⟩ := h
       simp only [Bool.and_eq_true, Nat.beq_eq] at hb
       have hp : (glue els tl).length = n := hp
       rw [glue_eq] at hp ⊢
       exact freezeG R h2 hb.1 (by simp [Program.cellsOf, ok.ti _ _ hi2, hb.2]) hp ht1
   · cases h
 · cases h
def findS : List Value → Nat → Option (Nat × Nat × Nat × Nat)
 | [], _ => none
 | v :: l, j => match v with
   | .slice (some ⟨B, 0, none⟩) n k => some (j, B, n, k)
   | _ => findS l (j + 1)
theorem findS_ok : ∀ {l : List Value} {i j B n k : Nat}, findS l i = some (j, B, n, k) → ∃ m, j = i + m ∧ l[m]? = some (.slice (some ⟨B, 0, none⟩) n k)
 | [], i, j, B, n, k, h => by simp [findS] at h
 | v :: l, i, j, B, n, k, h => by
   unfold findS at h
   split at h
   · simp only [Option.some.injEq, Prod.mk.injEq] at h
     obtain ⟨rfl, rfl, rfl, rfl⟩ := h
     exact ⟨0, rfl, rfl⟩
   · obtain ⟨m, h1, h2⟩ := findS_ok h
     exact ⟨m + 1, by omega, by simpa using h2⟩
def frzT (E : Env) (B : Nat) : Nat → AH → (AH → Prop) → Prop
 | 0, A, K => K A
 | m + 1, A, K => match A.t.get B with
   | some (.gro els tl e) => (match findS (cellsL tl) 0 with
     | some r => (match frzV E A r.2.1 r.2.2.1 r.2.2.2, T.set FU A.t r.2.1 .dead, E.ti e, und E e with
       | some q, some t1, some ie, some d => bif Nat.beq B r.2.1 || !(((((cellsL tl).set r.1 q.2).all cellv) && Nat.beq ((cellsL tl).set r.1 q.2).length (tl.length * ie.size)) && (isAggD d || Nat.beq ie.size 1)) then False else
         (match T.set FU t1 B (.gro els (chunk (isAggD d) ie.size tl.length ((cellsL tl).set r.1 q.2)) e) with
         | some t2 => pc q.1 (frzT E B m ⟨t2, A.next⟩ K)
         | none => False)
       | _, _, _, _ => False)
     | none => K A)
   | _ => K A
theorem frzT_ok {E : Env} (ok : E.Ok) {B : Nat} : ∀ {m : Nat} {A : AH} {K : AH → Prop}, frzT E B m A K → ∃ A', K A' ∧ ∀ (σ : Sig) (w : World), Rel E.P σ A w → ∃ σ', Rel E.P σ' A' w ∧ Ext σ A w σ' A' w
 | 0, A, K, h => ⟨A, h, fun σ w R => ⟨σ, R, Ext.refl _ _ _⟩⟩
 | m + 1, A, K, h => by
   unfold frzT at h
   split at h
   · rename_i els tl e hB
     split at h
     · rename_i r hr
       split at h
       · rename_i q t1 ie d hq ht1 hie hd
         cases hb : (Nat.beq B r.2.1 || !(((((cellsL tl).set r.1 q.2).all cellv) && Nat.beq ((cellsL tl).set r.1 q.2).length (tl.length * ie.size)) && (isAggD d || Nat.beq ie.size 1))) with
         | true => rw [hb] at h; exact h.elim
         | false =>
           rw [hb] at h
           simp only [cond_false] at h
           simp only [Bool.or_eq_false_iff, Bool.not_eq_false', Bool.and_eq_true, Bool.or_eq_true, Nat.beq_eq] at hb
           obtain ⟨hne, ⟨c1, c2⟩, c3⟩ := hb
           have hne := beq_false_ne hne
           split at h
           · rename_i t2 ht2
             obtain ⟨hp, h⟩ := pc_iff h
             obtain ⟨A', hK, hA'⟩ := frzT_ok ok h
             refine ⟨A', hK, fun σ w R => ?_⟩
             obtain ⟨σ1, R1, X1, hv⟩ := frzV_ok ok R (p := q.1) (v := q.2) hq hp ht1
             obtain ⟨mm, q1, q2⟩ := findS_ok (i := 0) (j := r.1) (B := r.2.1) (n := r.2.2.1) (k := r.2.2.2) hr
             obtain ⟨p1, p2, p3⟩ := chunk_ok c3 tl.length _ c2 c1
             have hco : E.P.cellsOf e = ie.size := by simp [Program.cellsOf, ok.ti _ _ hie]
             have hB1 : (⟨t1, A.next⟩ : AH).t.get B = some (.gro els tl e) := by
              show t1.get B = _
              rw [T.get_set ht1, if_neg hne]; exact hB
             obtain ⟨R2, X2⟩ := retellTail R1 hB1 (p := r.1) (by rw [q1, Nat.zero_add]; exact q2) hv p1 (by rw [hco]; exact p2) p3 ht2
             obtain ⟨σ2, R3, X3⟩ := hA' σ1 w R2
             exact ⟨σ2, R3, X1.trans (X2.trans X3)⟩
           · exact h.elim
       · exact h.elim
     · exact ⟨A, h, fun σ w R => ⟨σ, R, Ext.refl _ _ _⟩⟩
   · exact ⟨A, h, fun σ w R => ⟨σ, R, Ext.refl _ _ _⟩⟩
def sxCall (tab : Tab) (inl : Inl) (E : Env) (A : AH) (g : FuncId) (args : List Value) (K : KV) : Prop :=
 match E.fn g with
 | some fn => (match tabOf tab g with
   | some x => (match x args A with | some r => pc r.1 (K r.2.1 r.2.2) | none => Stop (g, args))
   | none => inl fn args A K)
 | none => (match E.ext g with
   | some x => (match x args A with | some r => K r.1 r.2 | none => Stop (g, args))
   | none => Stop (g, args))
def sxEff0 (tab : Tab) (inl : Inl) (E : Env) (A : AH) (ρ : Operand → Option Value) (op : Op) (K : KV) : Prop :=
 match effA E A ρ op with
 | some r => K r.1 r.2
 | none => (match enterA E ρ op with
   | some r => sxCall tab inl E A r.1 r.2 K
   | none => Stop (op, A))
def appT (E : Env) (A : AH) (ts : List TypeId) (b : Value) (s : ByteArray) : Option (Option Prop × Value × AH) :=
 match ts with
 | [t, tx] => (match und E t, und E tx with
   | some (.slice e), some .string => (match E.ti e with
     | some ie => (match ie.zero with
       | some z => bif Nat.beq ie.size 1 && Nat.beq z.cells.toList.length 1 then
        (match b with
        | .slice none sl sk => bif Nat.beq sl 0 && Nat.beq sk 0 then
         (match newBlock A (.cells (s.data.toList.map fun b => .int .u8 b.toNat) e) with
         | some A' => some (some (s.size ≤ 70368744177664 ∧ s.size * ie.bytes ≤ 140737488355328), .slice (some ⟨A.next, 0, none⟩) s.size unk, A')
         | none => none) else none
        | .slice (some ⟨B, o, none⟩) sl sk => bif Nat.beq sk unk then
         (match A.t.get B with
         | some (.cells c eb) => bif Nat.beq eb e then
           (match T.set FU A.t B .dead with
           | some t' => (match T.set FU t' A.next (.cells (c.take (sl * ie.size) ++ s.data.toList.map fun b => .int .u8 b.toNat) e) with
             | some t'' => some (some (sl + s.size ≤ 70368744177664 ∧ (sl + s.size) * ie.bytes ≤ 140737488355328 ∧ sl * ie.size ≤ c.length), .slice (some ⟨A.next, 0, none⟩) (sl + s.size) unk, ⟨t'', A.next + 1⟩)
             | none => none)
           | none => none) else none
         | _ => none) else none
        | _ => none) else none
       | none => none)
     | none => none)
   | _, _ => none)
 | _ => none
theorem appT_ok {E : Env} {A : AH} {ts : List TypeId} {b : Value} {s : ByteArray} {p : Option Prop} {v : Value} {A' : AH} (h : appT E A ts b s = some (p, v, A')) :
    (Nat.beq s.size 0 = true → appAll E A ts b (.string s) = some (b, A)) ∧ (Nat.beq s.size 0 = false → PH p → appAll E A ts b (.string s) = some (v, A')) := by
  unfold appT at h
  split at h
  · rename_i t tx
    split at h
    · rename_i e hu hx
      split at h
      · rename_i ie hie
        split at h
        · rename_i z hz
          cases hb : Nat.beq ie.size 1 && Nat.beq z.cells.toList.length 1 with
          | false => rw [hb] at h; cases h
          | true =>
            rw [hb] at h
            simp only [cond_true] at h
            simp only [Bool.and_eq_true] at hb
            obtain ⟨q1, q2⟩ := hb
            have q3 : Nat.beq z.cells.toList.length ie.size = true := by rw [Nat.beq_eq] at q1 q2 ⊢; omega
            have q4 : Nat.blt 0 ie.size = true := by rw [Nat.beq_eq] at q1; rw [Nat.blt_eq]; omega
            have q5 : slcOrStr .string = true := rfl
            split at h
            · rename_i sl sk
              cases hk : Nat.beq sl 0 && Nat.beq sk 0 with
              | false => rw [hk] at h; cases h
              | true =>
                rw [hk] at h
                simp only [cond_true] at h
                split at h
                · rename_i A1 hA
                  simp only [Option.some.injEq, Prod.mk.injEq] at h
                  obtain ⟨rfl, rfl, rfl⟩ := h
                  refine ⟨fun h0 => ?_, fun h0 hp => ?_⟩
                  · simp only [appAll, appendA, hu, hx, hie, hz, srcA, q1, q3, q4, q5, hk, h0, Bool.and_self, cond_true]
                  · obtain ⟨g1, g2⟩ : s.size ≤ 70368744177664 ∧ s.size * ie.bytes ≤ 140737488355328 := hp
                    have e1 : Nat.ble s.size 70368744177664 = true := by rw [Nat.ble_eq]; exact g1
                    have e2 : Nat.ble (s.size * ie.bytes) 140737488355328 = true := by rw [Nat.ble_eq]; exact g2
                    simp only [appAll, appendA, hu, hx, hie, hz, srcA, q1, q3, q4, q5, hk, h0, e1, e2, hA, Bool.and_self, cond_true, cond_false]
                · cases h
            · rename_i B o sl sk
              cases hk : Nat.beq sk unk with
              | false => rw [hk] at h; cases h
              | true =>
                rw [hk] at h
                obtain rfl := Nat.eq_of_beq_eq_true hk
                simp only [cond_true] at h
                have hG : isG unk = false := by decide
                split at h
                · rename_i c eb hB
                  cases he : Nat.beq eb e with
                  | false => rw [he] at h; cases h
                  | true =>
                    rw [he] at h
                    simp only [cond_true] at h
                    split at h
                    · rename_i t1 ht1
                      split at h
                      · rename_i t2 ht2
                        simp only [Option.some.injEq, Prod.mk.injEq] at h
                        obtain ⟨rfl, rfl, rfl⟩ := h
                        have e3 : Nat.ble unk unk = true := by decide
                        have e4 : Nat.blt unk unk = false := by decide
                        refine ⟨fun h0 => ?_, fun h0 hp => ?_⟩
                        · simp only [appAll, hG, appendA, hu, hx, hie, hz, srcA, q1, q3, q4, q5, h0, e3, Bool.and_self, Bool.true_or, cond_true]
                        · obtain ⟨g1, g2, g3⟩ : sl + s.size ≤ 70368744177664 ∧ (sl + s.size) * ie.bytes ≤ 140737488355328 ∧ sl * ie.size ≤ c.length := hp
                          have e1 : Nat.ble (sl + s.size) 70368744177664 = true := by rw [Nat.ble_eq]; exact g1
                          have e2 : Nat.ble ((sl + s.size) * ie.bytes) 140737488355328 = true := by rw [Nat.ble_eq]; exact g2
                          have e5 : Nat.ble (sl * ie.size) c.length = true := by rw [Nat.ble_eq]; exact g3
                          simp only [appAll, hG, appendA, hu, hx, hie, hz, srcA, q1, q3, q4, q5, h0, e1, e2, e4, e5, hk, hB, he, ht1, ht2, Bool.and_self, cond_true, cond_false]
                      · cases h
                    · cases h
                · cases h
            · cases h
        · cases h
      · cases h
    · cases h
  · cases h
def sxT (E : Env) (el : El) (A : AH) (ρ : Operand → Option Value) (op : Op) : Option (ByteArray × Value × (Option Prop × Value × AH)) :=
 match op with
 | .call c => (match c.callee with
   | .builtin .append => (match el.app, c.args.toList with
     | true, [x, y] => (match ρ x, ρ y with
       | some b, some (.string s) => (match appT E A c.argTypes.toList b s with | some r => some (s, b, r) | none => none)
       | _, _ => none)
     | _, _ => none)
   | _ => none)
 | _ => none
theorem sxT_ok {E : Env} {el : El} {A : AH} {ρ : Operand → Option Value} {op : Op} {s : ByteArray} {b : Value} {r : Option Prop × Value × AH} (h : sxT E el A ρ op = some (s, b, r)) :
 (Nat.beq s.size 0 = true → effA E A ρ op = some (b, A)) ∧ (Nat.beq s.size 0 = false → PH r.1 → effA E A ρ op = some (r.2.1, r.2.2)) := by
 unfold sxT at h
 split at h
 · rename_i c
   split at h
   · rename_i hc
     split at h
     · rename_i x y happ hargs
       split at h
       · rename_i b0 s0 hx hy
         split at h
         · rename_i r0 hr
           simp only [Option.some.injEq, Prod.mk.injEq] at h
           obtain ⟨rfl, rfl, rfl⟩ := h
           have := appT_ok (p := r0.1) (v := r0.2.1) (A' := r0.2.2) hr
           simp only [effA, hc, effB, hargs, hx, hy]
           exact this
         · cases h
       · cases h
     · cases h
   · cases h
 · cases h
def sxEff (tab : Tab) (inl : Inl) (E : Env) (el : El) (A : AH) (ρ : Operand → Option Value) (op : Op) (K : KV) : Prop :=
 match sxT E el A ρ op with
 | some r => Sp (Nat.beq r.1.size 0) (K r.2.1 A) (pc r.2.2.1 (K r.2.2.2.1 r.2.2.2.2))
 | none => (match sxG1 E el A ρ op with
   | some r => pc r.1 (K r.2.1 r.2.2)
   | none => sxEff0 tab inl E A ρ op K)
def sxMk (E : Env) (el : El) (A : AH) (ρ : Operand → Option Value) (op : Op) : Option (Option Prop × Value × AH) :=
 match op with
 | .makeSlice t l c => (match und E t with
   | some (.slice e) => (match el.gm e with
     | true => (match ρ l, ρ c, E.ti e with
       | some (.int _ l), some (.int _ c), some ie => (match ie.zero with
         | some z => bif z.cells.toList.all scal && (Nat.beq z.cells.toList.length ie.size && Nat.blt 0 ie.size) then
          (match T.set FU A.t A.next (.gro (List.replicate l.toNat z) [] e) with
          | some t => some (some (0 ≤ l ∧ l ≤ c ∧ c ≤ 281474976710656 ∧ ie.bytes * c.toNat ≤ 281474976710656), .slice (some ⟨A.next, 0, none⟩) l.toNat (unk + 3 + ie.size), ⟨t, A.next + 1⟩)
          | none => none) else none
         | none => none)
       | _, _, _ => none)
     | false => none)
   | _ => none)
 | _ => none
theorem cellsL_replicate (z : Value) : ∀ n : Nat, cellsL (List.replicate n z) = rep z.cells.toList n
 | 0 => rfl
 | n + 1 => by rw [List.replicate_succ, cellsL_cons, cellsL_replicate z n]; rfl
theorem sxMk_ok {E : Env} (ok : E.Ok) {el : El} {σ : Sig} {A A' : AH} {w : World} (R : Rel E.P σ A w) {ρ : Operand → Option Value} {o : Oper} {a : Act} (hρ : OpR σ ρ a.eval) {p : Option Prop} {v : Value} (h : sxMk E el A ρ o.op = some (p, v, A')) (hp : PH p) : Does E σ A w o a v A' := by
 unfold sxMk at h
 split at h
 · rename_i t l c hop
   split at h
   · rename_i e hu
     split at h
     · split at h
       · rename_i k1 l0 k2 c0 ie hl hc hie
         split at h
         · rename_i z hz
           cases hb : (z.cells.toList.all scal && (Nat.beq z.cells.toList.length ie.size && Nat.blt 0 ie.size)) with
           | false => rw [hb] at h; simp at h
           | true =>
             rw [hb] at h
             simp only [cond_true] at h
             split at h
             · rename_i t2 ht
               simp only [Option.some.injEq, Prod.mk.injEq] at h
               obtain ⟨rfl, rfl, rfl⟩ := h
               obtain ⟨q1, q2, q3, q4⟩ : 0 ≤ l0 ∧ l0 ≤ c0 ∧ c0 ≤ 281474976710656 ∧ ie.bytes * c0.toNat ≤ 281474976710656 := hp
               simp only [Bool.and_eq_true] at hb
               have e4 : Nat.ble (ie.bytes * c0.toNat) 281474976710656 = true := by rw [Nat.ble_eq]; exact q4
               have hal : allocA E ρ o.op = some (.cells (rep z.cells.toList c0.toNat) e, fun id => .slice (some ⟨id, 0, none⟩) l0.toNat c0.toNat) := by
                rw [hop]
                simp only [allocA, hu, hl, hc, hie, hz, hb.1, hb.2.1, hb.2.2, q1, q2, q3, e4, decide_true, Bool.and_self, cond_true]
               obtain ⟨ob', fv', h1, h2, h3, h4⟩ := alloc_ok ok hρ hal
               have hid : σ A.next = none := R.fresh _ (Nat.le_refl _)
               have hsub := upd_sub (x := (w.heap.size, 0, c0.toNat)) hid
               obtain ⟨c', lo, hi, g1, g2, g3, g4, g5⟩ := h2 _ hsub
               obtain rfl := Option.some.inj g1
               have hv := h3 (upd σ A.next (w.heap.size, 0, c0.toNat)) A.next w.heap.size c0.toNat upd_same
               have hrun := h1 w
               have hy : fv' w.heap.size = .slice (some ⟨w.heap.size, 0, none⟩) l0.toNat c0.toNat := by
                have hlt : c0.toNat < unk := by unfold unk; omega
                clear hrun h1 h3 g1 g2 g3 g4 g5 h2 hal q4 e4
                generalize l0.toNat = ln at hv ⊢
                generalize c0.toNat = cn at hv hlt ⊢
                generalize fv' w.heap.size = y at hv ⊢
                cases hv with
                | slice _ _ _ hσ _ =>
                  have hσ : upd σ A.next (w.heap.size, 0, cn) A.next = _ := hσ
                  rw [upd_same] at hσ
                  cases hσ
                  rfl
                | sliceU _ _ _ => omega
                | sliceV _ _ _ _ _ => omega
                | sliceE => omega
                | gs0 _ _ _ _ hm => omega
                | gs _ _ _ _ _ _ _ _ _ hm => omega
               rw [hy] at hrun
               have hzs : z.cells.toList.length = ie.size := Nat.eq_of_beq_eq_true hb.2.1
               have hco : E.P.cellsOf e = ie.size := by simp [Program.cellsOf, ok.ti _ _ hie]
               have hzc : ∀ x ∈ List.replicate l0.toNat z, x.cells.size = E.P.cellsOf e := fun x hx => by
                rw [hco, (List.mem_replicate.1 hx).2]; simpa using hzs
               have hrl := rep_length z.cells.toList c0.toNat
               rw [hzs] at hrl
               have hcsz : c0.toNat * ie.size ≤ c'.size := by
                by_cases h0 : c0.toNat * ie.size = 0
                · omega
                · obtain ⟨u, k1, _⟩ := g3 (c0.toNat * ie.size - 1) _ (List.getElem?_eq_getElem (by omega))
                  have := (Array.getElem?_eq_some_iff.1 k1).1
                  omega
               have hle : l0.toNat * ie.size ≤ c0.toNat * ie.size := Nat.mul_le_mul_right _ (by omega)
               have hpos : 0 < ie.size := by simpa using hb.2.2
               refine does_of_good (Good.value hrun ?_ (R.alloc (cp := c0.toNat) ht hid (Nat.lt_succ_self _) (Nat.le_succ _) ⟨c', lo, hi, rfl, g2, fun i v hiv => ?_, by rw [List.append_nil]; exact hzc, by rw [hco]; omega, by simp; omega⟩ rfl) (Ext.alloc R ht (Nat.le_succ _) (ob := .cells c' e (lo, hi)) rfl rfl rfl rfl))
               · exact .gs 0 0 _ _ _ upd_same (by omega) (by omega) (by omega) (by omega)
               · rw [List.append_nil, cellsL_replicate] at hiv
                 have hil : i < l0.toNat * ie.size := by have := (List.getElem?_eq_some_iff.1 hiv).1; rwa [rep_length, hzs] at this
                 have hi2 : (rep z.cells.toList c0.toNat)[i]? = some v := by
                  rw [rep_get z.cells.toList (by omega) _ _ (by rw [hzs]; omega), ← rep_get z.cells.toList (by omega) l0.toNat i (by rw [hzs]; exact hil)]
                  exact hiv
                 exact g3 i v hi2
             · cases h
         · cases h
       · cases h
     · cases h
   · cases h
 · cases h
def sxBy (E : Env) (el : El) (A : AH) (ρ : Operand → Option Value) (op : Op) : Option (Option Prop × Value × AH) :=
 match op with
 | .convert s d x => (match ρ x with
   | some (.string b) => (match und E s, und E d with
     | some ds, some (.slice e) => (match el.gm e with
       | true => (match und E e, E.ti e with
         | some (.int .u8), some ie => bif Nat.beq ie.size 1 then (match T.set FU A.t A.next (.cells (b.data.toList.map fun b => .int .u8 b.toNat) e) with
           | some t1 => (match T.set FU t1 A.next (.gro (b.data.toList.map fun b => .int .u8 b.toNat) [] e) with
             | some t2 => some (none, .slice (some ⟨A.next, 0, none⟩) b.size (unk + 3 + 1), ⟨t2, A.next + 1⟩)
             | none => none)
           | none => none) else none
         | _, _ => none)
       | false => none)
     | _, _ => none)
   | some (.slice (some ⟨B, o, none⟩) n k) => (match isG k, und E s, und E d, A.t.get B with
     | true, some (.slice e), some .string, some (.gro els tl eb) => (match und E e, E.ti eb with
       | some (.int .u8), some ie => bif Nat.beq ie.size 1 && Nat.beq (gsz k) 1 then some (some (IsB (glue els tl) o n), .string (mkBytes (u8L (glue els tl) o n)), A) else none
       | _, _ => none)
     | _, _, _, _ => none)
   | _ => none)
 | _ => none
theorem sxBy_ok {E : Env} (ok : E.Ok) {el : El} {σ : Sig} {A A' : AH} {w : World} (R : Rel E.P σ A w) {ρ : Operand → Option Value} {o : Oper} {a : Act} (hρ : OpR σ ρ a.eval) {p : Option Prop} {v : Value} (h : sxBy E el A ρ o.op = some (p, v, A')) (hp : PH p) : Does E σ A w o a v A' := by
 unfold sxBy at h
 split at h
 · rename_i s d x hop
   split at h
   · rename_i b hx
     split at h
     · rename_i ds e hs hd
       split at h
       · split at h
         · rename_i ie he hie
           cases hb : Nat.beq ie.size 1 with
           | false => rw [hb] at h; cases h
           | true =>
             rw [hb] at h
             simp only [cond_true] at h
             split at h
             · rename_i t1 ht1
               split at h
               · rename_i t2 ht2
                 simp only [Option.some.injEq, Prod.mk.injEq] at h
                 obtain ⟨rfl, rfl, rfl⟩ := h
                 have hb1 := Nat.eq_of_beq_eq_true hb
                 have hco : E.P.cellsOf e = 1 := by simp [Program.cellsOf, ok.ti _ _ hie, hb1]
                 have hA : s2bA E A s d (.string b) = some (.slice (some ⟨A.next, 0, none⟩) b.size unk, ⟨t1, A.next + 1⟩) := by
                  simp only [s2bA, hs, hd, he, hie, hb, cond_true, newBlock, ht1]
                 obtain ⟨v', w', σ', r1, r2, r3, r4⟩ := s2b_ok ok R (hρ x _ hx) hA
                 have hget : (⟨t1, A.next + 1⟩ : AH).t.get A.next = some (.cells (b.data.toList.map fun b => Value.int .u8 b.toNat) e) := by
                  show t1.get A.next = _
                  rw [T.get_set ht1, if_pos rfl]
                 have hlen : (b.data.toList.map fun b => Value.int .u8 b.toNat).length = b.size := by simp
                 have hc1 : ∀ x ∈ (b.data.toList.map fun b => Value.int .u8 b.toNat), x.cells.size = 1 := fun x hx => by obtain ⟨z, _, rfl⟩ := List.mem_map.1 hx; rfl
                 have hcl : cellsL (b.data.toList.map fun b => Value.int .u8 b.toNat) = b.data.toList.map fun b => Value.int .u8 b.toNat := by
                  generalize b.data.toList = l
                  induction l with
                  | nil => rfl
                  | cons y l ih => rw [List.map_cons, cellsL_cons, ih]; rfl
                 generalize hy : (.slice (some ⟨A.next, 0, none⟩) b.size unk : Value) = y at r2
                 cases r2 with
                 | sliceU n hσ hn =>
                   simp only [Value.slice.injEq] at hy
                   obtain ⟨hB, rfl, _⟩ := hy
                   simp only [Option.some.injEq, Addr.mk.injEq, and_true] at hB
                   subst hB
                   rename_i bb dd cc _
                   obtain ⟨c', lo, hi, g1, g2, g3, g4, g5⟩ := r3.at hget rfl hσ
                   have hor : OR E.P σ' w'.heap[bb]? dd cc (.gro (b.data.toList.map fun b => Value.int .u8 b.toNat) [] e) := by
                    refine ⟨c', lo, hi, g1, g2, ?_, ?_, g4, ?_⟩
                    · rw [List.append_nil, hcl]; exact g3
                    · rw [List.append_nil, hco]; exact hc1
                    · rw [List.append_nil, hlen]; exact hn
                   have R2 := r3.upd hget rfl hσ ht2 rfl rfl (fun _ _ => rfl) hor
                   have X2 : Ext σ' ⟨t1, A.next + 1⟩ w' σ' ⟨t2, A.next + 1⟩ w' := Ext.upd hget rfl hσ ht2 rfl (fun _ _ => rfl) rfl rfl rfl
                   refine does_of_good (Good.value (v' := .slice (some ⟨bb, dd, none⟩) b.size cc) (by unfold execOp; rw [hop]; simp [r1]) ?_ R2 (r4.trans X2))
                   have := VR.gs (σ := σ') (B := A.next) (m := unk + 3 + 1) 0 0 b.size cc hσ hn (by omega) (by omega) (by omega)
                   simpa using this
                 | slice i n k hσ hk =>
                   simp only [Value.slice.injEq] at hy
                   obtain ⟨_, _, h3⟩ := hy
                   omega
                 | _ => first | (simp only [Value.slice.injEq] at hy; obtain ⟨_, _, h3⟩ := hy; omega) | (simp at hy; done) | (cases hy; done)
               · cases h
             · cases h
         · cases h
       · cases h
     · cases h
   · rename_i B o' n k hx
     split at h
     · rename_i e els tl eb hg hs hd hB
       split at h
       · rename_i ie he hie
         cases hb : Nat.beq ie.size 1 && Nat.beq (gsz k) 1 with
         | false => rw [hb] at h; cases h
         | true =>
           rw [hb] at h
           simp only [cond_true, Option.some.injEq, Prod.mk.injEq] at h
           obtain ⟨rfl, rfl, rfl⟩ := h
           simp only [Bool.and_eq_true, Nat.beq_eq] at hb
           obtain ⟨bs, q1, q2, q3⟩ := isB_get hp
           rw [q3]
           have hco : E.P.cellsOf eb = 1 := by simp [Program.cellsOf, ok.ti _ _ hie, hb.1]
           rcases gs_cases (hρ x _ hx) hg with ⟨e0, ad, ey⟩ | ⟨b, dd, c, lo, kk, hσ, ey, hnk, hc, eo⟩
           · have hbs : bs = [] := List.eq_nil_of_length_eq_zero (by omega)
             subst hbs
             refine does_of_good (Good.value (v' := .string ByteArray.empty) (w' := w) ?_ ?_ R (Ext.refl _ _ _))
             · unfold execOp
               rw [hop]
               have : (convert s d (.slice ad 0 0)).run E.P w = .ok (.string ByteArray.empty) w := by
                cases ad with
                | none => simp [convert, run_und ok hs, run_und ok hd, run_und ok he, Conv.bytesToString]
                | some a' =>
                  simp only [convert, Sem.run_bind, run_und ok hs, run_und ok hd, Result.andThen_ok, run_und ok he]
                  have := run_bytesToString (P := E.P) w a' 0 0 [] (by simp [loadCells, loadCellsFrom])
                  simpa using this
               simp [ey, this]
             · have : ByteArray.empty = mkBytes [] := by apply WideShapes.bytes_inj; rfl
               rw [this]; exact .string _
           · obtain ⟨c', l0, h0, g1, g2, g3, g4, g5, g6⟩ := R.at hB rfl hσ
             rw [hco] at g4
             rw [← glue_eq] at g3 g4
             have hcell : ∀ j z, (bs.map fun b => Value.int .u8 (b.toNat : Int))[j]? = some z → w.cell? ((⟨b, dd + o', none⟩ : Addr).add j) = some z := fun j z hz => by
              have hj : j < n := by have := (List.getElem?_eq_some_iff.1 hz).1; simp at this; omega
              have h1 : (glue els tl)[o' + j]? = some z := by
               rw [← q1, List.getElem?_take, if_pos hj, List.getElem?_drop] at hz; exact hz
              have h2 : (cellsL (glue els tl))[(o' + j) * 1 + 0]? = z.cells.toList[0]? := cellsL_at g4 h1 0 (by decide)
              rw [Nat.mul_one, Nat.add_zero] at h2
              have hzi : ∃ q : UInt8, z = .int .u8 (q.toNat : Int) := by
               rw [List.getElem?_map] at hz
               cases hq : bs[j]? with
               | none => rw [hq] at hz; cases hz
               | some q => rw [hq] at hz; exact ⟨q, (Option.some.inj hz).symm⟩
              obtain ⟨q, rfl⟩ := hzi
              obtain ⟨z', k1, k2⟩ := g3 (o' + j) _ h2
              cases k2
              rw [add_none]
              simp only [World.cell?, g1, Option.isSome_none, Bool.false_eq_true, if_false]
              rw [Nat.add_assoc]; exact k1
             have hrun := run_loadCells_list (P := E.P) w ⟨b, dd + o', none⟩ (bs.map fun b => Value.int .u8 (b.toNat : Int)) hcell
             rw [List.length_map, q2] at hrun
             refine does_of_good (Good.value (v' := .string (mkBytes bs)) (w' := w) ?_ (.string _) R (Ext.refl _ _ _))
             unfold execOp
             rw [hop]
             have e1 : (bs.map fun b => Value.int .u8 (b.toNat : Int)) = (bs.map fun b => (b.toNat : Int)).map (Value.int .u8) := by rw [List.map_map]; rfl
             rw [e1] at hrun
             have : (convert s d (.slice (some ⟨b, dd + o', none⟩) n kk)).run E.P w = .ok (.string (mkBytes bs)) w := by
              simp only [convert, Sem.run_bind, run_und ok hs, run_und ok hd, Result.andThen_ok, run_und ok he]
              rw [run_bytesToString (P := E.P) w _ n kk _ hrun, foldl_push, List.map_map]
              have e2 : bs.map ((fun n : Int => UInt8.ofNat n.toNat) ∘ fun b : UInt8 => (b.toNat : Int)) = bs := by
               conv => rhs; rw [← List.map_id bs]
               exact List.map_congr_left fun q _ => by simp
              rw [e2]; rfl
             simp [ey, this]
       · cases h
     · cases h
   · cases h
 · cases h
def sxOp (tab : Tab) (inl : Inl) (E : Env) (el : El) (A : AH) (ρ : Operand → Option Value) (ty : TypeId) (op : Op) (K : KV) : Prop :=
 match sxQ E el A ρ ty op with
 | some r => pc r.1 (K r.2 A)
 | none => (match sxMk E el A ρ op with
   | some r => pc r.1 (K r.2.1 r.2.2)
   | none => (match sxBy E el A ρ op with
     | some r => pc r.1 (K r.2.1 r.2.2)
     | none => (match allocA E ρ op with
       | some r => (match newBlock A r.1 with | some A' => K (r.2 A.next) A' | none => False)
       | none => sxEff tab inl E el A ρ op K)))
def sxOps (tab : Tab) (inl : Inl) (E : Env) (el : El) (ops : List Oper) (n : Nat) (l : List Oper) : T Value → AH → KF → Prop :=
 List.rec (motive := fun _ => T Value → AH → KF → Prop) (fun F A K => K F A)
  (fun o _ ih F A K => sxG ops F o (fun F => sxOp tab inl E el A (ev E F) o.type o.op (fun v A' => putK n F o.dst v (fun F' => ih F' A' K))) (fun F => putK n F o.dst undef (fun F' => ih F' A K))) l
def InlOk (E : Env) (inl : Inl) : Prop := ∀ g fn, E.fn g = some fn → ∀ args A K, inl fn args A K → ∀ σ w args', Rel E.P σ A w → Glob E σ → VRs σ args args' →
 Calls E.P g ⟨args'⟩ w (fun e w' => ∃ v A' v' σ', e = .returned v' ∧ K v A' ∧ VR σ' v v' ∧ Rel E.P σ' A' w' ∧ Ext σ A w σ' A' w')
def DoesK (E : Env) (σ : Sig) (A : AH) (w : World) (o : Oper) (a : Act) (K : KV) : Prop :=
 ∀ (K1 : Act → World → Prop) (Q : Exit → Act → World → Prop), (∀ v A' v' w' σ', K v A' → VR σ' v v' → Rel E.P σ' A' w' → Ext σ A w σ' A' w' → K1 (a.put o.dst v') w') → o.wp E.P a w K1 Q
theorem DoesK.of {E : Env} {σ : Sig} {A A' : AH} {w : World} {o : Oper} {a : Act} {v : Value} {K : KV} (h : Does E σ A w o a v A') (k : K v A') : DoesK E σ A w o a K :=
 fun K1 Q hK => h K1 Q fun v' w' σ' h1 h2 h3 => hK v A' v' w' σ' k h1 h2 h3
theorem sxOp_ok {E : Env} (ok : E.Ok) (hs : E.sym = true) {tab : Tab} (ht : TabOk E tab) {inl : Inl} (hi : InlOk E inl) {el : El} {σ : Sig} {A : AH} {w : World} (R : Rel E.P σ A w) (hg : Glob E σ) {ρ : Operand → Option Value} {o : Oper} {a : Act} (hρ : OpR σ ρ a.eval) {K : KV}
 (h : sxOp tab inl E el A ρ o.type o.op K) : DoesK E σ A w o a K := by
 unfold sxOp at h
 split at h
 · rename_i r hr
   obtain ⟨hp, k⟩ := pc_iff h
   exact .of (does_quiet ok R hρ (sxQ_ok hs hr hp)) k
 · split at h
   · rename_i r hr
     obtain ⟨hp, k⟩ := pc_iff h
     exact .of (sxMk_ok ok R hρ (p := r.1) (v := r.2.1) (A' := r.2.2) hr hp) k
   split at h
   · rename_i r hr
     obtain ⟨hp, k⟩ := pc_iff h
     exact .of (sxBy_ok ok R hρ (p := r.1) (v := r.2.1) (A' := r.2.2) hr hp) k
   split at h
   · rename_i r hr
     split at h
     · rename_i A' hn
       exact .of (does_alloc ok R hρ (ob := r.1) (fv := r.2) hr hn) h
     · exact h.elim
   · suffices key : ∀ K, sxEff0 tab inl E A ρ o.op K → DoesK E σ A w o a K by
      unfold sxEff at h
      split at h
      · rename_i r hr
        have ht := sxT_ok (s := r.1) (b := r.2.1) (r := r.2.2) hr
        rcases Sp.cases h with ⟨hz, k⟩ | ⟨hz, k⟩
        · exact .of (does_of_good (eff_ok ok R hρ (ht.1 hz))) k
        · obtain ⟨hp, k⟩ := pc_iff k
          exact .of (does_of_good (eff_ok ok R hρ (ht.2 hz hp))) k
      split at h
      · rename_i r hr
        obtain ⟨hp, k⟩ := pc_iff h
        exact .of (does_of_good (eff_ok ok R hρ (sxG1_ok (p := r.1) (v := r.2.1) (A' := r.2.2) hr hp))) k
      · exact key _ h
     clear h
     intro K h
     unfold sxEff0 at h
     split at h
     · rename_i r hr
       exact .of (does_of_good (eff_ok ok R hρ hr)) h
     · split at h
       · rename_i r hen
         obtain ⟨args', ha, hrun⟩ := enter_ok ok hρ (g := r.1) (args := r.2) hen
         unfold sxCall at h
         split at h
         · rename_i fn hfn
           have enter : ∀ Q1 : Ending → World → Prop, True := fun _ => trivial
           split at h
           · rename_i x hx
             split at h
             · rename_i r2 hr2
               obtain ⟨hp, k⟩ := pc_iff h
               intro K1 Q hK
               unfold Oper.wp
               rw [hrun, callFunc_enter ok hfn]
               show Calls E.P r.1 ⟨args'⟩ w _
               refine (ht.get hx r.2 A r2.1 r2.2.1 r2.2.2 hr2 hp σ w args' R hg ha).mono fun e w' he => ?_
               obtain ⟨v', σ', rfl, h1, h2, h3⟩ := he
               exact hK _ _ v' w' σ' k h1 h2 h3
             · exact h.elim
           · intro K1 Q hK
             unfold Oper.wp
             rw [hrun, callFunc_enter ok hfn]
             show Calls E.P r.1 ⟨args'⟩ w _
             refine (hi r.1 fn hfn r.2 A K h σ w args' R hg ha).mono fun e w' he => ?_
             obtain ⟨v, A', v', σ', rfl, k, h1, h2, h3⟩ := he
             exact hK _ _ v' w' σ' k h1 h2 h3
         · split at h
           · rename_i x hx
             split at h
             · rename_i r2 hr2
               refine .of (does_of_good ?_) h
               rw [hrun]
               exact ok.ext r.1 x r.2 A r2.1 r2.2 hx hr2 σ w args' R ha
             · exact h.elim
           · exact h.elim
       · exact h.elim
theorem putK_ok {n : Nat} {F : T Value} {dst : Option Tmp} {v : Value} {k : T Value → Prop} (h : putK n F dst v k) : ∃ F', put n F dst v = some F' ∧ k F' := by
 unfold putK at h
 split at h
 · rename_i F' hF; exact ⟨F', hF, h⟩
 · exact h.elim
theorem sxOps_ok {E : Env} (ok : E.Ok) (hs : E.sym = true) {tab : Tab} (ht : TabOk E tab) {inl : Inl} (hi : InlOk E inl) {el : El} {ops : Array Oper} {n : Nat} {Q : Exit → Act → World → Prop} : ∀ (l : List Oper) (k : Nat) (F : T Value) (A : AH) (σ : Sig) (a : Act) (w : World) (K : KF),
 sxOps tab inl E el ops.toList n l F A K → (∀ (i : Nat), i < l.length → ops[k + i]? = l[i]?) → Rel E.P σ A w → Glob E σ → FR σ F n a →
 (∀ F' A' a' w' σ', K F' A' → FR σ' F' n a' → Rel E.P σ' A' w' → Ext σ A w σ' A' w' → Q .normal a' w') → wpOps E.P ops Q (List.range' k l.length) a w
 | [], k, F, A, σ, a, w, K, h, _, R, hg, hF, hQ => hQ F A a w σ h hF R (Ext.refl _ _ _)
 | o :: rest, k, F, A, σ, a, w, K, h, hl, R, hg, hF, hQ => by
   have h0 : ops[k]? = some o := by have := hl 0 (by simp); simpa using this
   have hr : ∀ (i : Nat), i < rest.length → ops[k + 1 + i]? = rest[i]? := fun i hi => by
    have := hl (i + 1) (by simp; omega)
    rw [show k + 1 + i = k + (i + 1) by omega, this]
    simp
   rw [List.length_cons, List.range'_succ, wpOps_cons]
   unfold wpOp
   simp only [h0]
   have h : sxG ops.toList F o (fun F => sxOp tab inl E el A (ev E F) o.type o.op (fun v A' => putK n F o.dst v (fun F' => sxOps tab inl E el ops.toList n rest F' A' K))) (fun F => putK n F o.dst undef (fun F' => sxOps tab inl E el ops.toList n rest F' A K)) := h
   rcases sxG_ok h with ⟨hw, h⟩ | ⟨hw, h⟩
   · rw [want_eq (σ := σ) (F := F) (fun _ _ _ d _ _ _ => hF.val d) hw]
     rw [if_pos rfl]
     left
     refine sxOp_ok ok hs ht hi R hg (ev_rel hg hF.val) h _ _ fun v A1 v' w' σ' hk h1 h2 h3 => ?_
     obtain ⟨F1, hput, hk⟩ := putK_ok hk
     have hsub := Ext.sub R h3
     exact sxOps_ok ok hs ht hi rest (k + 1) F1 A1 σ' _ w' K hk hr h2 (hg.sub hsub) (put_rel (hF.mono hsub) h1 hput) fun F2 A2 a2 w2 σ2 q k1 k2 k3 => hQ F2 A2 a2 w2 σ2 q k1 k2 (h3.trans k3)
   · rw [want_eq (σ := σ) (F := F) (fun _ _ _ d _ _ _ => hF.val d) hw]
     rw [if_neg (by simp)]
     obtain ⟨F1, hput, hk⟩ := putK_ok h
     exact sxOps_ok ok hs ht hi rest (k + 1) F1 A σ _ w K hk hr R hg (put_rel hF (undef_refl σ) hput) hQ
theorem W.sxOps {E : Env} (ok : E.Ok) (hs : E.sym = true) {tab : Tab} (ht : TabOk E tab) {inl : Inl} (hi : InlOk E inl) {el : El} {A0 : AH} {n : Nat} {F : T Value} {A : AH} {Q : Post} {id : Nat} {ops : Array Oper}
 (h : AM.sxOps tab inl E el ops.toList n ops.toList F A (Q .normal)) : W E A0 n (.region id ops false) Q F A := by
 intro σ0 w0 a w hat Q' hQ
 obtain ⟨σ, h1, h2, h3, h4⟩ := hat
 refine wp_region ?_
 have := sxOps_ok ok hs ht hi (Q := Q') ops.toList 0 F A σ a w _ h (fun i hi => by simp) h2 h3 h1 (fun F' A' a' w' σ' hk q1 q2 q3 => hQ .normal F' A' a' w' hk ⟨σ', q1, q2, h3.sub (Ext.sub h2 q3), h4.trans q3⟩)
 rw [List.range_eq_range']
 simpa using this
def sxEffD0 (tab : Tab) (E : Env) (A : AH) (ρ : Operand → Option Value) (op : Op) (K : KV) : Prop :=
 match effA E A ρ op with
 | some r => K r.1 r.2
 | none => (match enterA E ρ op with
   | some r => (match E.fn r.1 with
     | some _ => (match tabOf tab r.1 with
       | some x => (match x r.2 A with | some r => pc r.1 (K r.2.1 r.2.2) | none => Stop r)
       | none => Stop r)
     | none => (match E.ext r.1 with
       | some x => (match x r.2 A with | some r => K r.1 r.2 | none => Stop r)
       | none => Stop r))
   | none => Stop (op, A))
theorem sxEffD0_ok {tab : Tab} {E : Env} {A : AH} {ρ : Operand → Option Value} {op : Op} {K : KV} (h : sxEffD0 tab E A ρ op K) : ∃ v A', effAll (callT tab) E A ρ op = some (v, A') ∧ K v A' := by
 unfold sxEffD0 at h
 unfold effAll
 split at h
 · rename_i r hr; rw [hr]; exact ⟨_, _, rfl, h⟩
 · rename_i hr
   rw [hr]
   simp only
   split at h
   · rename_i r hen
     rw [hen]
     simp only
     split at h
     · rename_i fn hfn
       rw [hfn]
       simp only
       split at h
       · rename_i x hx
         split at h
         · rename_i r2 hr2
           obtain ⟨hp, k⟩ := pc_iff h
           refine ⟨r2.2.1, r2.2.2, ?_, k⟩
           obtain ⟨p, v, A'⟩ := r2
           unfold callT
           rw [hx]
           simp only [hr2]
           rw [if_pos hp]
         · exact h.elim
       · exact h.elim
     · rename_i hfn
       rw [hfn]
       simp only
       split at h
       · rename_i x hx
         rw [hx]
         simp only
         split at h
         · rename_i r2 hr2; exact ⟨_, _, hr2, h⟩
         · exact h.elim
       · exact h.elim
   · exact h.elim
def sxEffD (tab : Tab) (E : Env) (el : El) (A : AH) (ρ : Operand → Option Value) (op : Op) (K : KV) : Prop :=
 match sxG1 E el A ρ op with
 | some r => pc r.1 (K r.2.1 r.2.2)
 | none => sxEffD0 tab E A ρ op K
theorem sxEffD_ok {tab : Tab} {E : Env} {el : El} {A : AH} {ρ : Operand → Option Value} {op : Op} {K : KV} (h : sxEffD tab E el A ρ op K) : ∃ v A', effAll (callT tab) E A ρ op = some (v, A') ∧ K v A' := by
 unfold sxEffD at h
 split at h
 · rename_i r hr
   obtain ⟨hp, k⟩ := pc_iff h
   refine ⟨r.2.1, r.2.2, ?_, k⟩
   unfold effAll
   rw [sxG1_ok (p := r.1) (v := r.2.1) (A' := r.2.2) hr hp]
 · exact sxEffD0_ok h
def qcK (E : Env) (el : El) (als : List Al) (G : AH) (q : Qu) (K : Prop) : Prop :=
 match addAl q.m als G with
 | some H => (match sxQ E el H (rho E q.F (tmpsOf q.o.op)) q.o.type q.o.op with | some r => pc r.1 (r.2 = q.v ∧ K) | none => False)
 | none => False
theorem qcK_ok {E : Env} (hs : E.sym = true) {el : El} {als : List Al} {G : AH} {q : Qu} {K : Prop} (h : qcK E el als G q K) : QC E als G q ∧ K := by
 unfold qcK at h
 split at h
 · rename_i H hH
   split at h
   · rename_i r hr
     obtain ⟨hp, e, k⟩ := pc_iff h
     exact ⟨⟨H, hH, by rw [← e]; exact sxQ_ok hs hr hp⟩, k⟩
   · exact h.elim
 · exact h.elim
def qsK (E : Env) (el : El) (als : List Al) (G : AH) (m : Nat) (qs : List Qu) (K : Prop) : Prop :=
 List.rec (motive := fun _ => Prop) K (fun q _ ih => bif m.testBit q.i then ih else qcK E el als G q ih) qs
theorem qsK_ok {E : Env} (hs : E.sym = true) {el : El} {als : List Al} {G : AH} {m : Nat} {K : Prop} : ∀ {qs : List Qu}, qsK E el als G m qs K → QOk E als G m qs ∧ K
 | [], h => ⟨.nil, h⟩
 | q :: qs, h => by
   have h : (bif m.testBit q.i then qsK E el als G m qs K else qcK E el als G q (qsK E el als G m qs K)) := h
   cases hb : m.testBit q.i with
   | true =>
     rw [hb] at h
     obtain ⟨h1, h2⟩ := qsK_ok hs (qs := qs) h
     exact ⟨.bit hb h1, h2⟩
   | false =>
     rw [hb] at h
     obtain ⟨h0, h⟩ := qcK_ok hs h
     obtain ⟨h1, h2⟩ := qsK_ok hs (qs := qs) h
     exact ⟨.chk h0 h1, h2⟩
def pastK (E : Env) (el : El) (als : List Al) (q : Qu) (past : List (Nat × AH)) (K : Prop) : Prop :=
 List.rec (motive := fun _ => Prop) K (fun x _ ih => bif q.m.testBit x.1 then K else qcK E el als x.2 q ih) past
theorem pastK_ok {E : Env} (hs : E.sym = true) {el : El} {als : List Al} {q : Qu} {K : Prop} : ∀ {past : List (Nat × AH)}, pastK E el als q past K → POk E als q past ∧ K
 | [], h => ⟨.nil, h⟩
 | x :: past, h => by
   have h : (bif q.m.testBit x.1 then K else qcK E el als x.2 q (pastK E el als q past K)) := h
   cases hb : q.m.testBit x.1 with
   | true => rw [hb] at h; exact ⟨.bit hb, h⟩
   | false =>
     rw [hb] at h
     obtain ⟨h0, h⟩ := qcK_ok hs h
     obtain ⟨h1, h2⟩ := pastK_ok hs (past := past) h
     exact ⟨.chk h0 h1, h2⟩
def mk (ms : List Nat) (i : Nat) : Nat := (nth ms i).getD 0
def sxAl (E : Env) (el : El) (ρ : Operand → Option Value) (op : Op) : Option (Option Prop × AObj × (Nat → Value)) :=
 match op with
 | .makeSlice t l c => (match und E t with
   | some (.slice e) => (match el.gm e with
     | true => (match ρ l, ρ c, E.ti e with
       | some (.int _ l), some (.int _ c), some ie => (match ie.zero with
         | some z => bif z.cells.toList.all scal && (Nat.beq z.cells.toList.length ie.size && Nat.blt 0 ie.size) then
          some (some (0 ≤ l ∧ l ≤ c ∧ c ≤ 281474976710656 ∧ ie.bytes * c.toNat ≤ 281474976710656), .cells (rep z.cells.toList c.toNat) e, fun id => .slice (some ⟨id, 0, none⟩) l.toNat c.toNat) else none
         | none => none)
       | _, _, _ => none)
     | false => none)
   | _ => none)
 | _ => none
theorem sxAl_ok {E : Env} {el : El} {ρ : Operand → Option Value} {op : Op} {p : Option Prop} {r : AObj × (Nat → Value)} (h : sxAl E el ρ op = some (p, r)) (hp : PH p) : allocA E ρ op = some r := by
 unfold sxAl at h
 split at h
 · rename_i t l c
   split at h
   · rename_i e hu
     split at h
     · split at h
       · rename_i k1 l0 k2 c0 ie hl hc hie
         split at h
         · rename_i z hz
           cases hb : (z.cells.toList.all scal && (Nat.beq z.cells.toList.length ie.size && Nat.blt 0 ie.size)) with
           | false => rw [hb] at h; cases h
           | true =>
             rw [hb] at h
             simp only [cond_true, Option.some.injEq, Prod.mk.injEq] at h
             obtain ⟨rfl, rfl⟩ := h
             obtain ⟨q1, q2, q3, q4⟩ : 0 ≤ l0 ∧ l0 ≤ c0 ∧ c0 ≤ 281474976710656 ∧ ie.bytes * c0.toNat ≤ 281474976710656 := hp
             simp only [Bool.and_eq_true] at hb
             have e4 : Nat.ble (ie.bytes * c0.toNat) 281474976710656 = true := by rw [Nat.ble_eq]; exact q4
             simp only [allocA, hu, hl, hc, hie, hz, hb.1, hb.2.1, hb.2.2, q1, q2, q3, e4, decide_true, Bool.and_self, cond_true]
         · cases h
       · cases h
     · cases h
   · cases h
 · cases h
def rlStep (tab : Tab) (E : Env) (el : El) (ms : List Nat) (n n0 sz : Nat) (o : Oper) (ih : Nat → RS → (RS → Prop) → Prop) (i : Nat) (F : T Value) (G : AH) (past : List (Nat × AH)) (als : List Al) (qs : List Qu) (K : RS → Prop) : Prop :=
 match isEff E o.op with
 | true => (match addAl (mk ms i) als G with
   | some H => sxEffD tab E el H (rho E F (tmpsOf o.op)) o.op (fun v G' => bif als.all (keepB H G') && Nat.ble (n0 + sz) G'.next then
    qsK E el als G' (mk ms i) qs (putK n F o.dst v (fun F' => ih (i + 1) ⟨F', G', (i, G) :: past, als, qs⟩ K)) else False)
   | none => False)
 | false => (match sxAl E el (rho E F (tmpsOf o.op)) o.op with
  | some r0 => pc r0.1 (bif (vis G (n0 + i)).isNone && past.all (fun p => (vis p.2 (n0 + i)).isNone) then putK n F o.dst (r0.2.2 (n0 + i)) (fun F' => ih (i + 1) ⟨F', G, past, (i, n0 + i, r0.2.1) :: als, qs⟩ K) else False)
  | none => (match allocA E (rho E F (tmpsOf o.op)) o.op with
   | some r => bif (vis G (n0 + i)).isNone && past.all (fun p => (vis p.2 (n0 + i)).isNone) then putK n F o.dst (r.2 (n0 + i)) (fun F' => ih (i + 1) ⟨F', G, past, (i, n0 + i, r.1) :: als, qs⟩ K) else False
   | none => (match addAl (mk ms i) als G with
     | some H => (match sxQ E el H (rho E F (tmpsOf o.op)) o.type o.op with
       | some r => pc r.1 (match hdep o.op with
         | true => pastK E el als ⟨i, mk ms i, o, F, r.2⟩ past (putK n F o.dst r.2 (fun F' => ih (i + 1) ⟨F', G, past, als, ⟨i, mk ms i, o, F, r.2⟩ :: qs⟩ K))
         | false => putK n F o.dst r.2 (fun F' => ih (i + 1) ⟨F', G, past, als, qs⟩ K))
       | none => Stop (o.op, H))
     | none => False)))
def sxRL (tab : Tab) (E : Env) (el : El) (ops : List Oper) (ms : List Nat) (n n0 sz : Nat) (l : List Oper) : Nat → RS → (RS → Prop) → Prop :=
 List.rec (motive := fun _ => Nat → RS → (RS → Prop) → Prop) (fun _ S K => K S)
  (fun o _ ih i S K => sxG ops S.F o (fun F => rlStep tab E el ms n n0 sz o ih i F S.G S.past S.als S.qs K) (fun F => putK n F o.dst undef (fun F' => ih (i + 1) ⟨F', S.G, S.past, S.als, S.qs⟩ K))) l
theorem sxRL_ok {tab : Tab} {E : Env} (hs : E.sym = true) {el : El} {ops : List Oper} {ms : List Nat} {n n0 sz : Nat} : ∀ (l : List Oper) (i : Nat) (S : RS) (K : RS → Prop), sxRL tab E el ops ms n n0 sz l i S K → RL (callT tab) E ops ms n n0 sz l i S K
 | [], i, S, K, h => .nil h
 | o :: l, i, ⟨F, G, past, als, qs⟩, K, h => by
   have h : sxG ops F o (fun F => rlStep tab E el ms n n0 sz o (sxRL tab E el ops ms n n0 sz l) i F G past als qs K) (fun F => putK n F o.dst undef (fun F' => sxRL tab E el ops ms n n0 sz l (i + 1) ⟨F', G, past, als, qs⟩ K)) := h
   rcases sxG_ok h with ⟨hw, h⟩ | ⟨hw, h⟩
   · unfold rlStep at h
     split at h
     · rename_i he
       split at h
       · rename_i H hH
         obtain ⟨v, G', hx, h⟩ := sxEffD_ok h
         cases hb : (als.all (keepB H G') && Nat.ble (n0 + sz) G'.next) with
         | false => rw [hb] at h; exact h.elim
         | true =>
           rw [hb] at h
           simp only [Bool.and_eq_true] at hb
           obtain ⟨hq, h⟩ := qsK_ok hs h
           obtain ⟨F', hp, h⟩ := putK_ok h
           exact RL.eff hs hw he hH hx hb.1 hq hb.2 hp (sxRL_ok hs l (i + 1) _ K h)
       · exact h.elim
     · rename_i he
       split at h
       · rename_i r0 hr0
         obtain ⟨hp0, h⟩ := pc_iff h
         have ha := sxAl_ok (p := r0.1) (r := r0.2) hr0 hp0
         cases hb : ((vis G (n0 + i)).isNone && past.all (fun p => (vis p.2 (n0 + i)).isNone)) with
         | false => rw [hb] at h; exact h.elim
         | true =>
           rw [hb] at h
           obtain ⟨F', hp, h⟩ := putK_ok h
           exact RL.alloc hw he (ob := r0.2.1) (fv := r0.2.2) ha hb hp (sxRL_ok hs l (i + 1) _ K h)
       · split at h
         · rename_i r ha
           cases hb : ((vis G (n0 + i)).isNone && past.all (fun p => (vis p.2 (n0 + i)).isNone)) with
           | false => rw [hb] at h; exact h.elim
           | true =>
             rw [hb] at h
             obtain ⟨F', hp, h⟩ := putK_ok h
             exact RL.alloc hw he (ob := r.1) (fv := r.2) ha hb hp (sxRL_ok hs l (i + 1) _ K h)
         · rename_i ha
           split at h
           · rename_i H hH
             split at h
             · rename_i r hr
               obtain ⟨hp, h⟩ := pc_iff h
               have hq := sxQ_ok hs hr hp
               split at h
               · rename_i hd
                 obtain ⟨hpast, h⟩ := pastK_ok hs h
                 obtain ⟨F', hput, h⟩ := putK_ok h
                 exact RL.read hs hw he ha hH hq hd hpast hput (sxRL_ok hs l (i + 1) _ K h)
               · rename_i hd
                 obtain ⟨F', hput, h⟩ := putK_ok h
                 exact RL.quiet hw he ha hH hq hd hput (sxRL_ok hs l (i + 1) _ K h)
             · exact h.elim
           · exact h.elim
   · obtain ⟨F', hput, h⟩ := putK_ok h
     exact RL.skip hw hput (sxRL_ok hs l (i + 1) _ K h)
def sxReg (tab : Tab) (E : Env) (el : El) (ops : Array Oper) (l : List Oper) (sz : Nat) (n : Nat) (F : T Value) (A : AH) (K : KF) : Prop :=
 bif regOk E ops && Nat.blt (A.next + sz + 1) 1099511627776 then
  sxRL tab E el l (masks l []) n A.next sz l 0 ⟨F, ⟨A.t, A.next + sz⟩, [], [], []⟩ (fun S => match addAl (2 ^ sz - 1) S.als S.G with | some A' => K S.F A' | none => False)
 else False
theorem W.sxReg {E : Env} (ok : E.Ok) (hs : E.sym = true) {tab : Tab} (ht : TabOk E tab) {el : El} {A0 : AH} {n : Nat} {F : T Value} {A : AH} {Q : Post} {id : Nat} {ops : Array Oper}
 (h : AM.sxReg tab E el ops ops.toList ops.toList.length n F A (Q .normal)) : W E A0 n (.region id ops true) Q F A := by
 unfold AM.sxReg at h
 cases hb : (regOk E ops && Nat.blt (A.next + ops.toList.length + 1) 1099511627776) with
 | false => rw [hb] at h; exact h.elim
 | true =>
   rw [hb] at h
   simp only [Bool.and_eq_true] at hb
   refine W.drawn ok (callT_ok ht) hb.1 rfl rfl rfl hb.2 ?_
   obtain ⟨S', h1, h2⟩ := sxRL_ok hs _ _ _ _ h
   refine ⟨S', h1, ?_⟩
   split at h2
   · rename_i A' hA; exact ⟨A', hA, h2⟩
   · exact h2.elim
def fwd : List (Nat × Nat) → Nat → Option Nat
 | [], _ => none
 | x :: m, B => bif Nat.beq B x.2 then some x.1 else fwd m B
def bak (m : List (Nat × Nat)) (B B' : Nat) : Bool := match back m B' with | some C => Nat.beq C B | none => false
def renB (m : List (Nat × Nat)) (B : Nat) : Option Nat := match fwd m B with | some B' => bif bak m B B' then some B' else none | none => none
theorem renB_ok {m : List (Nat × Nat)} {B B' : Nat} (h : renB m B = some B') : back m B' = some B := by
 unfold renB at h
 split at h
 · rename_i C hC
   cases hb : bak m B C with
   | false => rw [hb] at h; cases h
   | true =>
     rw [hb] at h
     simp only [cond_true, Option.some.injEq] at h
     subst h
     unfold bak at hb
     split at hb
     · rename_i D hD; rw [hD, Nat.eq_of_beq_eq_true hb]
     · cases hb
 · cases h
abbrev RL2 := Option (List Value × Value)
def renL (f : Value → RL2) (l : List Value) : Option (List Value × List Value) :=
 List.rec (motive := fun _ => Option (List Value × List Value)) (some ([], [])) (fun v _ ih => match f v with
  | some r => (match ih with | some s => some (r.1 ++ s.1, r.2 :: s.2) | none => none)
  | none => none) l
def renV (m : List (Nat × Nat)) : Nat → Value → RL2
 | 0, _ => none
 | k + 1, v => match v with
   | .pointer (some ⟨B, i, none⟩) => (match renB m B with | some B' => some ([], .pointer (some ⟨B', i, none⟩)) | none => none)
   | .slice (some ⟨B, i, none⟩) n c => (match renB m B with | some B' => some ([], .slice (some ⟨B', i, none⟩) n c) | none => none)
   | .map (some B) => (match renB m B with | some B' => some ([], .map (some B')) | none => none)
   | .agg ⟨xs⟩ => (match renL (renV m k) xs with | some r => some (r.1, .agg ⟨r.2⟩) | none => none)
   | .tuple ⟨xs⟩ => (match renL (renV m k) xs with | some r => some (r.1, .tuple ⟨r.2⟩) | none => none)
   | .iface t x => (match renV m k x with | some r => some (r.1, .iface t r.2) | none => none)
   | .func (.yield sz) xs ys => some ([.func (.yield sz) xs ys], .func (.yield sz) xs ys)
   | .func (.func g) ⟨xs⟩ ⟨ys⟩ => (match renL (renV m k) xs, renL (renV m k) ys with | some r, some s => some (r.1 ++ s.1, .func (.func g) ⟨r.2⟩ ⟨s.2⟩) | _, _ => none)
   | v => bif scal v then some ([], v) else none
def HFs (l : List Value) (p : Prop) : Prop := List.rec (motive := fun _ => Prop) p (fun v _ ih => HF v ∧ ih) l
theorem HFs_iff {p : Prop} : ∀ {l : List Value}, HFs l p → (∀ x ∈ l, HF x) ∧ p
 | [], h => ⟨fun x hx => by simp at hx, h⟩
 | v :: l, h => by
   obtain ⟨h1, h2⟩ := HFs_iff (l := l) h.2
   exact ⟨HF.cons h.1 h1, h2⟩
theorem renL_ok {ρ : Nat → Option Nat} {f : Value → RL2} (hf : ∀ v r, f v = some r → (∀ x ∈ r.1, HF x) → RV ρ v r.2) : ∀ {l : List Value} {r : List Value × List Value}, renL f l = some r → (∀ x ∈ r.1, HF x) → RVs ρ l r.2
 | [], r, h, _ => by
   have h : some ([], []) = some r := h
   simp only [Option.some.injEq] at h
   subst h
   exact .nil
 | v :: l, r, h, hh => by
   have h : (match f v with | some r => (match renL f l with | some s => some (r.1 ++ s.1, r.2 :: s.2) | none => none) | none => none) = some r := h
   split at h
   · rename_i r1 h1
     split at h
     · rename_i s hs
       simp only [Option.some.injEq] at h
       subst h
       exact .cons (hf v r1 h1 fun x hx => hh x (by simp [hx])) (renL_ok hf hs fun x hx => hh x (by simp [hx]))
     · cases h
   · cases h
theorem renV_ok {m : List (Nat × Nat)} : ∀ (k : Nat) (v : Value) (r : List Value × Value), renV m k v = some r → (∀ x ∈ r.1, HF x) → RV (back m) v r.2
 | 0, v, r, h, _ => by cases h
 | k + 1, v, r, h, hh => by
   unfold renV at h
   split at h
   · split at h
     · rename_i B' hB; simp only [Option.some.injEq] at h; subst h; exact .ptr (renB_ok hB)
     · cases h
   · split at h
     · rename_i B' hB; simp only [Option.some.injEq] at h; subst h; exact .slice (renB_ok hB)
     · cases h
   · split at h
     · rename_i B' hB; simp only [Option.some.injEq] at h; subst h; exact .map (renB_ok hB)
     · cases h
   · split at h
     · rename_i s hs; simp only [Option.some.injEq] at h; subst h; exact .agg (renL_ok (renV_ok k) hs hh)
     · cases h
   · split at h
     · rename_i s hs; simp only [Option.some.injEq] at h; subst h; exact .tuple (renL_ok (renV_ok k) hs hh)
     · cases h
   · split at h
     · rename_i s hs; simp only [Option.some.injEq] at h; subst h; exact .iface (renV_ok k _ _ hs hh)
     · cases h
   · simp only [Option.some.injEq] at h; subst h; exact .hf (hh _ (by simp))
   · split at h
     · rename_i s1 s2 h1 h2
       simp only [Option.some.injEq] at h
       subst h
       exact .func rfl (renL_ok (renV_ok k) h1 fun x hx => hh x (by simp [hx])) (renL_ok (renV_ok k) h2 fun x hx => hh x (by simp [hx]))
     · cases h
   · rw [Bool.cond_eq_ite] at h
     split at h
     · rename_i hb
       simp only [Option.some.injEq] at h
       subst h
       exact .hf (.scal hb)
     · cases h
def tellF (m : List (Nat × Nat)) (F : T Value) (l : List Nat) : Option (List Value × List (Nat × Value)) :=
 List.rec (motive := fun _ => Option (List Value × List (Nat × Value))) (some ([], [])) (fun t _ ih => match F.get t with
  | some v => (match renV m 8 v with
    | some r => (match ih with | some s => some (r.1 ++ s.1, (t, r.2) :: s.2) | none => none)
    | none => none)
  | none => none) l
theorem tellF_ok {m : List (Nat × Nat)} {F : T Value} : ∀ {l : List Nat} {r}, tellF m F l = some r → (∀ x ∈ r.1, HF x) → RenF m F r.2
 | [], r, h, _ => by
   have h : some ([], []) = some r := h
   simp only [Option.some.injEq] at h
   subst h
   exact .nil
 | t :: l, r, h, hh => by
   have h : (match F.get t with
    | some v => (match renV m 8 v with
      | some r => (match tellF m F l with | some s => some (r.1 ++ s.1, (t, r.2) :: s.2) | none => none)
      | none => none)
    | none => none) = some r := h
   split at h
   · rename_i v hv
     split at h
     · rename_i r1 h1
       split at h
       · rename_i s hs
         simp only [Option.some.injEq] at h
         subst h
         exact .cons hv (renV_ok 8 v r1 h1 fun x hx => hh x (by simp [hx])) (tellF_ok hs fun x hx => hh x (by simp [hx]))
       · cases h
     · cases h
   · cases h
def inL (k : Nat) (l : List Nat) : Bool := l.any fun x => Nat.beq x k
def renW (o : AObj) : Option (List Value × AObj) :=
 match o with
 | .cells c e => some ([.agg ⟨c⟩], .cells c e)
 | .gro els tl e => some ([.agg ⟨glue els tl⟩], .gro (glue els tl) [] e)
 | .map es k => some ([.agg ⟨es.map fun x => x.2.1⟩], .map es k)
 | _ => none
def isWh (ws : List Nat) (o : AObj) : Bool := match o with | .cells _ e => inL e ws | .gro _ _ _ => true | .map _ _ => true | _ => false
theorem HF_agg {c : List Value} (h : HF (.agg ⟨c⟩)) : ∀ x ∈ c, HF x := by
 cases h with
 | scal h => simp [scal] at h
 | agg h => exact h
theorem renW_ok {ρ : Nat → Option Nat} {o : AObj} {r : List Value × AObj} (h : renW o = some r) (hh : ∀ x ∈ r.1, HF x) : RO ρ o r.2 := by
 unfold renW at h
 split at h
 · simp only [Option.some.injEq] at h
   subst h
   exact .cells (RVs.hf (HF_agg (hh _ (by simp))))
 · simp only [Option.some.injEq] at h
   subst h
   refine .gro fun x hx => ?_
   rw [← glue_eq] at hx
   obtain ⟨y, hy, hx⟩ := List.mem_flatMap.1 hx
   have hHF := HF_agg (hh _ (by simp)) y hy
   cases y with
   | agg cs => obtain ⟨cs⟩ := cs; exact HF_agg hHF x hx
   | _ =>
     simp only [Value.cells, List.mem_singleton] at hx
     first | (rw [hx]; exact hHF) | (simp at hx; rw [hx]; exact hHF)
 · rename_i es k
   simp only [Option.some.injEq] at h
   subst h
   refine .map ?_
   have hall := HF_agg (hh (.agg ⟨es.map fun x => x.2.1⟩) (by simp))
   clear hh
   induction es with
   | nil => exact .nil
   | cons y es ih =>
     obtain ⟨k1, v1, b1⟩ := y
     exact .cons (.hf (hall v1 (by simp))) (ih fun x hx => hall x (by simp only [List.map_cons, List.mem_cons]; exact .inr hx))
 · cases h
def renO (m : List (Nat × Nat)) (o : AObj) : Option (List Value × AObj) :=
 match o with
 | .cells c e => (match renL (renV m 8) c with | some r => some (r.1, .cells r.2 e) | none => none)
 | .ro c e => (match renL (renV m 8) c with | some r => some (r.1, .ro r.2 e) | none => none)
 | .arr els c n e => (match renL (renV m 8) c with | some r => some (.agg ⟨els⟩ :: r.1, .arr els r.2 n e) | none => none)
 | .dead => some ([], .dead)
 | _ => none
theorem renO_ok {m : List (Nat × Nat)} {o : AObj} {r : List Value × AObj} (h : renO m o = some r) (hh : ∀ x ∈ r.1, HF x) : RO (back m) o r.2 := by
 unfold renO at h
 split at h
 · split at h
   · rename_i s hs; simp only [Option.some.injEq] at h; subst h; exact .cells (renL_ok (renV_ok 8) hs hh)
   · cases h
 · split at h
   · rename_i s hs; simp only [Option.some.injEq] at h; subst h; exact .ro (renL_ok (renV_ok 8) hs hh)
   · cases h
 · split at h
   · rename_i r1 h1
     simp only [Option.some.injEq] at h
     subst h
     exact .arr (fun x hx => HF_agg (hh _ (by simp)) x hx) (renL_ok (renV_ok 8) h1 fun x hx => hh x (by simp [hx]))
   · cases h
 · simp only [Option.some.injEq] at h; subst h; exact .dead
 · cases h
def tellH (ws : List Nat) (m : List (Nat × Nat)) (A : AH) (l : List (Nat × Nat)) : Option (List Value × List (Nat × AObj)) :=
 List.rec (motive := fun _ => Option (List Value × List (Nat × AObj))) (some ([], [])) (fun x _ ih => match A.t.get x.2 with
  | some o => (match (bif isWh ws o then renW o else renO m o) with
    | some r => (match ih with | some s => some (r.1 ++ s.1, (x.1, r.2) :: s.2) | none => none)
    | none => none)
  | none => none) l
theorem tellH_ok {ws : List Nat} {m : List (Nat × Nat)} {A : AH} : ∀ {l : List (Nat × Nat)} {r}, tellH ws m A l = some r → (∀ x ∈ l, back m x.1 = some x.2) → (∀ x ∈ r.1, HF x) → RenH m A r.2
 | [], r, h, _, _ => by
   have h : some ([], []) = some r := h
   simp only [Option.some.injEq] at h
   subst h
   exact .nil
 | t :: l, r, h, hb, hh => by
   have h : (match A.t.get t.2 with
    | some o => (match (bif isWh ws o then renW o else renO m o) with
      | some r => (match tellH ws m A l with | some s => some (r.1 ++ s.1, (t.1, r.2) :: s.2) | none => none)
      | none => none)
    | none => none) = some r := h
   split at h
   · rename_i v hv
     split at h
     · rename_i r1 h1
       split at h
       · rename_i s hs
         simp only [Option.some.injEq] at h
         subst h
         have h2 : RO (back m) v r1.2 := by
          cases hw : isWh ws v with
          | true => rw [hw] at h1; exact renW_ok h1 fun x hx => hh x (by simp [hx])
          | false => rw [hw] at h1; exact renO_ok h1 fun x hx => hh x (by simp [hx])
         exact .cons (hb t (by simp)) hv h2 (tellH_ok hs (fun x hx => hb x (by simp [hx])) fun x hx => hh x (by simp [hx]))
       · cases h
     · cases h
   · cases h
def baks (m : List (Nat × Nat)) : Bool := m.all fun x => bak m x.2 x.1
def tellW (ws : List Nat) (m : List (Nat × Nat)) (slots : List Nat) (nx : Nat) (F : T Value) (A : AH) (K : KF) : Prop :=
 match tellF m F slots with
 | some r => (match tellH ws m A m with
   | some s => (match ofL r.2 .leaf with
     | some F1 => (match ofL s.2 .leaf with
       | some t1 => bif backOk nx m && baks m then HFs (r.1 ++ s.1) (K F1 ⟨t1, nx⟩) else False
       | none => False)
     | none => False)
   | none => False)
 | none => False
theorem tellW_okK {E : Env} (hgl : GlOk E) {A0 : AH} {n : Nat} {ws : List Nat} {m : List (Nat × Nat)} {slots : List Nat} {nx : Nat} (hid : ∀ B, B < A0.next → back m B = some B) (hnx : A0.next ≤ nx) {F : T Value} {A : AH} {K : KF} (h : tellW ws m slots nx F A K) : ∃ F1 A1, K F1 A1 ∧ Turns E A0 n F A F1 A1 := by
 unfold tellW at h
 split at h
 · rename_i r hr
   split at h
   · rename_i s hs
     split at h
     · rename_i F1 hF
       split at h
       · rename_i t1 ht
         cases hb : (backOk nx m && baks m) with
         | false => rw [hb] at h; exact h.elim
         | true =>
           rw [hb] at h
           simp only [Bool.and_eq_true] at hb
           obtain ⟨hh, k⟩ := HFs_iff h
           refine ⟨F1, ⟨t1, nx⟩, k, Turns.renK hgl m r.2 s.2 nx hid hnx hb.1 hF ht (tellF_ok hr fun x hx => hh x (by simp [hx])) (tellH_ok hs (fun x hx => ?_) fun x hx => hh x (by simp [hx]))⟩
           have := List.all_eq_true.1 hb.2 x hx
           unfold bak at this
           split at this
           · rename_i C hC; rw [hC, Nat.eq_of_beq_eq_true this]
           · cases this
       · exact h.elim
     · exact h.elim
   · exact h.elim
 · exact h.elim
theorem tellW_ok {E : Env} (hgl : GlOk E) {A0 : AH} (h0 : A0.next = 0) {n : Nat} {ws : List Nat} {m : List (Nat × Nat)} {slots : List Nat} {nx : Nat} {F : T Value} {A : AH} {K : KF} (h : tellW ws m slots nx F A K) : ∃ F1 A1, K F1 A1 ∧ Turns E A0 n F A F1 A1 :=
 tellW_okK hgl (fun B hB => by omega) (by omega) h
def idK (m : List (Nat × Nat)) (k : Nat) : Bool := Nat.rec (motive := fun _ => Bool) true (fun i ih => (match back m i with | some B => Nat.beq B i | none => false) && ih) k
theorem idK_ok {m : List (Nat × Nat)} : ∀ {k : Nat}, idK m k = true → ∀ B, B < k → back m B = some B
 | 0, _, B, hB => by omega
 | k + 1, h, B, hB => by
   have h : ((match back m k with | some B => Nat.beq B k | none => false) && idK m k) = true := h
   rw [Bool.and_eq_true] at h
   rcases Nat.lt_or_ge B k with q | q
   · exact idK_ok h.2 B q
   · obtain rfl : B = k := by omega
     have h1 := h.1
     split at h1
     · rename_i C hC; rw [hC, Nat.eq_of_beq_eq_true h1]
     · cases h1
def tellWk (k : Nat) (ws : List Nat) (m : List (Nat × Nat)) (slots : List Nat) (nx : Nat) (F : T Value) (A : AH) (K : KF) : Prop := bif idK m k && Nat.ble k nx then tellW ws m slots nx F A K else False
theorem tellWk_ok {E : Env} (hgl : GlOk E) {A0 : AH} {n : Nat} {ws : List Nat} {m : List (Nat × Nat)} {slots : List Nat} {nx : Nat} {F : T Value} {A : AH} {K : KF} (h : tellWk A0.next ws m slots nx F A K) : ∃ F1 A1, K F1 A1 ∧ Turns E A0 n F A F1 A1 := by
 unfold tellWk at h
 cases hb : idK m A0.next && Nat.ble A0.next nx with
 | false => rw [hb] at h; exact h.elim
 | true =>
   rw [hb] at h
   rw [Bool.and_eq_true, Nat.ble_eq] at hb
   exact tellW_okK hgl (idK_ok hb.1) hb.2 h
def tellK (m : List (Nat × Nat)) (slots : List Nat) (nx : Nat) (F : T Value) (A : AH) (K : KF) : Prop := tellW [] m slots nx F A K
def blksL (f : Value → List Nat) (l : List Value) : List Nat := List.rec (motive := fun _ => List Nat) [] (fun v _ ih => f v ++ ih) l
def blks : Nat → Value → List Nat
 | 0, _ => []
 | k + 1, v => match v with
   | .pointer (some ⟨B, _, _⟩) => [B]
   | .slice (some ⟨B, _, _⟩) _ _ => [B]
   | .map (some B) => [B]
   | .agg ⟨xs⟩ => blksL (blks k) xs
   | .tuple ⟨xs⟩ => blksL (blks k) xs
   | .iface _ x => blks k x
   | .func (.func _) ⟨xs⟩ ⟨ys⟩ => blksL (blks k) xs ++ blksL (blks k) ys
   | _ => []
def reach (ws : List Nat) (A : AH) (k : Nat) : List Nat → List Nat → List Nat :=
 Nat.rec (motive := fun _ => List Nat → List Nat → List Nat) (fun _ seen => seen) (fun _ ih todo seen => match todo with
  | [] => seen
  | B :: r => bif inL B seen then ih r seen else (match A.t.get B with
    | some (.cells c e) => bif inL e ws then ih r (seen ++ [B]) else ih (r ++ blksL (blks 8) c) (seen ++ [B])
    | some (.ro c e) => bif inL e ws then ih r (seen ++ [B]) else ih (r ++ blksL (blks 8) c) (seen ++ [B])
    | some (.arr _ c _ e) => ih (r ++ blksL (blks 8) c) (seen ++ [B])
    | _ => ih r (seen ++ [B]))) k
def numb (l : List Nat) : Nat → List (Nat × Nat) := List.rec (motive := fun _ => Nat → List (Nat × Nat)) (fun _ => []) (fun B _ ih k => (k, B) :: ih (k + 1)) l
def slotB (F : T Value) (l : List Nat) : List Nat := List.rec (motive := fun _ => List Nat) [] (fun t _ ih => (match F.get t with | some v => blks 8 v | none => []) ++ ih) l
def autoM (ws slots : List Nat) (F : T Value) (A : AH) : List (Nat × Nat) := numb (reach ws A 64 (slotB F slots) []) 0
def lenM (m : List (Nat × Nat)) : Nat := List.rec (motive := fun _ => Nat) 0 (fun _ _ ih => ih + 1) m
inductive NPos where
 | slot (t : Nat)
 | cell (t j : Nat)
 | made (t : Nat)
 | cutS (t : Nat)
 | cutC (t : Nat) (js : List Nat) (j : Nat)
 | nilC (t : Nat) (js : List Nat) (j : Nat)
def resB (A : AH) (js : List Nat) : Nat → Option Nat :=
 List.rec (motive := fun _ => Nat → Option Nat) (fun B => some B) (fun j _ ih B => match A.t.get B with
  | some (.cells c _) => (match nth c j with
    | some (.pointer (some ⟨B2, 0, none⟩)) => ih B2
    | _ => none)
  | _ => none) js
def nilK1 (E : Env) (p : NPos) (e : TypeId) (sz : Nat) (F : T Value) (A : AH) (K : KF) : Prop :=
 match p with
 | .slot t => (match F.get t with
   | some (.slice none n k) => bif Nat.beq n 0 && Nat.beq k 0 then (match T.set 64 F t (.slice (some ⟨A.next, 0, none⟩) 0 (unk + 3 + sz)), T.set FU A.t A.next (.gro [] [] e) with
     | some F1, some t1 => K F1 ⟨t1, A.next + 1⟩
     | _, _ => False) else False
   | some (.slice (some ⟨B, 0, none⟩) n k) => (match A.t.get B with
     | some (.cells c eb) => (match Nat.blt k unk, E.ti eb, und E eb with
       | true, some ie, some d => (match ((Nat.beq n k && Nat.blt 0 n) && (Nat.blt 0 ie.size && Nat.ble ie.size 65536)) && ((Nat.beq c.length (n * ie.size) && c.all cellv) && (isAggD d || Nat.beq ie.size 1)) with
         | true => (match T.set 64 F t (.slice (some ⟨A.next, 0, none⟩) n (unk + 3 + ie.size)), T.set FU A.t B .dead with
           | some F1, some t1 => (match T.set FU t1 A.next (.gro (chunk (isAggD d) ie.size n c) [] eb) with
             | some t2 => K F1 ⟨t2, A.next + 1⟩
             | none => False)
           | _, _ => False)
         | false => K F A)
       | _, _, _ => K F A)
     | _ => K F A)
   | _ => K F A)
 | .made t => (match F.get t with
   | some (.slice (some ⟨B, 0, none⟩) n k) => (match A.t.get B with
     | some (.cells c eb) => (match E.ti eb with
       | some ie => bif Nat.beq ie.size 1 then (match T.set 64 F t (.slice (some ⟨A.next, 0, none⟩) n (unk + 3 + ie.size)), T.set FU A.t B .dead with
        | some F1, some t1 => (match T.set FU t1 A.next (.gro c [] eb) with
          | some t2 => (n = k ∧ 0 < n ∧ n < unk ∧ c.length = n ∧ c.all cellv = true) ∧ K F1 ⟨t2, A.next + 1⟩
          | none => False)
        | _, _ => False) else False
       | none => False)
     | _ => K F A)
   | _ => K F A)
 | .cell t j => (match F.get t with
   | some (.pointer (some ⟨B, 0, none⟩)) => (match A.t.get B with
     | some (.cells c eb) => (match nth c j with
       | some (.slice none n k) => bif Nat.beq n 0 && Nat.beq k 0 then (match T.set FU A.t B (.cells (c.set j (.slice (some ⟨A.next, 0, none⟩) 0 (unk + 3 + sz))) eb) with
         | some t1 => (match T.set FU t1 A.next (.gro [] [] e) with
           | some t2 => K F ⟨t2, A.next + 1⟩
           | none => False)
         | none => False) else False
       | _ => K F A)
     | some (.arr els rest nn eb) => (match nth rest (j - nn) with
       | some (.slice none n k) => bif Nat.beq n 0 && Nat.beq k 0 then (match T.set FU A.t B (.arr els (rest.set (j - nn) (.slice (some ⟨A.next, 0, none⟩) 0 (unk + 3 + sz))) nn eb) with
         | some t1 => (match T.set FU t1 A.next (.gro [] [] e) with
           | some t2 => K F ⟨t2, A.next + 1⟩
           | none => False)
         | none => False) else False
       | _ => K F A)
     | _ => K F A)
   | _ => K F A)
 | .cutS t => (match F.get t with
   | some (.slice (some ⟨B, o, none⟩) n m) => (match isG m, A.t.get B with
     | true, some (.gro els tl eb) => (match E.ti eb with
       | some ie => bif Nat.beq (gsz m) ie.size && Nat.blt 0 ie.size then (match T.set 64 F t (.slice (some ⟨A.next, 0, none⟩) n m), T.set FU A.t B .dead with
         | some F1, some t1 => (match T.set FU t1 A.next (.gro ((dropS o (gLo ie.size o) (glue els tl)).take n) [] eb) with
           | some t2 => n + gLo ie.size o ≤ (glue els tl).length ∧ K F1 ⟨t2, A.next + 1⟩
           | none => False)
         | _, _ => False) else False
       | none => False)
     | _, _ => K F A)
   | _ => K F A)
 | .cutC t js j => (match F.get t with
   | some (.pointer (some ⟨B0, 0, none⟩)) => (match resB A js B0 with
     | some B => (match A.t.get B with
       | some (.cells c eb) => (match nth c j with
         | some (.slice (some ⟨B2, o, none⟩) n m) => (match isG m, A.t.get B2 with
           | true, some (.gro els tl e2) => (match E.ti e2 with
             | some ie => bif Nat.beq (gsz m) ie.size && Nat.blt 0 ie.size then (match T.set FU A.t B2 .dead with
               | some t1 => (match T.set FU t1 A.next (.gro ((dropS o (gLo ie.size o) (glue els tl)).take n) [] e2) with
                 | some t2 => (match T.set FU t2 B (.cells (c.set j (.slice (some ⟨A.next, 0, none⟩) n m)) eb) with
                   | some t3 => n + gLo ie.size o ≤ (glue els tl).length ∧ K F ⟨t3, A.next + 1⟩
                   | none => False)
                 | none => False)
               | none => False) else False
             | none => False)
           | _, _ => K F A)
         | _ => K F A)
       | _ => K F A)
     | none => K F A)
   | _ => K F A)
 | .nilC t js j => (match F.get t with
   | some (.pointer (some ⟨B0, 0, none⟩)) => (match resB A js B0 with
     | some B => (match A.t.get B with
       | some (.cells c eb) => (match nth c j with
         | some (.slice none n k) => bif Nat.beq n 0 && Nat.beq k 0 then (match T.set FU A.t B (.cells (c.set j (.slice (some ⟨A.next, 0, none⟩) 0 (unk + 3 + sz))) eb) with
           | some t1 => (match T.set FU t1 A.next (.gro [] [] e) with
             | some t2 => K F ⟨t2, A.next + 1⟩
             | none => False)
           | none => False) else False
         | _ => K F A)
       | _ => K F A)
     | none => K F A)
   | _ => K F A)
theorem OR.cut {P : Program} {σ1 σ : Sig} {ob : Option Obj} {d c lo k n sz : Nat} {els tl : List Value} {e : TypeId} (h : OR P σ ob d c (.gro els tl e)) (hs : σ.sub σ1) (hco : P.cellsOf e = sz) (hnk : n ≤ k) (hck : lo + k ≤ c) : OR P σ1 ob (d + lo * sz) k (.gro (((els ++ tl).drop lo).take n) [] e) := by
 obtain ⟨ca, l0, h0, g1, g2, g3, g4, g5, g6⟩ := h
 rw [hco] at g4 g5
 have hm : (lo + k) * sz ≤ c * sz := Nat.mul_le_mul_right _ hck
 rw [Nat.add_mul] at hm
 refine ⟨ca, l0, h0, g1, g2, fun i v hv => ?_, fun x hx => ?_, ?_, ?_⟩
 · rw [List.append_nil, ← cellsL_take n (fun x hx => g4 x (List.mem_of_mem_drop hx)), ← cellsL_drop lo g4, List.getElem?_take] at hv
   split at hv
   · rw [List.getElem?_drop] at hv
     obtain ⟨v1, e1, e2⟩ := g3 _ v hv
     exact ⟨v1, by rw [Nat.add_assoc]; exact e1, e2.mono hs⟩
   · cases hv
 · rw [List.append_nil] at hx
   rw [hco]
   exact g4 x (List.mem_of_mem_drop (List.mem_of_mem_take hx))
 · rw [hco]; omega
 · rw [List.append_nil, List.length_take]; omega
theorem cut_cases {E : Env} (ok : E.Ok) {σ : Sig} {A : AH} {w : World} (R : Rel E.P σ A w) {B2 o n m : Nat} {els tl : List Value} {e : TypeId} {ie : TypeInfo} {t1 t2 : T AObj} {v' : Value} (k2 : VR σ (.slice (some ⟨B2, o, none⟩) n m) v') (hg : isG m = true) (hB2 : A.t.get B2 = some (.gro els tl e)) (hie : E.ti e = some ie) (hgs : gsz m = ie.size) (hpos : 0 < ie.size) (hn : n + gLo ie.size o ≤ (glue els tl).length)
 (ht1 : T.set FU A.t B2 .dead = some t1) (ht2 : T.set FU t1 A.next (.gro ((dropS o (gLo ie.size o) (glue els tl)).take n) [] e) = some t2) : ∃ σ1, σ.sub σ1 ∧ Rel E.P σ1 ⟨t2, A.next + 1⟩ w ∧ Ext σ A w σ1 ⟨t2, A.next + 1⟩ w ∧ VR σ1 (.slice (some ⟨A.next, 0, none⟩) n m) v' := by
 rw [dropS_eq] at ht2
 rcases gs_cases k2 hg with ⟨rfl, a', rfl⟩ | ⟨b2, d2, c2, lo, k, hσ2, rfl, hnk, hck, rfl⟩
 · rw [List.take_zero] at ht2
   obtain ⟨r1, r2⟩ := Rel.nilGro (R.dead ht1) ht2
   exact ⟨nilU σ A.next, nilU_sub _ _, r1, (Ext.dead ht1).trans r2, VR.gs0Mk _ _ m a' hg⟩
 · rw [hgs, gLo_eq hpos, glue_eq] at hn ht2
   have hco : E.P.cellsOf e = ie.size := by simp [Program.cellsOf, ok.ti _ _ hie]
   have hsub : σ.sub (upd σ A.next (b2, d2 + lo * ie.size, k)) := upd_sub (R.fresh _ (Nat.le_refl _))
   refine ⟨_, hsub, R.move (w' := w) (d2 := d2 + lo * ie.size) (c2 := k) hB2 rfl hσ2 ht1 ht2 rfl rfl (fun _ _ => rfl) (OR.cut (R.at hB2 rfl hσ2) hsub hco hnk hck), Ext.move R hB2 rfl hσ2 ht1 ht2 rfl (fun _ _ => rfl) rfl rfl rfl, ?_⟩
   rw [hgs]
   have hv := VR.gsMk (σ := upd σ A.next (b2, d2 + lo * ie.size, k)) (lo := 0) (n := n) (k := k) (m := m) upd_same hg hnk (Nat.le_of_eq (Nat.zero_add _))
   simpa using hv
theorem Turns.cutSlot {E : Env} (ok : E.Ok) {A0 A : AH} {m0 : Nat} {F F1 : T Value} {t B2 o n m : Nat} {els tl : List Value} {e : TypeId} {ie : TypeInfo} {t1 t2 : T AObj} (hj : F.get t = some (.slice (some ⟨B2, o, none⟩) n m)) (hg : isG m = true) (hB2 : A.t.get B2 = some (.gro els tl e)) (hie : E.ti e = some ie) (hgs : gsz m = ie.size) (hpos : 0 < ie.size) (hn : n + gLo ie.size o ≤ (glue els tl).length)
 (hf : T.set 64 F t (.slice (some ⟨A.next, 0, none⟩) n m) = some F1) (ht1 : T.set FU A.t B2 .dead = some t1) (ht2 : T.set FU t1 A.next (.gro ((dropS o (gLo ie.size o) (glue els tl)).take n) [] e) = some t2) : Turns E A0 m0 F A F1 ⟨t2, A.next + 1⟩ := by
 intro σ0 w0 a w ⟨σ, hF, R, hg0, X⟩
 obtain ⟨σ1, hs, R1, X1, hv⟩ := cut_cases ok R (hF.val t _ hj) hg hB2 hie hgs hpos hn ht1 ht2
 refine ⟨σ1, ⟨hF.size, fun t' v hv' => ?_, hF.defers⟩, R1, hg0.sub hs, X.trans X1⟩
 have hv' : F1.get t' = some v := hv'
 rw [T.get_set hf] at hv'
 split at hv'
 · rename_i et; subst et
   simp only [Option.some.injEq] at hv'
   subst hv'
   exact hv
 · exact (hF.val t' v hv').mono hs
theorem Turns.cutCell {E : Env} (ok : E.Ok) {A0 A : AH} {m0 : Nat} {F : T Value} {B B2 j o n m : Nat} {c els tl : List Value} {e eb : TypeId} {ie : TypeInfo} {t1 t2 t3 : T AObj} (hB : A.t.get B = some (.cells c eb)) (hj : c[j]? = some (.slice (some ⟨B2, o, none⟩) n m)) (hg : isG m = true) (hB2 : A.t.get B2 = some (.gro els tl e)) (hie : E.ti e = some ie) (hgs : gsz m = ie.size) (hpos : 0 < ie.size) (hn : n + gLo ie.size o ≤ (glue els tl).length)
 (ht1 : T.set FU A.t B2 .dead = some t1) (ht2 : T.set FU t1 A.next (.gro ((dropS o (gLo ie.size o) (glue els tl)).take n) [] e) = some t2) (ht3 : T.set FU t2 B (.cells (c.set j (.slice (some ⟨A.next, 0, none⟩) n m)) eb) = some t3) : Turns E A0 m0 F A F ⟨t3, A.next + 1⟩ := by
 intro σ0 w0 a w ⟨σ, hF, R, hg0, X⟩
 obtain ⟨b, d, cp, hσ, c', lo', hi', q1, q2, q3, q4⟩ := R.obj B _ hB rfl
 obtain ⟨v', k1, k2⟩ := q3 j _ hj
 have hne : B ≠ B2 := by intro e'; subst e'; rw [hB] at hB2; cases hB2
 have hnx : B ≠ A.next := by intro e'; rw [e', R.fresh _ (Nat.le_refl _)] at hσ; cases hσ
 have get2 : t2.get B = some (.cells c eb) := by rw [T.get_set ht2, if_neg hnx, T.get_set ht1, if_neg hne]; exact hB
 obtain ⟨σ1, hs, R1, X1, hv⟩ := cut_cases ok R k2 hg hB2 hie hgs hpos hn ht1 ht2
 obtain ⟨p1, p2⟩ := Rel.retellAt (o2 := .cells (c.set j (.slice (some ⟨A.next, 0, none⟩) n m)) eb) R1 get2 ht3 rfl rfl rfl (fun b1 d1 cp1 hs1 h => by
  have hb := hs.f B _ hσ
  have hs1 : σ1.f B = some (b1, d1, cp1) := hs1
  rw [hb] at hs1
  cases hs1
  obtain ⟨c2, lo2, hi2, h1, h2, h3, h4⟩ := h
  refine ⟨c2, lo2, hi2, h1, h2, fun i v hv2 => ?_, h4⟩
  rw [List.getElem?_set] at hv2
  split at hv2
  · rename_i e1; subst e1
    split at hv2
    · simp only [Option.some.injEq] at hv2
      subst hv2
      have ec : c2 = c' := by rw [q1] at h1; cases h1; rfl
      exact ⟨v', by rw [ec]; exact k1, hv⟩
    · cases hv2
  · exact h3 i v hv2)
 exact ⟨σ1, hF.mono hs, p1, hg0.sub hs, X.trans (X1.trans p2)⟩
theorem Turns.groSlot {E : Env} (ok : E.Ok) {A0 A : AH} {m : Nat} {F F1 : T Value} {t B n : Nat} {c : List Value} {e : TypeId} {ie : TypeInfo} {ag : Bool} {t1 t2 : T AObj} (hv : F.get t = some (.slice (some ⟨B, 0, none⟩) n n)) (hk : n < unk) (h0 : 0 < n) (hB : A.t.get B = some (.cells c e)) (hie : E.ti e = some ie) (hag : ag = true ∨ ie.size = 1) (hsz : 0 < ie.size) (hs2 : ie.size ≤ 65536) (hlen : c.length = n * ie.size) (hcv : c.all cellv = true)
 (hf : T.set 64 F t (.slice (some ⟨A.next, 0, none⟩) n (unk + 3 + ie.size)) = some F1) (ht1 : T.set FU A.t B .dead = some t1) (ht2 : T.set FU t1 A.next (.gro (chunk ag ie.size n c) [] e) = some t2) : Turns E A0 m F A F1 ⟨t2, A.next + 1⟩ := by
 intro σ0 w0 a w ⟨σ, hF, R, hg, X⟩
 obtain ⟨b, d, cp, hσ, c', lo, hi, g1, g2, g3, g4, g5⟩ := R.obj B _ hB rfl
 obtain ⟨k1, k2, k3⟩ := chunk_ok (agg := ag) hag n c hlen hcv
 have hco : E.P.cellsOf e = ie.size := by simp [Program.cellsOf, ok.ti _ _ hie]
 have hsub := upd_sub (σ := σ) (id := A.next) (x := (b, d, n)) (R.fresh _ (Nat.le_refl _))
 have hpos : 0 < n * ie.size := Nat.mul_pos h0 hsz
 have hbound : d + n * ie.size ≤ c'.size := by
  have hl : n * ie.size - 1 < c.length := by omega
  obtain ⟨v', e1, _⟩ := g3 (n * ie.size - 1) c[n * ie.size - 1] (List.getElem?_eq_getElem hl)
  have : d + (n * ie.size - 1) < c'.size := by
   rcases Nat.lt_or_ge (d + (n * ie.size - 1)) c'.size with h | h
   · exact h
   · rw [Array.getElem?_eq_none h] at e1; cases e1
  omega
 refine ⟨upd σ A.next (b, d, n), ⟨hF.size, fun t' v hv' => ?_, hF.defers⟩, R.move (w' := w) (d2 := d) (c2 := n) hB rfl hσ ht1 ht2 rfl rfl (fun _ _ => rfl) ⟨c', lo, hi, g1, g2, fun i v hv => ?_, ?_, ?_, ?_⟩, hg.sub hsub, X.trans (Ext.move R hB rfl hσ ht1 ht2 rfl (fun _ _ => rfl) rfl rfl rfl)⟩
 · have hv' : F1.get t' = some v := hv'
   rw [T.get_set hf] at hv'
   split at hv'
   · rename_i et; subst et
     simp only [Option.some.injEq] at hv'
     subst hv'
     have := hF.val t' _ hv
     generalize a.tmps.getD t' undef = y at this ⊢
     generalize hn1 : n = n1 at this
     generalize hn2 : n1 = n2 at this
     cases this with
     | slice i q k hs hk2 =>
       rw [hσ] at hs
       simp only [Option.some.injEq, Prod.mk.injEq] at hs
       obtain ⟨rfl, rfl, rfl⟩ := hs
       subst hn1
       exact .gs 0 0 _ _ _ upd_same (by omega) (by omega) (by omega) (by omega)
     | sliceU q hs hn => omega
     | sliceV i q k hs hn => omega
     | gs0 B o m a hm => omega
     | gs lo o q k m hs hn hc ho hm => omega
   · exact (hF.val t' v hv').mono hsub
 · rw [List.append_nil, k1] at hv
   obtain ⟨v', q1, q2⟩ := g3 i v hv
   exact ⟨v', q1, q2.mono hsub⟩
 · rw [List.append_nil, hco]; exact k2
 · rw [hco]; exact hbound
 · rw [List.append_nil, k3]; exact Nat.le_refl _
theorem chunk_one : ∀ (n : Nat) (c : List Value), c.length = n → chunk false 1 n c = c
 | 0, c, h => by rw [List.eq_nil_of_length_eq_zero h]; rfl
 | n + 1, [], h => by simp at h
 | n + 1, v :: c, h => by
   have : chunk false 1 (n + 1) (v :: c) = v :: chunk false 1 n c := rfl
   rw [this, chunk_one n c (by simpa using h)]
theorem nilK1_ok {E : Env} (ok : E.Ok) {A0 : AH} {n : Nat} {p : NPos} {e : TypeId} {sz : Nat} {F : T Value} {A : AH} {K : KF} (h : nilK1 E p e sz F A K) : ∃ F1 A1, K F1 A1 ∧ Turns E A0 n F A F1 A1 := by
 unfold nilK1 at h
 split at h
 · rename_i t
   split at h
   · rename_i k1 k2 hv
     cases hb : (Nat.beq k1 0 && Nat.beq k2 0) with
     | false => rw [hb] at h; exact h.elim
     | true =>
       rw [hb] at h
       simp only [Bool.and_eq_true, Nat.beq_eq] at hb
       obtain ⟨rfl, rfl⟩ := hb
       simp only [cond_true] at h
       split at h
       · rename_i F1 t1 hF ht
         exact ⟨F1, _, h, Turns.nilSlot (Nat.le_add_right _ _) hv hF ht⟩
       · exact h.elim
   · rename_i B k1 k2 hv
     split at h
     · rename_i c eb hB
       split at h
       · rename_i ie d hk hie hd
         split at h
         · rename_i hc
           simp only [Bool.and_eq_true, Bool.or_eq_true, Nat.beq_eq, Nat.blt_eq, Nat.ble_eq] at hc
           obtain ⟨⟨⟨rfl, c1⟩, c2, c3⟩, ⟨c4, c5⟩, c6⟩ := hc
           rw [Nat.blt_eq] at hk
           split at h
           · rename_i F1 t1 hF1 ht1
             split at h
             · rename_i t2 ht2
               exact ⟨F1, _, h, Turns.groSlot ok hv hk c1 hB hie c6 c2 c3 c4 c5 hF1 ht1 ht2⟩
             · exact h.elim
           · exact h.elim
         · exact ⟨F, A, h, Turns.refl⟩
       · exact ⟨F, A, h, Turns.refl⟩
     · exact ⟨F, A, h, Turns.refl⟩
   · exact ⟨F, A, h, Turns.refl⟩
 · rename_i t
   split at h
   · rename_i B n1 k1 hv
     split at h
     · rename_i c eb hB
       split at h
       · rename_i ie hie
         cases hb : Nat.beq ie.size 1 with
         | false => rw [hb] at h; exact h.elim
         | true =>
           rw [hb] at h
           simp only [cond_true] at h
           rw [Nat.beq_eq] at hb
           split at h
           · rename_i F1 t1 hF1 ht1
             split at h
             · rename_i t2 ht2
               obtain ⟨⟨rfl, c1, c2, c3, c4⟩, h⟩ := h
               rw [← chunk_one n1 c c3, ← hb] at ht2
               exact ⟨F1, _, h, Turns.groSlot ok hv c2 c1 hB hie (.inr hb) (by omega) (by omega) (by rw [hb]; omega) c4 hF1 ht1 ht2⟩
             · exact h.elim
           · exact h.elim
       · exact h.elim
     · exact ⟨F, A, h, Turns.refl⟩
   · exact ⟨F, A, h, Turns.refl⟩
 · rename_i t j
   split at h
   · rename_i B hv
     split at h
     · rename_i c eb hB
       split at h
       · rename_i k1 k2 hj
         rw [nth_eq] at hj
         cases hb : (Nat.beq k1 0 && Nat.beq k2 0) with
         | false => rw [hb] at h; exact h.elim
         | true =>
           rw [hb] at h
           simp only [Bool.and_eq_true, Nat.beq_eq] at hb
           obtain ⟨rfl, rfl⟩ := hb
           simp only [cond_true] at h
           split at h
           · rename_i t1 ht1
             split at h
             · rename_i t2 ht2
               exact ⟨F, _, h, Turns.nilCell (Nat.le_add_right _ _) hB hj ht1 ht2⟩
             · exact h.elim
           · exact h.elim
       · exact ⟨F, A, h, Turns.refl⟩
     · rename_i els rest nn eb hB
       split at h
       · rename_i k1 k2 hj
         rw [nth_eq] at hj
         cases hb : (Nat.beq k1 0 && Nat.beq k2 0) with
         | false => rw [hb] at h; exact h.elim
         | true =>
           rw [hb] at h
           simp only [Bool.and_eq_true, Nat.beq_eq] at hb
           obtain ⟨rfl, rfl⟩ := hb
           simp only [cond_true] at h
           split at h
           · rename_i t1 ht1
             split at h
             · rename_i t2 ht2
               exact ⟨F, _, h, Turns.nilArr (Nat.le_add_right _ _) hB hj ht1 ht2⟩
             · exact h.elim
           · exact h.elim
       · exact ⟨F, A, h, Turns.refl⟩
     · exact ⟨F, A, h, Turns.refl⟩
   · exact ⟨F, A, h, Turns.refl⟩
 · rename_i t
   split at h
   · rename_i B o n1 m1 hv
     split at h
     · rename_i els tl eb hg hB2
       split at h
       · rename_i ie hie
         cases hb : (Nat.beq (gsz m1) ie.size && Nat.blt 0 ie.size) with
         | false => rw [hb] at h; exact h.elim
         | true =>
           rw [hb] at h
           simp only [Bool.and_eq_true, Nat.beq_eq, Nat.blt_eq] at hb
           simp only [cond_true] at h
           split at h
           · rename_i F1 t1 hF1 ht1
             split at h
             · rename_i t2 ht2
               exact ⟨F1, _, h.2, Turns.cutSlot ok hv hg hB2 hie hb.1 hb.2 h.1 hF1 ht1 ht2⟩
             · exact h.elim
           · exact h.elim
       · exact h.elim
     · exact ⟨F, A, h, Turns.refl⟩
   · exact ⟨F, A, h, Turns.refl⟩
 · rename_i t js j
   split at h
   · rename_i B0 hv
     split at h
     · rename_i B hres
       split at h
       · rename_i c eb hB
         split at h
         · rename_i B2 o n1 m1 hj
           rw [nth_eq] at hj
           split at h
           · rename_i els tl e2 hg hB2
             split at h
             · rename_i ie hie
               cases hb : (Nat.beq (gsz m1) ie.size && Nat.blt 0 ie.size) with
               | false => rw [hb] at h; exact h.elim
               | true =>
                 rw [hb] at h
                 simp only [Bool.and_eq_true, Nat.beq_eq, Nat.blt_eq] at hb
                 simp only [cond_true] at h
                 split at h
                 · rename_i t1 ht1
                   split at h
                   · rename_i t2 ht2
                     split at h
                     · rename_i t3 ht3
                       exact ⟨F, _, h.2, Turns.cutCell ok hB hj hg hB2 hie hb.1 hb.2 h.1 ht1 ht2 ht3⟩
                     · exact h.elim
                   · exact h.elim
                 · exact h.elim
             · exact h.elim
           · exact ⟨F, A, h, Turns.refl⟩
         · exact ⟨F, A, h, Turns.refl⟩
       · exact ⟨F, A, h, Turns.refl⟩
     · exact ⟨F, A, h, Turns.refl⟩
   · exact ⟨F, A, h, Turns.refl⟩
 · rename_i t js j
   split at h
   · rename_i B0 hv
     split at h
     · rename_i B hres
       split at h
       · rename_i c eb hB
         split at h
         · rename_i k1 k2 hj
           rw [nth_eq] at hj
           cases hb : (Nat.beq k1 0 && Nat.beq k2 0) with
           | false => rw [hb] at h; exact h.elim
           | true =>
             rw [hb] at h
             simp only [Bool.and_eq_true, Nat.beq_eq] at hb
             obtain ⟨rfl, rfl⟩ := hb
             simp only [cond_true] at h
             split at h
             · rename_i t1 ht1
               split at h
               · rename_i t2 ht2
                 exact ⟨F, _, h, Turns.nilCell (Nat.le_add_right _ _) hB hj ht1 ht2⟩
               · exact h.elim
             · exact h.elim
         · exact ⟨F, A, h, Turns.refl⟩
       · exact ⟨F, A, h, Turns.refl⟩
     · exact ⟨F, A, h, Turns.refl⟩
   · exact ⟨F, A, h, Turns.refl⟩
def nilK (E : Env) (l : List (NPos × TypeId × Nat)) : T Value → AH → KF → Prop :=
 List.rec (motive := fun _ => T Value → AH → KF → Prop) (fun F A K => K F A) (fun x _ ih F A K => nilK1 E x.1 x.2.1 x.2.2 F A (fun F1 A1 => ih F1 A1 K)) l
theorem nilK_ok {E : Env} (ok : E.Ok) {A0 : AH} {n : Nat} : ∀ {l : List (NPos × TypeId × Nat)} {F : T Value} {A : AH} {K : KF}, nilK E l F A K → ∃ F1 A1, K F1 A1 ∧ Turns E A0 n F A F1 A1
 | [], F, A, K, h => ⟨F, A, h, Turns.refl⟩
 | x :: l, F, A, K, h => by
   have h : nilK1 E x.1 x.2.1 x.2.2 F A (fun F1 A1 => nilK E l F1 A1 K) := h
   obtain ⟨F1, A1, h, t1⟩ := nilK1_ok ok (E := E) (A0 := A0) (n := n) h
   obtain ⟨F2, A2, h, t2⟩ := nilK_ok ok (E := E) (A0 := A0) (n := n) h
   exact ⟨F2, A2, h, t1.trans t2⟩
def tellA (ws slots : List Nat) (F : T Value) (A : AH) (K : KF) : Prop := tellW ws (autoM ws slots F A) slots (lenM (autoM ws slots F A)) F A K
def idsL (k : Nat) : List Nat := Nat.rec (motive := fun _ => List Nat) [] (fun i ih => ih ++ [i]) k
def autoMk (k : Nat) (ws slots : List Nat) (F : T Value) (A : AH) : List (Nat × Nat) := numb (reach ws A 64 (idsL k ++ slotB F slots) []) 0
def tellAk (k : Nat) (ws slots : List Nat) (F : T Value) (A : AH) (K : KF) : Prop := tellWk k ws (autoMk k ws slots F A) slots (lenM (autoMk k ws slots F A)) F A K
def blkAt (p : NPos) (F : T Value) (A : AH) : Option Nat :=
 match p with
 | .made _ => none
 | .cutS _ => none
 | .cutC _ _ _ => none
 | .nilC _ _ _ => none
 | .slot t => (match F.get t with
   | some (.slice (some ⟨B, _, none⟩) _ _) => some B
   | _ => none)
 | .cell t j => (match F.get t with
   | some (.pointer (some ⟨B, 0, none⟩)) => (match A.t.get B with
     | some (.cells c _) => (match nth c j with
       | some (.slice (some ⟨B2, _, none⟩) _ _) => some B2
       | _ => none)
     | some (.arr _ rest nn _) => (match nth rest (j - nn) with
       | some (.slice (some ⟨B2, _, none⟩) _ _) => some B2
       | _ => none)
     | _ => none)
   | _ => none)
def frzK (E : Env) (l : List NPos) (F : T Value) : AH → (AH → Prop) → Prop :=
 List.rec (motive := fun _ => AH → (AH → Prop) → Prop) (fun A K => K A) (fun p _ ih A K => match blkAt p F A with
  | some B => frzT E B 16 A (fun A1 => ih A1 K)
  | none => ih A K) l
theorem frzK_ok {E : Env} (ok : E.Ok) {F : T Value} : ∀ {l : List NPos} {A : AH} {K : AH → Prop}, frzK E l F A K → ∃ A', K A' ∧ ∀ (σ : Sig) (w : World), Rel E.P σ A w → ∃ σ', Rel E.P σ' A' w ∧ Ext σ A w σ' A' w
 | [], A, K, h => ⟨A, h, fun σ w R => ⟨σ, R, Ext.refl _ _ _⟩⟩
 | p :: l, A, K, h => by
   have h : (match blkAt p F A with
    | some B => frzT E B 16 A (fun A1 => frzK E l F A1 K)
    | none => frzK E l F A K) := h
   split at h
   · obtain ⟨A1, h, h1⟩ := frzT_ok ok h
     obtain ⟨A2, h, h2⟩ := frzK_ok ok h
     refine ⟨A2, h, fun σ w R => ?_⟩
     obtain ⟨σ1, R1, X1⟩ := h1 σ w R
     obtain ⟨σ2, R2, X2⟩ := h2 σ1 w R1
     exact ⟨σ2, R2, X1.trans X2⟩
   · exact frzK_ok ok h
theorem frzK_turns {E : Env} (ok : E.Ok) {A0 : AH} {n : Nat} {l : List NPos} {F : T Value} {A : AH} {K : AH → Prop} (h : frzK E l F A K) : ∃ A', K A' ∧ Turns E A0 n F A F A' := by
 obtain ⟨A', h, h1⟩ := frzK_ok ok h
 refine ⟨A', h, fun σ0 w0 a w ⟨σ, hF, R, hg, X⟩ => ?_⟩
 obtain ⟨σ', R', X'⟩ := h1 σ w R
 have hsub := Ext.sub R X'
 exact ⟨σ', hF.mono hsub, R', hg.sub hsub, X.trans X'⟩
def tellN (E : Env) (ns : List (NPos × TypeId × Nat)) (zs : List NPos) (ws slots : List Nat) (F : T Value) (A : AH) (K : KF) : Prop := nilK E ns F A (fun F1 A1 => frzK E zs F1 A1 (fun A2 => tellA ws slots F1 A2 K))
def tellNk (k : Nat) (E : Env) (ns : List (NPos × TypeId × Nat)) (zs : List NPos) (ws slots : List Nat) (F : T Value) (A : AH) (K : KF) : Prop := nilK E ns F A (fun F1 A1 => frzK E zs F1 A1 (fun A2 => tellAk k ws slots F1 A2 K))
theorem tellNk_ok {E : Env} (ok : E.Ok) (hgl : GlOk E) {A0 : AH} {n : Nat} {ns : List (NPos × TypeId × Nat)} {zs : List NPos} {ws slots : List Nat} {F : T Value} {A : AH} {K : KF} (h : tellNk A0.next E ns zs ws slots F A K) : ∃ F1 A1, K F1 A1 ∧ Turns E A0 n F A F1 A1 := by
 obtain ⟨F1, A1, h, t1⟩ := nilK_ok (E := E) ok (A0 := A0) (n := n) h
 obtain ⟨A2, h, t2⟩ := frzK_turns ok (A0 := A0) (n := n) h
 obtain ⟨F3, A3, h, t3⟩ := tellWk_ok hgl (A0 := A0) (n := n) h
 exact ⟨F3, A3, h, t1.trans (t2.trans t3)⟩
theorem tellA_ok {E : Env} (hgl : GlOk E) {A0 : AH} (h0 : A0.next = 0) {n : Nat} {ws slots : List Nat} {F : T Value} {A : AH} {K : KF} (h : tellA ws slots F A K) : ∃ F1 A1, K F1 A1 ∧ Turns E A0 n F A F1 A1 := tellW_ok hgl h0 h
theorem tellN_ok {E : Env} (ok : E.Ok) (hgl : GlOk E) {A0 : AH} (h0 : A0.next = 0) {n : Nat} {ns : List (NPos × TypeId × Nat)} {zs : List NPos} {ws slots : List Nat} {F : T Value} {A : AH} {K : KF} (h : tellN E ns zs ws slots F A K) : ∃ F1 A1, K F1 A1 ∧ Turns E A0 n F A F1 A1 := by
 obtain ⟨F1, A1, h, t1⟩ := nilK_ok (E := E) ok (A0 := A0) (n := n) h
 obtain ⟨A2, h, t2⟩ := frzK_turns ok (A0 := A0) (n := n) h
 obtain ⟨F3, A3, h, t3⟩ := tellA_ok hgl h0 (n := n) h
 exact ⟨F3, A3, h, t1.trans (t2.trans t3)⟩
inductive LM where
 | unroll (m : Nat)
 | cutW (ws : List Nat) (m : List (Nat × Nat)) (slots : List Nat) (nx : Nat)
 | auto (ws slots : List Nat)
 | autoN (ns : List (NPos × TypeId × Nat)) (zs : List NPos) (ws slots : List Nat)
def LM.cut (m : List (Nat × Nat)) (slots : List Nat) (nx : Nat) : LM := .cutW [] m slots nx
structure SX where
 E : Env
 tab : Tab
 el : El
 lm : Nat → LM
structure SX.Ok (X : SX) : Prop where
 ok : X.E.Ok
 sym : X.E.sym = true
 gl : GlOk X.E
 tab : TabOk X.E X.tab
def keyOf (c : Code) : Nat :=
 Code.rec (motive := fun _ => Nat) 0 (fun id _ _ => id) (fun _ _ x y => bif Nat.beq x 0 then y else x) (fun _ _ _ x y => bif Nat.beq x 0 then y else x) (fun _ _ x => x) (fun _ x => x) (fun _ _ _ _ x y => bif Nat.beq x 0 then y else x) (fun _ => 0) (fun _ x => x) (fun _ => 0) (fun _ => 0) 0 (fun _ => 0) c
abbrev KX := Ex → T Value → AH → Prop
abbrev SC := T Value → AH → KX → Prop
def sxBr (E : Env) (F : T Value) (b : Operand) (x y : T Value → Prop) : Prop := match b with
 | .tmp t => (match F.get t with | some (.bool v) => Sp v (setK F t (.bool true) x) (setK F t (.bool false) y) | _ => Stop b)
 | b => (match ev E F b with | some (.bool v) => Sp v (x F) (y F) | _ => Stop b)
theorem sxBr_ok {E : Env} {F : T Value} {b : Operand} {x y : T Value → Prop} (h : sxBr E F b x y) : ∃ t, ev E F b = some (.bool t) ∧ ((t = true ∧ x F) ∨ (t = false ∧ y F)) := by
 unfold sxBr at h
 split at h
 · rename_i t
   split at h
   · rename_i v hv
     refine ⟨v, hv, ?_⟩
     rcases h.cases with ⟨hb, h⟩ | ⟨hb, h⟩
     · obtain ⟨F', hF, h⟩ := setK_ok h
       rw [hb] at hv
       rw [set_same _ _ _ _ _ hv hF] at h
       exact .inl ⟨hb, h⟩
     · obtain ⟨F', hF, h⟩ := setK_ok h
       rw [hb] at hv
       rw [set_same _ _ _ _ _ hv hF] at h
       exact .inr ⟨hb, h⟩
   · exact h.elim
 · split at h
   · rename_i v hv; exact ⟨v, hv, h.cases⟩
   · exact h.elim
def sxRounds (b : SC) (m : Nat) (K : KX) : T Value → AH → Prop := Nat.rec (motive := fun _ => T Value → AH → Prop) (fun _ _ => False) (fun _ ih F A => b F A (Then ih K)) m
def sxLoop (X : SX) (A0 : AH) (n : Nat) (body : Code) (b : SC) : SC := fun F A K =>
 match X.lm (keyOf body) with
 | .unroll m => sxRounds b m K F A
 | .cutW ws m slots nx => bif Nat.beq A0.next 0 then tellW ws m slots nx F A (fun F1 A1 => Leaf (W X.E A0 n (.loop body) K F1 A1)) else tellWk A0.next ws m slots nx F A (fun F1 A1 => Leaf (W X.E A0 n (.loop body) K F1 A1))
 | .auto ws slots => bif Nat.beq A0.next 0 then tellA ws slots F A (fun F1 A1 => Leaf (W X.E A0 n (.loop body) K F1 A1)) else tellAk A0.next ws slots F A (fun F1 A1 => Leaf (W X.E A0 n (.loop body) K F1 A1))
 | .autoN ns zs ws slots => bif Nat.beq A0.next 0 then tellN X.E ns zs ws slots F A (fun F1 A1 => Leaf (W X.E A0 n (.loop body) K F1 A1)) else tellNk A0.next X.E ns zs ws slots F A (fun F1 A1 => Leaf (W X.E A0 n (.loop body) K F1 A1))
def sxRegion (X : SX) (inl : Inl) (n : Nat) (ops : Array Oper) (draw : Bool) : SC := fun F A K =>
 match draw with
 | false => sxOps X.tab inl X.E X.el ops.toList n ops.toList F A (K .normal)
 | true => sxReg X.tab X.E X.el ops ops.toList ops.toList.length n F A (K .normal)
def sxC (X : SX) (inl : Inl) (A0 : AH) (n : Nat) (c : Code) : SC :=
 Code.rec (motive := fun _ => SC)
  (fun F A K => K .normal F A)
  (fun _ ops draw => sxRegion X inl n ops draw)
  (fun _ _ x y F A K => x F A (Then (fun F' A' => y F' A' K) K))
  (fun b _ _ x y F A K => sxBr X.E F b (fun F => x F A K) (fun F => y F A K))
  (fun id _ x F A K => x F A (Blk id K))
  (fun body x => sxLoop X A0 n body x)
  (fun _ _ _ _ _ _ _ _ _ => False)
  (fun id F A K => K (.exit id) F A)
  (fun _ x F A K => x F A K)
  (fun _ F A K => K .normal F A)
  (fun _ _ _ _ => False)
  (fun F A K => K .ret F A)
  (fun _ _ _ _ => False) c
theorem sxRounds_ok {E : Env} {A0 : AH} {n : Nat} {body : Code} {b : SC} (hb : ∀ F A K, b F A K → W E A0 n body K F A) {K : KX} : ∀ (m : Nat) (F : T Value) (A : AH), sxRounds b m K F A → WR E A0 n body K m F A
 | 0, F, A, h => h.elim
 | m + 1, F, A, h => by
   refine WR.next ((hb F A _ h).mono fun ex F' A' q => ?_)
   cases ex with
   | normal => exact sxRounds_ok hb m F' A' q
   | exit id => exact q
   | ret => exact q
theorem sxC_ok {X : SX} (hX : X.Ok) {inl : Inl} (hi : InlOk X.E inl) {A0 : AH} {n : Nat} (c : Code) : ∀ F A K, sxC X inl A0 n c F A K → W X.E A0 n c K F A := by
 induction c with
 | skip => intro F A K h; exact W.skip h
 | region id ops draw =>
   intro F A K h
   have h : sxRegion X inl n ops draw F A K := h
   unfold sxRegion at h
   cases draw with
   | false => exact W.sxOps hX.ok hX.sym hX.tab hi h
   | true => exact W.sxReg hX.ok hX.sym hX.tab h
 | seq a b iha ihb =>
   intro F A K h
   have h : sxC X inl A0 n a F A (Then (fun F' A' => sxC X inl A0 n b F' A' K) K) := h
   refine W.seq ((iha F A _ h).mono fun ex F' A' q => ?_)
   cases ex with
   | normal => exact ihb F' A' K q
   | exit id => exact q
   | ret => exact q
 | cond b x y ihx ihy =>
   intro F A K h
   have h : sxBr X.E F b (fun F => sxC X inl A0 n x F A K) (fun F => sxC X inl A0 n y F A K) := h
   obtain ⟨t, ht, h⟩ := sxBr_ok h
   refine W.cond ht (fun e => ?_) (fun e => ?_)
   · rcases h with ⟨_, h⟩ | ⟨e2, _⟩
     · exact ihx F A K h
     · rw [e] at e2; cases e2
   · rcases h with ⟨e2, _⟩ | ⟨_, h⟩
     · rw [e] at e2; cases e2
     · exact ihy F A K h
 | block id b ih => intro F A K h; exact W.block (ih F A _ h)
 | loop b ih =>
   intro F A K h
   have h : sxLoop X A0 n b (sxC X inl A0 n b) F A K := h
   unfold sxLoop at h
   split at h
   · rename_i m _
     exact W.rounds m (sxRounds_ok (fun F A K h => ih F A K h) m F A h)
   · rename_i ws m slots nx _
     cases hz : Nat.beq A0.next 0 with
     | false =>
       rw [hz] at h
       have h : tellWk A0.next ws m slots nx F A (fun F1 A1 => Leaf (W X.E A0 n (.loop b) K F1 A1)) := h
       obtain ⟨F1, A1, k, ht⟩ := tellWk_ok (E := X.E) hX.gl (A0 := A0) (n := n) h
       exact W.turns ht k.get
     | true =>
       rw [hz] at h
       have h : tellW ws m slots nx F A (fun F1 A1 => Leaf (W X.E A0 n (.loop b) K F1 A1)) := h
       obtain ⟨F1, A1, k, ht⟩ := tellW_ok (E := X.E) hX.gl (Nat.eq_of_beq_eq_true hz) (n := n) h
       exact W.turns ht k.get
   · rename_i ws slots _
     cases hz : Nat.beq A0.next 0 with
     | false =>
       rw [hz] at h
       have h : tellAk A0.next ws slots F A (fun F1 A1 => Leaf (W X.E A0 n (.loop b) K F1 A1)) := h
       obtain ⟨F1, A1, k, ht⟩ := tellWk_ok (E := X.E) hX.gl (A0 := A0) (n := n) h
       exact W.turns ht k.get
     | true =>
       rw [hz] at h
       have h : tellA ws slots F A (fun F1 A1 => Leaf (W X.E A0 n (.loop b) K F1 A1)) := h
       obtain ⟨F1, A1, k, ht⟩ := tellA_ok (E := X.E) hX.gl (Nat.eq_of_beq_eq_true hz) (n := n) h
       exact W.turns ht k.get
   · rename_i ns zs ws slots _
     cases hz : Nat.beq A0.next 0 with
     | false =>
       rw [hz] at h
       have h : tellNk A0.next X.E ns zs ws slots F A (fun F1 A1 => Leaf (W X.E A0 n (.loop b) K F1 A1)) := h
       obtain ⟨F1, A1, k, ht⟩ := tellNk_ok (E := X.E) hX.ok hX.gl (A0 := A0) (n := n) h
       exact W.turns ht k.get
     | true =>
       rw [hz] at h
       have h : tellN X.E ns zs ws slots F A (fun F1 A1 => Leaf (W X.E A0 n (.loop b) K F1 A1)) := h
       obtain ⟨F1, A1, k, ht⟩ := tellN_ok (E := X.E) hX.ok hX.gl (Nat.eq_of_beq_eq_true hz) (n := n) h
       exact W.turns ht k.get
 | rangeFunc f ps a b => intro F A K h; exact False.elim h
 | exit id => intro F A K h; exact W.exit h
 | scope b ih => intro F A K h; exact W.scope (ih F A K h)
 | label l => intro F A K h; exact W.label h
 | goto l => intro F A K h; exact False.elim h
 | ret => intro F A K h; exact W.ret h
 | refuse s => intro F A K h; exact False.elim h
def finK (E : Env) (rs : List ResultVar) (K : KV) : KX := fun ex F A =>
 match ex with
 | .exit _ => False
 | _ => (match resultsA E A F rs with | some v => K v A | none => False)
theorem finK_ok {E : Env} {fn : Func} {K : KV} {ex : Ex} {F : T Value} {A : AH} (h : finK E fn.results.toList K ex F A) : Fin E fn K ex F A := by
 cases ex with
 | exit id => exact h.elim
 | normal =>
   have h : (match resultsA E A F fn.results.toList with | some v => K v A | none => False) := h
   split at h
   · rename_i v hv; exact .normal hv h
   · exact h.elim
 | ret =>
   have h : (match resultsA E A F fn.results.toList with | some v => K v A | none => False) := h
   split at h
   · rename_i v hv; exact .ret hv h
   · exact h.elim
def bodyK (X : SX) (inl : Inl) (A0 : AH) (fn : Func) (c : Code) (args : List Value) (K : KV) : Prop :=
 match mkFrame args 0 .leaf with
 | some F => bif Nat.ble args.length fn.ntmps then sxC X inl A0 fn.ntmps c F A0 (finK X.E fn.results.toList K) else False
 | none => False
def inl1 (X : SX) (ih : Inl) : Inl := fun fn args A K => match fn.body with
 | some c => bodyK ⟨X.E, X.tab, X.el, fun _ => .unroll 12⟩ ih A fn c args K
 | none => False
def inlN (X : SX) (d : Nat) : Inl := Nat.rec (motive := fun _ => Inl) (fun _ _ _ _ => False) (fun _ ih => inl1 X ih) d
theorem inlN_ok {X : SX} (hX : X.Ok) : ∀ d, InlOk X.E (inlN X d)
 | 0 => fun g fn _ args A K h => by exact False.elim h
 | d + 1 => fun g fn hfn args A K h σ w args' R hg ha => by
   have h : inl1 X (inlN X d) fn args A K := h
   unfold inl1 at h
   split at h
   · rename_i c hc
     unfold bodyK at h
     split at h
     · rename_i F hF
       cases hb : Nat.ble args.length fn.ntmps with
       | false => rw [hb] at h; exact h.elim
       | true =>
         rw [hb] at h
         have hX2 : SX.Ok ⟨X.E, X.tab, X.el, fun _ => .unroll 12⟩ := ⟨hX.ok, hX.sym, hX.gl, hX.tab⟩
         have hW := (sxC_ok hX2 (inlN_ok hX d) c F A _ h).mono (R := Fin X.E fn K) fun ex F' A' q => finK_ok q
         refine (fun_calls hX.ok hfn hc hF (Nat.le_of_ble_eq_true hb) hW R hg ha).mono fun e w' he => ?_
         obtain ⟨v, v', A', σ', h1, h2, h3, h4, h5⟩ := he
         exact ⟨v, A', v', σ', h1, h2, h3, h4, h5⟩
     · exact h.elim
   · exact h.elim
def sx (X : SX) (d : Nat) (A0 : AH) (n : Nat) (c : Code) : SC := sxC X (inlN X d) A0 n c
theorem sx_ok {X : SX} (hX : X.Ok) {d : Nat} {A0 : AH} {n : Nat} {c : Code} {F : T Value} {A : AH} {K : KX} (h : sx X d A0 n c F A K) : W X.E A0 n c K F A := sxC_ok hX (inlN_ok hX d) c F A K h
def sxFn (X : SX) (d : Nat) (fn : Func) (args : List Value) (K : KV) : Prop := match fn.body with
 | some c => bodyK X (inlN X d) ⟨.leaf, 0⟩ fn c args K
 | none => False
theorem sxFn_gen {X : SX} (hX : X.Ok) {d : Nat} {fn : Func} {args : List Value} {K : KV} (h : sxFn X d fn args K) : ∃ c F, fn.body = some c ∧ Nat.ble args.length fn.ntmps = true ∧ mkFrame args 0 .leaf = some F ∧ W X.E ⟨.leaf, 0⟩ fn.ntmps c (Fin X.E fn K) F ⟨.leaf, 0⟩ := by
 unfold sxFn at h
 split at h
 · rename_i c hc
   unfold bodyK at h
   split at h
   · rename_i F hF
     cases hb : Nat.ble args.length fn.ntmps with
     | false => rw [hb] at h; exact h.elim
     | true =>
       rw [hb] at h
       exact ⟨c, F, hc, rfl, hF, (sx_ok hX (d := d) h).mono fun ex F' A' q => finK_ok q⟩
   · exact h.elim
 · exact h.elim
def plainB : Nat → Value → Bool
 | 0, _ => false
 | k + 1, v => match v with
   | .agg ⟨xs⟩ => xs.all (plainB k)
   | .tuple ⟨xs⟩ => xs.all (plainB k)
   | .iface _ x => plainB k x
   | .func (.yield _) _ _ => true
   | v => scal v
def leafK (Q : Value → Prop) (QA : KV) : KV := fun v A => match plainB 8 v with | true => Q v | false => QA v A
theorem leafK_ok {Q : Value → Prop} {QA : KV} {v : Value} {A : AH} (h : leafK Q QA v A) : Q v ∨ QA v A := by
 unfold leafK at h
 split at h
 · exact .inl h
 · exact .inr h
theorem sxFn_plain {X : SX} (hX : X.Ok) {d : Nat} {fn : Func} {args : List Value} {v : Value} (hv : HF v) (h : sxFn X d fn args (leafK (fun v2 => v2 = v) (fun v2 A2 => Frz A2 v2 v))) : Walk X.E fn args v := by
 obtain ⟨c, F, h1, h2, h3, h4⟩ := sxFn_gen hX h
 refine ⟨c, F, h1, h2, h3, h4.mono fun ex F' A' q => ?_⟩
 obtain ⟨q1, v2, q2, q3⟩ := q
 refine ⟨q1, v2, q2, ?_⟩
 rcases leafK_ok q3 with q3 | q3
 · rw [q3]; exact .same hv
 · exact q3
def bodyOf (fn : Func) : Code := match fn.body with | some c => c | none => .skip
def loopBody : Code → Code
 | .loop b => b
 | c => c
def isLoop : Code → Bool
 | .loop _ => true
 | _ => false
theorem loop_eq {c : Code} (h : isLoop c = true) : c = .loop (loopBody c) := by
 cases c <;> first | rfl | (simp [isLoop] at h)
def subC : List Nat → Code → Code
 | [], c => c
 | i :: p, c => match c with
   | .seq a b => bif Nat.beq i 0 then subC p a else subC p b
   | .cond _ a b => bif Nat.beq i 0 then subC p a else subC p b
   | .block _ b => subC p b
   | .scope b => subC p b
   | .loop b => subC p b
   | c => c
def ctxK (X : SX) (d : Nat) (n : Nat) : List Nat → Code → KX → KX
 | [], _, K => K
 | i :: p, c, K => match c with
   | .seq a b => bif Nat.beq i 0 then ctxK X d n p a (Then (fun F A => sx X d ⟨.leaf, 0⟩ n b F A K) K) else ctxK X d n p b K
   | .cond _ a b => bif Nat.beq i 0 then ctxK X d n p a K else ctxK X d n p b K
   | .block id b => ctxK X d n p b (Blk id K)
   | .scope b => ctxK X d n p b K
   | _ => K
def LAt (X : SX) (d n : Nat) (c : Code) (p : List Nat) (K : KX) (F : T Value) (A : AH) : Prop := Leaf (W X.E ⟨.leaf, 0⟩ n (subC p c) (ctxK X d n p c K) F A)
def stepK (X : SX) (d : Nat) (fn : Func) (p : List Nat) (K : KV) (m : List (Nat × Nat)) (slots : List Nat) (nx : Nat) (again : KF) : KX := Then (fun F' A' => tellK m slots nx F' A' again) (ctxK X d fn.ntmps p (bodyOf fn) (finK X.E fn.results.toList K))
def sxStep (X : SX) (d : Nat) (fn : Func) (p : List Nat) (K : KV) (m : List (Nat × Nat)) (slots : List Nat) (nx : Nat) (again : KF) (F : T Value) (A : AH) : Prop := sx X d ⟨.leaf, 0⟩ fn.ntmps (loopBody (subC p (bodyOf fn))) F A (stepK X d fn p K m slots nx again)
theorem LAt.intro {X : SX} (hX : X.Ok) {d n : Nat} {c : Code} {p : List Nat} {K : KX} {F : T Value} {A : AH} (ws : List Nat) (m : List (Nat × Nat)) (slots : List Nat) (nx : Nat) (hl : isLoop (subC p c) = true) (I : Nat → T Value → AH → Prop)
 (step : ∀ k F A, I k F A → sx X d ⟨.leaf, 0⟩ n (loopBody (subC p c)) F A (Then (fun F' A' => tellW ws m slots nx F' A' (fun F1 A1 => ∃ k', k' < k ∧ I k' F1 A1)) (ctxK X d n p c K))) {k : Nat} (h : I k F A) : LAt X d n c p K F A := by
 refine .mk ?_
 rw [loop_eq hl]
 refine W.loopT I (fun k F A hI => ?_) h Turns.refl
 refine (sx_ok hX (step k F A hI)).mono fun ex F' A' q => ?_
 cases ex with
 | normal =>
   have q : tellW ws m slots nx F' A' (fun F1 A1 => ∃ k', k' < k ∧ I k' F1 A1) := q
   obtain ⟨F1, A1, ⟨k', h1, h2⟩, h3⟩ := tellW_ok (E := X.E) hX.gl (A0 := ⟨.leaf, 0⟩) rfl (n := n) q
   exact ⟨k', F1, A1, h1, h2, h3⟩
 | exit id => exact q
 | ret => exact q
theorem LAt.step {X : SX} (hX : X.Ok) {d : Nat} {fn : Func} {p : List Nat} {K : KV} {F : T Value} {A : AH} (m : List (Nat × Nat)) (slots : List Nat) (nx : Nat) (hl : isLoop (subC p (bodyOf fn)) = true) (I : Nat → T Value → AH → Prop)
 (step : ∀ k F A, I k F A → sxStep X d fn p K m slots nx (fun F1 A1 => ∃ k', k' < k ∧ I k' F1 A1) F A) {k : Nat} (h : I k F A) : LAt X d fn.ntmps (bodyOf fn) p (finK X.E fn.results.toList K) F A :=
 LAt.intro hX [] m slots nx hl I step h
def ptr0 : Value := .pointer (some ⟨0, 0, none⟩)
theorem con_tab {E : Env} {f : FuncId} {val : List Value → Option Value} (h : Con E f (pureX val)) : ∀ args A p v A', pureR (fun _ => none) val args A = some (p, v, A') → PH p → CallAt E f args A v A' :=
 pureR_ok fun args v hv _ A σ w args' R hg ha => h args A v A (by simp [pureX, hv]) σ w args' R hg ha
theorem walk_tab {E : Env} (ok : E.Ok) (hgl : GlOk E) {f : FuncId} {fn : Func} (hfn : E.fn f = some fn) {pre : List Value → Option Prop} {val : List Value → Option Value} (h : ∀ args v, val args = some v → PH (pre args) → (∀ x ∈ args, HF x) ∧ Walk E fn args v) :
 ∀ args A p v A', pureR pre val args A = some (p, v, A') → PH p → CallAt E f args A v A' :=
 pureR_ok fun args v hv hp A => callAt_walk ok hgl hfn (h args v hv hp).1 (h args v hv hp).2 A
end
end Go.AM
namespace Go.MK
open Go Go.AM
noncomputable section
variable {K V : Type} [DecidableEq K]
end
end Go.MK
namespace Go.AM
noncomputable section
def ctxKZ (X : SX) (d : Nat) (n : Nat) (A0 : AH) : List Nat → Code → KX → KX
 | [], _, K => K
 | i :: p, c, K => match c with
   | .seq a b => bif Nat.beq i 0 then ctxKZ X d n A0 p a (Then (fun F A => sx X d A0 n b F A K) K) else ctxKZ X d n A0 p b K
   | .cond _ a b => bif Nat.beq i 0 then ctxKZ X d n A0 p a K else ctxKZ X d n A0 p b K
   | .block id b => ctxKZ X d n A0 p b (Blk id K)
   | .scope b => ctxKZ X d n A0 p b K
   | _ => K
def LAtZ (X : SX) (d n : Nat) (A0 : AH) (c : Code) (p : List Nat) (K : KX) (F : T Value) (A : AH) : Prop := Leaf (W X.E A0 n (subC p c) (ctxKZ X d n A0 p c K) F A)
def stepZ (X : SX) (d n : Nat) (A0 : AH) (c : Code) (p : List Nat) (K : KX) (ns : List (NPos × TypeId × Nat)) (zs : List NPos) (ws slots : List Nat) (again : KF) : KX := Then (fun F' A' => tellN X.E ns zs ws slots F' A' again) (ctxKZ X d n A0 p c K)
def sxStepZ (X : SX) (d n : Nat) (A0 : AH) (c : Code) (p : List Nat) (K : KX) (ns : List (NPos × TypeId × Nat)) (zs : List NPos) (ws slots : List Nat) (again : KF) (F : T Value) (A : AH) : Prop := sx X d A0 n (loopBody (subC p c)) F A (stepZ X d n A0 c p K ns zs ws slots again)
theorem LAtZ.step {X : SX} (hX : X.Ok) {d n : Nat} {A0 : AH} (h0 : A0.next = 0) {c : Code} {p : List Nat} {K : KX} {F : T Value} {A : AH} (ns : List (NPos × TypeId × Nat)) (zs : List NPos) (ws slots : List Nat) (hl : isLoop (subC p c) = true) (I : Nat → T Value → AH → Prop)
 (step : ∀ k F A, I k F A → sxStepZ X d n A0 c p K ns zs ws slots (fun F1 A1 => ∃ k', k' < k ∧ I k' F1 A1) F A) {k : Nat} (h : I k F A) : LAtZ X d n A0 c p K F A := by
 refine .mk ?_
 rw [loop_eq hl]
 refine W.loopT I (fun k F A hI => ?_) h Turns.refl
 refine (sx_ok hX (step k F A hI)).mono fun ex F' A' q => ?_
 cases ex with
 | normal =>
   have q : tellN X.E ns zs ws slots F' A' (fun F1 A1 => ∃ k', k' < k ∧ I k' F1 A1) := q
   obtain ⟨F1, A1, ⟨k', h1, h2⟩, h3⟩ := tellN_ok (E := X.E) hX.ok hX.gl (A0 := A0) h0 (n := n) q
   exact ⟨k', F1, A1, h1, h2, h3⟩
 | exit id => exact q
 | ret => exact q
def stepF (X : SX) (d n : Nat) (A0 : AH) (c : Code) (p : List Nat) (K : KX) (ns : List (NPos × TypeId × Nat)) (zs : List NPos) (ws slots : List Nat) (again : KF) : KX := Then (fun F' A' => tellNk A0.next X.E ns zs ws slots F' A' again) (ctxKZ X d n A0 p c K)
def sxStepF (X : SX) (d n : Nat) (A0 : AH) (c : Code) (p : List Nat) (K : KX) (ns : List (NPos × TypeId × Nat)) (zs : List NPos) (ws slots : List Nat) (again : KF) (F : T Value) (A : AH) : Prop := sx X d A0 n (loopBody (subC p c)) F A (stepF X d n A0 c p K ns zs ws slots again)
theorem LAtZ.stepF {X : SX} (hX : X.Ok) {d n : Nat} {A0 : AH} {c : Code} {p : List Nat} {K : KX} {F : T Value} {A : AH} (ns : List (NPos × TypeId × Nat)) (zs : List NPos) (ws slots : List Nat) (hl : isLoop (subC p c) = true) (I : Nat → T Value → AH → Prop)
 (step : ∀ k F A, I k F A → sxStepF X d n A0 c p K ns zs ws slots (fun F1 A1 => ∃ k', k' < k ∧ I k' F1 A1) F A) {k : Nat} (h : I k F A) : LAtZ X d n A0 c p K F A := by
 refine .mk ?_
 rw [loop_eq hl]
 refine W.loopT I (fun k F A hI => ?_) h Turns.refl
 refine (sx_ok hX (step k F A hI)).mono fun ex F' A' q => ?_
 cases ex with
 | normal =>
   have q : tellNk A0.next X.E ns zs ws slots F' A' (fun F1 A1 => ∃ k', k' < k ∧ I k' F1 A1) := q
   obtain ⟨F1, A1, ⟨k', h1, h2⟩, h3⟩ := tellNk_ok (E := X.E) hX.ok hX.gl (A0 := A0) (n := n) q
   exact ⟨k', F1, A1, h1, h2, h3⟩
 | exit id => exact q
 | ret => exact q
theorem fun_callsZ {E : Env} (ok : E.Ok) {f : FuncId} {fn : Func} {c : Code} (hfn : E.fn f = some fn) (hbody : fn.body = some c) {args : List Value} {F : T Value} {A0 A : AH} {Q : Value → AH → Prop}
 (hframe : mkFrame args 0 .leaf = some F) (hb : args.length ≤ fn.ntmps) (hW : W E A0 fn.ntmps c (Fin E fn Q) F A) {σ0 σ : Sig} {w0 w : World} {args' : List Value} (R : Rel E.P σ A w) (hg : Glob E σ) (hX : Ext σ0 A0 w0 σ A w) (ha : VRs σ args args') :
 Calls E.P f ⟨args'⟩ w (fun e w' => ∃ v v' A' σ', e = .returned v' ∧ Q v A' ∧ VR σ' v v' ∧ Rel E.P σ' A' w' ∧ Ext σ0 A0 w0 σ' A' w') := by
 have hlen := ha.length
 have hFR : FR σ F fn.ntmps { tmps := (⟨args'⟩ : Array Value) ++ Array.replicate (fn.ntmps - (⟨args'⟩ : Array Value).size) undef, defers := [] } := by
  refine ⟨by simp; omega, fun t u0 hu0 => ?_, rfl⟩
  unfold slot at hu0
  rw [mkFrame_get hframe t] at hu0
  simp only
  rw [Array.getD_eq_getD_getElem?, Array.getElem?_append]
  by_cases ht : t < args.length
  · rw [if_pos ⟨Nat.zero_le _, by omega⟩, Nat.sub_zero] at hu0
    rw [if_pos (by simp; omega)]
    obtain ⟨u, h1, h2⟩ := ha.get hu0
    have : (⟨args'⟩ : Array Value)[t]? = some u := by simpa using h1
    rw [this]
    exact h2
  · rw [if_neg (by omega)] at hu0
    cases hu0
 refine calls_of_wp (ok.fn f fn hfn) hbody (hW σ0 w0 _ w ⟨σ, hFR, R, hg, hX⟩ _ fun ex F' A' a' w' hq hat => ?_)
 obtain ⟨hex, v, hres, hQ⟩ := hq
 obtain ⟨σ', q1, q2, _, q3⟩ := hat
 obtain ⟨v', r1, r2⟩ := results_ok ok q2 q1 hres
 have post : a'.defers = [] ∧ ∃ u, (results fn a'.tmps).run E.P w' = .ok u w' ∧ (fun e w' => ∃ v v' A' σ', e = Ending.returned v' ∧ Q v A' ∧ VR σ' v v' ∧ Rel E.P σ' A' w' ∧ Ext σ0 A0 w0 σ' A' w') (.returned u) w' :=
  ⟨q1.defers, v', r1, v, v', A', σ', rfl, hQ, r2, q2, q3⟩
 rcases hex with rfl | rfl <;> exact post
theorem RVs.move {ρ : Nat → Option Nat} {σ : Sig} : ∀ {l l1 : List Value}, RVs ρ l l1 → ∀ {l' : List Value}, VRs σ l l' → VRs (sigT ρ σ) l1 l'
 | _, _, .nil, _, .nil => .nil
 | _, _, .cons h t, _, .cons a b => .cons (h.move _ a) (RVs.move t b)
theorem Rel.ren {P : Program} {σ : Sig} {A : AH} {w : World} (R : Rel P σ A w) {m : List (Nat × Nat)} {lh : List (Nat × AObj)} {nx : Nat} {t1 : T AObj} (hm : backOk nx m = true) (hh : ofL lh .leaf = some t1) (rh : RenH m A lh) : Rel P (sigT (back m) σ) ⟨t1, nx⟩ w := by
 have hH1 : ∀ {B' : Nat} {o1 : AObj}, t1.get B' = some o1 → ∃ B o, back m B' = some B ∧ A.t.get B = some o ∧ RO (back m) o o1 := fun h => by
  rcases ofL_get hh h with h | h
  · exact rh.mem h
  · simp [T.get] at h
 refine ⟨?_, ?_, ?_, ?_, R.ro, ?_, fun B' h => ?_⟩
 · intro B' o1 h hhere
   obtain ⟨B, o, h1, h2, h3⟩ := hH1 h
   rcases R.obj0 B o h2 (by rw [← h3.here]; exact hhere) with ⟨b, d, c, g1, g2⟩ | ⟨g1, g2⟩
   · exact .inl ⟨b, d, c, sigT_at h1 g1, h3.move g2⟩
   · exact .inr ⟨h3.nilOk.trans g1, B, h1, g2⟩
 · intro B1 B2 o1 o2 x1 x2 h1 h2 ho hh2 hne hx1 hx2
   obtain ⟨C1, p1, a1, a2, a3⟩ := hH1 h1
   obtain ⟨C2, p2, b1, b2, b3⟩ := hH1 h2
   obtain ⟨D1, d1, d2⟩ := sigT_of hx1
   obtain ⟨D2, e1, e2⟩ := sigT_of hx2
   rw [a1] at d1; cases d1
   rw [b1] at e1; cases e1
   exact R.inj C1 C2 p1 p2 x1 x2 a2 b2 (by rw [← a3.own]; exact ho) (by rw [← b3.here]; exact hh2) (fun e => by subst e; exact hne (back_inj hm a1 b1)) d2 e2
 · intro B' x hx
   obtain ⟨B, _, h2⟩ := sigT_of hx
   exact R.lt B x h2
 · intro B' hB'
   show (back m B').bind σ.f = none
   cases hb : back m B' with
   | none => rfl
   | some B => exact absurd (back_lt hm (back_mem hb)) (by simp at hB'; omega)
 · intro B' o1 x h ho hx
   obtain ⟨B, o, h1, h2, h3⟩ := hH1 h
   obtain ⟨D, d1, d2⟩ := sigT_of hx
   rw [h1] at d1; cases d1
   exact R.sep B o x h2 (by rw [← h3.own]; exact ho) d2
 · obtain ⟨B, h1, h2⟩ := h
   refine ⟨back_lt hm (back_mem h1), ?_⟩
   show (back m B').bind σ.f = none
   rw [h1]; exact (R.nl B h2).2
def gvn (σ : Sig) (m : List (Nat × Nat)) (b : Nat) : Prop := ∃ x ∈ m, ∃ y, σ x.2 = some y ∧ y.1 = b
open Classical in
end
end Go.AM
namespace Go.AM
noncomputable section
open Classical in
def sigF (σ σ2 : Sig) (N : Nat) (m m2 : List (Nat × Nat)) (w : World) : Sig :=
 ⟨fun B => if B < N then σ.f B else (back m2 B).bind σ2.f, fun b => if b < w.heap.size ∧ ¬ gvn σ m b then σ.ro b else σ2.ro b, fun B => if B < N then σ.nl B else ∃ j, back m2 B = some j ∧ σ2.nl j⟩
theorem frame_core {P : Program} {σ σ2 : Sig} {A A2 : AH} {w w' : World} {m m2 : List (Nat × Nat)} {k nx : Nat} {t1 tA : T AObj} {lh lo : List (Nat × AObj)} {v2 v v' : Value} (R : Rel P σ A w)
 (hm : backOk k m = true) (hk : ∀ i, i < k → ∃ B, back m i = some B) (hh : ofL lh .leaf = some t1) (rh : RenH m A lh) (hown : ∀ x ∈ m, ∃ o, A.t.get x.2 = some o ∧ o.own = true)
 (R2 : Rel P σ2 A2 w') (X : Ext (sigT (back m) σ) ⟨t1, k⟩ w σ2 A2 w') (hVR : VR σ2 v2 v')
 (hm2 : backOk nx m2 = true) (hN : A.next ≤ nx) (hb2 : ∀ i B, i < k → back m i = some B → back m2 B = some i) (hn2 : ∀ x ∈ m2, x.2 < k ∨ A.next ≤ x.1) (rl : RenH m2 A2 lo) (hv : RV (back m2) v2 v)
 (htA : ∀ B o, tA.get B = some o → (B, o) ∈ lo ∨ ((∀ x ∈ m, x.2 ≠ B) ∧ A.t.get B = some o)) :
 ∃ σ', VR σ' v v' ∧ Rel P σ' ⟨tA, nx⟩ w' ∧ Ext σ A w σ' ⟨tA, nx⟩ w' := by
 have hkm : ∀ x ∈ m, x.1 < k := fun x hx => back_lt hm (B' := x.1) (B := x.2) hx
 have gfn : ∀ {B' : Nat} {x : Nat × Nat × Nat}, (sigT (back m) σ) B' = some x → ∃ B, back m B' = some B ∧ σ B = some x := fun h => sigT_of h
 have img : ∀ {B0 : Nat} {x : Nat × Nat × Nat}, (sigT (back m) σ) B0 = some x → gvn σ m x.1 := fun {B0 x} h2 => by
  obtain ⟨B, hb, hs⟩ := sigT_of h2
  exact ⟨_, back_mem hb, x, hs, rfl⟩
 have hold : ∀ b, b < w.heap.size → ¬ gvn σ m b → w'.heap[b]? = w.heap[b]? := fun b hb hn => X.frame b hb fun B0 o x h1 h2 h3 e => hn (e ▸ img h3)
 have hroP : ∀ b o, σ.ro b = some o → ¬ gvn σ m b := fun b o h ⟨x, hx, y, hy, e⟩ => by
  obtain ⟨o', ho', how⟩ := hown x hx
  have := R.sep x.2 o' y ho' how hy
  rw [e, h] at this; cases this
 have gOld : ∀ {b : Nat}, gvn σ m b → ∃ B0 o0 x0, A.t.get B0 = some o0 ∧ o0.own = true ∧ σ B0 = some x0 ∧ x0.1 = b := fun {b} ⟨x, hx, y, hy, e⟩ => by
  obtain ⟨o', ho', how⟩ := hown x hx
  exact ⟨x.2, o', y, ho', how, hy, e⟩
 have hlt : ∀ B o, A.t.get B = some o → o.here = true → B < A.next := fun B o h hh' => by
  rcases R.obj0 B o h hh' with ⟨b, d, c, g1, _⟩ | ⟨_, g2⟩
  · rcases Nat.lt_or_ge B A.next with q | q
    · exact q
    · rw [R.fresh B q] at g1; cases g1
  · exact (R.nl B g2).1
 have hnew : ∀ j o x, A2.t.get j = some o → o.here = true → σ2 j = some x → ¬ (x.1 < w.heap.size ∧ ¬ gvn σ m x.1) := fun j o x ho hh' hx ⟨q1, q2⟩ => by
  rcases X.orig2 j o x ho hh' hx with k1 | ⟨B0, o0, x0, k1, k2, k3, k4⟩
  · omega
  · exact q2 (k4 ▸ img k3)
 have fOld : ∀ B, B < A.next → (sigF σ σ2 A.next m m2 w) B = σ B := fun B h => if_pos h
 have fNew : ∀ B, ¬ B < A.next → (sigF σ σ2 A.next m m2 w) B = (back m2 B).bind σ2.f := fun B h => if_neg h
 have nOld : ∀ B, B < A.next → ((sigF σ σ2 A.next m m2 w).nl B ↔ σ.nl B) := fun B h => by
  show (if B < A.next then σ.nl B else _) ↔ _
  rw [if_pos h]
 have nNew : ∀ B, ¬ B < A.next → ((sigF σ σ2 A.next m m2 w).nl B ↔ ∃ j, back m2 B = some j ∧ σ2.nl j) := fun B h => by
  show (if B < A.next then σ.nl B else _) ↔ _
  rw [if_neg h]
 have rOld : ∀ b, b < w.heap.size ∧ ¬ gvn σ m b → (sigF σ σ2 A.next m m2 w).ro b = σ.ro b := fun b h => if_pos h
 have rNew : ∀ b, ¬ (b < w.heap.size ∧ ¬ gvn σ m b) → (sigF σ σ2 A.next m m2 w).ro b = σ2.ro b := fun b h => if_neg h
 have key : ∀ B j, back m2 B = some j → (sigF σ σ2 A.next m m2 w) B = σ2 j ∧ ((sigF σ σ2 A.next m m2 w).nl B ↔ σ2.nl j) := fun B j hb => by
  by_cases hB : B < A.next
  · have hj : j < k := by
     rcases hn2 _ (back_mem hb) with q | q
     · exact q
     · exact absurd hB (by simpa using q)
    obtain ⟨B0, hB0⟩ := hk j hj
    have e := back_inj hm2 hb (hb2 j B0 hj hB0)
    subst e
    have e1 : σ2 j = (sigT (back m) σ) j := X.sig j hj
    have e2 : (sigT (back m) σ) j = σ B := by
     show (back m j).bind σ.f = σ.f B
     rw [hB0]; rfl
    refine ⟨by rw [fOld B hB, e1, e2], (nOld B hB).trans ?_⟩
    refine Iff.trans ⟨fun h => ⟨B, hB0, h⟩, fun ⟨B', h1, h2⟩ => ?_⟩ (X.snl j hj).symm
    rw [hB0] at h1; cases h1; exact h2
  · refine ⟨by rw [fNew B hB, hb]; rfl, (nNew B hB).trans ⟨fun ⟨j', h1, h2⟩ => ?_, fun h => ⟨j, hb, h⟩⟩⟩
    rw [hb] at h1; cases h1; exact h2
 have sub1 : σ.sub (sigF σ σ2 A.next m m2 w) := ⟨fun B x h => by
  have hB : B < A.next := by
   rcases Nat.lt_or_ge B A.next with q | q
   · exact q
   · have := R.fresh B q; have h : σ B = some x := h; rw [this] at h; cases h
  exact (fOld B hB).trans h, fun b o h => (rOld b ⟨get_lt (R.ro b o h), hroP b o h⟩).trans h⟩
 have sub3 : (sigT (back m2) σ2).sub (sigF σ σ2 A.next m m2 w) := ⟨fun B x h => by
  obtain ⟨j, hb, hs⟩ := sigT_of h
  exact (key B j hb).1.trans hs, fun b o h => by
  have h : σ2.ro b = some o := h
  by_cases hc : b < w.heap.size ∧ ¬ gvn σ m b
  · refine (rOld b hc).trans ?_
    rcases X.rog b o h with q | q | ⟨B0, o0, x0, k1, k2, k3, k4⟩
    · exact q
    · exact absurd hc.1 (by omega)
    · exact absurd (k4 ▸ img k3) hc.2
  · exact (rNew b hc).trans h⟩
 have hnP : ∀ B o x, (∀ y ∈ m, y.2 ≠ B) → A.t.get B = some o → o.here = true → σ B = some x → x.1 < w.heap.size ∧ ¬ gvn σ m x.1 := fun B o x hne h hh' hx => ⟨R.lt B x hx, fun ⟨y, hy, z, hz, e⟩ => by
  obtain ⟨o', ho', how⟩ := hown y hy
  exact R.inj y.2 B o' o z x ho' h how hh' (hne y hy) hz hx e⟩
 have at' : ∀ B o, tA.get B = some o → o.here = true → (∃ j o2, back m2 B = some j ∧ A2.t.get j = some o2 ∧ RO (back m2) o2 o ∧ o2.here = true) ∨ ((∀ x ∈ m, x.2 ≠ B) ∧ A.t.get B = some o ∧ B < A.next) := fun B o h hh' => by
  rcases htA B o h with q | ⟨q1, q2⟩
  · obtain ⟨j, o2, g1, g2, g3⟩ := rl.mem q
    exact .inl ⟨j, o2, g1, g2, g3, by rw [← g3.here]; exact hh'⟩
  · exact .inr ⟨q1, q2, hlt B o q2 hh'⟩
 refine ⟨sigF σ σ2 A.next m m2 w, (hv.move v' hVR).mono sub3, ⟨fun B o h hh => ?_, fun B1 B2 o1 o2 x1 x2 h1 h2 ho1 hh2 hne hx1 hx2 => ?_, fun B x h => ?_, fun B h => ?_, fun b o h => ?_, fun B o x h ho hx => ?_, fun B h => ?_⟩,
  ⟨fun B h => fOld B h, hN, X.size, fun b hb hn => hold b hb fun hgv => ?_, fun B o x h ho hx => ?_, fun B o x h ho hx => ?_, X.os, X.tape, X.output, sub1.ro, fun b o h => ?_, fun B h => nOld B h⟩⟩
 · rcases at' B o h hh with ⟨j, o2, g1, g2, g3, g4⟩ | ⟨g1, g2, g3⟩
   · rcases R2.obj0 j o2 g2 g4 with ⟨b, d, c, q1, q2⟩ | ⟨q1, q2⟩
     · exact .inl ⟨b, d, c, (key B j g1).1.trans q1, (g3.move q2).mono sub3⟩
     · exact .inr ⟨g3.nilOk.trans q1, (key B j g1).2.2 q2⟩
   · rcases R.obj0 B o g2 hh with ⟨b, d, c, q1, q2⟩ | ⟨q1, q2⟩
     · refine .inl ⟨b, d, c, (fOld B g3).trans q1, ?_⟩
       have := hnP B o _ g1 g2 hh q1
       rw [hold b this.1 this.2]
       exact q2.mono sub1
     · exact .inr ⟨q1, (nOld B g3).2 q2⟩
 · rcases at' B1 o1 h1 (AObj.here_of_own ho1) with ⟨j1, p1, a1, a2, a3, a4⟩ | ⟨a1, a2, a3⟩
   · rw [(key B1 j1 a1).1] at hx1
     rcases at' B2 o2 h2 hh2 with ⟨j2, p2, b1, b2, b3, b4⟩ | ⟨b1, b2, b3⟩
     · rw [(key B2 j2 b1).1] at hx2
       exact R2.inj j1 j2 p1 p2 x1 x2 a2 b2 (by rw [← a3.own]; exact ho1) b4 (fun e => by subst e; exact hne (back_inj hm2 a1 b1)) hx1 hx2
     · rw [fOld B2 b3] at hx2
       intro e
       exact hnew j1 p1 x1 a2 a4 hx1 (e ▸ hnP B2 o2 x2 b1 b2 hh2 hx2)
   · rw [fOld B1 a3] at hx1
     rcases at' B2 o2 h2 hh2 with ⟨j2, p2, b1, b2, b3, b4⟩ | ⟨b1, b2, b3⟩
     · rw [(key B2 j2 b1).1] at hx2
       intro e
       exact hnew j2 p2 x2 b2 b4 hx2 (e ▸ hnP B1 o1 x1 a1 a2 (AObj.here_of_own ho1) hx1)
     · rw [fOld B2 b3] at hx2
       exact R.inj B1 B2 o1 o2 x1 x2 a2 b2 ho1 hh2 hne hx1 hx2
 · by_cases hB : B < A.next
   · rw [fOld B hB] at h; exact Nat.lt_of_lt_of_le (R.lt B x h) X.size
   · rw [fNew B hB] at h
     cases hb : back m2 B with
     | none => rw [hb] at h; cases h
     | some j => rw [hb] at h; exact R2.lt j x h
 · have h : nx ≤ B := h
   rw [fNew B (by omega)]
   cases hb : back m2 B with
   | none => rfl
   | some j => exact absurd (back_lt hm2 (back_mem hb)) (by omega)
 · by_cases hb : b < w.heap.size ∧ ¬ gvn σ m b
   · rw [rOld b hb] at h; rw [hold b hb.1 hb.2]; exact R.ro b o h
   · rw [rNew b hb] at h; exact R2.ro b o h
 · rcases at' B o h (AObj.here_of_own ho) with ⟨j, o2, g1, g2, g3, g4⟩ | ⟨g1, g2, g3⟩
   · rw [(key B j g1).1] at hx
     rw [rNew _ (hnew j o2 x g2 g4 hx)]
     exact R2.sep j o2 x g2 (by rw [← g3.own]; exact ho) hx
   · rw [fOld B g3] at hx
     rw [rOld _ (hnP B o x g1 g2 (AObj.here_of_own ho) hx)]
     exact R.sep B o x g2 ho hx
 · by_cases hB : B < A.next
   · have := R.nl B ((nOld B hB).1 h)
     exact ⟨Nat.lt_of_lt_of_le this.1 hN, (fOld B hB).trans this.2⟩
   · obtain ⟨j, h1, h2⟩ := (nNew B hB).1 h
     exact ⟨back_lt hm2 (back_mem h1), (key B j h1).1.trans (R2.nl j h2).2⟩
 · obtain ⟨B0, o0, x0, k1, k2, k3, k4⟩ := gOld hgv
   exact hn B0 o0 x0 k1 k2 k3 k4
 · rcases at' B o h (AObj.here_of_own ho) with ⟨j, o2, g1, g2, g3, g4⟩ | ⟨g1, g2, g3⟩
   · rw [(key B j g1).1] at hx
     rcases Nat.lt_or_ge x.1 w.heap.size with q | q
     · exact .inr (gOld (Classical.byContradiction fun hn => hnew j o2 x g2 g4 hx ⟨q, hn⟩))
     · exact .inl q
   · rw [fOld B g3] at hx; exact .inr ⟨B, o, x, g2, ho, hx, rfl⟩
 · rcases at' B o h ho with ⟨j, o2, g1, g2, g3, g4⟩ | ⟨g1, g2, g3⟩
   · rw [(key B j g1).1] at hx
     rcases Nat.lt_or_ge x.1 w.heap.size with q | q
     · obtain ⟨B0, o0, x0, k1, k2, k3, k4⟩ := gOld (Classical.byContradiction fun hn => hnew j o2 x g2 g4 hx ⟨q, hn⟩)
       exact .inr ⟨B0, o0, x0, k1, AObj.here_of_own k2, k3, k4⟩
     · exact .inl q
   · rw [fOld B g3] at hx; exact .inr ⟨B, o, x, g2, ho, hx, rfl⟩
 · by_cases hb : b < w.heap.size ∧ ¬ gvn σ m b
   · rw [rOld b hb] at h; exact .inl h
   · rcases Nat.lt_or_ge b w.heap.size with q | q
     · exact .inr (.inr (gOld (Classical.byContradiction fun hn => hb ⟨q, hn⟩)))
     · exact .inr (.inl q)
def EndF (E : Env) (A1 : AH) (v : Value) (N : AH) : KV := fun v2 A2 => ∃ F2 F1, T.set FU .leaf 0 v2 = some F2 ∧ F1.get 0 = some v ∧ Turns E A1 1 F2 A2 F1 N
def WalkF (E : Env) (fn : Func) (args : List Value) (A1 : AH) (v : Value) (N : AH) : Prop :=
 ∃ c F, fn.body = some c ∧ Nat.ble args.length fn.ntmps = true ∧ mkFrame args 0 .leaf = some F ∧ W E A1 fn.ntmps c (Fin E fn (EndF E A1 v N)) F A1
def endF (E : Env) (A1 : AH) (ns : List (NPos × TypeId × Nat)) (zs : List NPos) (ws : List Nat) (Q : Value → AH → Prop) : KV := fun v2 A2 => match T.set FU .leaf 0 v2 with
 | some F2 => tellNk A1.next E ns zs ws [0] F2 A2 (fun F1 N => match F1.get 0 with | some v => Q v N | none => False)
 | none => False
theorem endF_ok {E : Env} (ok : E.Ok) (hgl : GlOk E) {A1 : AH} {ns : List (NPos × TypeId × Nat)} {zs : List NPos} {ws : List Nat} {v : Value} {N : AH} {v2 : Value} {A2 : AH} (h : endF E A1 ns zs ws (fun v1 N1 => v1 = v ∧ N1 = N) v2 A2) : EndF E A1 v N v2 A2 := by
 unfold endF at h
 split at h
 · rename_i F2 hF2
   obtain ⟨F1, N1, k, ht⟩ := tellNk_ok ok hgl (n := 1) h
   split at k
   · rename_i v1 hv
     obtain ⟨rfl, rfl⟩ := k
     exact ⟨F2, F1, hF2, hv, ht⟩
   · exact k.elim
 · exact h.elim
def sxFnF (X : SX) (d : Nat) (fn : Func) (args : List Value) (A1 : AH) (K : KV) : Prop := match fn.body with
 | some c => (match mkFrame args 0 .leaf with
   | some F => bif Nat.ble args.length fn.ntmps then sxC X (inlN X d) A1 fn.ntmps c F A1 (finK X.E fn.results.toList K) else False
   | none => False)
 | none => False
theorem sxFnF_walk {X : SX} (hX : X.Ok) {d : Nat} {fn : Func} {args : List Value} {A1 : AH} {ns : List (NPos × TypeId × Nat)} {zs : List NPos} {ws : List Nat} {v : Value} {N : AH} (h : sxFnF X d fn args A1 (endF X.E A1 ns zs ws (fun v1 N1 => v1 = v ∧ N1 = N))) : WalkF X.E fn args A1 v N := by
 unfold sxFnF at h
 split at h
 · rename_i c hc
   split at h
   · rename_i F hF
     cases hb : Nat.ble args.length fn.ntmps with
     | false => rw [hb] at h; exact h.elim
     | true =>
       rw [hb] at h
       refine ⟨c, F, hc, hb, hF, (sx_ok hX (d := d) h).mono fun ex F' A' q => ?_⟩
       obtain ⟨q1, v2, q2, q3⟩ := finK_ok q
       exact ⟨q1, v2, q2, endF_ok hX.ok hX.gl q3⟩
   · exact h.elim
 · exact h.elim
theorem CallAt.tell {E : Env} {f : FuncId} {args : List Value} {A1 N A2 : AH} {v v2 : Value} (h : CallAt E f args A1 v2 A2) (he : EndF E A1 v N v2 A2) : CallAt E f args A1 v N := by
 intro σ w args' R hg ha
 refine (h σ w args' R hg ha).mono fun en w' he2 => ?_
 obtain ⟨v', σ2, rfl, hVR, R2, X⟩ := he2
 obtain ⟨F2, F1, hF2, hF1, ht⟩ := he
 have hg2 : Glob E σ2 := Glob.sub (σ := σ) (fun g cs h => hg g cs h) (ExtG.sub R X)
 have hget := T.get_set hF2
 obtain ⟨σ3, hF3, R3, _, X3⟩ := ht _ w ⟨#[v'], []⟩ w' ⟨σ2, ⟨rfl, fun t u hu => by
  unfold slot at hu
  rw [hget] at hu
  by_cases e : t = 0
  · subst e
    rw [if_pos rfl] at hu
    cases hu
    exact hVR
  · rw [if_neg e] at hu; simp [T.get] at hu, rfl⟩, R2, hg2, X⟩
 exact ⟨v', σ3, rfl, hF3.val 0 v hF1, R3, X3⟩
theorem WalkF.call {E : Env} (ok : E.Ok) {f : FuncId} {fn : Func} (hfn : E.fn f = some fn) {args : List Value} {A1 N : AH} {v : Value} (hw : WalkF E fn args A1 v N) : CallAt E f args A1 v N := by
 intro σ w args' R hg ha
 obtain ⟨code, F, hbody, hble, hframe, hW⟩ := hw
 refine (fun_callsZ ok hfn hbody hframe (Nat.le_of_ble_eq_true hble) hW R hg (Ext.refl _ _ _) ha).mono fun en w' he => ?_
 obtain ⟨v2, v', A2, σ2, rfl, ⟨F2, F1, hF2, hF1, ht⟩, hVR, R2, X⟩ := he
 have hg2 : Glob E σ2 := Glob.sub (σ := σ) (fun g cs h => hg g cs h) (ExtG.sub R X)
 have hget := T.get_set hF2
 obtain ⟨σ3, hF3, R3, _, X3⟩ := ht _ w ⟨#[v'], []⟩ w' ⟨σ2, ⟨rfl, fun t u hu => by
  unfold slot at hu
  rw [hget] at hu
  by_cases e : t = 0
  · subst e
    rw [if_pos rfl] at hu
    cases hu
    exact hVR
  · rw [if_neg e] at hu; simp [T.get] at hu, rfl⟩, R2, hg2, X⟩
 exact ⟨v', σ3, rfl, hF3.val 0 v hF1, R3, X3⟩
theorem callAt_frame {E : Env} {f : FuncId} {args args1 : List Value} {A N : AH} {m m2 : List (Nat × Nat)} {lh lo : List (Nat × AObj)} {k nx : Nat} {t1 tA : T AObj} {v1 v : Value}
 (hm : backOk k m = true) (hk : ∀ i, i < k → ∃ B, back m i = some B) (hh : ofL lh .leaf = some t1) (rh : RenH m A lh) (ra : RVs (back m) args args1) (hown : ∀ x ∈ m, ∃ o, A.t.get x.2 = some o ∧ o.own = true)
 (hw : CallAt E f args1 ⟨t1, k⟩ v1 N)
 (hm2 : backOk nx m2 = true) (hN : A.next ≤ nx) (hb2 : ∀ i B, i < k → back m i = some B → back m2 B = some i) (hn2 : ∀ x ∈ m2, x.2 < k ∨ A.next ≤ x.1) (rl : RenH m2 N lo) (hv : RV (back m2) v1 v)
 (htA : ∀ B o, tA.get B = some o → (B, o) ∈ lo ∨ ((∀ x ∈ m, x.2 ≠ B) ∧ A.t.get B = some o)) : CallAt E f args A v ⟨tA, nx⟩ := by
 intro σ w args' R hg ha
 have R1 := R.ren hm hh rh
 refine (hw _ w args' R1 (fun g cs h => hg g cs h) (ra.move ha)).mono fun en w' he => ?_
 obtain ⟨v', σ3, rfl, hV3, R3, X3⟩ := he
 obtain ⟨σ', q1, q2, q3⟩ := frame_core R hm hk hh rh hown R3 X3 hV3 hm2 hN hb2 hn2 rl hv htA
 exact ⟨v', σ', rfl, q1, q2, q3⟩
def renOA (ar : TypeId → Option Nat) (m : List (Nat × Nat)) (o : AObj) : Option (List Value × AObj) :=
 match o with
 | .cells c e => (match ar e with
   | some n => bif Nat.ble n c.length then (match renL (renV m 8) (c.drop n) with | some r => some (.agg ⟨c.take n⟩ :: r.1, .arr (c.take n) r.2 n e) | none => none) else none
   | none => renO m (.cells c e))
 | .gro els tl e => some ([.agg ⟨glue els tl⟩], .gro (glue els tl) [] e)
 | .map es k => some ([.agg ⟨es.map fun x => x.2.1⟩], .map es k)
 | o => renO m o
theorem renOA_ok {ar : TypeId → Option Nat} {m : List (Nat × Nat)} {o : AObj} {r : List Value × AObj} (h : renOA ar m o = some r) (hh : ∀ x ∈ r.1, HF x) : RO (back m) o r.2 := by
 unfold renOA at h
 split at h
 · rename_i c e
   split at h
   · rename_i n hn
     cases hb : Nat.ble n c.length with
     | false => rw [hb] at h; cases h
     | true =>
       rw [hb] at h
       simp only [cond_true] at h
       split at h
       · rename_i r1 h1
         simp only [Option.some.injEq] at h
         subst h
         rw [Nat.ble_eq] at hb
         have := RO.toArr (ρ := back m) (els := c.take n) (rest := c.drop n) (n := n) (e := e) (by rw [List.length_take]; omega) (fun x hx => HF_agg (hh _ (by simp)) x hx) (renL_ok (renV_ok 8) h1 fun x hx => hh x (by simp [hx]))
         rw [List.take_append_drop] at this
         exact this
       · cases h
   · exact renO_ok h hh
 · rename_i els tl e
   exact renW_ok (o := .gro els tl e) (by simpa [renW] using h) hh
 · rename_i es k
   exact renW_ok (o := .map es k) (by simpa [renW] using h) hh
 · exact renO_ok h hh
def objsH (ar : TypeId → Option Nat) (m : List (Nat × Nat)) (A : AH) (l : List (Nat × Nat)) : Option (List Value × List (Nat × AObj)) :=
 List.rec (motive := fun _ => Option (List Value × List (Nat × AObj))) (some ([], [])) (fun x _ ih => match A.t.get x.2 with
  | some o => bif o.own then (match renOA ar m o with
    | some r => (match ih with | some s => some (r.1 ++ s.1, (x.1, r.2) :: s.2) | none => none)
    | none => none) else none
  | none => none) l
theorem objsH_ok {ar : TypeId → Option Nat} {m : List (Nat × Nat)} {A : AH} : ∀ {l : List (Nat × Nat)} {r}, objsH ar m A l = some r → (∀ x ∈ l, back m x.1 = some x.2) → (∀ x ∈ r.1, HF x) → RenH m A r.2 ∧ (∀ x ∈ l, ∃ o, A.t.get x.2 = some o ∧ o.own = true) ∧ r.2.map (·.1) = l.map (·.1)
 | [], r, h, _, _ => by
   have h : some ([], []) = some r := h
   simp only [Option.some.injEq] at h
   subst h
   exact ⟨.nil, fun x hx => by simp at hx, rfl⟩
 | t :: l, r, h, hb, hh => by
   have h : (match A.t.get t.2 with
    | some o => bif o.own then (match renOA ar m o with
      | some r => (match objsH ar m A l with | some s => some (r.1 ++ s.1, (t.1, r.2) :: s.2) | none => none)
      | none => none) else none
    | none => none) = some r := h
   split at h
   · rename_i v hv
     cases ho : v.own with
     | false => rw [ho] at h; cases h
     | true =>
       rw [ho] at h
       simp only [cond_true] at h
       split at h
       · rename_i r1 h1
         split at h
         · rename_i s hs
           simp only [Option.some.injEq] at h
           subst h
           obtain ⟨q1, q2, q3⟩ := objsH_ok hs (fun x hx => hb x (by simp [hx])) fun x hx => hh x (by simp [hx])
           refine ⟨.cons (hb t (by simp)) hv (renOA_ok h1 fun x hx => hh x (by simp [hx])) q1, fun x hx => ?_, by simp [q3]⟩
           rcases List.mem_cons.1 hx with rfl | hx
           · exact ⟨v, hv, ho⟩
           · exact q2 x hx
         · cases h
       · cases h
   · cases h
def objsD (ar : TypeId → Option Nat) (m : List (Nat × Nat)) (A : AH) (l : List (Nat × Nat)) : Option (List Value × List (Nat × AObj)) :=
 List.rec (motive := fun _ => Option (List Value × List (Nat × AObj))) (some ([], [])) (fun x _ ih => match A.t.get x.2 with
  | some o => bif o.own || !o.here then (match renOA ar m o with
    | some r => (match ih with | some s => some (r.1 ++ s.1, (x.1, r.2) :: s.2) | none => none)
    | none => none) else none
  | none => none) l
theorem objsD_ok {ar : TypeId → Option Nat} {m : List (Nat × Nat)} {A : AH} : ∀ {l : List (Nat × Nat)} {r}, objsD ar m A l = some r → (∀ x ∈ l, back m x.1 = some x.2) → (∀ x ∈ r.1, HF x) → RenH m A r.2 ∧ r.2.map (·.1) = l.map (·.1)
 | [], r, h, _, _ => by
   have h : some ([], []) = some r := h
   simp only [Option.some.injEq] at h
   subst h
   exact ⟨.nil, rfl⟩
 | t :: l, r, h, hb, hh => by
   have h : (match A.t.get t.2 with
    | some o => bif o.own || !o.here then (match renOA ar m o with
      | some r => (match objsD ar m A l with | some s => some (r.1 ++ s.1, (t.1, r.2) :: s.2) | none => none)
      | none => none) else none
    | none => none) = some r := h
   split at h
   · rename_i v hv
     cases ho : (v.own || !v.here) with
     | false => rw [ho] at h; cases h
     | true =>
       rw [ho] at h
       simp only [cond_true] at h
       split at h
       · rename_i r1 h1
         split at h
         · rename_i s hs
           simp only [Option.some.injEq] at h
           subst h
           obtain ⟨q1, q3⟩ := objsD_ok hs (fun x hx => hb x (by simp [hx])) fun x hx => hh x (by simp [hx])
           exact ⟨.cons (hb t (by simp)) hv (renOA_ok h1 fun x hx => hh x (by simp [hx])) q1, by simp [q3]⟩
         · cases h
       · cases h
   · cases h
def outM (m : List (Nat × Nat)) (nx : Nat) (k : Nat) : Nat → List (Nat × Nat) :=
 Nat.rec (motive := fun _ => List (Nat × Nat)) (m.map fun x => (x.2, x.1)) (fun j ih => (nx + j, k + j) :: ih)
def setAll : List (Nat × AObj) → T AObj → Option (T AObj)
 | [], t => some t
 | x :: l, t => match T.set FU t x.1 x.2 with | some t' => setAll l t' | none => none
theorem setAll_get : ∀ {l : List (Nat × AObj)} {t t' : T AObj}, setAll l t = some t' → ∀ {B : Nat} {o : AObj}, t'.get B = some o → (B, o) ∈ l ∨ ((∀ x ∈ l, x.1 ≠ B) ∧ t.get B = some o)
 | [], t, t', h, B, o, hx => by simp only [setAll, Option.some.injEq] at h; subst h; exact .inr ⟨fun x hx => by simp at hx, hx⟩
 | y :: l, t, t', h, B, o, hx => by
   simp only [setAll] at h
   split at h
   · rename_i t1 h1
     rcases setAll_get h hx with h2 | ⟨h3, h2⟩
     · exact .inl (by simp [h2])
     · rw [T.get_set h1] at h2
       split at h2
       · rename_i e; cases h2; subst e; exact .inl (by simp)
       · rename_i e
         exact .inr ⟨fun x hx => by
          rcases List.mem_cons.1 hx with rfl | hx
          · exact fun e2 => e e2.symm
          · exact h3 x hx, h2⟩
   · cases h
def heapL (k : Nat) (l : List AObj) : List (Nat × AObj) := List.rec (motive := fun _ => Nat → List (Nat × AObj)) (fun _ => []) (fun o _ ih i => (i, o) :: ih (i + 1)) l k
def heapN (l : List AObj) : AH := match ofL (heapL 0 l) .leaf with | some t => ⟨t, l.length⟩ | none => ⟨.leaf, l.length⟩
def frmR (ar : TypeId → Option Nat) (spec : List Value → List AObj → Option (Option Prop × Value × List AObj)) : RunF := fun args A =>
 match numb (reach [] A 64 (blksL (blks 8) args) []) 0 with
 | m => (match renL (renV m 8) args, objsH ar m A m with
   | some ra, some hs => (match spec ra.2 (hs.2.map (·.2)) with
     | some r => bif ((backOk (lenM m) m && baks m) && (ofL hs.2 .leaf).isSome) && Nat.ble (lenM m) r.2.2.length then
      (match outM m A.next (lenM m) (r.2.2.length - lenM m) with
      | m2 => (match renV m2 8 r.2.1, objsD (fun _ => none) m2 (heapN r.2.2) m2 with
        | some rv, some ho => bif backOk (A.next + (r.2.2.length - lenM m)) m2 && baks m2 then (match setAll ho.2 A.t with
          | some tA => some (some (HFs (ra.1 ++ (hs.1 ++ (rv.1 ++ ho.1))) (PH r.1)), rv.2, ⟨tA, A.next + (r.2.2.length - lenM m)⟩)
          | none => none) else none
        | _, _ => none)) else none
     | none => none)
   | _, _ => none)
theorem numb_fst : ∀ (l : List Nat) (i : Nat), (numb l i).map (·.1) = List.range' i l.length
 | [], i => rfl
 | B :: l, i => by
   show i :: (numb l (i + 1)).map (·.1) = _
   rw [numb_fst l (i + 1)]; rfl
theorem heapL_eq : ∀ (l : List (Nat × AObj)) (i : Nat), l.map (·.1) = List.range' i l.length → heapL i (l.map (·.2)) = l
 | [], i, _ => rfl
 | x :: l, i, h => by
   simp only [List.map_cons, List.length_cons, List.range'_succ, List.cons.injEq] at h
   show (i, x.2) :: heapL (i + 1) (l.map (·.2)) = _
   rw [heapL_eq l (i + 1) h.2, ← h.1]
theorem lenM_eq : ∀ m : List (Nat × Nat), lenM m = m.length
 | [] => rfl
 | x :: m => by show lenM m + 1 = _; rw [lenM_eq m]; rfl
theorem mem_outM {m : List (Nat × Nat)} {nx k : Nat} : ∀ {n : Nat} {x : Nat × Nat}, x ∈ outM m nx k n ↔ (∃ y ∈ m, x = (y.2, y.1)) ∨ ∃ j, j < n ∧ x = (nx + j, k + j)
 | 0, x => by
   show x ∈ m.map (fun y => (y.2, y.1)) ↔ _
   simp only [List.mem_map, Nat.not_lt_zero, false_and, exists_false, or_false]
   exact ⟨fun ⟨y, h1, h2⟩ => ⟨y, h1, h2.symm⟩, fun ⟨y, h1, h2⟩ => ⟨y, h1, h2.symm⟩⟩
 | n + 1, x => by
   show x ∈ (nx + n, k + n) :: outM m nx k n ↔ _
   rw [List.mem_cons, mem_outM]
   constructor
   · rintro (h | h | ⟨j, h1, h2⟩)
     · exact .inr ⟨n, by omega, h⟩
     · exact .inl h
     · exact .inr ⟨j, by omega, h2⟩
   · rintro (h | ⟨j, h1, h2⟩)
     · exact .inr (.inl h)
     · rcases Nat.lt_or_ge j n with q | q
       · exact .inr (.inr ⟨j, q, h2⟩)
       · obtain rfl : j = n := by omega
         exact .inl h2
theorem baks_ok {m : List (Nat × Nat)} (h : baks m = true) : ∀ x ∈ m, back m x.1 = some x.2 := fun x hx => by
 have := List.all_eq_true.1 h x hx
 unfold bak at this
 split at this
 · rename_i C hC; rw [hC, Nat.eq_of_beq_eq_true this]
 · cases this
theorem frmC_ok {E : Env} {f : FuncId} {ar : TypeId → Option Nat} {spec : List Value → List AObj → Option (Option Prop × Value × List AObj)}
 (h : ∀ args objs p v objs', spec args objs = some (p, v, objs') → PH p → CallAt E f args (heapN objs) v (heapN objs')) : ∀ args A p v A', frmR ar spec args A = some (p, v, A') → PH p → CallAt E f args A v A' := by
 intro args A p v A' hr hp
 unfold frmR at hr
 simp only at hr
 generalize hbs : reach [] A 64 (blksL (blks 8) args) [] = bs at hr
 have hfst := numb_fst bs 0
 generalize hm0 : numb bs 0 = m at hr hfst
 rw [lenM_eq] at hr
 have hml : m.length = bs.length := by have := congrArg List.length hfst; simpa using this
 split at hr
 · rename_i ra hs hra hhs
   split at hr
   · rename_i r hsp
     cases hb : ((backOk m.length m && baks m) && (ofL hs.2 .leaf).isSome) && Nat.ble m.length r.2.2.length with
     | false => rw [hb] at hr; cases hr
     | true =>
       rw [hb] at hr
       simp only [cond_true] at hr
       simp only [Bool.and_eq_true, Nat.ble_eq, Option.isSome_iff_exists] at hb
       obtain ⟨⟨⟨hbo, hbk⟩, t1, ht1⟩, hle⟩ := hb
       generalize hm2 : outM m A.next m.length (r.2.2.length - m.length) = m2 at hr
       split at hr
       · rename_i rv ho hrv hho
         cases hb2 : backOk (A.next + (r.2.2.length - m.length)) m2 && baks m2 with
         | false => rw [hb2] at hr; cases hr
         | true =>
           rw [hb2] at hr
           simp only [cond_true] at hr
           rw [Bool.and_eq_true] at hb2
           split at hr
           · rename_i tA htA
             simp only [Option.some.injEq, Prod.mk.injEq] at hr
             obtain ⟨rfl, rfl, rfl⟩ := hr
             obtain ⟨hHF, hp2⟩ := HFs_iff hp
             have b1 := baks_ok hbk
             have b2 := baks_ok hb2.2
             obtain ⟨rh, hown, hf1⟩ := objsH_ok hhs b1 fun x hx => hHF x (by simp [hx])
             obtain ⟨rl, hf2⟩ := objsD_ok hho b2 fun x hx => hHF x (by simp [hx])
             have hl1 : hs.2.length = m.length := by have := congrArg List.length hf1; simpa using this
             have e1 : heapL 0 (hs.2.map (·.2)) = hs.2 := heapL_eq _ 0 (by rw [hf1, hfst, hl1, hml])
             have hwk := h ra.2 (hs.2.map (·.2)) r.1 r.2.1 r.2.2 hsp hp2
             have e2 : heapN (hs.2.map (·.2)) = ⟨t1, m.length⟩ := by
              unfold heapN; rw [e1, ht1]; simp [hl1]
             rw [e2] at hwk
             have mem2 : ∀ y ∈ m, (y.2, y.1) ∈ m2 := fun y hy => by rw [← hm2]; exact mem_outM.2 (.inl ⟨y, hy, rfl⟩)
             refine callAt_frame hbo (fun i hi => ?_) ht1 rh (renL_ok (renV_ok 8) hra fun x hx => hHF x (by simp [hx])) hown hwk hb2.1 (Nat.le_add_right _ _) (fun i B hi hB => b2 _ (mem2 _ (back_mem hB))) (fun x hx => ?_) rl (renV_ok 8 _ _ hrv fun x hx => hHF x (by simp [hx])) (fun B o hB => ?_)
             · have : i ∈ m.map (·.1) := by rw [hfst, List.mem_range']; exact ⟨i, by omega, by omega⟩
               obtain ⟨x, hx, rfl⟩ := List.mem_map.1 this
               exact ⟨x.2, b1 x hx⟩
             · rw [← hm2] at hx
               rcases mem_outM.1 hx with ⟨y, hy, rfl⟩ | ⟨j, hj, rfl⟩
               · exact .inl (back_lt hbo (B' := y.1) (B := y.2) hy)
               · exact .inr (Nat.le_add_right _ _)
             · rcases setAll_get htA hB with q | ⟨q1, q2⟩
               · exact .inl q
               · refine .inr ⟨fun x hx e => ?_, q2⟩
                 have : x.2 ∈ ho.2.map (·.1) := by rw [hf2]; exact List.mem_map.2 ⟨_, mem2 x hx, rfl⟩
                 obtain ⟨y, hy, hy2⟩ := List.mem_map.1 this
                 exact q1 y hy (hy2.trans e)
           · cases hr
       · cases hr
   · cases hr
 · cases hr
theorem frmR_ok {E : Env} (ok : E.Ok) {f : FuncId} {fn : Func} (hfn : E.fn f = some fn) {ar : TypeId → Option Nat} {spec : List Value → List AObj → Option (Option Prop × Value × List AObj)}
 (h : ∀ args objs p v objs', spec args objs = some (p, v, objs') → PH p → WalkF E fn args (heapN objs) v (heapN objs')) : ∀ args A p v A', frmR ar spec args A = some (p, v, A') → PH p → CallAt E f args A v A' :=
 frmC_ok fun args objs p v objs' h1 h2 => (h args objs p v objs' h1 h2).call ok hfn
end
end Go.AM
namespace Go.AM
noncomputable section
structure TwinE (E E1 : Env) : Prop where
 ok : E1.Ok
 sym : E1.sym = false
 fns : FnsOk E1
 prog : E1.P = E.P
 glob : ∀ σ, Glob E σ → Glob E1 σ
theorem closed_at {E E1 : Env} (tw : TwinE E E1) {k : Nat} {f : FuncId} {args : List Value} {A A' : AH} {v : Value} (h : callF E1 (evN E1 k) f args A = some (v, A')) : CallAt E f args A v A' := by
 intro σ w args' R hg ha
 rw [evN_eq tw.sym] at h
 have := call_ok tw.ok tw.fns (code_ok tw.ok tw.fns k).1 f args A v A' h σ w args' (tw.prog ▸ R) (tw.glob σ hg) ha
 rw [tw.prog] at this
 exact this
def cloF (E E1 : Env) (k : Nat) (f : FuncId) (args : List Value) (A1 : AH) (K : KV) : Prop := match callF E1 (evN E1 k) f args A1 with
 | some r => K r.1 r.2
 | none => False
theorem cloF_ok {E E1 : Env} (ok : E.Ok) (hgl : GlOk E) (tw : TwinE E E1) {k : Nat} {f : FuncId} {args : List Value} {A1 : AH} {ns : List (NPos × TypeId × Nat)} {zs : List NPos} {ws : List Nat} {v : Value} {N : AH} (h : cloF E E1 k f args A1 (endF E A1 ns zs ws (fun v1 N1 => v1 = v ∧ N1 = N))) : CallAt E f args A1 v N := by
 unfold cloF at h
 split at h
 · rename_i r hr
   exact (closed_at tw hr).tell (endF_ok ok hgl h)
 · exact h.elim
theorem W.closed {E E1 : Env} (tw : TwinE E E1) {A0 : AH} {n : Nat} {c : Code} (hc : codeOk E1 c = true) {k : Nat} {F F' : T Value} {A A' : AH} {ex : Ex} {Q : Post} (h : evN E1 k c n F A = some (ex, F', A')) (q : Q ex F' A') : W E A0 n c Q F A := by
 rintro σ0 w0 a w ⟨σ, h1, h2, h3, h4⟩ Q' hQ
 rw [evN_eq tw.sym] at h
 have := (code_ok tw.ok tw.fns k).1 c hc n F A ex F' A' h σ a w (tw.prog ▸ h2) (tw.glob σ h3) h1 Q' fun a' w' σ' g1 g2 g3 => hQ ex F' A' a' w' q ⟨σ', g1, tw.prog ▸ g2, h3.sub (Ext.sub h2 g3), h4.trans g3⟩
 rw [tw.prog] at this
 exact this
inductive CR (E E1 : Env) (A0 : AH) (n : Nat) (b : Code) (Q : Post) : T Value → AH → Prop
 | next {k : Nat} {F F' : T Value} {A A' : AH} (h : evN E1 k b n F A = some (.normal, F', A')) (t : CR E E1 A0 n b Q F' A') : CR E E1 A0 n b Q F A
 | turn {F F1 : T Value} {A A1 : AH} (h : Turns E A0 n F A F1 A1) (t : CR E E1 A0 n b Q F1 A1) : CR E E1 A0 n b Q F A
 | last {F : T Value} {A : AH} (h : W E A0 n b (Then (fun _ _ => False) Q) F A) : CR E E1 A0 n b Q F A
def evRd (E1 : Env) (k : Nat) (b : Code) (n : Nat) (m : Nat) : T Value → AH → Option (T Value × AH) :=
 Nat.rec (motive := fun _ => T Value → AH → Option (T Value × AH)) (fun F A => some (F, A)) (fun _ ih F A => match evN E1 k b n F A with
  | some (.normal, F', A') => ih F' A'
  | _ => none) m
theorem CR.rounds {E E1 : Env} {A0 : AH} {k n : Nat} {b : Code} {Q : Post} : ∀ (m : Nat) {F F' : T Value} {A A' : AH}, evRd E1 k b n m F A = some (F', A') → CR E E1 A0 n b Q F' A' → CR E E1 A0 n b Q F A
 | 0, F, F', A, A', h, t => by
   have h : some (F, A) = some (F', A') := h
   cases h
   exact t
 | m + 1, F, F', A, A', h, t => by
   have h : (match evN E1 k b n F A with
    | some (.normal, F', A') => evRd E1 k b n m F' A'
    | _ => none) = some (F', A') := h
   split at h
   · rename_i F2 A2 h2
     exact .next h2 (CR.rounds m h t)
   · cases h
def cloE (E E1 : Env) (k : Nat) (b : Code) (n i : Nat) (A0 : AH) (slots : List Nat) (F : T Value) (A : AH) (K : KF) : Prop := match evN E1 k b n F A with
 | some (.exit id, F', A') => bif Nat.beq id i then tellNk A0.next E [] [] [] slots F' A' K else False
 | _ => False
theorem CR.exit {E E1 : Env} (ok : E.Ok) (hgl : GlOk E) (tw : TwinE E E1) {A0 : AH} {k n i : Nat} {b rest : Code} (hb : codeOk E1 b = true) {Q : Post} {slots : List Nat} {F F' : T Value} {A A' : AH} (h : cloE E E1 k b n i A0 slots F A (fun F1 A1 => F1 = F' ∧ A1 = A')) (t : W E A0 n rest Q F' A') : CR E E1 A0 n b (Blk i (Then (W E A0 n rest Q) Q)) F A := by
 unfold cloE at h
 split at h
 · rename_i id F2 A2 hr
   cases hi : Nat.beq id i with
   | false => rw [hi] at h; exact h.elim
   | true =>
     rw [hi] at h
     obtain rfl := Nat.eq_of_beq_eq_true hi
     obtain ⟨F1, A1, ⟨rfl, rfl⟩, ht⟩ := tellNk_ok ok hgl (n := n) h
     exact .last (W.closed tw hb hr (show Then (fun _ _ => False) (Blk id (Then (W E A0 n rest Q) Q)) (.exit id) F2 A2 from Blk.out (Then.normal (W.turns ht t))))
 · exact h.elim
end
end Go.AM

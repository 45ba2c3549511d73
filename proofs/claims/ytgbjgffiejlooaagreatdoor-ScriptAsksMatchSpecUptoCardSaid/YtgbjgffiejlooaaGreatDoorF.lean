/- A part of the proof. -/
import Derived.Test.YtgbjgffiejlooaaGreatDoorC
import Derived.KernelRfl
set_option linter.unusedVariables false
set_option linter.unusedSimpArgs false
set_option linter.unusedSectionVars false
namespace Go.AM
noncomputable section
def Sp (b : Bool) (p q : Prop) : Prop := Bool.rec (motive := fun _ => Prop) q p b
theorem Sp.intro {b : Bool} {p q : Prop} (h : b = true → p) (k : b = false → q) : Sp b p q := by
 cases b with
 | true => exact h rfl
 | false => exact k rfl
theorem Sp.cases {b : Bool} {p q : Prop} (h : Sp b p q) : (b = true ∧ p) ∨ (b = false ∧ q) := by
 cases b with
 | true => exact .inl ⟨rfl, h⟩
 | false => exact .inr ⟨rfl, h⟩
inductive Stop {α : Type} (x : α) : Prop
theorem Stop.elim {α : Type} {x : α} {p : Prop} (h : Stop x) : p := nomatch h
inductive Leaf (p : Prop) : Prop
 | mk (h : p) : Leaf p
theorem Leaf.get {p : Prop} (h : Leaf p) : p := by cases h with | mk h => exact h
def pc (p : Option Prop) (q : Prop) : Prop := match p with | none => q | some p => p ∧ q
def PH (p : Option Prop) : Prop := match p with | none => True | some p => p
theorem cC {p : Option Prop} {q : Prop} (h : pc p q) : PH p ∧ q := by
 cases p with
 | none => exact ⟨trivial, h⟩
 | some p => exact h
structure El where
 at' : Nat → Nat → List Value → Int → Option Value
 app : Bool
 gm : TypeId → Bool
 ml : TypeId → List (Value × Value × Nat) → Value → Option (Value × Bool)
 mu : TypeId → List (Value × Value × Nat) → Nat → Value → Value → Option (List (Value × Value × Nat) × Nat)
def El.of (f : Nat → Nat → List Value → Int → Option Value) : El := ⟨f, false, fun _ => false, fun _ _ _ => none, fun _ _ _ _ _ => none⟩
abbrev KF := T Value → AH → Prop
abbrev KV := Value → AH → Prop
abbrev RunF := List Value → AH → Option (Option Prop × Value × AH)
abbrev Tab := List (FuncId × RunF)
abbrev Inl := Func → List Value → AH → KV → Prop
def jH : Tab → FuncId → Option RunF
 | [], _ => none
 | (g, x) :: l, f => bif Nat.beq f g then some x else jH l f
def mX (l : Tab) : bd := fun f args A => match jH l f with
 | some x => (match x args A with | some (p, v, A') => (open Classical in if PH p then some (v, A') else none) | none => none)
 | none => none
def an (E : Env) (f : FuncId) (args : List Value) (A : AH) (v : Value) (A' : AH) : Prop := ∀ σ w args', Rel E.P σ A w → Glob E σ → VRs σ args args' →
 Calls E.P f ⟨args'⟩ w (fun e w' => ∃ v' σ', e = .returned v' ∧ VR σ' v v' ∧ Rel E.P σ' A' w' ∧ Ext σ A w σ' A' w')
inductive TabOk (E : Env) : Tab → Prop
 | nil : TabOk E []
 | cons {f : FuncId} {x : RunF} {l : Tab} (h : ∀ args A p v A', x args A = some (p, v, A') → PH p → an E f args A v A') (t : TabOk E l) : TabOk E ((f, x) :: l)
theorem TabOk.get {E : Env} : ∀ {l : Tab}, TabOk E l → ∀ {f : FuncId} {x : RunF}, jH l f = some x → ∀ args A p v A', x args A = some (p, v, A') → PH p → an E f args A v A'
 | _, .nil, f, x, h => by simp [jH] at h
 | _, .cons (f := g) h t, f, x, hx => by
   simp only [jH] at hx
   cases e : Nat.beq f g with
   | true =>
     rw [e] at hx
     simp only [cond_true, osI] at hx
     subst hx
     obtain rfl := Nat.eq_of_beq_eq_true e
     exact h
   | false => rw [e] at hx; exact t.get hx
theorem sh {E : Env} {l : Tab} (h : TabOk E l) : cX E (mX l) := by
 intro f args A v A' hc σ w args' R hg ha
 unfold mX at hc
 split at hc
 · rename_i x hx
   split at hc
   · rename_i p v0 A0 hr
     split at hc
     · rename_i hp
       simp only [osI, Prod.mk.injEq] at hc
       obtain ⟨rfl, rfl⟩ := hc
       exact h.get hx args A p _ _ hr hp σ w args' R hg ha
     · cases hc
   · cases hc
 · cases hc
def aj (pre : List Value → Option Prop) (val : List Value → Option Value) : RunF := fun args A => match val args with | some v => some (pre args, v, A) | none => none
theorem mY {E : Env} {f : FuncId} {args : List Value} {v : Value} (h : Con E f (ck (one args v))) (A : AH) : an E f args A v A := by
 intro σ w args' R hg ha
 exact h args A v A (by simp [ck, iv]) σ w args' R hg ha
theorem kw {E : Env} (ok : E.Ok) (hgl : GlOk E) {f : FuncId} {fn : Func} (hfn : E.fn f = some fn) {args : List Value} {v : Value} (hf : ∀ x ∈ args, HF x) (hw : Walk E fn args v) (A : AH) : an E f args A v A :=
 mY (iJ ok hgl hfn hf hw) A
theorem fk {E : Env} {f : FuncId} {pre : List Value → Option Prop} {val : List Value → Option Value} (h : ∀ args v, val args = some v → PH (pre args) → ∀ A, an E f args A v A) : ∀ args A p v A', aj pre val args A = some (p, v, A') → PH p → an E f args A v A' := by
 intro args A p v A' hr hp
 unfold aj at hr
 split at hr
 · rename_i u hu
   simp only [osI, Prod.mk.injEq] at hr
   obtain ⟨rfl, rfl, rfl⟩ := hr
   exact h args u hu hp A
 · cases hr
def aS (els : List Value) (i : Int) : Int := match nth els i.toNat with | some (.int _ n) => n | _ => 0
def bX (els : List Value) (i : Int) : ByteArray := match nth els i.toNat with | some (.string s) => s | _ => ByteArray.empty
def wj : Operand → Nat
 | .tmp t => t
 | _ => 0
def qd (E : Env) (A : AH) (ρ : Operand → Option Value) (ty : TypeId) (op : Op) : Option (Option Prop × Value) := match quiet E A ρ ty op with | some v => some (none, v) | none => none
def sxIdx (E : Env) (A : AH) (ρ : Operand → Option Value) (ty : TypeId) (t : TypeId) (x i : Operand) : Option (Option Prop × Value) :=
 match ρ x with
 | some (.func (.yield sz) ⟨els⟩ ⟨[]⟩) => (match ρ i, und E t with
   | some (.int _ n), some (.slice e) => (match E.ti e with
     | some ie => bif Nat.beq ie.size sz && Nat.blt 0 sz then some (some (0 ≤ n ∧ n < els.length), .func (.yield sz) ⟨els⟩ ⟨[.int .i64 n.toNat, .int .i64 (0 : Nat)]⟩) else none
     | none => none)
   | _, _ => none)
 | some (.slice (some ⟨B, o, none⟩) n m) => (match isG m with
   | true => (match ρ i, und E t with
     | some (.int _ k), some (.slice e) => (match E.ti e with
       | some ie => bif Nat.beq ie.size (gsz m) && Nat.blt 0 (gsz m) then some (some (0 ≤ k ∧ k < n), gPtr (gsz m) B (gIdx (gsz m) o k.toNat) 0) else none
       | none => none)
     | _, _ => none)
   | false => qd E A ρ ty (.indexAddr t x i))
 | _ => qd E A ρ ty (.indexAddr t x i)
def sZ (E : Env) (el : El) (A : AH) (ρ : Operand → Option Value) (ty : TypeId) (t : TypeId) (a : Operand) : Option (Option Prop × Value) :=
 match ρ a with
 | some (.func (.yield sz) ⟨els⟩ ⟨[.int .i64 i, .int .i64 j]⟩) => (match el.at' sz (wj a) els i with
   | some u => (match ldat E t [u] 0 j.toNat with | some v => some (some (nth els i.toNat = some u), v) | none => none)
   | none => qd E A ρ ty (.load t a))
 | some (.func (.yield sz) ⟨[.pointer (some ⟨B, 0, none⟩)]⟩ ⟨[.int .i64 i, .int .i64 j, .bool true]⟩) => (match A.t.get B with
   | some (.gro els tl e) => (match E.ti e, el.at' sz (wj a) (glue els tl) i with
     | some ie, some u => bif Nat.beq ie.size sz then (match ldat E t [u] 0 j.toNat with | some v => some (some (nth (glue els tl) i.toNat = some u), v) | none => none) else none
     | _, _ => none)
   | _ => none)
 | _ => qd E A ρ ty (.load t a)
def NZ (b : Int) : Prop := b ≠ 0
def qI (E : Env) (A : AH) (ρ : Operand → Option Value) (ty : TypeId) (op : BinOp) (t : TypeId) (x y : Operand) (t2 : TypeId) (f : IntKind → Int → Int → Int) : Option (Option Prop × Value) :=
 match ρ x with
 | some (.int k a) => (match ρ y with
   | some (.int k' b) => bif cg k k' then some (some (NZ b), .int k (f k a b)) else none
   | _ => none)
 | _ => qd E A ρ ty (.binOp op t x y t2)
def subB (s : ByteArray) (a b : Int) : ByteArray := aa ((s.data.toList.drop a.toNat).take (b.toNat - a.toNat))
def vg (E : Env) (ρ : Operand → Option Value) (t : TypeId) (s : ByteArray) (lo hi mx : Option Operand) : Option (Option Prop × Value) :=
 match mx, und E t with
 | none, some .string => (match lo, hi with
   | none, some h => (match ρ h with | some (.int _ b) => some (some (0 ≤ b ∧ b ≤ s.size), .string (subB s 0 b)) | _ => none)
   | some l, none => (match ρ l with | some (.int _ a) => some (some (0 ≤ a ∧ a ≤ s.size), .string (subB s a s.size)) | _ => none)
   | some l, some h => (match ρ l, ρ h with | some (.int _ a), some (.int _ b) => some (some (0 ≤ a ∧ a ≤ b ∧ b ≤ s.size), .string (subB s a b)) | _, _ => none)
   | none, none => none)
 | _, _ => none
def sxSli (E : Env) (A : AH) (ρ : Operand → Option Value) (ty : TypeId) (t : TypeId) (x : Operand) (lo hi mx : Option Operand) : Option (Option Prop × Value) :=
 match ρ x with
 | some (.func (.yield sz) ⟨els⟩ ⟨[]⟩) => (match mx, lo, hi with
   | none, none, some h => (match ρ h, und E t with
     | some (.int _ b), some (.slice e) => (match E.ti e with
       | some ie => bif Nat.beq ie.size sz then some (some (0 ≤ b ∧ b ≤ els.length), .func (.yield sz) ⟨els.take b.toNat⟩ ⟨[]⟩) else none
       | none => none)
     | _, _ => none)
   | none, some l, none => (match ρ l, und E t with
     | some (.int _ a), some (.slice e) => (match E.ti e with
       | some ie => bif Nat.beq ie.size sz then some (some (0 ≤ a ∧ a ≤ els.length), .func (.yield sz) ⟨els.drop a.toNat⟩ ⟨[]⟩) else none
       | none => none)
     | _, _ => none)
   | _, _, _ => qd E A ρ ty (.slice t x lo hi mx))
 | some (.slice (some ⟨B, o, none⟩) n m) => (match isG m with
   | true => (match und E t with
     | some (.slice e) => (match E.ti e with
       | some ie => bif Nat.beq ie.size (gsz m) && Nat.blt 0 (gsz m) then (match mx, lo, hi with
         | none, none, none => some (none, .slice (some ⟨B, o, none⟩) n m)
         | none, none, some h => (match ρ h with | some (.int _ b) => some (some (0 ≤ b ∧ b ≤ n), .slice (some ⟨B, o, none⟩) b.toNat m) | _ => none)
         | none, some l, none => (match ρ l with | some (.int _ a) => some (some (0 ≤ a ∧ a ≤ n), .slice (some ⟨B, gOff (gsz m) o a.toNat, none⟩) (n - a.toNat) m) | _ => none)
         | some z, none, some h => (match ρ h, ρ z with | some (.int _ b), some (.int _ q) => some (some (0 ≤ b ∧ b ≤ q ∧ q ≤ n), .slice (some ⟨B, o, none⟩) b.toNat m) | _, _ => none)
         | none, some l, some h => (match ρ l, ρ h with | some (.int _ a), some (.int _ b) => some (some (0 ≤ a ∧ a ≤ b ∧ b ≤ n), .slice (some ⟨B, gOff (gsz m) o a.toNat, none⟩) (b.toNat - a.toNat) m) | _, _ => none)
         | _, _, _ => none) else none
       | none => none)
     | _ => none)
   | false => qd E A ρ ty (.slice t x lo hi mx))
 | some (.string s) => vg E ρ t s lo hi mx
 | _ => qd E A ρ ty (.slice t x lo hi mx)
def j2 (E : Env) (t : TypeId) (es : List (Value × Value × Nat)) (k : Value) : Option (Value × Bool) :=
 match und E t with
 | some (.map kt et) => bif flat k && dF E es.isEmpty kt k then
  (match gA E kt k es with
  | some (some (_, v)) => some (v, true)
  | some none => (match E.ti et with
    | some i => (match i.zero with
      | some z => bif flat z then some (z, false) else none
      | none => none)
    | none => none)
  | none => none) else none
 | _ => none
def sxLk (E : Env) (el : El) (A : AH) (ρ : Operand → Option Value) (ty : TypeId) (t : TypeId) (x i : Operand) (cok : Bool) : Option (Option Prop × Value) :=
 match ρ x with
 | some (.map (some B)) => (match A.t.get B, ρ i with
   | some (.map es _), some k => (match el.ml t es k with
     | some r => some (some (j2 E t es k = some r), bif cok then .tuple ⟨[r.1, .bool r.2]⟩ else r.1)
     | none => qd E A ρ ty (.lookup t x i cok))
   | _, _ => none)
 | _ => qd E A ρ ty (.lookup t x i cok)
theorem minI (a b : Int) : (if b < a then b else a) = min a b := by rw [Int.min_def]; split <;> split <;> omega
theorem maxI (a b : Int) : (if b > a then b else a) = max a b := by rw [Int.max_def]; split <;> split <;> omega
theorem nV {E : Env} {A : AH} {ρ : Operand → Option Value} {ty : TypeId} {c : Call} {k k' : IntKind} {a b : Int} (hc : c.callee = .builtin .min) (ha : mapO ρ c.args.toList = some [.int k a, .int k' b]) : quiet E A ρ ty (.call c) = some (.int k (min a b)) := by
 have h0 : aN E A ρ ty (.call c) = some (.int k (min a b)) := by
  simp only [aN, hc, fR, ha]
  rw [← minI a b]
  rfl
 unfold quiet
 split
 · exact h0
 · have : symQ E ρ (.call c) = none := by simp [symQ, hc]
   rw [this]; exact h0
theorem nW {E : Env} {A : AH} {ρ : Operand → Option Value} {ty : TypeId} {c : Call} {k k' : IntKind} {a b : Int} (hc : c.callee = .builtin .max) (ha : mapO ρ c.args.toList = some [.int k a, .int k' b]) : quiet E A ρ ty (.call c) = some (.int k (max a b)) := by
 have h0 : aN E A ρ ty (.call c) = some (.int k (max a b)) := by
  simp only [aN, hc, fR, ha]
  rw [← maxI a b]
  rfl
 unfold quiet
 split
 · exact h0
 · have : symQ E ρ (.call c) = none := by simp [symQ, hc]
   rw [this]; exact h0
def sxBlt (E : Env) (A : AH) (ρ : Operand → Option Value) (ty : TypeId) (c : Call) : Option (Option Prop × Value) :=
 match c.callee with
 | .builtin .min => (match mapO ρ c.args.toList with
   | some [.int k a, .int _ b] => some (none, .int k (min a b))
   | _ => qd E A ρ ty (.call c))
 | .builtin .max => (match mapO ρ c.args.toList with
   | some [.int k a, .int _ b] => some (none, .int k (max a b))
   | _ => qd E A ρ ty (.call c))
 | .builtin _ => qd E A ρ ty (.call c)
 | _ => none
def ac (s : ByteArray) (i : Int) : Int := match nth s.data.toList i.toNat with | some b => (b.toNat : Int) | none => 0
def sxIx (E : Env) (A : AH) (ρ : Operand → Option Value) (ty : TypeId) (t : TypeId) (x i : Operand) : Option (Option Prop × Value) :=
 match ρ x with
 | some (.string s) => (match ρ i, und E t with
   | some (.int _ n), some .string => some (some (0 ≤ n ∧ n < s.size), .int .u8 (ac s n))
   | _, _ => none)
 | _ => qd E A ρ ty (.index t x i)
def u8L (c : List Value) (o n : Nat) : List UInt8 := ((c.drop o).take n).map fun v => match v with | .int _ k => UInt8.ofNat k.toNat | _ => 0
def IsB (c : List Value) (o n : Nat) : Prop := ∃ bs : List UInt8, (c.drop o).take n = bs.map (fun b => Value.int .u8 b.toNat) ∧ bs.length = n
theorem eH : ∀ bs : List UInt8, ch (bs.map fun b => Value.int .u8 b.toNat) = some bs
 | [] => rfl
 | b :: bs => by simp [ch, eH bs]
theorem sK (bs : List UInt8) : (bs.map fun b => Value.int .u8 b.toNat).map (fun v => match v with | .int _ k => UInt8.ofNat k.toNat | _ => 0) = bs := by
 rw [List.map_map]
 conv => rhs; rw [← List.map_id bs]
 exact List.map_congr_left fun x _ => by simp
theorem n9 : ∀ bs : List UInt8, (bs.map fun b => Value.int .u8 b.toNat).all okB = true
 | [] => rfl
 | b :: bs => by
   have : okB (.int .u8 (b.toNat : Int)) = true := by
    show Nat.blt b.toNat 256 = true
    rw [Nat.blt_eq]; exact b.toNat_lt
   rw [List.map_cons, List.all_cons, this, n9 bs]; rfl
theorem iD {c : List Value} {o n : Nat} (h : IsB c o n) : ∃ bs : List UInt8, (c.drop o).take n = bs.map (fun b => Value.int .u8 b.toNat) ∧ bs.length = n ∧ u8L c o n = bs := by
 obtain ⟨bs, h1, h2⟩ := h
 exact ⟨bs, h1, h2, by unfold u8L; rw [h1]; exact sK bs⟩
def sxCv (E : Env) (el : El) (A : AH) (ρ : Operand → Option Value) (ty : TypeId) (s t : TypeId) (x : Operand) : Option (Option Prop × Value) :=
 match el.app, ρ x with
 | true, some (.slice (some ⟨B, o, none⟩) n k) => (match isG k, und E s, und E t, A.t.get B with
   | false, some (.slice e), some .string, some (.cells c _) => (match und E e with
     | some (.int .u8) => some (some (IsB c o n), .string (aa (u8L c o n)))
     | _ => none)
   | true, _, _, _ => none
   | _, _, _, _ => qd E A ρ ty (.convert s t x))
 | _, _ => qd E A ρ ty (.convert s t x)
def sxQ (E : Env) (el : El) (A : AH) (ρ : Operand → Option Value) (ty : TypeId) (op : Op) : Option (Option Prop × Value) :=
 match op with
 | .indexAddr t x i => sxIdx E A ρ ty t x i
 | .load t a => sZ E el A ρ ty t a
 | .slice t x lo hi mx => sxSli E A ρ ty t x lo hi mx
 | .binOp op t x y t2 => (match op with
   | .quo => qI E A ρ ty .quo t x y t2 (fun k a b => k.wrap (a.tdiv b))
   | .rem => qI E A ρ ty .rem t x y t2 (fun k a b => a.tmod b)
   | op => qd E A ρ ty (.binOp op t x y t2))
 | .call c => sxBlt E A ρ ty c
 | .lookup t x i cok => sxLk E el A ρ ty t x i cok
 | .index t x i => sxIx E A ρ ty t x i
 | .convert s t x => sxCv E el A ρ ty s t x
 | op => qd E A ρ ty op
theorem bP {E : Env} (hs : E.sym = true) {A : AH} {ρ : Operand → Option Value} {ty : TypeId} {op : Op} {v : Value} (h1 : symQ E ρ op = none) (h : groQ E A ρ op = some v) : quiet E A ρ ty op = some v := by
 unfold quiet; rw [hs]; simp only [h1, h]
theorem dP {E : Env} (hs : E.sym = true) {A : AH} {ρ : Operand → Option Value} {ty : TypeId} {op : Op} {v : Value} (h1 : symQ E ρ op = none) (h2 : groQ E A ρ op = none) (h : aN E A ρ ty op = some v) : quiet E A ρ ty op = some v := by
 unfold quiet; rw [hs]; simp only [h1, h2, h]
theorem rl {E : Env} {A : AH} {t : TypeId} {B : Nat} {es : List (Value × Value × Nat)} {cl : Nat} {k : Value} {r : Value × Bool} {cok : Bool} (hB : A.t.get B = some (.map es cl)) (h : j2 E t es k = some r) :
 dE E A t (.map (some B)) k cok = some (bif cok then .tuple ⟨[r.1, .bool r.2]⟩ else r.1) := by
 unfold j2 at h
 unfold dE
 split at h
 · rename_i kt et hu
   rw [hu]
   cases hb : (flat k && dF E es.isEmpty kt k) with
   | false => rw [hb] at h; simp at h
   | true =>
     rw [hb] at h
     simp only [cond_true] at h
     simp only [Bool.and_eq_true] at hb
     simp only [hb.1, cond_true, hB, hb.2]
     split at h
     · rename_i j v hf
       simp only [osI] at h
       subst h
       rw [hf]
     · rename_i hf
       rw [hf]
       simp only
       split at h
       · rename_i i hi
         rw [hi]
         simp only
         split at h
         · rename_i z hz
           rw [hz]
           simp only
           cases hfz : flat z with
           | false => rw [hfz] at h; simp at h
           | true =>
             rw [hfz] at h
             simp only [cond_true, osI] at h
             subst h
             rfl
         · cases h
       · cases h
     · cases h
 · cases h
theorem cw {E : Env} {A : AH} {ρ : Operand → Option Value} {ty : TypeId} {op : Op} {p : Option Prop} {v : Value} (h : qd E A ρ ty op = some (p, v)) : quiet E A ρ ty op = some v := by
 unfold qd at h
 split at h
 · rename_i u hu
   simp only [osI, Prod.mk.injEq] at h
   rw [hu, h.2]
 · cases h
theorem qS {E : Env} (hs : E.sym = true) {A : AH} {ρ : Operand → Option Value} {ty t : TypeId} {x i : Operand} {s : ByteArray} {k : IntKind} {n : Int} (hx : ρ x = some (.string s)) (hi : ρ i = some (.int k n)) (hu : und E t = some .string) (h0 : 0 ≤ n) (h1 : n < s.size) : quiet E A ρ ty (.index t x i) = some (.int .u8 (ac s n)) := by
 refine dP hs rfl rfl ?_
 have hl : n.toNat < s.data.toList.length := by
  have : s.data.toList.length = s.size := by simp
  omega
 have hn : nth s.data.toList n.toNat = some s.data.toList[n.toNat] := by rw [aI]; exact List.getElem?_eq_getElem hl
 simp only [aN, hx, hi, gO, hu, h0, decide_true, cond_true, hn, ac]
theorem qH {E : Env} (hs : E.sym = true) {A : AH} {ρ : Operand → Option Value} {ty t : TypeId} {x : Operand} {s : ByteArray} {lo hi mx : Option Operand} {p : Option Prop} {v : Value} (hx : ρ x = some (.string s)) (h : vg E ρ t s lo hi mx = some (p, v)) (hp : PH p) : quiet E A ρ ty (.slice t x lo hi mx) = some v := by
 have en : Nat.ble s.size s.size = true := by rw [Nat.ble_eq]; omega
 unfold vg at h
 split at h
 · rename_i hu
   refine dP hs (by simp [symQ, hx]) (by simp [groQ, hx]) ?_
   split at h
   · rename_i hh
     split at h
     · rename_i k b hb
       simp only [osI, Prod.mk.injEq] at h
       obtain ⟨rfl, rfl⟩ := h
       obtain ⟨h0, h1⟩ : 0 ≤ b ∧ b ≤ s.size := hp
       have e1 : Nat.ble b.toNat s.size = true := by rw [Nat.ble_eq]; omega
       have e3 : Nat.ble 0 b.toNat = true := by rw [Nat.ble_eq]; omega
       simp [aN, hx, optA, hb, scal, sliA, hu, bnds, bZ, h0, en, e1, e3, subB]
     · cases h
   · rename_i ll
     split at h
     · rename_i k a ha
       simp only [osI, Prod.mk.injEq] at h
       obtain ⟨rfl, rfl⟩ := h
       obtain ⟨h0, h1⟩ : 0 ≤ a ∧ a ≤ s.size := hp
       have e1 : Nat.ble a.toNat s.size = true := by rw [Nat.ble_eq]; omega
       simp [aN, hx, optA, ha, scal, sliA, hu, bnds, bZ, h0, en, e1, subB]
     · cases h
   · rename_i ll hh
     split at h
     · rename_i k1 a k2 b ha hb
       simp only [osI, Prod.mk.injEq] at h
       obtain ⟨rfl, rfl⟩ := h
       obtain ⟨h0, h1, h2⟩ : 0 ≤ a ∧ a ≤ b ∧ b ≤ s.size := hp
       have h3 : 0 ≤ b := by omega
       have e1 : Nat.ble a.toNat b.toNat = true := by rw [Nat.ble_eq]; omega
       have e2 : Nat.ble b.toNat s.size = true := by rw [Nat.ble_eq]; omega
       simp [aN, hx, optA, ha, hb, scal, sliA, hu, bnds, bZ, h0, h3, en, e1, e2, subB]
     · cases h
   · cases h
 · cases h
theorem nm {E : Env} (hs : E.sym = true) {el : El} {A : AH} {ρ : Operand → Option Value} {ty : TypeId} {op : Op} {p : Option Prop} {v : Value} (h : sxQ E el A ρ ty op = some (p, v)) (hp : PH p) : quiet E A ρ ty op = some v := by
 unfold sxQ at h
 split at h
 · rename_i t x i
   unfold sxIdx at h
   split at h
   · rename_i sz els hx
     split at h
     · rename_i k n e hi hu
       split at h
       · rename_i ie hie
         cases hz : (Nat.beq ie.size sz && Nat.blt 0 sz) with
         | false => rw [hz] at h; cases h
         | true =>
           rw [hz] at h
           simp only [cond_true, osI, Prod.mk.injEq] at h
           obtain ⟨rfl, rfl⟩ := h
           exact nX hs hx hi hu hie hz hp.1 hp.2
       · cases h
     · cases h
   · rename_i B o n m hx
     split at h
     · rename_i hg
       split at h
       · rename_i kk k e hi hu
         split at h
         · rename_i ie hie
           cases hz : (Nat.beq ie.size (gsz m) && Nat.blt 0 (gsz m)) with
           | false => rw [hz] at h; cases h
           | true =>
             rw [hz] at h
             simp only [cond_true, osI, Prod.mk.injEq] at h
             obtain ⟨rfl, rfl⟩ := h
             obtain ⟨h0, h1⟩ : 0 ≤ k ∧ k < (n : Int) := hp
             refine bP hs (by simp [symQ, hx]) ?_
             simp only [groQ, hx, hg, hi, hu, hie, hz, h0, h1, decide_true, Bool.and_self, cond_true]
         · cases h
       · cases h
     · exact cw h
   · exact cw h
 · rename_i t a
   unfold sZ at h
   split at h
   · rename_i sz els i j ha
     split at h
     · rename_i u hu
       split at h
       · rename_i v0 hv
         simp only [osI, Prod.mk.injEq] at h
         obtain ⟨rfl, rfl⟩ := h
         exact mq hs ha hp hv
       · cases h
     · exact cw h
   · rename_i sz B i j ha
     split at h
     · rename_i els tl e hB
       split at h
       · rename_i ie u hie hu
         cases hz : Nat.beq ie.size sz with
         | false => rw [hz] at h; cases h
         | true =>
           rw [hz] at h
           simp only [cond_true] at h
           split at h
           · rename_i v0 hv
             simp only [osI, Prod.mk.injEq] at h
             obtain ⟨rfl, rfl⟩ := h
             have hp : nth (glue els tl) i.toNat = some u := hp
             refine bP hs (by simp [symQ, ha]) ?_
             simp only [groQ, ha, hB, hie, hz, cond_true]
             rw [← hv]
             simp [ldat, hp, nth]
           · cases h
       · cases h
     · cases h
   · exact cw h
 · rename_i t x lo hi mx
   unfold sxSli at h
   split at h
   · rename_i sz els hx
     split at h
     · rename_i hh
       split at h
       · rename_i k b e hb hu
         split at h
         · rename_i ie hie
           cases hz : Nat.beq ie.size sz with
           | false => rw [hz] at h; cases h
           | true =>
             rw [hz] at h
             simp only [cond_true, osI, Prod.mk.injEq] at h
             obtain ⟨rfl, rfl⟩ := h
             obtain ⟨h0, h1⟩ : 0 ≤ b ∧ b ≤ els.length := hp
             have h2 : b.toNat ≤ els.length := by omega
             have e1 : Nat.ble b.toNat els.length = true := by rw [Nat.ble_eq]; exact h2
             have e2 : Nat.ble els.length els.length = true := by rw [Nat.ble_eq]; omega
             have e3 : Nat.ble 0 b.toNat = true := by rw [Nat.ble_eq]; omega
             refine cr hs ?_
             simp [symQ, hx, optA, hb, scal, hu, bnds, bZ, h0, e1, e2, e3, hie, hz]
         · cases h
       · cases h
     · rename_i ll
       split at h
       · rename_i k a e ha hu
         split at h
         · rename_i ie hie
           cases hz : Nat.beq ie.size sz with
           | false => rw [hz] at h; cases h
           | true =>
             rw [hz] at h
             simp only [cond_true, osI, Prod.mk.injEq] at h
             obtain ⟨rfl, rfl⟩ := h
             obtain ⟨h0, h1⟩ : 0 ≤ a ∧ a ≤ els.length := hp
             have h2 : a.toNat ≤ els.length := by omega
             have e1 : Nat.ble a.toNat els.length = true := by rw [Nat.ble_eq]; exact h2
             have e2 : Nat.ble els.length els.length = true := by rw [Nat.ble_eq]; omega
             refine cr hs ?_
             simp [symQ, hx, optA, ha, scal, hu, bnds, bZ, h0, e1, e2, hie, hz]
         · cases h
       · cases h
     · exact cw h
   · rename_i B o n m hx
     split at h
     · rename_i hg
       split at h
       · rename_i e hu
         split at h
         · rename_i ie hie
           cases hz : (Nat.beq ie.size (gsz m) && Nat.blt 0 (gsz m)) with
           | false => rw [hz] at h; cases h
           | true =>
             rw [hz] at h
             simp only [cond_true] at h
             have en : Nat.ble n n = true := by rw [Nat.ble_eq]; omega
             split at h
             · simp only [osI, Prod.mk.injEq] at h
               obtain ⟨rfl, rfl⟩ := h
               refine bP hs (by simp [symQ, hx]) ?_
               have e0 : Nat.ble 0 n = true := by rw [Nat.ble_eq]; omega
               simp [groQ, hx, hg, optA, hu, bnds, bZ, en, e0, hie, hz, iF]
             · split at h
               · rename_i hh k b hb
                 simp only [osI, Prod.mk.injEq] at h
                 obtain ⟨rfl, rfl⟩ := h
                 obtain ⟨h0, h1⟩ : 0 ≤ b ∧ b ≤ (n : Int) := hp
                 have e1 : Nat.ble b.toNat n = true := by rw [Nat.ble_eq]; omega
                 have e3 : Nat.ble 0 b.toNat = true := by rw [Nat.ble_eq]; omega
                 refine bP hs (by simp [symQ, hx]) ?_
                 simp [groQ, hx, hg, optA, hb, scal, hu, bnds, bZ, h0, en, e1, e3, hie, hz, iF]
               · cases h
             · split at h
               · rename_i ll k a ha
                 simp only [osI, Prod.mk.injEq] at h
                 obtain ⟨rfl, rfl⟩ := h
                 obtain ⟨h0, h1⟩ : 0 ≤ a ∧ a ≤ (n : Int) := hp
                 have e1 : Nat.ble a.toNat n = true := by rw [Nat.ble_eq]; omega
                 refine bP hs (by simp [symQ, hx]) ?_
                 simp [groQ, hx, hg, optA, ha, scal, hu, bnds, bZ, h0, en, e1, hie, hz]
               · cases h
             · split at h
               · rename_i zz hh k1 b k2 q hb hq
                 simp only [osI, Prod.mk.injEq] at h
                 obtain ⟨rfl, rfl⟩ := h
                 obtain ⟨h0, h1, h2⟩ : 0 ≤ b ∧ b ≤ q ∧ q ≤ (n : Int) := hp
                 have h3 : 0 ≤ q := by omega
                 have e1 : Nat.ble b.toNat q.toNat = true := by rw [Nat.ble_eq]; omega
                 have e2 : Nat.ble q.toNat n = true := by rw [Nat.ble_eq]; omega
                 have e3 : Nat.ble 0 b.toNat = true := by rw [Nat.ble_eq]; omega
                 refine bP hs (by simp [symQ, hx]) ?_
                 simp [groQ, hx, hg, optA, hb, hq, scal, hu, bnds, bZ, h0, h3, en, e1, e2, e3, hie, hz, iF]
               · cases h
             · split at h
               · rename_i ll hh k1 a k2 b ha hb
                 simp only [osI, Prod.mk.injEq] at h
                 obtain ⟨rfl, rfl⟩ := h
                 obtain ⟨h0, h1, h2⟩ : 0 ≤ a ∧ a ≤ b ∧ b ≤ (n : Int) := hp
                 have h3 : 0 ≤ b := by omega
                 have e1 : Nat.ble a.toNat b.toNat = true := by rw [Nat.ble_eq]; omega
                 have e2 : Nat.ble b.toNat n = true := by rw [Nat.ble_eq]; omega
                 refine bP hs (by simp [symQ, hx]) ?_
                 simp [groQ, hx, hg, optA, ha, hb, scal, hu, bnds, bZ, h0, h3, en, e1, e2, hie, hz]
               · cases h
             · cases h
         · cases h
       · cases h
     · exact cw h
   · rename_i s hx
     exact qH hs hx h hp
   · exact cw h
 · rename_i op t x y t2
   split at h
   · unfold qI at h
     split at h
     · rename_i k a hx
       split at h
       · rename_i k' b hy
         cases hk : cg k k' with
         | false => rw [hk] at h; cases h
         | true =>
           rw [hk] at h
           simp only [cond_true, osI, Prod.mk.injEq] at h
           obtain ⟨rfl, rfl⟩ := h
           have hb : b ≠ 0 := hp
           have e : k = k' := by simpa [cg] using hk
           subst e
           exact nU hs hx hy (by simp [hb])
       · cases h
     · exact cw h
   · unfold qI at h
     split at h
     · rename_i k a hx
       split at h
       · rename_i k' b hy
         cases hk : cg k k' with
         | false => rw [hk] at h; cases h
         | true =>
           rw [hk] at h
           simp only [cond_true, osI, Prod.mk.injEq] at h
           obtain ⟨rfl, rfl⟩ := h
           have hb : b ≠ 0 := hp
           have e : k = k' := by simpa [cg] using hk
           subst e
           exact nS hs hx hy (by simp [hb])
       · cases h
     · exact cw h
   · exact cw h
 · rename_i c
   unfold sxBlt at h
   split at h
   · rename_i hc
     split at h
     · rename_i k a k' b ha
       simp only [osI, Prod.mk.injEq] at h
       obtain ⟨rfl, rfl⟩ := h
       exact nV hc ha
     · exact cw h
   · rename_i hc
     split at h
     · rename_i k a k' b ha
       simp only [osI, Prod.mk.injEq] at h
       obtain ⟨rfl, rfl⟩ := h
       exact nW hc ha
     · exact cw h
   · exact cw h
   · cases h
 · rename_i t x i cok
   unfold sxLk at h
   split at h
   · rename_i B hx
     split at h
     · rename_i es cl k hB hk
       split at h
       · rename_i r hr
         simp only [osI, Prod.mk.injEq] at h
         obtain ⟨rfl, rfl⟩ := h
         have hp : j2 E t es k = some r := hp
         refine dP hs (by simp [symQ]) (by simp [groQ]) ?_
         simp only [aN, hx, hk]
         exact rl hB hp
       · exact cw h
     · cases h
   · exact cw h
 · rename_i t x i
   unfold sxIx at h
   split at h
   · rename_i s hx
     split at h
     · rename_i k n hi hu
       simp only [osI, Prod.mk.injEq] at h
       obtain ⟨rfl, rfl⟩ := h
       obtain ⟨h0, h1⟩ : 0 ≤ n ∧ n < s.size := hp
       exact qS hs hx hi hu h0 h1
     · cases h
   · exact cw h
 · rename_i s t x
   unfold sxCv at h
   split at h
   · rename_i B o n k happ hx
     split at h
     · rename_i e c e2 hg hs1 ht hB
       split at h
       · rename_i he
         simp only [osI, Prod.mk.injEq] at h
         obtain ⟨rfl, rfl⟩ := h
         obtain ⟨bs, h1, h2, h3⟩ := iD hp
         refine dP hs (by simp [symQ, hx]) (by simp [groQ]) ?_
         rw [h3]
         simp only [aN, hx, sd, hs1, ht, he]
         cases hn : Nat.beq n 0 with
         | true =>
           have hn0 := Nat.eq_of_beq_eq_true hn
           have : bs = [] := List.eq_nil_of_length_eq_zero (by omega)
           rw [this]; rfl
         | false =>
           have hl : cu A B o n = some (bs.map fun b => Value.int .u8 b.toNat) := by
            have e1 : Nat.beq (bs.map fun b => Value.int .u8 b.toNat).length n = true := by rw [Nat.beq_eq]; simp [h2]
            simp only [cu, look, hB, h1, e1, cond_true]
           simp only [cond_false, hl, eH]
       · cases h
     · cases h
     · exact cw h
   · exact cw h
 · exact cw h
def putK (n : Nat) (F : T Value) (dst : Option Tmp) (v : Value) (k : T Value → Prop) : Prop := match put n F dst v with | some F' => k F' | none => False
def setK (F : T Value) (d : Nat) (v : Value) (k : T Value → Prop) : Prop := match T.set FU F d v with | some F' => k F' | none => False
theorem ij {F : T Value} {d : Nat} {v : Value} {k : T Value → Prop} (h : setK F d v k) : ∃ F', T.set FU F d v = some F' ∧ k F' := by
 unfold setK at h
 split at h
 · rename_i F' hF; exact ⟨F', hF, h⟩
 · exact h.elim
def sxG (ops : List Oper) (F : T Value) (o : Oper) (kT kF : T Value → Prop) : Prop :=
 match o.guard with
 | none => kT F
 | some (j, want) => (match nth ops j with
   | some oj => (match oj.dst with
     | some d => (match slot F d with
       | some (.bool b) => Sp b (setK F d (.bool true) (fun F' => Bool.rec (motive := fun _ => Prop) (kF F') (kT F') want)) (setK F d (.bool false) (fun F' => Bool.rec (motive := fun _ => Prop) (kT F') (kF F') want))
       | some _ => kF F
       | none => False)
     | none => kF F)
   | none => kF F)
theorem s7 {ops : List Oper} {F : T Value} {o : Oper} {kT kF : T Value → Prop} (h : sxG ops F o kT kF) : (bu ops F o = some true ∧ kT F) ∨ (bu ops F o = some false ∧ kF F) := by
 unfold sxG at h
 unfold bu
 split at h
 · rename_i hg; rw [hg]; exact .inl ⟨rfl, h⟩
 · rename_i j want hg
   rw [hg]
   simp only
   split at h
   · rename_i oj hj
     rw [hj]
     simp only
     split at h
     · rename_i d hd
       rw [hd]
       simp only
       split at h
       · rename_i b hs
         rw [hs]
         simp only
         unfold slot at hs
         rcases h.cases with ⟨hb, h5⟩ | ⟨hb, h5⟩
         · obtain ⟨F', hF, h6⟩ := ij h5
           rw [hb] at hs ⊢
           rw [bA _ _ _ _ _ hs hF] at h6
           cases want with
           | true => exact .inl ⟨rfl, h6⟩
           | false => exact .inr ⟨rfl, h6⟩
         · obtain ⟨F', hF, h6⟩ := ij h5
           rw [hb] at hs ⊢
           rw [bA _ _ _ _ _ hs hF] at h6
           cases want with
           | true => exact .inr ⟨rfl, h6⟩
           | false => exact .inl ⟨rfl, h6⟩
       · rename_i u hnb hs
         rw [hs]
         refine .inr ⟨?_, h⟩
         cases u <;> first | rfl | exact absurd rfl (hnb _)
       · exact h.elim
     · rename_i hd; rw [hd]; exact .inr ⟨rfl, h⟩
   · rename_i hj; rw [hj]; exact .inr ⟨rfl, h⟩
def appS (E : Env) (A : AH) (ts : List TypeId) (B sl : Nat) (x : Value) : Option (Option Prop × Value × AH) :=
 match ts with
 | [t, tx] => (match und E t, und E tx with
   | some (.slice e), some dx => (match E.ti e with
     | some ie => (match ie.zero, srcA A ie.size x with
       | some z, some (n, news) =>
         bif (bp dx && (Nat.beq z.cells.toList.length ie.size && Nat.blt 0 ie.size)) && !Nat.beq n 0 then
          (match A.t.get B with
          | some (.cells c eb) => bif Nat.beq eb e then
            (match T.set FU A.t B .dead with
            | some t' => (match T.set FU t' A.next (.cells (c.take (sl * ie.size) ++ news) e) with
              | some t'' => some (some (sl + n ≤ 70368744177664 ∧ (sl + n) * ie.bytes ≤ 140737488355328 ∧ sl * ie.size ≤ c.length), .slice (some ⟨A.next, 0, none⟩) (sl + n) unk, ⟨t'', A.next + 1⟩)
              | none => none)
            | none => none) else none
          | _ => none) else none
       | _, _ => none)
     | none => none)
   | _, _ => none)
 | _ => none
theorem zT {E : Env} {A : AH} {ts : List TypeId} {B o sl : Nat} {x : Value} {p : Option Prop} {v : Value} {A' : AH} (h : appS E A ts B sl x = some (p, v, A')) (hp : PH p) : cq E A ts (.slice (some ⟨B, o, none⟩) sl unk) x = some (v, A') := by
 unfold appS at h
 split at h
 · rename_i t tx
   split at h
   · rename_i e dx hu hx
     split at h
     · rename_i ie hie
       split at h
       · rename_i z n news hz hs
         cases hb : ((bp dx && (Nat.beq z.cells.toList.length ie.size && Nat.blt 0 ie.size)) && !Nat.beq n 0) with
         | false => rw [hb] at h; cases h
         | true =>
           rw [hb] at h
           simp only [cond_true] at h
           simp only [Bool.and_eq_true, Bool.not_eq_true'] at hb
           split at h
           · rename_i c eb hB
             cases he : Nat.beq eb e with
             | false => rw [he] at h; cases h
             | true =>
               rw [he] at h
               simp only [cond_true] at h
               split at h
               · rename_i t' ht'
                 split at h
                 · rename_i t'' ht''
                   simp only [osI, Prod.mk.injEq] at h
                   obtain ⟨rfl, rfl, rfl⟩ := h
                   obtain ⟨h1, h2, h3⟩ : sl + n ≤ 70368744177664 ∧ (sl + n) * ie.bytes ≤ 140737488355328 ∧ sl * ie.size ≤ c.length := hp
                   have e1 : Nat.ble (sl + n) 70368744177664 = true := by rw [Nat.ble_eq]; exact h1
                   have e2 : Nat.ble ((sl + n) * ie.bytes) 140737488355328 = true := by rw [Nat.ble_eq]; exact h2
                   have e3 : Nat.ble (sl * ie.size) c.length = true := by rw [Nat.ble_eq]; exact h3
                   have e4 : Nat.blt unk unk = false := by rw [blt_eq]; simp
                   have e5 : Nat.beq unk unk = true := by rw [beq_eq]; simp
                   simp only [cq, hu, hx, hie, hz, hs, hb.1.1, hb.1.2.1, hb.1.2.2, hb.2, Bool.and_self, cond_true, cond_false, e1, e2, e3, e4, e5, hB, he, ht', ht'']
                 · cases h
               · cases h
           · cases h
       · cases h
     · cases h
   · cases h
 · cases h
def oZ (E : Env) (el : El) (A : AH) (t : TypeId) (B sz : Nat) (i j : Int) (v : Value) (s : Nat) : Option (Option Prop × Value × AH) :=
 match E.ti t, A.t.get B with
 | some ti, some (.gro els0 tl e) => (match E.ti e with
   | some ie => bif (Nat.beq ie.size sz && Nat.beq v.cells.toList.length ti.size) && v.cells.toList.all cellv then
    (match Nat.beq v.cells.toList.length sz && Nat.beq j.toNat 0 with
    | true => (match T.set FU A.t B (.gro ((glue els0 tl).set i.toNat v) [] e) with | some t => some (some (i.toNat < (glue els0 tl).length), undef, ⟨t, A.next⟩) | none => none)
    | false => (match el.at' sz s (glue els0 tl) i with
      | some u => bif Nat.ble (j.toNat + v.cells.toList.length) sz && !Nat.beq v.cells.toList.length sz then
       (match T.set FU A.t B (.gro ((glue els0 tl).set i.toNat (.agg ⟨over u.cells.toList j.toNat v.cells.toList⟩)) [] e) with | some t => some (some (nth (glue els0 tl) i.toNat = some u), undef, ⟨t, A.next⟩) | none => none) else none
      | none => none))
    else none
   | none => none)
 | _, _ => none
theorem oY {E : Env} {el : El} {A A' : AH} {t : TypeId} {B sz : Nat} {i j : Int} {v v2 : Value} {s : Nat} {p : Option Prop} (h : oZ E el A t B sz i j v s = some (p, v2, A')) (hp : PH p) : dT E A t B sz i.toNat j.toNat v = some A' ∧ v2 = undef := by
 unfold oZ at h
 unfold dT
 split at h
 · rename_i ti els0 tl e hti hB
   rw [hti, hB]
   simp only
   generalize glue els0 tl = els at h ⊢
   split at h
   · rename_i ie hie
     rw [hie]
     cases hb : (Nat.beq ie.size sz && Nat.beq v.cells.toList.length ti.size) && v.cells.toList.all cellv with
     | false => rw [hb] at h; simp at h
     | true =>
       rw [hb] at h
       simp only [cond_true] at h
       simp only [Bool.and_eq_true] at hb
       split at h
       · rename_i hw
         simp only [Bool.and_eq_true, Nat.beq_eq] at hw
         split at h
         · rename_i t2 ht
           simp only [osI, Prod.mk.injEq] at h
           obtain ⟨rfl, rfl, rfl⟩ := h
           have hp : i.toNat < els.length := hp
           have hn : nth els i.toNat = some els[i.toNat] := by rw [aI]; exact List.getElem?_eq_getElem hp
           rw [hn]
           have e1 : Nat.ble (j.toNat + v.cells.toList.length) sz = true := by rw [Nat.ble_eq]; omega
           have e2 : iY els[i.toNat] v sz j.toNat = v := by
            unfold iY
            have : Nat.beq v.cells.toList.length sz = true := by rw [Nat.beq_eq]; exact hw.1
            rw [this]; rfl
           simp only [hb.1.1, hb.1.2, hb.2, e1, e2, ht, Bool.and_self, cond_true, and_self]
         · cases h
       · split at h
         · rename_i u hu
           cases hb2 : (Nat.ble (j.toNat + v.cells.toList.length) sz && !Nat.beq v.cells.toList.length sz) with
           | false => rw [hb2] at h; simp at h
           | true =>
             rw [hb2] at h
             simp only [cond_true] at h
             simp only [Bool.and_eq_true, Bool.not_eq_true'] at hb2
             split at h
             · rename_i t2 ht
               simp only [osI, Prod.mk.injEq] at h
               obtain ⟨rfl, rfl, rfl⟩ := h
               have hp : nth els i.toNat = some u := hp
               rw [hp]
               have e2 : iY u v sz j.toNat = .agg ⟨over u.cells.toList j.toNat v.cells.toList⟩ := by
                unfold iY
                rw [hb2.2]; rfl
               simp only [hb.1.1, hb.1.2, hb.2, hb2.1, e2, ht, Bool.and_self, cond_true, and_self]
             · cases h
         · cases h
   · cases h
 · cases h
def srcS (E : Env) (A : AH) (e : TypeId) (sz : Nat) (x : Value) : Option (Option Prop × List Value) :=
 match x with
 | .slice (some ⟨B, o, none⟩) n m => (match isG m with
   | true => (match A.t.get B with
     | some (.gro els tl e2) => (match E.ti e2 with
       | some ie => bif (Nat.beq ie.size sz && Nat.beq (gsz m) sz) && Nat.blt 0 sz then some (some (n + gLo sz o ≤ (glue els tl).length), ((glue els tl).drop (gLo sz o)).take n) else none
       | none => none)
     | _ => none)
   | false => (match srcG E A e sz (.slice (some ⟨B, o, none⟩) n m) with | some l => some (none, l) | none => none))
 | x => (match srcG E A e sz x with | some l => some (none, l) | none => none)
theorem vB {E : Env} {A : AH} {e : TypeId} {sz : Nat} {x : Value} {p : Option Prop} {l : List Value} (h : srcS E A e sz x = some (p, l)) (hp : PH p) : srcG E A e sz x = some l := by
 unfold srcS at h
 split at h
 · rename_i B o n m
   split at h
   · rename_i hg
     split at h
     · rename_i els tl e2 hB
       split at h
       · rename_i ie hie
         cases hb : (Nat.beq ie.size sz && Nat.beq (gsz m) sz) && Nat.blt 0 sz with
         | false => rw [hb] at h; simp at h
         | true =>
           rw [hb] at h
           simp only [cond_true, osI, Prod.mk.injEq] at h
           obtain ⟨rfl, rfl⟩ := h
           have hp : n + gLo sz o ≤ (glue els tl).length := hp
           simp only [Bool.and_eq_true] at hb
           have e1 : Nat.ble (n + gLo sz o) (glue els tl).length = true := by rw [Nat.ble_eq]; exact hp
           simp only [srcG, hg, hB, hie, hb.1.1, hb.1.2, hb.2, e1, Bool.and_self, cond_true]
       · cases h
     · cases h
   · split at h
     · rename_i l' hl
       simp only [osI, Prod.mk.injEq] at h
       rw [hl, h.2]
     · cases h
 · split at h
   · rename_i l' hl
     simp only [osI, Prod.mk.injEq] at h
     rw [hl, h.2]
   · cases h
def zA (o lo : Nat) (els : List Value) : List Value := match Nat.beq o 0 with
 | true => els
 | false => els.drop lo
def j7 (E : Env) (A : AH) (ts : List TypeId) (B o n m : Nat) (x : Value) : Option (Option Prop × Value × AH) :=
 match ts with
 | [t, tx] => (match und E t, und E tx with
   | some (.slice e), some dx => (match E.ti e, A.t.get B with
     | some ie, some (.gro els tl eb) => (match ie.zero, srcS E A e ie.size x with
       | some z, some s =>
         bif (bp dx && (Nat.beq z.cells.toList.length ie.size && Nat.blt 0 ie.size)) && (Nat.beq eb e && (Nat.beq (gsz m) ie.size && isG m)) then
             (match T.set FU A.t B .dead with
             | some t' => (match T.set FU t' A.next (.gro (zA o (gLo ie.size o) (glue els tl)) s.2 e) with
               | some t'' => some (some (pc s.1 ((ao s.2).all cellv = true ∧ n + gLo ie.size o = (glue els tl).length ∧ n + s.2.length ≤ 70368744177664 ∧ (n + s.2.length) * ie.bytes ≤ 140737488355328)), .slice (some ⟨A.next, 0, none⟩) (n + s.2.length) m, ⟨t'', A.next + 1⟩)
               | none => none)
             | none => none)
         else none
       | _, _ => none)
     | _, _ => none)
   | _, _ => none)
 | _ => none
theorem rY {o sz : Nat} (els : List Value) : zA o (gLo sz o) els = els.drop (gLo sz o) := by
 unfold zA
 split
 · rename_i h
   have := Nat.eq_of_beq_eq_true h
   subst this
   have : gLo sz 0 = 0 := by unfold gLo; cases Nat.beq sz 1 <;> simp
   rw [this]; rfl
 · rfl
theorem mG {E : Env} {A A' : AH} {ts : List TypeId} {B o n m : Nat} {x v : Value} {p : Option Prop} (h : j7 E A ts B o n m x = some (p, v, A')) (hp : PH p) : jn E A ts B o n m x = some (v, A') := by
 unfold j7 at h
 unfold jn
 split at h
 · rename_i t tx
   simp only
   split at h
   · rename_i e dx hu hux
     rw [hu, hux]
     simp only
     split at h
     · rename_i ie els0 tl0 eb hie hB
       rw [hie, hB]
       simp only
       generalize glue els0 tl0 = els at h ⊢
       split at h
       · rename_i z s hz hs
         rw [hz]
         cases hb : (bp dx && (Nat.beq z.cells.toList.length ie.size && Nat.blt 0 ie.size)) && (Nat.beq eb e && (Nat.beq (gsz m) ie.size && isG m)) with
         | false => rw [hb] at h; simp at h
         | true =>
           rw [hb] at h
           simp only [cond_true] at h
           split at h
           · rename_i t1 ht1
             split at h
             · rename_i t2 ht2
               simp only [osI, Prod.mk.injEq] at h
               obtain ⟨rfl, rfl, rfl⟩ := h
               obtain ⟨hs1, c1, c2, c3, c4⟩ := cC (show pc s.1 _ from hp)
               rw [vB (p := s.1) (l := s.2) hs hs1]
               rw [rY] at ht2
               have e2 : Nat.beq (n + gLo ie.size o) els.length = true := by rw [Nat.beq_eq]; exact c2
               have e3 : Nat.ble (n + s.2.length) 70368744177664 = true := by rw [Nat.ble_eq]; exact c3
               have e4 : Nat.ble ((n + s.2.length) * ie.bytes) 140737488355328 = true := by rw [Nat.ble_eq]; exact c4
               simp only [hb, c1, e2, e3, e4, ht1, ht2, Bool.and_self, cond_true]
             · cases h
           · cases h
       · cases h
     · cases h
   · cases h
 · cases h
def iA (E : Env) (t : TypeId) (es : List (Value × Value × Nat)) (clock : Nat) (k v : Value) : Option (List (Value × Value × Nat) × Nat) :=
 match und E t with
 | some (.map kt et) => bif flat k && dF E false kt k then
  (match gA E kt k es with
  | some none => some (es ++ [(k, v, clock)], clock + 1)
  | some (some (i, _)) => (match nth es i with
    | some (key, _, born) => bif Instr.sameBits 10000 key k then some (es.set i (k, v, born), clock) else none
    | none => none)
  | none => none) else none
 | _ => none
theorem mv {E : Env} {A : AH} {t : TypeId} {B : Nat} {es es' : List (Value × Value × Nat)} {clock c' : Nat} {k v : Value} (hB : A.t.get B = some (.map es clock)) (h : iA E t es clock k v = some (es', c')) : dC E A t (.map (some B)) k v = setA A B (.map es' c') := by
 unfold iA at h
 unfold dC
 split at h
 · rename_i kt et hu
   rw [hu]
   cases hb : (flat k && dF E false kt k) with
   | false => rw [hb] at h; simp at h
   | true =>
     rw [hb] at h
     simp only [cond_true] at h
     simp only [hB, hb, cond_true]
     split at h
     · rename_i hf
       rw [hf]
       simp only [osI, Prod.mk.injEq] at h
       obtain ⟨rfl, rfl⟩ := h
       rfl
     · rename_i i u hf
       rw [hf]
       simp only
       split at h
       · rename_i key u2 born hn
         rw [hn]
         cases hsb : Instr.sameBits 10000 key k with
         | false => rw [hsb] at h; simp at h
         | true =>
           rw [hsb] at h
           simp only [cond_true, osI, Prod.mk.injEq] at h
           obtain ⟨rfl, rfl⟩ := h
           simp only [hsb, cond_true]
       · cases h
     · cases h
 · cases h
def re (E : Env) (el : El) (A : AH) (t : TypeId) (B : Nat) (k v : Value) : Option (Option Prop × Value × AH) :=
 match A.t.get B with
 | some (.map es clock) => (match el.mu t es clock k v with
   | some r => (match setA A B (.map r.1 r.2) with | some A' => some (some (iA E t es clock k v = some r), undef, A') | none => none)
   | none => none)
 | _ => none
theorem lq {E : Env} {el : El} {A A' : AH} {t : TypeId} {B : Nat} {k v v2 : Value} {p : Option Prop} (h : re E el A t B k v = some (p, v2, A')) (hp : PH p) : dC E A t (.map (some B)) k v = some A' ∧ v2 = undef := by
 unfold re at h
 split at h
 · rename_i es clock hB
   split at h
   · rename_i r hr
     split at h
     · rename_i A2 hA
       simp only [osI, Prod.mk.injEq] at h
       obtain ⟨rfl, rfl, rfl⟩ := h
       have hp : iA E t es clock k v = some (r.1, r.2) := hp
       rw [mv hB hp]
       exact ⟨hA, rfl⟩
     · cases h
   · cases h
 · cases h
def o4 (E : Env) (A : AH) (ts : List TypeId) (B o n m B2 o2 n2 m2 : Nat) : Option (Option Prop × Value × AH) :=
 match ts with
 | t :: _ => (match und E t with
   | some (.slice e) => (match E.ti e, A.t.get B, A.t.get B2 with
     | some ie, some (.gro els tl eb), some (.gro els2 tl2 eb2) =>
       bif ((Nat.beq eb e && Nat.beq eb2 e) && (Nat.beq (gsz m) ie.size && Nat.beq (gsz m2) ie.size)) && ((isG m && isG m2) && Nat.blt 0 ie.size) then
           (match T.set FU A.t B (.gro (splc (glue els tl) (gLo ie.size o) (((glue els2 tl2).drop (gLo ie.size o2)).take (Nat.min n2 n))) [] eb) with
           | some t' => some (some ((ao (((glue els2 tl2).drop (gLo ie.size o2)).take (Nat.min n2 n))).all cellv = true ∧ gLo ie.size o + n ≤ (glue els tl).length ∧ gLo ie.size o2 + n2 ≤ (glue els2 tl2).length), .int .i64 (Nat.min n2 n : Nat), ⟨t', A.next⟩)
           | none => none)
       else none
     | _, _, _ => none)
   | _ => none)
 | _ => none
theorem o3 {E : Env} {A A' : AH} {ts : List TypeId} {B o n m B2 o2 n2 m2 : Nat} {v : Value} {p : Option Prop} (h : o4 E A ts B o n m B2 o2 n2 m2 = some (p, v, A')) (hp : PH p) : gc E A ts B o n m B2 o2 n2 m2 = some (v, A') := by
 unfold o4 at h
 unfold gc
 split at h
 · rename_i t ts'
   simp only
   split at h
   · rename_i e hu
     rw [hu]
     simp only
     split at h
     · rename_i ie els tl eb els2 tl2 eb2 hie hB hB2
       rw [hie, hB, hB2]
       simp only
       cases hb : ((Nat.beq eb e && Nat.beq eb2 e) && (Nat.beq (gsz m) ie.size && Nat.beq (gsz m2) ie.size)) && ((isG m && isG m2) && Nat.blt 0 ie.size) with
       | false => rw [hb] at h; cases h
       | true =>
         rw [hb] at h
         simp only [cond_true] at h ⊢
         split at h
         · rename_i t1 ht1
           simp only [osI, Prod.mk.injEq] at h
           obtain ⟨rfl, rfl, rfl⟩ := h
           obtain ⟨c1, c2, c3⟩ : (ao (((glue els2 tl2).drop (gLo ie.size o2)).take (Nat.min n2 n))).all cellv = true ∧ gLo ie.size o + n ≤ (glue els tl).length ∧ gLo ie.size o2 + n2 ≤ (glue els2 tl2).length := hp
           have e1 : Nat.ble (gLo ie.size o + n) (glue els tl).length = true := by rw [Nat.ble_eq]; exact c2
           have e2 : Nat.ble (gLo ie.size o2 + n2) (glue els2 tl2).length = true := by rw [Nat.ble_eq]; exact c3
           simp only [c1, e1, e2, ht1, Bool.and_self, cond_true]
         · cases h
     · cases h
   · cases h
 · cases h
def sxUs (E : Env) (A : AH) (ats : List TypeId) (p n : Value) : Option (Option Prop × Value × AH) :=
 match ats, p, n with
 | [pt, _], .pointer (some ⟨B, o, none⟩), .int .i64 k => (match und E pt, A.t.get B with
   | some (.pointer e), some (.cells c e') => (match E.ti e, T.set FU A.t B .dead with
     | some j, some t => bif Nat.beq o 0 && (Nat.beq e e' && Nat.beq j.size 1) then
      some (some (IsB c 0 k.toNat ∧ 0 < k ∧ k ≤ 9223372036854775807), .string (aa (u8L c 0 k.toNat)), ⟨t, A.next⟩) else none
     | _, _ => none)
   | _, _ => none)
 | _, _, _ => none
theorem vf {E : Env} {A : AH} {ats : List TypeId} {p n : Value} {q : Option Prop} {v : Value} {A' : AH} (h : sxUs E A ats p n = some (q, v, A')) (hp : PH q) : ne E A ats p n = some (v, A') := by
 unfold sxUs at h
 split at h
 · rename_i pt it B o k
   split at h
   · rename_i e c e' hpt hB
     split at h
     · rename_i j t hj ht
       cases hb : Nat.beq o 0 && (Nat.beq e e' && Nat.beq j.size 1) with
       | false => rw [hb] at h; cases h
       | true =>
         rw [hb] at h
         simp only [cond_true, osI, Prod.mk.injEq] at h
         obtain ⟨rfl, rfl, rfl⟩ := h
         obtain ⟨hq, h0, h1⟩ : IsB c 0 k.toNat ∧ 0 < k ∧ k ≤ 9223372036854775807 := hp
         obtain ⟨bs, g1, g2, g3⟩ := iD hq
         obtain ⟨m, rfl⟩ : ∃ m : Nat, k = Int.ofNat m := ⟨k.toNat, (Int.toNat_of_nonneg (Int.le_of_lt h0)).symm⟩
         have em : (Int.ofNat m).toNat = m := rfl
         rw [em] at g1 g2 g3 ⊢
         simp only [Bool.and_eq_true] at hb
         have hm0 : Nat.beq m 0 = false := by
          cases hm : Nat.beq m 0 with
          | false => rfl
          | true => have := Nat.eq_of_beq_eq_true hm; subst this; exact absurd h0 (by decide)
         have hmx : Nat.ble m 9223372036854775807 = true := by rw [Nat.ble_eq]; exact Int.ofNat_le.1 h1
         have hl : cu A B 0 m = some (bs.map fun b => Value.int .u8 b.toNat) := by
          have e1 : Nat.beq (bs.map fun b => Value.int .u8 b.toNat).length m = true := by rw [Nat.beq_eq]; simp [g2]
          simp only [cu, look, hB, g1, e1, cond_true]
         rw [g3]
         simp only [ne, hm0, hb.1, cond_false, cond_true, hpt, hB, hj, hb.2.1, hb.2.2, hmx, Bool.and_self, hl, n9, eH, ht]
     · cases h
   · cases h
 · cases h
def sxG1 (E : Env) (el : El) (A : AH) (ρ : Operand → Option Value) (op : Op) : Option (Option Prop × Value × AH) :=
 match op with
 | .store t a x => (match ρ a, ρ x with
   | some (.func (.yield sz) ⟨[.pointer (some ⟨B, 0, none⟩)]⟩ ⟨[.int .i64 i, .int .i64 j, .bool true]⟩), some v => oZ E el A t B sz i j v (wj a)
   | _, _ => none)
 | .mapUpdate t m k x => (match ρ m, ρ k, ρ x with | some (.map (some B)), some k, some v => re E el A t B k v | _, _, _ => none)
 | .insert t m k x => (match ρ m, ρ k, ρ x with | some (.map (some B)), some k, some v => re E el A t B k v | _, _, _ => none)
 | .call c => (match c.callee with
   | .builtin .append => (match c.args.toList with
     | [x, y] => (match ρ x, ρ y with
       | some (.slice (some ⟨B, o, none⟩) sl sk), some src => (match isG sk with
         | true => j7 E A c.argTypes.toList B o sl sk src
         | false => bif el.app && Nat.beq sk unk then appS E A c.argTypes.toList B sl src else none)
       | _, _ => none)
     | _ => none)
   | .builtin .copy => (match c.args.toList with
     | [x, y] => (match ρ x, ρ y with
       | some (.slice (some ⟨B, o, none⟩) n m), some (.slice (some ⟨B2, o2, none⟩) n2 m2) => (match isG m with
         | true => o4 E A c.argTypes.toList B o n m B2 o2 n2 m2
         | false => none)
       | _, _ => none)
     | _ => none)
   | .builtin .unsafeString => (match el.app, c.args.toList with
     | true, [x, y] => (match ρ x, ρ y with
       | some p, some n => sxUs E A c.argTypes.toList p n
       | _, _ => none)
     | _, _ => none)
   | _ => none)
 | _ => none
theorem no {E : Env} {el : El} {A : AH} {ρ : Operand → Option Value} {op : Op} {p : Option Prop} {v : Value} {A' : AH} (h : sxG1 E el A ρ op = some (p, v, A')) (hp : PH p) : effA E A ρ op = some (v, A') := by
 unfold sxG1 at h
 split at h
 · rename_i t a x
   split at h
   · rename_i sz B i j v0 ha hx
     obtain ⟨h1, rfl⟩ := oY h hp
     simp only [effA, ha, hx, gF, h1]
   · cases h
 · rename_i t m k x
   split at h
   · rename_i B k0 v0 hm hk hx
     obtain ⟨h1, rfl⟩ := lq h hp
     simp only [effA, hm, hk, hx, h1]
   · cases h
 · rename_i t m k x
   split at h
   · rename_i B k0 v0 hm hk hx
     obtain ⟨h1, rfl⟩ := lq h hp
     simp only [effA, hm, hk, hx, h1]
   · cases h
 · rename_i c
   split at h
   · rename_i hc
     split at h
     · rename_i x y hargs
       split at h
       · rename_i B o sl sk src hx hy
         simp only [effA, hc, effB, hargs, hx, hy]
         split at h
         · rename_i hg
           simp only [cW, hg]
           exact mG h hp
         · rename_i hg
           simp only [cW, hg]
           cases hk : (el.app && Nat.beq sk unk) with
           | false => rw [hk] at h; simp at h
           | true =>
             rw [hk] at h
             simp only [Bool.and_eq_true] at hk
             obtain rfl := Nat.eq_of_beq_eq_true hk.2
             simp only [cond_true] at h
             exact zT h hp
       · cases h
     · cases h
   · rename_i hc
     split at h
     · rename_i x y hargs
       split at h
       · rename_i B o n m B2 o2 n2 m2 hx hy
         simp only [effA, hc, effB, hargs, hx, hy]
         split at h
         · rename_i hg
           simp only [iI, hg]
           exact o3 h hp
         · cases h
       · cases h
     · cases h
   · rename_i hc
     split at h
     · rename_i x y happ hargs
       split at h
       · rename_i p0 n0 hx hy
         simp only [effA, hc, effB, hargs, hx, hy]
         exact vf h hp
       · cases h
     · cases h
   · cases h
 · cases h
def frzV (E : Env) (A : AH) (B2 n k : Nat) : Option (Option Prop × Value) :=
 match A.t.get B2 with
 | some (.cells c2 e2) => (match E.ti e2, und E e2 with
   | some i2, some d2 => bif (Nat.blt k unk && (Nat.ble n k && Nat.beq (c2.take (n * i2.size)).length (n * i2.size))) && ((c2.take (n * i2.size)).all cellv && (bH d2 || Nat.beq i2.size 1)) then
    some (none, .func (.yield i2.size) ⟨gB (bH d2) i2.size n (c2.take (n * i2.size))⟩ ⟨[]⟩) else none
   | _, _ => none)
 | some (.gro els tl e2) => (match E.ti e2 with
   | some i2 => bif isG k && Nat.beq i2.size (gsz k) then some (some ((glue els tl).length = n), .func (.yield (gsz k)) ⟨glue els tl⟩ ⟨[]⟩) else none
   | none => none)
 | _ => none
theorem y7 {E : Env} (ok : E.Ok) {σ : Sig} {A : AH} {w : World} (R : Rel E.P σ A w) {B2 n k : Nat} {p : Option Prop} {v : Value} {t1 : T AObj} (h : frzV E A B2 n k = some (p, v)) (hp : PH p) (ht1 : T.set FU A.t B2 .dead = some t1) :
 ∃ σ', Rel E.P σ' ⟨t1, A.next⟩ w ∧ Ext σ A w σ' ⟨t1, A.next⟩ w ∧ ∀ v', VR σ' (.slice (some ⟨B2, 0, none⟩) n k) v' → VR σ' v v' := by
 unfold frzV at h
 split at h
 · rename_i c2 e2 h2
   split at h
   · rename_i i2 d2 hi2 hd2
     cases hb : (Nat.blt k unk && (Nat.ble n k && Nat.beq (c2.take (n * i2.size)).length (n * i2.size))) && ((c2.take (n * i2.size)).all cellv && (bH d2 || Nat.beq i2.size 1)) with
     | false => rw [hb] at h; simp at h
     | true =>
       rw [hb] at h
       simp only [cond_true, osI, Prod.mk.injEq] at h
       obtain ⟨rfl, rfl⟩ := h
       simp only [Bool.and_eq_true, Bool.or_eq_true, Nat.ble_eq, Nat.beq_eq, Nat.blt_eq] at hb
       obtain ⟨⟨b0, b1, b2⟩, b3, b4⟩ := hb
       obtain ⟨p1, p2, p3⟩ := fx b4 n _ b2 b3
       exact y9 R h2 b0 b1 p3 p2 p1 (by simp at b2; omega) ht1
   · cases h
 · rename_i els tl e2 h2
   split at h
   · rename_i i2 hi2
     cases hb : (isG k && Nat.beq i2.size (gsz k)) with
     | false => rw [hb] at h; simp at h
     | true =>
       rw [hb] at h
       simp only [cond_true, osI, Prod.mk.injEq] at h
       obtain ⟨rfl, rfl⟩ := h
       simp only [Bool.and_eq_true, Nat.beq_eq] at hb
       have hp : (glue els tl).length = n := hp
       rw [bR] at hp ⊢
       exact y8 R h2 hb.1 (by simp [Program.cellsOf, ok.ti _ _ hi2, hb.2]) hp ht1
   · cases h
 · cases h
def pe : List Value → Nat → Option (Nat × Nat × Nat × Nat)
 | [], _ => none
 | v :: l, j => match v with
   | .slice (some ⟨B, 0, none⟩) n k => some (j, B, n, k)
   | _ => pe l (j + 1)
theorem lF : ∀ {l : List Value} {i j B n k : Nat}, pe l i = some (j, B, n, k) → ∃ m, j = i + m ∧ l[m]? = some (.slice (some ⟨B, 0, none⟩) n k)
 | [], i, j, B, n, k, h => by simp [pe] at h
 | v :: l, i, j, B, n, k, h => by
   unfold pe at h
   split at h
   · simp only [osI, Prod.mk.injEq] at h
     obtain ⟨rfl, rfl, rfl, rfl⟩ := h
     exact ⟨0, rfl, rfl⟩
   · obtain ⟨m, h1, h2⟩ := lF h
     exact ⟨m + 1, by omega, by simpa using h2⟩
def frzT (E : Env) (B : Nat) : Nat → AH → (AH → Prop) → Prop
 | 0, A, K => K A
 | m + 1, A, K => match A.t.get B with
   | some (.gro els tl e) => (match pe (ao tl) 0 with
     | some r => (match frzV E A r.2.1 r.2.2.1 r.2.2.2, T.set FU A.t r.2.1 .dead, E.ti e, und E e with
       | some q, some t1, some ie, some d => bif Nat.beq B r.2.1 || !(((((ao tl).set r.1 q.2).all cellv) && Nat.beq ((ao tl).set r.1 q.2).length (tl.length * ie.size)) && (bH d || Nat.beq ie.size 1)) then False else
         (match T.set FU t1 B (.gro els (gB (bH d) ie.size tl.length ((ao tl).set r.1 q.2)) e) with
         | some t2 => pc q.1 (frzT E B m ⟨t2, A.next⟩ K)
         | none => False)
       | _, _, _, _ => False)
     | none => K A)
   | _ => K A
theorem o6 {E : Env} (ok : E.Ok) {B : Nat} : ∀ {m : Nat} {A : AH} {K : AH → Prop}, frzT E B m A K → ∃ A', K A' ∧ ∀ (σ : Sig) (w : World), Rel E.P σ A w → ∃ σ', Rel E.P σ' A' w ∧ Ext σ A w σ' A' w
 | 0, A, K, h => ⟨A, h, fun σ w R => ⟨σ, R, Ext.refl _ _ _⟩⟩
 | m + 1, A, K, h => by
   unfold frzT at h
   split at h
   · rename_i els tl e hB
     split at h
     · rename_i r hr
       split at h
       · rename_i q t1 ie d hq ht1 hie hd
         cases hb : (Nat.beq B r.2.1 || !(((((ao tl).set r.1 q.2).all cellv) && Nat.beq ((ao tl).set r.1 q.2).length (tl.length * ie.size)) && (bH d || Nat.beq ie.size 1))) with
         | true => rw [hb] at h; exact h.elim
         | false =>
           rw [hb] at h
           simp only [cond_false] at h
           simp only [Bool.or_eq_false_iff, Bool.not_eq_false', Bool.and_eq_true, Bool.or_eq_true, Nat.beq_eq] at hb
           obtain ⟨hne, ⟨c1, c2⟩, c3⟩ := hb
           have hne := az hne
           split at h
           · rename_i t2 ht2
             obtain ⟨hp, h⟩ := cC h
             obtain ⟨A', hK, hA'⟩ := o6 ok h
             refine ⟨A', hK, fun σ w R => ?_⟩
             obtain ⟨σ1, R1, X1, hv⟩ := y7 ok R (p := q.1) (v := q.2) hq hp ht1
             obtain ⟨mm, q1, q2⟩ := lF (i := 0) (j := r.1) (B := r.2.1) (n := r.2.2.1) (k := r.2.2.2) hr
             obtain ⟨p1, p2, p3⟩ := fx c3 tl.length _ c2 c1
             have hco : E.P.cellsOf e = ie.size := by simp [Program.cellsOf, ok.ti _ _ hie]
             have hB1 : (⟨t1, A.next⟩ : AH).t.get B = some (.gro els tl e) := by
              show t1.get B = _
              rw [T.get_set ht1, if_neg hne]; exact hB
             obtain ⟨R2, X2⟩ := mn R1 hB1 (p := r.1) (by rw [q1, Nat.zero_add]; exact q2) hv p1 (by rw [hco]; exact p2) p3 ht2
             obtain ⟨σ2, R3, X3⟩ := hA' σ1 w R2
             exact ⟨σ2, R3, X1.trans (X2.trans X3)⟩
           · exact h.elim
       · exact h.elim
     · exact ⟨A, h, fun σ w R => ⟨σ, R, Ext.refl _ _ _⟩⟩
   · exact ⟨A, h, fun σ w R => ⟨σ, R, Ext.refl _ _ _⟩⟩
def s8 (tab : Tab) (inl : Inl) (E : Env) (A : AH) (g : FuncId) (args : List Value) (K : KV) : Prop :=
 match E.fn g with
 | some fn => (match jH tab g with
   | some x => (match x args A with | some r => pc r.1 (K r.2.1 r.2.2) | none => Stop (g, args))
   | none => inl fn args A K)
 | none => (match E.ext g with
   | some x => (match x args A with | some r => K r.1 r.2 | none => Stop (g, args))
   | none => Stop (g, args))
def nt (tab : Tab) (inl : Inl) (E : Env) (A : AH) (ρ : Operand → Option Value) (op : Op) (K : KV) : Prop :=
 match effA E A ρ op with
 | some r => K r.1 r.2
 | none => (match eY E ρ op with
   | some r => s8 tab inl E A r.1 r.2 K
   | none => Stop (op, A))
def appT (E : Env) (A : AH) (ts : List TypeId) (b : Value) (s : ByteArray) : Option (Option Prop × Value × AH) :=
 match ts with
 | [t, tx] => (match und E t, und E tx with
   | some (.slice e), some .string => (match E.ti e with
     | some ie => (match ie.zero with
       | some z => bif Nat.beq ie.size 1 && Nat.beq z.cells.toList.length 1 then
        (match b with
        | .slice none sl sk => bif Nat.beq sl 0 && Nat.beq sk 0 then
         (match aX A (.cells (s.data.toList.map fun b => .int .u8 b.toNat) e) with
         | some A' => some (some (s.size ≤ 70368744177664 ∧ s.size * ie.bytes ≤ 140737488355328), .slice (some ⟨A.next, 0, none⟩) s.size unk, A')
         | none => none) else none
        | .slice (some ⟨B, o, none⟩) sl sk => bif Nat.beq sk unk then
         (match A.t.get B with
         | some (.cells c eb) => bif Nat.beq eb e then
           (match T.set FU A.t B .dead with
           | some t' => (match T.set FU t' A.next (.cells (c.take (sl * ie.size) ++ s.data.toList.map fun b => .int .u8 b.toNat) e) with
             | some t'' => some (some (sl + s.size ≤ 70368744177664 ∧ (sl + s.size) * ie.bytes ≤ 140737488355328 ∧ sl * ie.size ≤ c.length), .slice (some ⟨A.next, 0, none⟩) (sl + s.size) unk, ⟨t'', A.next + 1⟩)
             | none => none)
           | none => none) else none
         | _ => none) else none
        | _ => none) else none
       | none => none)
     | none => none)
   | _, _ => none)
 | _ => none
theorem zS {E : Env} {A : AH} {ts : List TypeId} {b : Value} {s : ByteArray} {p : Option Prop} {v : Value} {A' : AH} (h : appT E A ts b s = some (p, v, A')) :
    (Nat.beq s.size 0 = true → cW E A ts b (.string s) = some (b, A)) ∧ (Nat.beq s.size 0 = false → PH p → cW E A ts b (.string s) = some (v, A')) := by
  unfold appT at h
  split at h
  · rename_i t tx
    split at h
    · rename_i e hu hx
      split at h
      · rename_i ie hie
        split at h
        · rename_i z hz
          cases hb : Nat.beq ie.size 1 && Nat.beq z.cells.toList.length 1 with
          | false => rw [hb] at h; cases h
          | true =>
            rw [hb] at h
            simp only [cond_true] at h
            simp only [Bool.and_eq_true] at hb
            obtain ⟨q1, q2⟩ := hb
            have q3 : Nat.beq z.cells.toList.length ie.size = true := by rw [Nat.beq_eq] at q1 q2 ⊢; omega
            have q4 : Nat.blt 0 ie.size = true := by rw [Nat.beq_eq] at q1; rw [Nat.blt_eq]; omega
            have q5 : bp .string = true := rfl
            split at h
            · rename_i sl sk
              cases hk : Nat.beq sl 0 && Nat.beq sk 0 with
              | false => rw [hk] at h; cases h
              | true =>
                rw [hk] at h
                simp only [cond_true] at h
                split at h
                · rename_i A1 hA
                  simp only [osI, Prod.mk.injEq] at h
                  obtain ⟨rfl, rfl, rfl⟩ := h
                  refine ⟨fun h0 => ?_, fun h0 hp => ?_⟩
                  · simp only [cW, cq, hu, hx, hie, hz, srcA, q1, q3, q4, q5, hk, h0, Bool.and_self, cond_true]
                  · obtain ⟨g1, g2⟩ : s.size ≤ 70368744177664 ∧ s.size * ie.bytes ≤ 140737488355328 := hp
                    have e1 : Nat.ble s.size 70368744177664 = true := by rw [Nat.ble_eq]; exact g1
                    have e2 : Nat.ble (s.size * ie.bytes) 140737488355328 = true := by rw [Nat.ble_eq]; exact g2
                    simp only [cW, cq, hu, hx, hie, hz, srcA, q1, q3, q4, q5, hk, h0, e1, e2, hA, Bool.and_self, cond_true, cond_false]
                · cases h
            · rename_i B o sl sk
              cases hk : Nat.beq sk unk with
              | false => rw [hk] at h; cases h
              | true =>
                rw [hk] at h
                obtain rfl := Nat.eq_of_beq_eq_true hk
                simp only [cond_true] at h
                have hG : isG unk = false := by decide
                split at h
                · rename_i c eb hB
                  cases he : Nat.beq eb e with
                  | false => rw [he] at h; cases h
                  | true =>
                    rw [he] at h
                    simp only [cond_true] at h
                    split at h
                    · rename_i t1 ht1
                      split at h
                      · rename_i t2 ht2
                        simp only [osI, Prod.mk.injEq] at h
                        obtain ⟨rfl, rfl, rfl⟩ := h
                        have e3 : Nat.ble unk unk = true := by decide
                        have e4 : Nat.blt unk unk = false := by decide
                        refine ⟨fun h0 => ?_, fun h0 hp => ?_⟩
                        · simp only [cW, hG, cq, hu, hx, hie, hz, srcA, q1, q3, q4, q5, h0, e3, Bool.and_self, Bool.true_or, cond_true]
                        · obtain ⟨g1, g2, g3⟩ : sl + s.size ≤ 70368744177664 ∧ (sl + s.size) * ie.bytes ≤ 140737488355328 ∧ sl * ie.size ≤ c.length := hp
                          have e1 : Nat.ble (sl + s.size) 70368744177664 = true := by rw [Nat.ble_eq]; exact g1
                          have e2 : Nat.ble ((sl + s.size) * ie.bytes) 140737488355328 = true := by rw [Nat.ble_eq]; exact g2
                          have e5 : Nat.ble (sl * ie.size) c.length = true := by rw [Nat.ble_eq]; exact g3
                          simp only [cW, hG, cq, hu, hx, hie, hz, srcA, q1, q3, q4, q5, h0, e1, e2, e4, e5, hk, hB, he, ht1, ht2, Bool.and_self, cond_true, cond_false]
                      · cases h
                    · cases h
                · cases h
            · cases h
        · cases h
      · cases h
    · cases h
  · cases h
def sxT (E : Env) (el : El) (A : AH) (ρ : Operand → Option Value) (op : Op) : Option (ByteArray × Value × (Option Prop × Value × AH)) :=
 match op with
 | .call c => (match c.callee with
   | .builtin .append => (match el.app, c.args.toList with
     | true, [x, y] => (match ρ x, ρ y with
       | some b, some (.string s) => (match appT E A c.argTypes.toList b s with | some r => some (s, b, r) | none => none)
       | _, _ => none)
     | _, _ => none)
   | _ => none)
 | _ => none
theorem sxT_ok {E : Env} {el : El} {A : AH} {ρ : Operand → Option Value} {op : Op} {s : ByteArray} {b : Value} {r : Option Prop × Value × AH} (h : sxT E el A ρ op = some (s, b, r)) :
 (Nat.beq s.size 0 = true → effA E A ρ op = some (b, A)) ∧ (Nat.beq s.size 0 = false → PH r.1 → effA E A ρ op = some (r.2.1, r.2.2)) := by
 unfold sxT at h
 split at h
 · rename_i c
   split at h
   · rename_i hc
     split at h
     · rename_i x y happ hargs
       split at h
       · rename_i b0 s0 hx hy
         split at h
         · rename_i r0 hr
           simp only [osI, Prod.mk.injEq] at h
           obtain ⟨rfl, rfl, rfl⟩ := h
           have := zS (p := r0.1) (v := r0.2.1) (A' := r0.2.2) hr
           simp only [effA, hc, effB, hargs, hx, hy]
           exact this
         · cases h
       · cases h
     · cases h
   · cases h
 · cases h
def sxEff (tab : Tab) (inl : Inl) (E : Env) (el : El) (A : AH) (ρ : Operand → Option Value) (op : Op) (K : KV) : Prop :=
 match sxT E el A ρ op with
 | some r => Sp (Nat.beq r.1.size 0) (K r.2.1 A) (pc r.2.2.1 (K r.2.2.2.1 r.2.2.2.2))
 | none => (match sxG1 E el A ρ op with
   | some r => pc r.1 (K r.2.1 r.2.2)
   | none => nt tab inl E A ρ op K)
def sxMk (E : Env) (el : El) (A : AH) (ρ : Operand → Option Value) (op : Op) : Option (Option Prop × Value × AH) :=
 match op with
 | .makeSlice t l c => (match und E t with
   | some (.slice e) => (match el.gm e with
     | true => (match ρ l, ρ c, E.ti e with
       | some (.int _ l), some (.int _ c), some ie => (match ie.zero with
         | some z => bif z.cells.toList.all scal && (Nat.beq z.cells.toList.length ie.size && Nat.blt 0 ie.size) then
          (match T.set FU A.t A.next (.gro (List.replicate l.toNat z) [] e) with
          | some t => some (some (0 ≤ l ∧ l ≤ c ∧ c ≤ 281474976710656 ∧ ie.bytes * c.toNat ≤ 281474976710656), .slice (some ⟨A.next, 0, none⟩) l.toNat (unk + 3 + ie.size), ⟨t, A.next + 1⟩)
          | none => none) else none
         | none => none)
       | _, _, _ => none)
     | false => none)
   | _ => none)
 | _ => none
theorem cF (z : Value) : ∀ n : Nat, ao (List.replicate n z) = rep z.cells.toList n
 | 0 => rfl
 | n + 1 => by rw [List.replicate_succ, aH, cF z n]; rfl
theorem vi {E : Env} (ok : E.Ok) {el : El} {σ : Sig} {A A' : AH} {w : World} (R : Rel E.P σ A w) {ρ : Operand → Option Value} {o : Oper} {a : Act} (hρ : OpR σ ρ a.eval) {p : Option Prop} {v : Value} (h : sxMk E el A ρ o.op = some (p, v, A')) (hp : PH p) : Does E σ A w o a v A' := by
 unfold sxMk at h
 split at h
 · rename_i t l c hop
   split at h
   · rename_i e hu
     split at h
     · split at h
       · rename_i k1 l0 k2 c0 ie hl hc hie
         split at h
         · rename_i z hz
           cases hb : (z.cells.toList.all scal && (Nat.beq z.cells.toList.length ie.size && Nat.blt 0 ie.size)) with
           | false => rw [hb] at h; simp at h
           | true =>
             rw [hb] at h
             simp only [cond_true] at h
             split at h
             · rename_i t2 ht
               simp only [osI, Prod.mk.injEq] at h
               obtain ⟨rfl, rfl, rfl⟩ := h
               obtain ⟨q1, q2, q3, q4⟩ : 0 ≤ l0 ∧ l0 ≤ c0 ∧ c0 ≤ 281474976710656 ∧ ie.bytes * c0.toNat ≤ 281474976710656 := hp
               simp only [Bool.and_eq_true] at hb
               have e4 : Nat.ble (ie.bytes * c0.toNat) 281474976710656 = true := by rw [Nat.ble_eq]; exact q4
               have hal : bm E ρ o.op = some (.cells (rep z.cells.toList c0.toNat) e, fun id => .slice (some ⟨id, 0, none⟩) l0.toNat c0.toNat) := by
                rw [hop]
                simp only [bm, hu, hl, hc, hie, hz, hb.1, hb.2.1, hb.2.2, q1, q2, q3, e4, decide_true, Bool.and_self, cond_true]
               obtain ⟨ob', fv', h1, h2, h3, h4⟩ := iP ok hρ hal
               have hid : σ A.next = none := R.fresh _ (Nat.le_refl _)
               have hsub := bI (x := (w.heap.size, 0, c0.toNat)) hid
               obtain ⟨c', lo, hi, g1, g2, g3, g4, g5⟩ := h2 _ hsub
               obtain rfl := Option.some.inj g1
               have hv := h3 (upd σ A.next (w.heap.size, 0, c0.toNat)) A.next w.heap.size c0.toNat aQ
               have hrun := h1 w
               have hy : fv' w.heap.size = .slice (some ⟨w.heap.size, 0, none⟩) l0.toNat c0.toNat := by
                have hlt : c0.toNat < unk := by unfold unk; omega
                clear hrun h1 h3 g1 g2 g3 g4 g5 h2 hal q4 e4
                generalize l0.toNat = ln at hv ⊢
                generalize c0.toNat = cn at hv hlt ⊢
                generalize fv' w.heap.size = y at hv ⊢
                cases hv with
                | slice _ _ _ hσ _ =>
                  have hσ : upd σ A.next (w.heap.size, 0, cn) A.next = _ := hσ
                  rw [aQ] at hσ
                  cases hσ
                  rfl
                | sliceU _ _ _ => omega
                | sliceV _ _ _ _ _ => omega
                | sliceE => omega
                | gs0 _ _ _ _ hm => omega
                | gs _ _ _ _ _ _ _ _ _ hm => omega
               rw [hy] at hrun
               have hzs : z.cells.toList.length = ie.size := Nat.eq_of_beq_eq_true hb.2.1
               have hco : E.P.cellsOf e = ie.size := by simp [Program.cellsOf, ok.ti _ _ hie]
               have hzc : ∀ x ∈ List.replicate l0.toNat z, x.cells.size = E.P.cellsOf e := fun x hx => by
                rw [hco, (List.mem_replicate.1 hx).2]; simpa using hzs
               have hrl := da z.cells.toList c0.toNat
               rw [hzs] at hrl
               have hcsz : c0.toNat * ie.size ≤ c'.size := by
                by_cases h0 : c0.toNat * ie.size = 0
                · omega
                · obtain ⟨u, k1, _⟩ := g3 (c0.toNat * ie.size - 1) _ (List.getElem?_eq_getElem (by omega))
                  have := (Array.getElem?_eq_some_iff.1 k1).1
                  omega
               have hle : l0.toNat * ie.size ≤ c0.toNat * ie.size := Nat.mul_le_mul_right _ (by omega)
               have hpos : 0 < ie.size := by simpa using hb.2.2
               refine aD (Good.value hrun ?_ (R.alloc (cp := c0.toNat) ht hid (Nat.lt_succ_self _) (Nat.le_succ _) ⟨c', lo, hi, rfl, g2, fun i v hiv => ?_, by rw [List.append_nil]; exact hzc, by rw [hco]; omega, by simp; omega⟩ rfl) (Ext.alloc R ht (Nat.le_succ _) (ob := .cells c' e (lo, hi)) rfl rfl rfl rfl))
               · exact .gs 0 0 _ _ _ aQ (by omega) (by omega) (by omega) (by omega)
               · rw [List.append_nil, cF] at hiv
                 have hil : i < l0.toNat * ie.size := by have := (List.getElem?_eq_some_iff.1 hiv).1; rwa [da, hzs] at this
                 have hi2 : (rep z.cells.toList c0.toNat)[i]? = some v := by
                  rw [il z.cells.toList (by omega) _ _ (by rw [hzs]; omega), ← il z.cells.toList (by omega) l0.toNat i (by rw [hzs]; exact hil)]
                  exact hiv
                 exact g3 i v hi2
             · cases h
         · cases h
       · cases h
     · cases h
   · cases h
 · cases h
def sxBy (E : Env) (el : El) (A : AH) (ρ : Operand → Option Value) (op : Op) : Option (Option Prop × Value × AH) :=
 match op with
 | .convert s d x => (match ρ x with
   | some (.string b) => (match und E s, und E d with
     | some ds, some (.slice e) => (match el.gm e with
       | true => (match und E e, E.ti e with
         | some (.int .u8), some ie => bif Nat.beq ie.size 1 then (match T.set FU A.t A.next (.cells (b.data.toList.map fun b => .int .u8 b.toNat) e) with
           | some t1 => (match T.set FU t1 A.next (.gro (b.data.toList.map fun b => .int .u8 b.toNat) [] e) with
             | some t2 => some (none, .slice (some ⟨A.next, 0, none⟩) b.size (unk + 3 + 1), ⟨t2, A.next + 1⟩)
             | none => none)
           | none => none) else none
         | _, _ => none)
       | false => none)
     | _, _ => none)
   | some (.slice (some ⟨B, o, none⟩) n k) => (match isG k, und E s, und E d, A.t.get B with
     | true, some (.slice e), some .string, some (.gro els tl eb) => (match und E e, E.ti eb with
       | some (.int .u8), some ie => bif Nat.beq ie.size 1 && Nat.beq (gsz k) 1 then some (some (IsB (glue els tl) o n), .string (aa (u8L (glue els tl) o n)), A) else none
       | _, _ => none)
     | _, _, _, _ => none)
   | _ => none)
 | _ => none
theorem vj {E : Env} (ok : E.Ok) {el : El} {σ : Sig} {A A' : AH} {w : World} (R : Rel E.P σ A w) {ρ : Operand → Option Value} {o : Oper} {a : Act} (hρ : OpR σ ρ a.eval) {p : Option Prop} {v : Value} (h : sxBy E el A ρ o.op = some (p, v, A')) (hp : PH p) : Does E σ A w o a v A' := by
 unfold sxBy at h
 split at h
 · rename_i s d x hop
   split at h
   · rename_i b hx
     split at h
     · rename_i ds e hs hd
       split at h
       · split at h
         · rename_i ie he hie
           cases hb : Nat.beq ie.size 1 with
           | false => rw [hb] at h; cases h
           | true =>
             rw [hb] at h
             simp only [cond_true] at h
             split at h
             · rename_i t1 ht1
               split at h
               · rename_i t2 ht2
                 simp only [osI, Prod.mk.injEq] at h
                 obtain ⟨rfl, rfl, rfl⟩ := h
                 have hb1 := Nat.eq_of_beq_eq_true hb
                 have hco : E.P.cellsOf e = 1 := by simp [Program.cellsOf, ok.ti _ _ hie, hb1]
                 have hA : s2bA E A s d (.string b) = some (.slice (some ⟨A.next, 0, none⟩) b.size unk, ⟨t1, A.next + 1⟩) := by
                  simp only [s2bA, hs, hd, he, hie, hb, cond_true, aX, ht1]
                 obtain ⟨v', w', σ', r1, r2, r3, r4⟩ := tf ok R (hρ x _ hx) hA
                 have hget : (⟨t1, A.next + 1⟩ : AH).t.get A.next = some (.cells (b.data.toList.map fun b => Value.int .u8 b.toNat) e) := by
                  show t1.get A.next = _
                  rw [T.get_set ht1, if_pos rfl]
                 have hlen : (b.data.toList.map fun b => Value.int .u8 b.toNat).length = b.size := by simp
                 have hc1 : ∀ x ∈ (b.data.toList.map fun b => Value.int .u8 b.toNat), x.cells.size = 1 := fun x hx => by obtain ⟨z, _, rfl⟩ := List.mem_map.1 hx; rfl
                 have hcl : ao (b.data.toList.map fun b => Value.int .u8 b.toNat) = b.data.toList.map fun b => Value.int .u8 b.toNat := by
                  generalize b.data.toList = l
                  induction l with
                  | nil => rfl
                  | cons y l ih => rw [List.map_cons, aH, ih]; rfl
                 generalize hy : (.slice (some ⟨A.next, 0, none⟩) b.size unk : Value) = y at r2
                 cases r2 with
                 | sliceU n hσ hn =>
                   simp only [Value.slice.injEq] at hy
                   obtain ⟨hB, rfl, _⟩ := hy
                   simp only [osI, Addr.mk.injEq, and_true] at hB
                   subst hB
                   rename_i bb dd cc _
                   obtain ⟨c', lo, hi, g1, g2, g3, g4, g5⟩ := r3.at hget rfl hσ
                   have hor : OR E.P σ' w'.heap[bb]? dd cc (.gro (b.data.toList.map fun b => Value.int .u8 b.toNat) [] e) := by
                    refine ⟨c', lo, hi, g1, g2, ?_, ?_, g4, ?_⟩
                    · rw [List.append_nil, hcl]; exact g3
                    · rw [List.append_nil, hco]; exact hc1
                    · rw [List.append_nil, hlen]; exact hn
                   have R2 := r3.upd hget rfl hσ ht2 rfl rfl (fun _ _ => rfl) hor
                   have X2 : Ext σ' ⟨t1, A.next + 1⟩ w' σ' ⟨t2, A.next + 1⟩ w' := Ext.upd hget rfl hσ ht2 rfl (fun _ _ => rfl) rfl rfl rfl
                   refine aD (Good.value (v' := .slice (some ⟨bb, dd, none⟩) b.size cc) (by unfold execOp; rw [hop]; simp [r1]) ?_ R2 (r4.trans X2))
                   have := VR.gs (σ := σ') (B := A.next) (m := unk + 3 + 1) 0 0 b.size cc hσ hn (by omega) (by omega) (by omega)
                   simpa using this
                 | slice i n k hσ hk =>
                   simp only [Value.slice.injEq] at hy
                   obtain ⟨_, _, h3⟩ := hy
                   omega
                 | _ => first | (simp only [Value.slice.injEq] at hy; obtain ⟨_, _, h3⟩ := hy; omega) | (simp at hy; done) | (cases hy; done)
               · cases h
             · cases h
         · cases h
       · cases h
     · cases h
   · rename_i B o' n k hx
     split at h
     · rename_i e els tl eb hg hs hd hB
       split at h
       · rename_i ie he hie
         cases hb : Nat.beq ie.size 1 && Nat.beq (gsz k) 1 with
         | false => rw [hb] at h; cases h
         | true =>
           rw [hb] at h
           simp only [cond_true, osI, Prod.mk.injEq] at h
           obtain ⟨rfl, rfl, rfl⟩ := h
           simp only [Bool.and_eq_true, Nat.beq_eq] at hb
           obtain ⟨bs, q1, q2, q3⟩ := iD hp
           rw [q3]
           have hco : E.P.cellsOf eb = 1 := by simp [Program.cellsOf, ok.ti _ _ hie, hb.1]
           rcases br (hρ x _ hx) hg with ⟨e0, ad, ey⟩ | ⟨b, dd, c, lo, kk, hσ, ey, hnk, hc, eo⟩
           · have hbs : bs = [] := List.eq_nil_of_length_eq_zero (by omega)
             subst hbs
             refine aD (Good.value (v' := .string ByteArray.empty) (w' := w) ?_ ?_ R (Ext.refl _ _ _))
             · unfold execOp
               rw [hop]
               have : (convert s d (.slice ad 0 0)).run E.P w = .ok (.string ByteArray.empty) w := by
                cases ad with
                | none => simp [convert, af ok hs, af ok hd, af ok he, Conv.bytesToString]
                | some a' =>
                  simp only [convert, Sem.run_bind, af ok hs, af ok hd, Result.andThen_ok, af ok he]
                  have := run_bytesToString (P := E.P) w a' 0 0 [] (by simp [loadCells, loadCellsFrom])
                  simpa using this
               simp [ey, this]
             · have : ByteArray.empty = aa [] := by apply WideShapes.bytes_inj; rfl
               rw [this]; exact .string _
           · obtain ⟨c', l0, h0, g1, g2, g3, g4, g5, g6⟩ := R.at hB rfl hσ
             rw [hco] at g4
             rw [← bR] at g3 g4
             have hcell : ∀ j z, (bs.map fun b => Value.int .u8 (b.toNat : Int))[j]? = some z → w.cell? ((⟨b, dd + o', none⟩ : Addr).add j) = some z := fun j z hz => by
              have hj : j < n := by have := (List.getElem?_eq_some_iff.1 hz).1; simp at this; omega
              have h1 : (glue els tl)[o' + j]? = some z := by
               rw [← q1, List.getElem?_take, if_pos hj, List.getElem?_drop] at hz; exact hz
              have h2 : (ao (glue els tl))[(o' + j) * 1 + 0]? = z.cells.toList[0]? := jA g4 h1 0 (by decide)
              rw [Nat.mul_one, Nat.add_zero] at h2
              have hzi : ∃ q : UInt8, z = .int .u8 (q.toNat : Int) := by
               rw [List.getElem?_map] at hz
               cases hq : bs[j]? with
               | none => rw [hq] at hz; cases hz
               | some q => rw [hq] at hz; exact ⟨q, (Option.some.inj hz).symm⟩
              obtain ⟨q, rfl⟩ := hzi
              obtain ⟨z', k1, k2⟩ := g3 (o' + j) _ h2
              cases k2
              rw [aA]
              simp only [World.cell?, g1, Option.isSome_none, Bool.false_eq_true, if_false]
              rw [Nat.add_assoc]; exact k1
             have hrun := run_loadCells_list (P := E.P) w ⟨b, dd + o', none⟩ (bs.map fun b => Value.int .u8 (b.toNat : Int)) hcell
             rw [List.length_map, q2] at hrun
             refine aD (Good.value (v' := .string (aa bs)) (w' := w) ?_ (.string _) R (Ext.refl _ _ _))
             unfold execOp
             rw [hop]
             have e1 : (bs.map fun b => Value.int .u8 (b.toNat : Int)) = (bs.map fun b => (b.toNat : Int)).map (Value.int .u8) := by rw [List.map_map]; rfl
             rw [e1] at hrun
             have : (convert s d (.slice (some ⟨b, dd + o', none⟩) n kk)).run E.P w = .ok (.string (aa bs)) w := by
              simp only [convert, Sem.run_bind, af ok hs, af ok hd, Result.andThen_ok, af ok he]
              rw [run_bytesToString (P := E.P) w _ n kk _ hrun, eD, List.map_map]
              have e2 : bs.map ((fun n : Int => UInt8.ofNat n.toNat) ∘ fun b : UInt8 => (b.toNat : Int)) = bs := by
               conv => rhs; rw [← List.map_id bs]
               exact List.map_congr_left fun q _ => by simp
              rw [e2]; rfl
             simp [ey, this]
       · cases h
     · cases h
   · cases h
 · cases h
def sxOp (tab : Tab) (inl : Inl) (E : Env) (el : El) (A : AH) (ρ : Operand → Option Value) (ty : TypeId) (op : Op) (K : KV) : Prop :=
 match sxQ E el A ρ ty op with
 | some r => pc r.1 (K r.2 A)
 | none => (match sxMk E el A ρ op with
   | some r => pc r.1 (K r.2.1 r.2.2)
   | none => (match sxBy E el A ρ op with
     | some r => pc r.1 (K r.2.1 r.2.2)
     | none => (match bm E ρ op with
       | some r => (match aX A r.1 with | some A' => K (r.2 A.next) A' | none => False)
       | none => sxEff tab inl E el A ρ op K)))
def sxOps (tab : Tab) (inl : Inl) (E : Env) (el : El) (ops : List Oper) (n : Nat) (l : List Oper) : T Value → AH → KF → Prop :=
 List.rec (motive := fun _ => T Value → AH → KF → Prop) (fun F A K => K F A)
  (fun o _ ih F A K => sxG ops F o (fun F => sxOp tab inl E el A (ev E F) o.type o.op (fun v A' => putK n F o.dst v (fun F' => ih F' A' K))) (fun F => putK n F o.dst undef (fun F' => ih F' A K))) l
def pQ (E : Env) (inl : Inl) : Prop := ∀ g fn, E.fn g = some fn → ∀ args A K, inl fn args A K → ∀ σ w args', Rel E.P σ A w → Glob E σ → VRs σ args args' →
 Calls E.P g ⟨args'⟩ w (fun e w' => ∃ v A' v' σ', e = .returned v' ∧ K v A' ∧ VR σ' v v' ∧ Rel E.P σ' A' w' ∧ Ext σ A w σ' A' w')
def DoesK (E : Env) (σ : Sig) (A : AH) (w : World) (o : Oper) (a : Act) (K : KV) : Prop :=
 ∀ (K1 : Act → World → Prop) (Q : Exit → Act → World → Prop), (∀ v A' v' w' σ', K v A' → VR σ' v v' → Rel E.P σ' A' w' → Ext σ A w σ' A' w' → K1 (a.put o.dst v') w') → o.wp E.P a w K1 Q
theorem DoesK.of {E : Env} {σ : Sig} {A A' : AH} {w : World} {o : Oper} {a : Act} {v : Value} {K : KV} (h : Does E σ A w o a v A') (k : K v A') : DoesK E σ A w o a K :=
 fun K1 Q hK => h K1 Q fun v' w' σ' h1 h2 h3 => hK v A' v' w' σ' k h1 h2 h3
theorem vh {E : Env} (ok : E.Ok) (hs : E.sym = true) {tab : Tab} (ht : TabOk E tab) {inl : Inl} (hi : pQ E inl) {el : El} {σ : Sig} {A : AH} {w : World} (R : Rel E.P σ A w) (hg : Glob E σ) {ρ : Operand → Option Value} {o : Oper} {a : Act} (hρ : OpR σ ρ a.eval) {K : KV}
 (h : sxOp tab inl E el A ρ o.type o.op K) : DoesK E σ A w o a K := by
 unfold sxOp at h
 split at h
 · rename_i r hr
   obtain ⟨hp, k⟩ := cC h
   exact .of (gU ok R hρ (nm hs hr hp)) k
 · split at h
   · rename_i r hr
     obtain ⟨hp, k⟩ := cC h
     exact .of (vi ok R hρ (p := r.1) (v := r.2.1) (A' := r.2.2) hr hp) k
   split at h
   · rename_i r hr
     obtain ⟨hp, k⟩ := cC h
     exact .of (vj ok R hρ (p := r.1) (v := r.2.1) (A' := r.2.2) hr hp) k
   split at h
   · rename_i r hr
     split at h
     · rename_i A' hn
       exact .of (gV ok R hρ (ob := r.1) (fv := r.2) hr hn) h
     · exact h.elim
   · suffices key : ∀ K, nt tab inl E A ρ o.op K → DoesK E σ A w o a K by
      unfold sxEff at h
      split at h
      · rename_i r hr
        have ht := sxT_ok (s := r.1) (b := r.2.1) (r := r.2.2) hr
        rcases Sp.cases h with ⟨hz, k⟩ | ⟨hz, k⟩
        · exact .of (aD (jy ok R hρ (ht.1 hz))) k
        · obtain ⟨hp, k⟩ := cC k
          exact .of (aD (jy ok R hρ (ht.2 hz hp))) k
      split at h
      · rename_i r hr
        obtain ⟨hp, k⟩ := cC h
        exact .of (aD (jy ok R hρ (no (p := r.1) (v := r.2.1) (A' := r.2.2) hr hp))) k
      · exact key _ h
     clear h
     intro K h
     unfold nt at h
     split at h
     · rename_i r hr
       exact .of (aD (jy ok R hρ hr)) h
     · split at h
       · rename_i r hen
         obtain ⟨args', ha, hrun⟩ := lK ok hρ (g := r.1) (args := r.2) hen
         unfold s8 at h
         split at h
         · rename_i fn hfn
           have enter : ∀ Q1 : Ending → World → Prop, True := fun _ => trivial
           split at h
           · rename_i x hx
             split at h
             · rename_i r2 hr2
               obtain ⟨hp, k⟩ := cC h
               intro K1 Q hK
               unfold Oper.wp
               rw [hrun, co ok hfn]
               show Calls E.P r.1 ⟨args'⟩ w _
               refine (ht.get hx r.2 A r2.1 r2.2.1 r2.2.2 hr2 hp σ w args' R hg ha).mono fun e w' he => ?_
               obtain ⟨v', σ', rfl, h1, h2, h3⟩ := he
               exact hK _ _ v' w' σ' k h1 h2 h3
             · exact h.elim
           · intro K1 Q hK
             unfold Oper.wp
             rw [hrun, co ok hfn]
             show Calls E.P r.1 ⟨args'⟩ w _
             refine (hi r.1 fn hfn r.2 A K h σ w args' R hg ha).mono fun e w' he => ?_
             obtain ⟨v, A', v', σ', rfl, k, h1, h2, h3⟩ := he
             exact hK _ _ v' w' σ' k h1 h2 h3
         · split at h
           · rename_i x hx
             split at h
             · rename_i r2 hr2
               refine .of (aD ?_) h
               rw [hrun]
               exact ok.ext r.1 x r.2 A r2.1 r2.2 hx hr2 σ w args' R ha
             · exact h.elim
           · exact h.elim
       · exact h.elim
theorem dz {n : Nat} {F : T Value} {dst : Option Tmp} {v : Value} {k : T Value → Prop} (h : putK n F dst v k) : ∃ F', put n F dst v = some F' ∧ k F' := by
 unfold putK at h
 split at h
 · rename_i F' hF; exact ⟨F', hF, h⟩
 · exact h.elim
theorem ib {E : Env} (ok : E.Ok) (hs : E.sym = true) {tab : Tab} (ht : TabOk E tab) {inl : Inl} (hi : pQ E inl) {el : El} {ops : Array Oper} {n : Nat} {Q : Exit → Act → World → Prop} : ∀ (l : List Oper) (k : Nat) (F : T Value) (A : AH) (σ : Sig) (a : Act) (w : World) (K : KF),
 sxOps tab inl E el ops.toList n l F A K → (∀ (i : Nat), i < l.length → ops[k + i]? = l[i]?) → Rel E.P σ A w → Glob E σ → FR σ F n a →
 (∀ F' A' a' w' σ', K F' A' → FR σ' F' n a' → Rel E.P σ' A' w' → Ext σ A w σ' A' w' → Q .normal a' w') → wpOps E.P ops Q (List.range' k l.length) a w
 | [], k, F, A, σ, a, w, K, h, _, R, hg, hF, hQ => hQ F A a w σ h hF R (Ext.refl _ _ _)
 | o :: rest, k, F, A, σ, a, w, K, h, hl, R, hg, hF, hQ => by
   have h0 : ops[k]? = some o := by have := hl 0 (by simp); simpa using this
   have hr : ∀ (i : Nat), i < rest.length → ops[k + 1 + i]? = rest[i]? := fun i hi => by
    have := hl (i + 1) (by simp; omega)
    rw [show k + 1 + i = k + (i + 1) by omega, this]
    simp
   rw [List.length_cons, List.range'_succ, wpOps_cons]
   unfold wpOp
   simp only [h0]
   have h : sxG ops.toList F o (fun F => sxOp tab inl E el A (ev E F) o.type o.op (fun v A' => putK n F o.dst v (fun F' => sxOps tab inl E el ops.toList n rest F' A' K))) (fun F => putK n F o.dst undef (fun F' => sxOps tab inl E el ops.toList n rest F' A K)) := h
   rcases s7 h with ⟨hw, h⟩ | ⟨hw, h⟩
   · rw [hJ (σ := σ) (F := F) (fun _ _ _ d _ _ _ => hF.val d) hw]
     rw [if_pos rfl]
     left
     refine vh ok hs ht hi R hg (jt hg hF.val) h _ _ fun v A1 v' w' σ' hk h1 h2 h3 => ?_
     obtain ⟨F1, hput, hk⟩ := dz hk
     have hsub := Ext.sub R h3
     exact ib ok hs ht hi rest (k + 1) F1 A1 σ' _ w' K hk hr h2 (hg.sub hsub) (io (hF.mono hsub) h1 hput) fun F2 A2 a2 w2 σ2 q k1 k2 k3 => hQ F2 A2 a2 w2 σ2 q k1 k2 (h3.trans k3)
   · rw [hJ (σ := σ) (F := F) (fun _ _ _ d _ _ _ => hF.val d) hw]
     rw [if_neg (by simp)]
     obtain ⟨F1, hput, hk⟩ := dz h
     exact ib ok hs ht hi rest (k + 1) F1 A σ _ w K hk hr R hg (io hF (bM σ) hput) hQ
theorem W.sxOps {E : Env} (ok : E.Ok) (hs : E.sym = true) {tab : Tab} (ht : TabOk E tab) {inl : Inl} (hi : pQ E inl) {el : El} {A0 : AH} {n : Nat} {F : T Value} {A : AH} {Q : Post} {id : Nat} {ops : Array Oper}
 (h : AM.sxOps tab inl E el ops.toList n ops.toList F A (Q .normal)) : W E A0 n (.region id ops false) Q F A := by
 intro σ0 w0 a w hat Q' hQ
 obtain ⟨σ, h1, h2, h3, h4⟩ := hat
 refine wp_region ?_
 have := ib ok hs ht hi (Q := Q') ops.toList 0 F A σ a w _ h (fun i hi => by simp) h2 h3 h1 (fun F' A' a' w' σ' hk q1 q2 q3 => hQ .normal F' A' a' w' hk ⟨σ', q1, q2, h3.sub (Ext.sub h2 q3), h4.trans q3⟩)
 rw [List.range_eq_range']
 simpa using this
def jK (tab : Tab) (E : Env) (A : AH) (ρ : Operand → Option Value) (op : Op) (K : KV) : Prop :=
 match effA E A ρ op with
 | some r => K r.1 r.2
 | none => (match eY E ρ op with
   | some r => (match E.fn r.1 with
     | some _ => (match jH tab r.1 with
       | some x => (match x r.2 A with | some r => pc r.1 (K r.2.1 r.2.2) | none => Stop r)
       | none => Stop r)
     | none => (match E.ext r.1 with
       | some x => (match x r.2 A with | some r => K r.1 r.2 | none => Stop r)
       | none => Stop r))
   | none => Stop (op, A))
theorem mi {tab : Tab} {E : Env} {A : AH} {ρ : Operand → Option Value} {op : Op} {K : KV} (h : jK tab E A ρ op K) : ∃ v A', bT (mX tab) E A ρ op = some (v, A') ∧ K v A' := by
 unfold jK at h
 unfold bT
 split at h
 · rename_i r hr; rw [hr]; exact ⟨_, _, rfl, h⟩
 · rename_i hr
   rw [hr]
   simp only
   split at h
   · rename_i r hen
     rw [hen]
     simp only
     split at h
     · rename_i fn hfn
       rw [hfn]
       simp only
       split at h
       · rename_i x hx
         split at h
         · rename_i r2 hr2
           obtain ⟨hp, k⟩ := cC h
           refine ⟨r2.2.1, r2.2.2, ?_, k⟩
           obtain ⟨p, v, A'⟩ := r2
           unfold mX
           rw [hx]
           simp only [hr2]
           rw [if_pos hp]
         · exact h.elim
       · exact h.elim
     · rename_i hfn
       rw [hfn]
       simp only
       split at h
       · rename_i x hx
         rw [hx]
         simp only
         split at h
         · rename_i r2 hr2; exact ⟨_, _, hr2, h⟩
         · exact h.elim
       · exact h.elim
   · exact h.elim
def nr (tab : Tab) (E : Env) (el : El) (A : AH) (ρ : Operand → Option Value) (op : Op) (K : KV) : Prop :=
 match sxG1 E el A ρ op with
 | some r => pc r.1 (K r.2.1 r.2.2)
 | none => jK tab E A ρ op K
theorem nq {tab : Tab} {E : Env} {el : El} {A : AH} {ρ : Operand → Option Value} {op : Op} {K : KV} (h : nr tab E el A ρ op K) : ∃ v A', bT (mX tab) E A ρ op = some (v, A') ∧ K v A' := by
 unfold nr at h
 split at h
 · rename_i r hr
   obtain ⟨hp, k⟩ := cC h
   refine ⟨r.2.1, r.2.2, ?_, k⟩
   unfold bT
   rw [no (p := r.1) (v := r.2.1) (A' := r.2.2) hr hp]
 · exact mi h
def qcK (E : Env) (el : El) (als : List Al) (G : AH) (q : Qu) (K : Prop) : Prop :=
 match bh q.m als G with
 | some H => (match sxQ E el H (rho E q.F (aW q.o.op)) q.o.type q.o.op with | some r => pc r.1 (r.2 = q.v ∧ K) | none => False)
 | none => False
theorem tk {E : Env} (hs : E.sym = true) {el : El} {als : List Al} {G : AH} {q : Qu} {K : Prop} (h : qcK E el als G q K) : QC E als G q ∧ K := by
 unfold qcK at h
 split at h
 · rename_i H hH
   split at h
   · rename_i r hr
     obtain ⟨hp, e, k⟩ := cC h
     exact ⟨⟨H, hH, by rw [← e]; exact nm hs hr hp⟩, k⟩
   · exact h.elim
 · exact h.elim
def qsK (E : Env) (el : El) (als : List Al) (G : AH) (m : Nat) (qs : List Qu) (K : Prop) : Prop :=
 List.rec (motive := fun _ => Prop) K (fun q _ ih => bif m.testBit q.i then ih else qcK E el als G q ih) qs
theorem nZ {E : Env} (hs : E.sym = true) {el : El} {als : List Al} {G : AH} {m : Nat} {K : Prop} : ∀ {qs : List Qu}, qsK E el als G m qs K → QOk E als G m qs ∧ K
 | [], h => ⟨.nil, h⟩
 | q :: qs, h => by
   have h : (bif m.testBit q.i then qsK E el als G m qs K else qcK E el als G q (qsK E el als G m qs K)) := h
   cases hb : m.testBit q.i with
   | true =>
     rw [hb] at h
     obtain ⟨h1, h2⟩ := nZ hs (qs := qs) h
     exact ⟨.bit hb h1, h2⟩
   | false =>
     rw [hb] at h
     obtain ⟨h0, h⟩ := tk hs h
     obtain ⟨h1, h2⟩ := nZ hs (qs := qs) h
     exact ⟨.chk h0 h1, h2⟩
def we (E : Env) (el : El) (als : List Al) (q : Qu) (past : List (Nat × AH)) (K : Prop) : Prop :=
 List.rec (motive := fun _ => Prop) K (fun x _ ih => bif q.m.testBit x.1 then K else qcK E el als x.2 q ih) past
theorem ld {E : Env} (hs : E.sym = true) {el : El} {als : List Al} {q : Qu} {K : Prop} : ∀ {past : List (Nat × AH)}, we E el als q past K → POk E als q past ∧ K
 | [], h => ⟨.nil, h⟩
 | x :: past, h => by
   have h : (bif q.m.testBit x.1 then K else qcK E el als x.2 q (we E el als q past K)) := h
   cases hb : q.m.testBit x.1 with
   | true => rw [hb] at h; exact ⟨.bit hb, h⟩
   | false =>
     rw [hb] at h
     obtain ⟨h0, h⟩ := tk hs h
     obtain ⟨h1, h2⟩ := ld hs (past := past) h
     exact ⟨.chk h0 h1, h2⟩
def mk (ms : List Nat) (i : Nat) : Nat := (nth ms i).getD 0
def nJ (tab : Tab) (E : Env) (el : El) (ms : List Nat) (n n0 sz : Nat) (o : Oper) (ih : Nat → RS → (RS → Prop) → Prop) (i : Nat) (F : T Value) (G : AH) (past : List (Nat × AH)) (als : List Al) (qs : List Qu) (K : RS → Prop) : Prop :=
 match dS E o.op with
 | true => (match bh (mk ms i) als G with
   | some H => nr tab E el H (rho E F (aW o.op)) o.op (fun v G' => bif als.all (mC H G') && Nat.ble (n0 + sz) G'.next then
    qsK E el als G' (mk ms i) qs (putK n F o.dst v (fun F' => ih (i + 1) ⟨F', G', (i, G) :: past, als, qs⟩ K)) else False)
   | none => False)
 | false => (match bm E (rho E F (aW o.op)) o.op with
   | some r => bif (vis G (n0 + i)).isNone && past.all (fun p => (vis p.2 (n0 + i)).isNone) then putK n F o.dst (r.2 (n0 + i)) (fun F' => ih (i + 1) ⟨F', G, past, (i, n0 + i, r.1) :: als, qs⟩ K) else False
   | none => (match bh (mk ms i) als G with
     | some H => (match sxQ E el H (rho E F (aW o.op)) o.type o.op with
       | some r => pc r.1 (match hdep o.op with
         | true => we E el als ⟨i, mk ms i, o, F, r.2⟩ past (putK n F o.dst r.2 (fun F' => ih (i + 1) ⟨F', G, past, als, ⟨i, mk ms i, o, F, r.2⟩ :: qs⟩ K))
         | false => putK n F o.dst r.2 (fun F' => ih (i + 1) ⟨F', G, past, als, qs⟩ K))
       | none => Stop (o.op, H))
     | none => False))
def sxRL (tab : Tab) (E : Env) (el : El) (ops : List Oper) (ms : List Nat) (n n0 sz : Nat) (l : List Oper) : Nat → RS → (RS → Prop) → Prop :=
 List.rec (motive := fun _ => Nat → RS → (RS → Prop) → Prop) (fun _ S K => K S)
  (fun o _ ih i S K => sxG ops S.F o (fun F => nJ tab E el ms n n0 sz o ih i F S.G S.past S.als S.qs K) (fun F => putK n F o.dst undef (fun F' => ih (i + 1) ⟨F', S.G, S.past, S.als, S.qs⟩ K))) l
theorem eg {tab : Tab} {E : Env} (hs : E.sym = true) {el : El} {ops : List Oper} {ms : List Nat} {n n0 sz : Nat} : ∀ (l : List Oper) (i : Nat) (S : RS) (K : RS → Prop), sxRL tab E el ops ms n n0 sz l i S K → RL (mX tab) E ops ms n n0 sz l i S K
 | [], i, S, K, h => .nil h
 | o :: l, i, ⟨F, G, past, als, qs⟩, K, h => by
   have h : sxG ops F o (fun F => nJ tab E el ms n n0 sz o (sxRL tab E el ops ms n n0 sz l) i F G past als qs K) (fun F => putK n F o.dst undef (fun F' => sxRL tab E el ops ms n n0 sz l (i + 1) ⟨F', G, past, als, qs⟩ K)) := h
   rcases s7 h with ⟨hw, h⟩ | ⟨hw, h⟩
   · unfold nJ at h
     split at h
     · rename_i he
       split at h
       · rename_i H hH
         obtain ⟨v, G', hx, h⟩ := nq h
         cases hb : (als.all (mC H G') && Nat.ble (n0 + sz) G'.next) with
         | false => rw [hb] at h; exact h.elim
         | true =>
           rw [hb] at h
           simp only [Bool.and_eq_true] at hb
           obtain ⟨hq, h⟩ := nZ hs h
           obtain ⟨F', hp, h⟩ := dz h
           exact RL.eff hs hw he hH hx hb.1 hq hb.2 hp (eg hs l (i + 1) _ K h)
       · exact h.elim
     · rename_i he
       split at h
       · rename_i r ha
         cases hb : ((vis G (n0 + i)).isNone && past.all (fun p => (vis p.2 (n0 + i)).isNone)) with
         | false => rw [hb] at h; exact h.elim
         | true =>
           rw [hb] at h
           obtain ⟨F', hp, h⟩ := dz h
           exact RL.alloc hw he (ob := r.1) (fv := r.2) ha hb hp (eg hs l (i + 1) _ K h)
       · rename_i ha
         split at h
         · rename_i H hH
           split at h
           · rename_i r hr
             obtain ⟨hp, h⟩ := cC h
             have hq := nm hs hr hp
             split at h
             · rename_i hd
               obtain ⟨hpast, h⟩ := ld hs h
               obtain ⟨F', hput, h⟩ := dz h
               exact RL.read hs hw he ha hH hq hd hpast hput (eg hs l (i + 1) _ K h)
             · rename_i hd
               obtain ⟨F', hput, h⟩ := dz h
               exact RL.quiet hw he ha hH hq hd hput (eg hs l (i + 1) _ K h)
           · exact h.elim
         · exact h.elim
   · obtain ⟨F', hput, h⟩ := dz h
     exact RL.skip hw hput (eg hs l (i + 1) _ K h)
def sxReg (tab : Tab) (E : Env) (el : El) (ops : Array Oper) (l : List Oper) (sz : Nat) (n : Nat) (F : T Value) (A : AH) (K : KF) : Prop :=
 bif i3 E ops && Nat.blt (A.next + sz + 1) 1099511627776 then
  sxRL tab E el l (cR l []) n A.next sz l 0 ⟨F, ⟨A.t, A.next + sz⟩, [], [], []⟩ (fun S => match bh (2 ^ sz - 1) S.als S.G with | some A' => K S.F A' | none => False)
 else False
theorem W.sxReg {E : Env} (ok : E.Ok) (hs : E.sym = true) {tab : Tab} (ht : TabOk E tab) {el : El} {A0 : AH} {n : Nat} {F : T Value} {A : AH} {Q : Post} {id : Nat} {ops : Array Oper}
 (h : AM.sxReg tab E el ops ops.toList ops.toList.length n F A (Q .normal)) : W E A0 n (.region id ops true) Q F A := by
 unfold AM.sxReg at h
 cases hb : (i3 E ops && Nat.blt (A.next + ops.toList.length + 1) 1099511627776) with
 | false => rw [hb] at h; exact h.elim
 | true =>
   rw [hb] at h
   simp only [Bool.and_eq_true] at hb
   refine W.drawn ok (sh ht) hb.1 rfl rfl rfl hb.2 ?_
   obtain ⟨S', h1, h2⟩ := eg hs _ _ _ _ h
   refine ⟨S', h1, ?_⟩
   split at h2
   · rename_i A' hA; exact ⟨A', hA, h2⟩
   · exact h2.elim
def fwd : List (Nat × Nat) → Nat → Option Nat
 | [], _ => none
 | x :: m, B => bif Nat.beq B x.2 then some x.1 else fwd m B
def bak (m : List (Nat × Nat)) (B B' : Nat) : Bool := match back m B' with | some C => Nat.beq C B | none => false
def renB (m : List (Nat × Nat)) (B : Nat) : Option Nat := match fwd m B with | some B' => bif bak m B B' then some B' else none | none => none
theorem jT {m : List (Nat × Nat)} {B B' : Nat} (h : renB m B = some B') : back m B' = some B := by
 unfold renB at h
 split at h
 · rename_i C hC
   cases hb : bak m B C with
   | false => rw [hb] at h; cases h
   | true =>
     rw [hb] at h
     simp only [cond_true, osI] at h
     subst h
     unfold bak at hb
     split at hb
     · rename_i D hD; rw [hD, Nat.eq_of_beq_eq_true hb]
     · cases hb
 · cases h
abbrev RL2 := Option (List Value × Value)
def renL (f : Value → RL2) (l : List Value) : Option (List Value × List Value) :=
 List.rec (motive := fun _ => Option (List Value × List Value)) (some ([], [])) (fun v _ ih => match f v with
  | some r => (match ih with | some s => some (r.1 ++ s.1, r.2 :: s.2) | none => none)
  | none => none) l
def renV (m : List (Nat × Nat)) : Nat → Value → RL2
 | 0, _ => none
 | k + 1, v => match v with
   | .pointer (some ⟨B, i, none⟩) => (match renB m B with | some B' => some ([], .pointer (some ⟨B', i, none⟩)) | none => none)
   | .slice (some ⟨B, i, none⟩) n c => (match renB m B with | some B' => some ([], .slice (some ⟨B', i, none⟩) n c) | none => none)
   | .map (some B) => (match renB m B with | some B' => some ([], .map (some B')) | none => none)
   | .agg ⟨xs⟩ => (match renL (renV m k) xs with | some r => some (r.1, .agg ⟨r.2⟩) | none => none)
   | .tuple ⟨xs⟩ => (match renL (renV m k) xs with | some r => some (r.1, .tuple ⟨r.2⟩) | none => none)
   | .iface t x => (match renV m k x with | some r => some (r.1, .iface t r.2) | none => none)
   | .func (.yield sz) xs ys => some ([.func (.yield sz) xs ys], .func (.yield sz) xs ys)
   | .func (.func g) ⟨xs⟩ ⟨ys⟩ => (match renL (renV m k) xs, renL (renV m k) ys with | some r, some s => some (r.1 ++ s.1, .func (.func g) ⟨r.2⟩ ⟨s.2⟩) | _, _ => none)
   | v => bif scal v then some ([], v) else none
def HFs (l : List Value) (p : Prop) : Prop := List.rec (motive := fun _ => Prop) p (fun v _ ih => HF v ∧ ih) l
theorem pR {p : Prop} : ∀ {l : List Value}, HFs l p → (∀ x ∈ l, HF x) ∧ p
 | [], h => ⟨fun x hx => by simp at hx, h⟩
 | v :: l, h => by
   obtain ⟨h1, h2⟩ := pR (l := l) h.2
   exact ⟨HF.cons h.1 h1, h2⟩
theorem dy {ρ : Nat → Option Nat} {f : Value → RL2} (hf : ∀ v r, f v = some r → (∀ x ∈ r.1, HF x) → RV ρ v r.2) : ∀ {l : List Value} {r : List Value × List Value}, renL f l = some r → (∀ x ∈ r.1, HF x) → RVs ρ l r.2
 | [], r, h, _ => by
   have h : some ([], []) = some r := h
   simp only [osI] at h
   subst h
   exact .nil
 | v :: l, r, h, hh => by
   have h : (match f v with | some r => (match renL f l with | some s => some (r.1 ++ s.1, r.2 :: s.2) | none => none) | none => none) = some r := h
   split at h
   · rename_i r1 h1
     split at h
     · rename_i s hs
       simp only [osI] at h
       subst h
       exact .cons (hf v r1 h1 fun x hx => hh x (by simp [hx])) (dy hf hs fun x hx => hh x (by simp [hx]))
     · cases h
   · cases h
theorem cK {m : List (Nat × Nat)} : ∀ (k : Nat) (v : Value) (r : List Value × Value), renV m k v = some r → (∀ x ∈ r.1, HF x) → RV (back m) v r.2
 | 0, v, r, h, _ => by cases h
 | k + 1, v, r, h, hh => by
   unfold renV at h
   split at h
   · split at h
     · rename_i B' hB; simp only [osI] at h; subst h; exact .ptr (jT hB)
     · cases h
   · split at h
     · rename_i B' hB; simp only [osI] at h; subst h; exact .slice (jT hB)
     · cases h
   · split at h
     · rename_i B' hB; simp only [osI] at h; subst h; exact .map (jT hB)
     · cases h
   · split at h
     · rename_i s hs; simp only [osI] at h; subst h; exact .agg (dy (cK k) hs hh)
     · cases h
   · split at h
     · rename_i s hs; simp only [osI] at h; subst h; exact .tuple (dy (cK k) hs hh)
     · cases h
   · split at h
     · rename_i s hs; simp only [osI] at h; subst h; exact .iface (cK k _ _ hs hh)
     · cases h
   · simp only [osI] at h; subst h; exact .hf (hh _ (by simp))
   · split at h
     · rename_i s1 s2 h1 h2
       simp only [osI] at h
       subst h
       exact .func rfl (dy (cK k) h1 fun x hx => hh x (by simp [hx])) (dy (cK k) h2 fun x hx => hh x (by simp [hx]))
     · cases h
   · rw [Bool.cond_eq_ite] at h
     split at h
     · rename_i hb
       simp only [osI] at h
       subst h
       exact .hf (.scal hb)
     · cases h
def u1 (m : List (Nat × Nat)) (F : T Value) (l : List Nat) : Option (List Value × List (Nat × Value)) :=
 List.rec (motive := fun _ => Option (List Value × List (Nat × Value))) (some ([], [])) (fun t _ ih => match F.get t with
  | some v => (match renV m 8 v with
    | some r => (match ih with | some s => some (r.1 ++ s.1, (t, r.2) :: s.2) | none => none)
    | none => none)
  | none => none) l
theorem kK {m : List (Nat × Nat)} {F : T Value} : ∀ {l : List Nat} {r}, u1 m F l = some r → (∀ x ∈ r.1, HF x) → RenF m F r.2
 | [], r, h, _ => by
   have h : some ([], []) = some r := h
   simp only [osI] at h
   subst h
   exact .nil
 | t :: l, r, h, hh => by
   have h : (match F.get t with
    | some v => (match renV m 8 v with
      | some r => (match u1 m F l with | some s => some (r.1 ++ s.1, (t, r.2) :: s.2) | none => none)
      | none => none)
    | none => none) = some r := h
   split at h
   · rename_i v hv
     split at h
     · rename_i r1 h1
       split at h
       · rename_i s hs
         simp only [osI] at h
         subst h
         exact .cons hv (cK 8 v r1 h1 fun x hx => hh x (by simp [hx])) (kK hs fun x hx => hh x (by simp [hx]))
       · cases h
     · cases h
   · cases h
def inL (k : Nat) (l : List Nat) : Bool := l.any fun x => Nat.beq x k
def renW (o : AObj) : Option (List Value × AObj) :=
 match o with
 | .cells c e => some ([.agg ⟨c⟩], .cells c e)
 | .gro els tl e => some ([.agg ⟨glue els tl⟩], .gro (glue els tl) [] e)
 | .map es k => some ([.agg ⟨es.map fun x => x.2.1⟩], .map es k)
 | _ => none
def isWh (ws : List Nat) (o : AObj) : Bool := match o with | .cells _ e => inL e ws | .gro _ _ _ => true | .map _ _ => true | _ => false
theorem mc {c : List Value} (h : HF (.agg ⟨c⟩)) : ∀ x ∈ c, HF x := by
 cases h with
 | scal h => simp [scal] at h
 | agg h => exact h
theorem vQ {ρ : Nat → Option Nat} {o : AObj} {r : List Value × AObj} (h : renW o = some r) (hh : ∀ x ∈ r.1, HF x) : RO ρ o r.2 := by
 unfold renW at h
 split at h
 · simp only [osI] at h
   subst h
   exact .cells (RVs.hf (mc (hh _ (by simp))))
 · simp only [osI] at h
   subst h
   refine .gro fun x hx => ?_
   rw [← bR] at hx
   obtain ⟨y, hy, hx⟩ := List.mem_flatMap.1 hx
   have hHF := mc (hh _ (by simp)) y hy
   cases y with
   | agg cs => obtain ⟨cs⟩ := cs; exact mc hHF x hx
   | _ =>
     simp only [Value.cells, List.mem_singleton] at hx
     first | (rw [hx]; exact hHF) | (simp at hx; rw [hx]; exact hHF)
 · rename_i es k
   simp only [osI] at h
   subst h
   refine .map ?_
   have hall := mc (hh (.agg ⟨es.map fun x => x.2.1⟩) (by simp))
   clear hh
   induction es with
   | nil => exact .nil
   | cons y es ih =>
     obtain ⟨k1, v1, b1⟩ := y
     exact .cons (.hf (hall v1 (by simp))) (ih fun x hx => hall x (by simp only [List.map_cons, List.mem_cons]; exact .inr hx))
 · cases h
def renO (m : List (Nat × Nat)) (o : AObj) : Option (List Value × AObj) :=
 match o with
 | .cells c e => (match renL (renV m 8) c with | some r => some (r.1, .cells r.2 e) | none => none)
 | .ro c e => (match renL (renV m 8) c with | some r => some (r.1, .ro r.2 e) | none => none)
 | _ => none
theorem vR {m : List (Nat × Nat)} {o : AObj} {r : List Value × AObj} (h : renO m o = some r) (hh : ∀ x ∈ r.1, HF x) : RO (back m) o r.2 := by
 unfold renO at h
 split at h
 · split at h
   · rename_i s hs; simp only [osI] at h; subst h; exact .cells (dy (cK 8) hs hh)
   · cases h
 · split at h
   · rename_i s hs; simp only [osI] at h; subst h; exact .ro (dy (cK 8) hs hh)
   · cases h
 · cases h
def uZ (ws : List Nat) (m : List (Nat × Nat)) (A : AH) (l : List (Nat × Nat)) : Option (List Value × List (Nat × AObj)) :=
 List.rec (motive := fun _ => Option (List Value × List (Nat × AObj))) (some ([], [])) (fun x _ ih => match A.t.get x.2 with
  | some o => (match (bif isWh ws o then renW o else renO m o) with
    | some r => (match ih with | some s => some (r.1 ++ s.1, (x.1, r.2) :: s.2) | none => none)
    | none => none)
  | none => none) l
theorem kJ {ws : List Nat} {m : List (Nat × Nat)} {A : AH} : ∀ {l : List (Nat × Nat)} {r}, uZ ws m A l = some r → (∀ x ∈ l, back m x.1 = some x.2) → (∀ x ∈ r.1, HF x) → RenH m A r.2
 | [], r, h, _, _ => by
   have h : some ([], []) = some r := h
   simp only [osI] at h
   subst h
   exact .nil
 | t :: l, r, h, hb, hh => by
   have h : (match A.t.get t.2 with
    | some o => (match (bif isWh ws o then renW o else renO m o) with
      | some r => (match uZ ws m A l with | some s => some (r.1 ++ s.1, (t.1, r.2) :: s.2) | none => none)
      | none => none)
    | none => none) = some r := h
   split at h
   · rename_i v hv
     split at h
     · rename_i r1 h1
       split at h
       · rename_i s hs
         simp only [osI] at h
         subst h
         have h2 : RO (back m) v r1.2 := by
          cases hw : isWh ws v with
          | true => rw [hw] at h1; exact vQ h1 fun x hx => hh x (by simp [hx])
          | false => rw [hw] at h1; exact vR h1 fun x hx => hh x (by simp [hx])
         exact .cons (hb t (by simp)) hv h2 (kJ hs (fun x hx => hb x (by simp [hx])) fun x hx => hh x (by simp [hx]))
       · cases h
     · cases h
   · cases h
def baks (m : List (Nat × Nat)) : Bool := m.all fun x => bak m x.2 x.1
def iW (ws : List Nat) (m : List (Nat × Nat)) (slots : List Nat) (nx : Nat) (F : T Value) (A : AH) (K : KF) : Prop :=
 match u1 m F slots with
 | some r => (match uZ ws m A m with
   | some s => (match ofL r.2 .leaf with
     | some F1 => (match ofL s.2 .leaf with
       | some t1 => bif dZ nx m && baks m then HFs (r.1 ++ s.1) (K F1 ⟨t1, nx⟩) else False
       | none => False)
     | none => False)
   | none => False)
 | none => False
theorem hO {E : Env} (hgl : GlOk E) {A0 : AH} (h0 : A0.next = 0) {n : Nat} {ws : List Nat} {m : List (Nat × Nat)} {slots : List Nat} {nx : Nat} {F : T Value} {A : AH} {K : KF} (h : iW ws m slots nx F A K) : ∃ F1 A1, K F1 A1 ∧ Turns E A0 n F A F1 A1 := by
 unfold iW at h
 split at h
 · rename_i r hr
   split at h
   · rename_i s hs
     split at h
     · rename_i F1 hF
       split at h
       · rename_i t1 ht
         cases hb : (dZ nx m && baks m) with
         | false => rw [hb] at h; exact h.elim
         | true =>
           rw [hb] at h
           simp only [Bool.and_eq_true] at hb
           obtain ⟨hh, k⟩ := pR h
           refine ⟨F1, ⟨t1, nx⟩, k, Turns.ren hgl h0 m r.2 s.2 nx hb.1 hF ht (kK hr fun x hx => hh x (by simp [hx])) (kJ hs (fun x hx => ?_) fun x hx => hh x (by simp [hx]))⟩
           have := List.all_eq_true.1 hb.2 x hx
           unfold bak at this
           split at this
           · rename_i C hC; rw [hC, Nat.eq_of_beq_eq_true this]
           · cases this
       · exact h.elim
     · exact h.elim
   · exact h.elim
 · exact h.elim
def tellK (m : List (Nat × Nat)) (slots : List Nat) (nx : Nat) (F : T Value) (A : AH) (K : KF) : Prop := iW [] m slots nx F A K
def m6 (f : Value → List Nat) (l : List Value) : List Nat := List.rec (motive := fun _ => List Nat) [] (fun v _ ih => f v ++ ih) l
def blks : Nat → Value → List Nat
 | 0, _ => []
 | k + 1, v => match v with
   | .pointer (some ⟨B, _, _⟩) => [B]
   | .slice (some ⟨B, _, _⟩) _ _ => [B]
   | .map (some B) => [B]
   | .agg ⟨xs⟩ => m6 (blks k) xs
   | .tuple ⟨xs⟩ => m6 (blks k) xs
   | .iface _ x => blks k x
   | .func (.func _) ⟨xs⟩ ⟨ys⟩ => m6 (blks k) xs ++ m6 (blks k) ys
   | _ => []
def reach (ws : List Nat) (A : AH) (k : Nat) : List Nat → List Nat → List Nat :=
 Nat.rec (motive := fun _ => List Nat → List Nat → List Nat) (fun _ seen => seen) (fun _ ih todo seen => match todo with
  | [] => seen
  | B :: r => bif inL B seen then ih r seen else (match A.t.get B with
    | some (.cells c e) => bif inL e ws then ih r (seen ++ [B]) else ih (r ++ m6 (blks 8) c) (seen ++ [B])
    | some (.ro c e) => bif inL e ws then ih r (seen ++ [B]) else ih (r ++ m6 (blks 8) c) (seen ++ [B])
    | _ => ih r (seen ++ [B]))) k
def numb (l : List Nat) : Nat → List (Nat × Nat) := List.rec (motive := fun _ => Nat → List (Nat × Nat)) (fun _ => []) (fun B _ ih k => (k, B) :: ih (k + 1)) l
def slotB (F : T Value) (l : List Nat) : List Nat := List.rec (motive := fun _ => List Nat) [] (fun t _ ih => (match F.get t with | some v => blks 8 v | none => []) ++ ih) l
def autoM (ws slots : List Nat) (F : T Value) (A : AH) : List (Nat × Nat) := numb (reach ws A 64 (slotB F slots) []) 0
def lenM (m : List (Nat × Nat)) : Nat := List.rec (motive := fun _ => Nat) 0 (fun _ _ ih => ih + 1) m
inductive NPos where
 | slot (t : Nat)
 | cell (t j : Nat)
def q9 (p : NPos) (e : TypeId) (sz : Nat) (F : T Value) (A : AH) (K : KF) : Prop :=
 match p with
 | .slot t => (match F.get t with
   | some (.slice none n k) => bif Nat.beq n 0 && Nat.beq k 0 then (match T.set 64 F t (.slice (some ⟨A.next, 0, none⟩) 0 (unk + 3 + sz)), T.set FU A.t A.next (.gro [] [] e) with
     | some F1, some t1 => K F1 ⟨t1, A.next + 1⟩
     | _, _ => False) else False
   | _ => K F A)
 | .cell t j => (match F.get t with
   | some (.pointer (some ⟨B, 0, none⟩)) => (match A.t.get B with
     | some (.cells c eb) => (match nth c j with
       | some (.slice none n k) => bif Nat.beq n 0 && Nat.beq k 0 then (match T.set FU A.t B (.cells (c.set j (.slice (some ⟨A.next, 0, none⟩) 0 (unk + 3 + sz))) eb) with
         | some t1 => (match T.set FU t1 A.next (.gro [] [] e) with
           | some t2 => K F ⟨t2, A.next + 1⟩
           | none => False)
         | none => False) else False
       | _ => K F A)
     | _ => K F A)
   | _ => K F A)
theorem q8 {E : Env} {A0 : AH} {n : Nat} {p : NPos} {e : TypeId} {sz : Nat} {F : T Value} {A : AH} {K : KF} (h : q9 p e sz F A K) : ∃ F1 A1, K F1 A1 ∧ Turns E A0 n F A F1 A1 := by
 unfold q9 at h
 split at h
 · rename_i t
   split at h
   · rename_i k1 k2 hv
     cases hb : (Nat.beq k1 0 && Nat.beq k2 0) with
     | false => rw [hb] at h; exact h.elim
     | true =>
       rw [hb] at h
       simp only [Bool.and_eq_true, Nat.beq_eq] at hb
       obtain ⟨rfl, rfl⟩ := hb
       simp only [cond_true] at h
       split at h
       · rename_i F1 t1 hF ht
         exact ⟨F1, _, h, Turns.nilSlot (Nat.le_add_right _ _) hv hF ht⟩
       · exact h.elim
   · exact ⟨F, A, h, Turns.refl⟩
 · rename_i t j
   split at h
   · rename_i B hv
     split at h
     · rename_i c eb hB
       split at h
       · rename_i k1 k2 hj
         rw [aI] at hj
         cases hb : (Nat.beq k1 0 && Nat.beq k2 0) with
         | false => rw [hb] at h; exact h.elim
         | true =>
           rw [hb] at h
           simp only [Bool.and_eq_true, Nat.beq_eq] at hb
           obtain ⟨rfl, rfl⟩ := hb
           simp only [cond_true] at h
           split at h
           · rename_i t1 ht1
             split at h
             · rename_i t2 ht2
               exact ⟨F, _, h, Turns.nilCell (Nat.le_add_right _ _) hB hj ht1 ht2⟩
             · exact h.elim
           · exact h.elim
       · exact ⟨F, A, h, Turns.refl⟩
     · exact ⟨F, A, h, Turns.refl⟩
   · exact ⟨F, A, h, Turns.refl⟩
def nilK (l : List (NPos × TypeId × Nat)) : T Value → AH → KF → Prop :=
 List.rec (motive := fun _ => T Value → AH → KF → Prop) (fun F A K => K F A) (fun x _ ih F A K => q9 x.1 x.2.1 x.2.2 F A (fun F1 A1 => ih F1 A1 K)) l
theorem oe {E : Env} {A0 : AH} {n : Nat} : ∀ {l : List (NPos × TypeId × Nat)} {F : T Value} {A : AH} {K : KF}, nilK l F A K → ∃ F1 A1, K F1 A1 ∧ Turns E A0 n F A F1 A1
 | [], F, A, K, h => ⟨F, A, h, Turns.refl⟩
 | x :: l, F, A, K, h => by
   have h : q9 x.1 x.2.1 x.2.2 F A (fun F1 A1 => nilK l F1 A1 K) := h
   obtain ⟨F1, A1, h, t1⟩ := q8 (E := E) (A0 := A0) (n := n) h
   obtain ⟨F2, A2, h, t2⟩ := oe (E := E) (A0 := A0) (n := n) h
   exact ⟨F2, A2, h, t1.trans t2⟩
def mh (ws slots : List Nat) (F : T Value) (A : AH) (K : KF) : Prop := iW ws (autoM ws slots F A) slots (lenM (autoM ws slots F A)) F A K
def blkAt (p : NPos) (F : T Value) (A : AH) : Option Nat :=
 match p with
 | .slot t => (match F.get t with
   | some (.slice (some ⟨B, _, none⟩) _ _) => some B
   | _ => none)
 | .cell t j => (match F.get t with
   | some (.pointer (some ⟨B, 0, none⟩)) => (match A.t.get B with
     | some (.cells c _) => (match nth c j with
       | some (.slice (some ⟨B2, _, none⟩) _ _) => some B2
       | _ => none)
     | _ => none)
   | _ => none)
def frzK (E : Env) (l : List NPos) (F : T Value) : AH → (AH → Prop) → Prop :=
 List.rec (motive := fun _ => AH → (AH → Prop) → Prop) (fun A K => K A) (fun p _ ih A K => match blkAt p F A with
  | some B => frzT E B 16 A (fun A1 => ih A1 K)
  | none => ih A K) l
theorem j8 {E : Env} (ok : E.Ok) {F : T Value} : ∀ {l : List NPos} {A : AH} {K : AH → Prop}, frzK E l F A K → ∃ A', K A' ∧ ∀ (σ : Sig) (w : World), Rel E.P σ A w → ∃ σ', Rel E.P σ' A' w ∧ Ext σ A w σ' A' w
 | [], A, K, h => ⟨A, h, fun σ w R => ⟨σ, R, Ext.refl _ _ _⟩⟩
 | p :: l, A, K, h => by
   have h : (match blkAt p F A with
    | some B => frzT E B 16 A (fun A1 => frzK E l F A1 K)
    | none => frzK E l F A K) := h
   split at h
   · obtain ⟨A1, h, h1⟩ := o6 ok h
     obtain ⟨A2, h, h2⟩ := j8 ok h
     refine ⟨A2, h, fun σ w R => ?_⟩
     obtain ⟨σ1, R1, X1⟩ := h1 σ w R
     obtain ⟨σ2, R2, X2⟩ := h2 σ1 w R1
     exact ⟨σ2, R2, X1.trans X2⟩
   · exact j8 ok h
theorem mI {E : Env} (ok : E.Ok) {A0 : AH} {n : Nat} {l : List NPos} {F : T Value} {A : AH} {K : AH → Prop} (h : frzK E l F A K) : ∃ A', K A' ∧ Turns E A0 n F A F A' := by
 obtain ⟨A', h, h1⟩ := j8 ok h
 refine ⟨A', h, fun σ0 w0 a w ⟨σ, hF, R, hg, X⟩ => ?_⟩
 obtain ⟨σ', R', X'⟩ := h1 σ w R
 have hsub := Ext.sub R X'
 exact ⟨σ', hF.mono hsub, R', hg.sub hsub, X.trans X'⟩
def nj (E : Env) (ns : List (NPos × TypeId × Nat)) (zs : List NPos) (ws slots : List Nat) (F : T Value) (A : AH) (K : KF) : Prop := nilK ns F A (fun F1 A1 => frzK E zs F1 A1 (fun A2 => mh ws slots F1 A2 K))
theorem hZ {E : Env} (hgl : GlOk E) {A0 : AH} (h0 : A0.next = 0) {n : Nat} {ws slots : List Nat} {F : T Value} {A : AH} {K : KF} (h : mh ws slots F A K) : ∃ F1 A1, K F1 A1 ∧ Turns E A0 n F A F1 A1 := hO hgl h0 h
theorem kI {E : Env} (ok : E.Ok) (hgl : GlOk E) {A0 : AH} (h0 : A0.next = 0) {n : Nat} {ns : List (NPos × TypeId × Nat)} {zs : List NPos} {ws slots : List Nat} {F : T Value} {A : AH} {K : KF} (h : nj E ns zs ws slots F A K) : ∃ F1 A1, K F1 A1 ∧ Turns E A0 n F A F1 A1 := by
 obtain ⟨F1, A1, h, t1⟩ := oe (E := E) (A0 := A0) (n := n) h
 obtain ⟨A2, h, t2⟩ := mI ok (A0 := A0) (n := n) h
 obtain ⟨F3, A3, h, t3⟩ := hZ hgl h0 (n := n) h
 exact ⟨F3, A3, h, t1.trans (t2.trans t3)⟩
inductive LM where
 | unroll (m : Nat)
 | cutW (ws : List Nat) (m : List (Nat × Nat)) (slots : List Nat) (nx : Nat)
 | auto (ws slots : List Nat)
 | autoN (ns : List (NPos × TypeId × Nat)) (zs : List NPos) (ws slots : List Nat)
def LM.cut (m : List (Nat × Nat)) (slots : List Nat) (nx : Nat) : LM := .cutW [] m slots nx
structure SX where
 E : Env
 tab : Tab
 el : El
 lm : Nat → LM
structure SX.Ok (X : SX) : Prop where
 ok : X.E.Ok
 sym : X.E.sym = true
 gl : GlOk X.E
 tab : TabOk X.E X.tab
def keyOf (c : Code) : Nat :=
 Code.rec (motive := fun _ => Nat) 0 (fun id _ _ => id) (fun _ _ x y => bif Nat.beq x 0 then y else x) (fun _ _ _ x y => bif Nat.beq x 0 then y else x) (fun _ _ x => x) (fun _ x => x) (fun _ _ _ _ x y => bif Nat.beq x 0 then y else x) (fun _ => 0) (fun _ x => x) (fun _ => 0) (fun _ => 0) 0 (fun _ => 0) c
abbrev KX := Ex → T Value → AH → Prop
abbrev SC := T Value → AH → KX → Prop
def sxBr (E : Env) (F : T Value) (b : Operand) (x y : T Value → Prop) : Prop := match b with
 | .tmp t => (match F.get t with | some (.bool v) => Sp v (setK F t (.bool true) x) (setK F t (.bool false) y) | _ => Stop b)
 | b => (match ev E F b with | some (.bool v) => Sp v (x F) (y F) | _ => Stop b)
theorem vk {E : Env} {F : T Value} {b : Operand} {x y : T Value → Prop} (h : sxBr E F b x y) : ∃ t, ev E F b = some (.bool t) ∧ ((t = true ∧ x F) ∨ (t = false ∧ y F)) := by
 unfold sxBr at h
 split at h
 · rename_i t
   split at h
   · rename_i v hv
     refine ⟨v, hv, ?_⟩
     rcases h.cases with ⟨hb, h⟩ | ⟨hb, h⟩
     · obtain ⟨F', hF, h⟩ := ij h
       rw [hb] at hv
       rw [bA _ _ _ _ _ hv hF] at h
       exact .inl ⟨hb, h⟩
     · obtain ⟨F', hF, h⟩ := ij h
       rw [hb] at hv
       rw [bA _ _ _ _ _ hv hF] at h
       exact .inr ⟨hb, h⟩
   · exact h.elim
 · split at h
   · rename_i v hv; exact ⟨v, hv, h.cases⟩
   · exact h.elim
def kL (b : SC) (m : Nat) (K : KX) : T Value → AH → Prop := Nat.rec (motive := fun _ => T Value → AH → Prop) (fun _ _ => False) (fun _ ih F A => b F A (Then ih K)) m
def nn (X : SX) (A0 : AH) (n : Nat) (body : Code) (b : SC) : SC := fun F A K =>
 match X.lm (keyOf body) with
 | .unroll m => kL b m K F A
 | .cutW ws m slots nx => bif Nat.beq A0.next 0 then iW ws m slots nx F A (fun F1 A1 => Leaf (W X.E A0 n (.loop body) K F1 A1)) else False
 | .auto ws slots => bif Nat.beq A0.next 0 then mh ws slots F A (fun F1 A1 => Leaf (W X.E A0 n (.loop body) K F1 A1)) else False
 | .autoN ns zs ws slots => bif Nat.beq A0.next 0 then nj X.E ns zs ws slots F A (fun F1 A1 => Leaf (W X.E A0 n (.loop body) K F1 A1)) else False
def ia (X : SX) (inl : Inl) (n : Nat) (ops : Array Oper) (draw : Bool) : SC := fun F A K =>
 match draw with
 | false => sxOps X.tab inl X.E X.el ops.toList n ops.toList F A (K .normal)
 | true => sxReg X.tab X.E X.el ops ops.toList ops.toList.length n F A (K .normal)
def sxC (X : SX) (inl : Inl) (A0 : AH) (n : Nat) (c : Code) : SC :=
 Code.rec (motive := fun _ => SC)
  (fun F A K => K .normal F A)
  (fun _ ops draw => ia X inl n ops draw)
  (fun _ _ x y F A K => x F A (Then (fun F' A' => y F' A' K) K))
  (fun b _ _ x y F A K => sxBr X.E F b (fun F => x F A K) (fun F => y F A K))
  (fun id _ x F A K => x F A (Blk id K))
  (fun body x => nn X A0 n body x)
  (fun _ _ _ _ _ _ _ _ _ => False)
  (fun id F A K => K (.exit id) F A)
  (fun _ x F A K => x F A K)
  (fun _ F A K => K .normal F A)
  (fun _ _ _ _ => False)
  (fun F A K => K .ret F A)
  (fun _ _ _ _ => False) c
theorem fF {E : Env} {A0 : AH} {n : Nat} {body : Code} {b : SC} (hb : ∀ F A K, b F A K → W E A0 n body K F A) {K : KX} : ∀ (m : Nat) (F : T Value) (A : AH), kL b m K F A → WR E A0 n body K m F A
 | 0, F, A, h => h.elim
 | m + 1, F, A, h => by
   refine WR.next ((hb F A _ h).mono fun ex F' A' q => ?_)
   cases ex with
   | normal => exact fF hb m F' A' q
   | exit id => exact q
   | ret => exact q
theorem s9 {X : SX} (hX : X.Ok) {inl : Inl} (hi : pQ X.E inl) {A0 : AH} {n : Nat} (c : Code) : ∀ F A K, sxC X inl A0 n c F A K → W X.E A0 n c K F A := by
 induction c with
 | skip => intro F A K h; exact W.skip h
 | region id ops draw =>
   intro F A K h
   have h : ia X inl n ops draw F A K := h
   unfold ia at h
   cases draw with
   | false => exact W.sxOps hX.ok hX.sym hX.tab hi h
   | true => exact W.sxReg hX.ok hX.sym hX.tab h
 | seq a b iha ihb =>
   intro F A K h
   have h : sxC X inl A0 n a F A (Then (fun F' A' => sxC X inl A0 n b F' A' K) K) := h
   refine W.seq ((iha F A _ h).mono fun ex F' A' q => ?_)
   cases ex with
   | normal => exact ihb F' A' K q
   | exit id => exact q
   | ret => exact q
 | cond b x y ihx ihy =>
   intro F A K h
   have h : sxBr X.E F b (fun F => sxC X inl A0 n x F A K) (fun F => sxC X inl A0 n y F A K) := h
   obtain ⟨t, ht, h⟩ := vk h
   refine W.cond ht (fun e => ?_) (fun e => ?_)
   · rcases h with ⟨_, h⟩ | ⟨e2, _⟩
     · exact ihx F A K h
     · rw [e] at e2; cases e2
   · rcases h with ⟨e2, _⟩ | ⟨_, h⟩
     · rw [e] at e2; cases e2
     · exact ihy F A K h
 | block id b ih => intro F A K h; exact W.block (ih F A _ h)
 | loop b ih =>
   intro F A K h
   have h : nn X A0 n b (sxC X inl A0 n b) F A K := h
   unfold nn at h
   split at h
   · rename_i m _
     exact W.rounds m (fF (fun F A K h => ih F A K h) m F A h)
   · rename_i ws m slots nx _
     cases hz : Nat.beq A0.next 0 with
     | false => rw [hz] at h; exact h.elim
     | true =>
       rw [hz] at h
       have h : iW ws m slots nx F A (fun F1 A1 => Leaf (W X.E A0 n (.loop b) K F1 A1)) := h
       obtain ⟨F1, A1, k, ht⟩ := hO (E := X.E) hX.gl (Nat.eq_of_beq_eq_true hz) (n := n) h
       exact W.turns ht k.get
   · rename_i ws slots _
     cases hz : Nat.beq A0.next 0 with
     | false => rw [hz] at h; exact h.elim
     | true =>
       rw [hz] at h
       have h : mh ws slots F A (fun F1 A1 => Leaf (W X.E A0 n (.loop b) K F1 A1)) := h
       obtain ⟨F1, A1, k, ht⟩ := hZ (E := X.E) hX.gl (Nat.eq_of_beq_eq_true hz) (n := n) h
       exact W.turns ht k.get
   · rename_i ns zs ws slots _
     cases hz : Nat.beq A0.next 0 with
     | false => rw [hz] at h; exact h.elim
     | true =>
       rw [hz] at h
       have h : nj X.E ns zs ws slots F A (fun F1 A1 => Leaf (W X.E A0 n (.loop b) K F1 A1)) := h
       obtain ⟨F1, A1, k, ht⟩ := kI (E := X.E) hX.ok hX.gl (Nat.eq_of_beq_eq_true hz) (n := n) h
       exact W.turns ht k.get
 | rangeFunc f ps a b => intro F A K h; exact False.elim h
 | exit id => intro F A K h; exact W.exit h
 | scope b ih => intro F A K h; exact W.scope (ih F A K h)
 | label l => intro F A K h; exact W.label h
 | goto l => intro F A K h; exact False.elim h
 | ret => intro F A K h; exact W.ret h
 | refuse s => intro F A K h; exact False.elim h
def finK (E : Env) (rs : List ResultVar) (K : KV) : KX := fun ex F A =>
 match ex with
 | .exit _ => False
 | _ => (match bB E A F rs with | some v => K v A | none => False)
theorem gh {E : Env} {fn : Func} {K : KV} {ex : Ex} {F : T Value} {A : AH} (h : finK E fn.results.toList K ex F A) : Fin E fn K ex F A := by
 cases ex with
 | exit id => exact h.elim
 | normal =>
   have h : (match bB E A F fn.results.toList with | some v => K v A | none => False) := h
   split at h
   · rename_i v hv; exact .normal hv h
   · exact h.elim
 | ret =>
   have h : (match bB E A F fn.results.toList with | some v => K v A | none => False) := h
   split at h
   · rename_i v hv; exact .ret hv h
   · exact h.elim
def mZ (X : SX) (inl : Inl) (A0 : AH) (fn : Func) (c : Code) (args : List Value) (K : KV) : Prop :=
 match bK args 0 .leaf with
 | some F => bif Nat.ble args.length fn.ntmps then sxC X inl A0 fn.ntmps c F A0 (finK X.E fn.results.toList K) else False
 | none => False
def inl1 (X : SX) (ih : Inl) : Inl := fun fn args A K => match fn.body with
 | some c => mZ ⟨X.E, X.tab, X.el, fun _ => .unroll 12⟩ ih A fn c args K
 | none => False
def inlN (X : SX) (d : Nat) : Inl := Nat.rec (motive := fun _ => Inl) (fun _ _ _ _ => False) (fun _ ih => inl1 X ih) d
theorem oR {X : SX} (hX : X.Ok) : ∀ d, pQ X.E (inlN X d)
 | 0 => fun g fn _ args A K h => by exact False.elim h
 | d + 1 => fun g fn hfn args A K h σ w args' R hg ha => by
   have h : inl1 X (inlN X d) fn args A K := h
   unfold inl1 at h
   split at h
   · rename_i c hc
     unfold mZ at h
     split at h
     · rename_i F hF
       cases hb : Nat.ble args.length fn.ntmps with
       | false => rw [hb] at h; exact h.elim
       | true =>
         rw [hb] at h
         have hX2 : SX.Ok ⟨X.E, X.tab, X.el, fun _ => .unroll 12⟩ := ⟨hX.ok, hX.sym, hX.gl, hX.tab⟩
         have hW := (s9 hX2 (oR hX d) c F A _ h).mono (R := Fin X.E fn K) fun ex F' A' q => gh q
         refine (gg hX.ok hfn hc hF (Nat.le_of_ble_eq_true hb) hW R hg ha).mono fun e w' he => ?_
         obtain ⟨v, v', A', σ', h1, h2, h3, h4, h5⟩ := he
         exact ⟨v, A', v', σ', h1, h2, h3, h4, h5⟩
     · exact h.elim
   · exact h.elim
def sx (X : SX) (d : Nat) (A0 : AH) (n : Nat) (c : Code) : SC := sxC X (inlN X d) A0 n c
theorem jI {X : SX} (hX : X.Ok) {d : Nat} {A0 : AH} {n : Nat} {c : Code} {F : T Value} {A : AH} {K : KX} (h : sx X d A0 n c F A K) : W X.E A0 n c K F A := s9 hX (oR hX d) c F A K h
def sxFn (X : SX) (d : Nat) (fn : Func) (args : List Value) (K : KV) : Prop := match fn.body with
 | some c => mZ X (inlN X d) ⟨.leaf, 0⟩ fn c args K
 | none => False
theorem kM {X : SX} (hX : X.Ok) {d : Nat} {fn : Func} {args : List Value} {K : KV} (h : sxFn X d fn args K) : ∃ c F, fn.body = some c ∧ Nat.ble args.length fn.ntmps = true ∧ bK args 0 .leaf = some F ∧ W X.E ⟨.leaf, 0⟩ fn.ntmps c (Fin X.E fn K) F ⟨.leaf, 0⟩ := by
 unfold sxFn at h
 split at h
 · rename_i c hc
   unfold mZ at h
   split at h
   · rename_i F hF
     cases hb : Nat.ble args.length fn.ntmps with
     | false => rw [hb] at h; exact h.elim
     | true =>
       rw [hb] at h
       exact ⟨c, F, hc, rfl, hF, (jI hX (d := d) h).mono fun ex F' A' q => gh q⟩
   · exact h.elim
 · exact h.elim
def k9 : Nat → Value → Bool
 | 0, _ => false
 | k + 1, v => match v with
   | .agg ⟨xs⟩ => xs.all (k9 k)
   | .tuple ⟨xs⟩ => xs.all (k9 k)
   | .iface _ x => k9 k x
   | .func (.yield _) _ _ => true
   | v => scal v
def au (Q : Value → Prop) (QA : KV) : KV := fun v A => match k9 8 v with | true => Q v | false => QA v A
theorem lr {Q : Value → Prop} {QA : KV} {v : Value} {A : AH} (h : au Q QA v A) : Q v ∨ QA v A := by
 unfold au at h
 split at h
 · exact .inl h
 · exact .inr h
theorem av {X : SX} (hX : X.Ok) {d : Nat} {fn : Func} {args : List Value} {v : Value} (hv : HF v) (h : sxFn X d fn args (au (fun v2 => v2 = v) (fun v2 A2 => Frz A2 v2 v))) : Walk X.E fn args v := by
 obtain ⟨c, F, h1, h2, h3, h4⟩ := kM hX h
 refine ⟨c, F, h1, h2, h3, h4.mono fun ex F' A' q => ?_⟩
 obtain ⟨q1, v2, q2, q3⟩ := q
 refine ⟨q1, v2, q2, ?_⟩
 rcases lr q3 with q3 | q3
 · rw [q3]; exact .same hv
 · exact q3
def ae (fn : Func) : Code := match fn.body with | some c => c | none => .skip
def aT : Code → Code
 | .loop b => b
 | c => c
def gN : Code → Bool
 | .loop _ => true
 | _ => false
theorem j1 {c : Code} (h : gN c = true) : c = .loop (aT c) := by
 cases c <;> first | rfl | (simp [gN] at h)
def subC : List Nat → Code → Code
 | [], c => c
 | i :: p, c => match c with
   | .seq a b => bif Nat.beq i 0 then subC p a else subC p b
   | .cond _ a b => bif Nat.beq i 0 then subC p a else subC p b
   | .block _ b => subC p b
   | .scope b => subC p b
   | .loop b => subC p b
   | c => c
def ctxK (X : SX) (d : Nat) (n : Nat) : List Nat → Code → KX → KX
 | [], _, K => K
 | i :: p, c, K => match c with
   | .seq a b => bif Nat.beq i 0 then ctxK X d n p a (Then (fun F A => sx X d ⟨.leaf, 0⟩ n b F A K) K) else ctxK X d n p b K
   | .cond _ a b => bif Nat.beq i 0 then ctxK X d n p a K else ctxK X d n p b K
   | .block id b => ctxK X d n p b (Blk id K)
   | .scope b => ctxK X d n p b K
   | _ => K
def LAt (X : SX) (d n : Nat) (c : Code) (p : List Nat) (K : KX) (F : T Value) (A : AH) : Prop := Leaf (W X.E ⟨.leaf, 0⟩ n (subC p c) (ctxK X d n p c K) F A)
def stepK (X : SX) (d : Nat) (fn : Func) (p : List Nat) (K : KV) (m : List (Nat × Nat)) (slots : List Nat) (nx : Nat) (again : KF) : KX := Then (fun F' A' => tellK m slots nx F' A' again) (ctxK X d fn.ntmps p (ae fn) (finK X.E fn.results.toList K))
def sxStep (X : SX) (d : Nat) (fn : Func) (p : List Nat) (K : KV) (m : List (Nat × Nat)) (slots : List Nat) (nx : Nat) (again : KF) (F : T Value) (A : AH) : Prop := sx X d ⟨.leaf, 0⟩ fn.ntmps (aT (subC p (ae fn))) F A (stepK X d fn p K m slots nx again)
theorem LAt.intro {X : SX} (hX : X.Ok) {d n : Nat} {c : Code} {p : List Nat} {K : KX} {F : T Value} {A : AH} (ws : List Nat) (m : List (Nat × Nat)) (slots : List Nat) (nx : Nat) (hl : gN (subC p c) = true) (I : Nat → T Value → AH → Prop)
 (step : ∀ k F A, I k F A → sx X d ⟨.leaf, 0⟩ n (aT (subC p c)) F A (Then (fun F' A' => iW ws m slots nx F' A' (fun F1 A1 => ∃ k', k' < k ∧ I k' F1 A1)) (ctxK X d n p c K))) {k : Nat} (h : I k F A) : LAt X d n c p K F A := by
 refine .mk ?_
 rw [j1 hl]
 refine W.loopT I (fun k F A hI => ?_) h Turns.refl
 refine (jI hX (step k F A hI)).mono fun ex F' A' q => ?_
 cases ex with
 | normal =>
   have q : iW ws m slots nx F' A' (fun F1 A1 => ∃ k', k' < k ∧ I k' F1 A1) := q
   obtain ⟨F1, A1, ⟨k', h1, h2⟩, h3⟩ := hO (E := X.E) hX.gl (A0 := ⟨.leaf, 0⟩) rfl (n := n) q
   exact ⟨k', F1, A1, h1, h2, h3⟩
 | exit id => exact q
 | ret => exact q
theorem LAt.step {X : SX} (hX : X.Ok) {d : Nat} {fn : Func} {p : List Nat} {K : KV} {F : T Value} {A : AH} (m : List (Nat × Nat)) (slots : List Nat) (nx : Nat) (hl : gN (subC p (ae fn)) = true) (I : Nat → T Value → AH → Prop)
 (step : ∀ k F A, I k F A → sxStep X d fn p K m slots nx (fun F1 A1 => ∃ k', k' < k ∧ I k' F1 A1) F A) {k : Nat} (h : I k F A) : LAt X d fn.ntmps (ae fn) p (finK X.E fn.results.toList K) F A :=
 LAt.intro hX [] m slots nx hl I step h
def stepA (X : SX) (d : Nat) (fn : Func) (p : List Nat) (K : KV) (ws slots : List Nat) (again : KF) : KX := Then (fun F' A' => mh ws slots F' A' again) (ctxK X d fn.ntmps p (ae fn) (finK X.E fn.results.toList K))
def bJ (X : SX) (d : Nat) (fn : Func) (p : List Nat) (K : KV) (ws slots : List Nat) (again : KF) (F : T Value) (A : AH) : Prop := sx X d ⟨.leaf, 0⟩ fn.ntmps (aT (subC p (ae fn))) F A (stepA X d fn p K ws slots again)
theorem LAt.stepA {X : SX} (hX : X.Ok) {d : Nat} {fn : Func} {p : List Nat} {K : KV} {F : T Value} {A : AH} (ws slots : List Nat) (hl : gN (subC p (ae fn)) = true) (I : Nat → T Value → AH → Prop)
 (step : ∀ k F A, I k F A → bJ X d fn p K ws slots (fun F1 A1 => ∃ k', k' < k ∧ I k' F1 A1) F A) {k : Nat} (h : I k F A) : LAt X d fn.ntmps (ae fn) p (finK X.E fn.results.toList K) F A := by
 refine .mk ?_
 rw [j1 hl]
 refine W.loopT I (fun k F A hI => ?_) h Turns.refl
 refine (jI hX (step k F A hI)).mono fun ex F' A' q => ?_
 cases ex with
 | normal =>
   have q : mh ws slots F' A' (fun F1 A1 => ∃ k', k' < k ∧ I k' F1 A1) := q
   obtain ⟨F1, A1, ⟨k', h1, h2⟩, h3⟩ := hZ (E := X.E) hX.gl (A0 := ⟨.leaf, 0⟩) rfl (n := fn.ntmps) q
   exact ⟨k', F1, A1, h1, h2, h3⟩
 | exit id => exact q
 | ret => exact q
def oneH (c : List Value) (e : TypeId) : AH := ⟨.node .leaf (some (.cells c e)) .leaf, 1⟩
def ptr0 : Value := .pointer (some ⟨0, 0, none⟩)
theorem iw {c : List Value} {e : TypeId} {B : Nat} {o : AObj} (h : (oneH c e).t.get B = some o) : B = 0 ∧ o = .cells c e := by
 unfold oneH at h
 rw [T.get_node] at h
 by_cases h0 : B = 0
 · rw [if_pos h0] at h; cases h; exact ⟨h0, rfl⟩
 · rw [if_neg h0] at h
   split at h <;> simp [T.get_leaf] at h
theorem OR.cells_move {P : Program} {σ σ' : Sig} (hro : ∀ b o, σ.ro b = some o → σ'.ro b = some o) {ob : Option Obj} {d cp : Nat} {c : List Value} {e : TypeId} (hc : ∀ x ∈ c, HF x) (h : OR P σ ob d cp (.cells c e)) : OR P σ' ob d cp (.cells c e) := by
 obtain ⟨c', lo, hi, h1, h2, h3, h4⟩ := h
 refine ⟨c', lo, hi, h1, h2, fun i v hv => ?_, h4⟩
 obtain ⟨v', a, b⟩ := h3 i v hv
 exact ⟨v', a, (hc v (List.mem_of_getElem? hv)).move hro v' b⟩
theorem be {X : SX} (hX : X.Ok) {d : Nat} {fn : Func} {args : List Value} {v : Value} (h : sxFn X d fn args (fun v2 A2 => Frz A2 v2 v)) : Walk X.E fn args v := kM hX h
theorem dI {E : Env} {f : FuncId} {val : List Value → Option Value} (h : Con E f (ck val)) : ∀ args A p v A', aj (fun _ => none) val args A = some (p, v, A') → PH p → an E f args A v A' :=
 fk fun args v hv _ A σ w args' R hg ha => h args A v A (by simp [ck, hv]) σ w args' R hg ha
theorem ai {E : Env} (ok : E.Ok) (hgl : GlOk E) {f : FuncId} {fn : Func} (hfn : E.fn f = some fn) {pre : List Value → Option Prop} {val : List Value → Option Value} (h : ∀ args v, val args = some v → PH (pre args) → (∀ x ∈ args, HF x) ∧ Walk E fn args v) :
 ∀ args A p v A', aj pre val args A = some (p, v, A') → PH p → an E f args A v A' :=
 fk fun args v hv hp A => kw ok hgl hfn (h args v hv hp).1 (h args v hv hp).2 A
def rp (e : TypeId) (Q : Value → List Value → Prop) : KV := fun v A => match A.t.get 0 with
 | some (.cells c e') => bif Nat.beq e' e then Q v c else False
 | _ => False
theorem rn {e : TypeId} {Q : Value → List Value → Prop} {v : Value} {A : AH} (h : rp e Q v A) : ∃ c, A.t.get 0 = some (.cells c e) ∧ Q v c := by
 unfold rp at h
 split at h
 · rename_i c e' hg
   cases he : Nat.beq e' e with
   | false => rw [he] at h; exact h.elim
   | true =>
     rw [he] at h
     obtain rfl := Nat.eq_of_beq_eq_true he
     exact ⟨c, hg, h⟩
 · exact h.elim
end
end Go.AM
namespace Go.MK
open Go Go.AM
noncomputable section
variable {K V : Type} [DecidableEq K]
def aget : List (K × V) → K → Option V
 | [], _ => none
 | x :: m, k => if x.1 = k then some x.2 else aget m k
def aidx : List (K × V) → K → Nat → Option (Nat × V)
 | [], _, _ => none
 | x :: m, k, i => if x.1 = k then some (i, x.2) else aidx m k (i + 1)
def bC (kv : K → Value) (vv : V → Value) : List (K × V) → Nat → List (Value × Value × Nat)
 | [], _ => []
 | x :: m, i => (kv x.1, vv x.2, i) :: bC kv vv m (i + 1)
def ents (kv : K → Value) (vv : V → Value) (m : List (K × V)) : List (Value × Value × Nat) := bC kv vv m 0
def inv (dk : Value → K) (dv : Value → V) (es : List (Value × Value × Nat)) : List (K × V) := es.map fun x => (dk x.1, dv x.2.1)
theorem rF {kv : K → Value} {vv : V → Value} {dk : Value → K} {dv : Value → V} (h1 : ∀ k, dk (kv k) = k) (h2 : ∀ v, dv (vv v) = v) (m : List (K × V)) : inv dk dv (ents kv vv m) = m := by
 have key : ∀ (m : List (K × V)) (i : Nat), (bC kv vv m i).map (fun x => (dk x.1, dv x.2.1)) = m := by
  intro m
  induction m with
  | nil => intro i; rfl
  | cons x m ih => intro i; simp only [bC, List.map_cons, h1, h2, ih]
 exact key m 0
theorem pK {m : List (K × V)} {k : K} : ∀ {i : Nat}, aidx m k i = none → aget m k = none := by
 induction m with
 | nil => intro i _; rfl
 | cons x m ih =>
   intro i h
   unfold aidx at h
   unfold aget
   split at h
   · cases h
   · rename_i hne; rw [if_neg hne]; exact ih h
theorem pJ {m : List (K × V)} {k : K} : ∀ {i j : Nat} {v : V}, aidx m k i = some (j, v) → aget m k = some v ∧ ∃ q, j = i + q ∧ m[q]? = some (k, v) := by
 induction m with
 | nil => intro i j v h; cases h
 | cons x m ih =>
   intro i j v h
   unfold aidx at h
   unfold aget
   split at h
   · rename_i he
     simp only [osI, Prod.mk.injEq] at h
     obtain ⟨rfl, rfl⟩ := h
     rw [if_pos he]
     exact ⟨rfl, 0, rfl, by simp [← he]⟩
   · rename_i hne
     rw [if_neg hne]
     obtain ⟨h1, q, h2, h3⟩ := ih h
     exact ⟨h1, q + 1, by omega, by simpa using h3⟩
structure KeyOk (E : Env) (t kt et : TypeId) (kv : K → Value) (z : Value) : Prop where
 und : AM.und E t = some (.map kt et)
 flat : ∀ k, AM.flat (kv k) = true
 ok : ∀ emp k, dF E emp kt (kv k) = true
 eq : ∃ kind, AM.und E kt = some kind ∧ ((∀ a b, jP kind (kv a) (kv b) = some (decide (a = b))) ∨ ((∀ a b, jP kind (kv a) (kv b) = none) ∧ ∀ a b, mQ E kt (kv a) (kv b) = some (decide (a = b))))
 bits : ∀ k, Instr.sameBits 10000 (kv k) (kv k) = true
 zero : ∃ i, E.ti et = some i ∧ i.zero = some z ∧ AM.flat z = true
theorem gT {kind : TypeDesc} {kv : K → Value} {vv : V → Value} (h : ∀ a b, jP kind (kv a) (kv b) = some (decide (a = b))) (k : K) : ∀ (m : List (K × V)) (b i : Nat),
 fe kind (kv k) (bC kv vv m b) i = some ((aidx m k i).map fun x => (x.1, vv x.2))
 | [], b, i => rfl
 | x :: m, b, i => by
   simp only [bC, fe, h]
   by_cases e : x.1 = k
   · simp [aidx, e]
   · have e2 : ¬ k = x.1 := fun h => e h.symm
     simp only [e2, decide_false, aidx, if_neg e]
     exact gT h k m _ _
theorem eX {E : Env} {kt : TypeId} {kv : K → Value} {vv : V → Value} (h : ∀ a b, mQ E kt (kv a) (kv b) = some (decide (a = b))) (k : K) : ∀ (m : List (K × V)) (b i : Nat),
 cT E kt (kv k) (bC kv vv m b) i = some ((aidx m k i).map fun x => (x.1, vv x.2))
 | [], b, i => rfl
 | x :: m, b, i => by
   simp only [bC, cT, h]
   by_cases e : x.1 = k
   · simp [aidx, e]
   · have e2 : ¬ k = x.1 := fun h => e h.symm
     simp only [e2, decide_false, aidx, if_neg e]
     exact eX h k m _ _
theorem mN {E : Env} {t kt et : TypeId} {kv : K → Value} {z : Value} (h : KeyOk E t kt et kv z) (vv : V → Value) (k : K) (m : List (K × V)) :
 gA E kt (kv k) (ents kv vv m) = some ((aidx m k 0).map fun x => (x.1, vv x.2)) := by
 obtain ⟨kind, hu, hc⟩ := h.eq
 unfold gA ents
 rw [hu]
 simp only
 rcases hc with h1 | ⟨h1, h2⟩
 · rw [gT h1]
 · cases m with
   | nil => rfl
   | cons x m =>
     have : fe kind (kv k) (bC kv vv (x :: m) 0) 0 = none := by simp only [bC, fe, h1]
     rw [this]
     exact eX h2 k (x :: m) 0 0
theorem oy {E : Env} {t kt et : TypeId} {kv : K → Value} {z : Value} (h : KeyOk E t kt et kv z) (vv : V → Value) (k : K) (m : List (K × V)) :
 j2 E t (ents kv vv m) (kv k) = some (match aget m k with | some v => (vv v, true) | none => (z, false)) := by
 obtain ⟨i, h1, h2, h3⟩ := h.zero
 unfold j2
 rw [h.und]
 simp only [h.flat, h.ok, Bool.and_self, cond_true, mN h vv k m]
 cases ha : aidx m k 0 with
 | none =>
   rw [pK ha]
   simp only [Option.map_none, h1, h2, h3, cond_true]
 | some x =>
   obtain ⟨j, v⟩ := x
   rw [(pJ ha).1]
   rfl
end
end Go.MK
namespace Go.AM
noncomputable section
def jz (X : SX) (d : Nat) (n : Nat) (A0 : AH) : List Nat → Code → KX → KX
 | [], _, K => K
 | i :: p, c, K => match c with
   | .seq a b => bif Nat.beq i 0 then jz X d n A0 p a (Then (fun F A => sx X d A0 n b F A K) K) else jz X d n A0 p b K
   | .cond _ a b => bif Nat.beq i 0 then jz X d n A0 p a K else jz X d n A0 p b K
   | .block id b => jz X d n A0 p b (Blk id K)
   | .scope b => jz X d n A0 p b K
   | _ => K
def LAtZ (X : SX) (d n : Nat) (A0 : AH) (c : Code) (p : List Nat) (K : KX) (F : T Value) (A : AH) : Prop := Leaf (W X.E A0 n (subC p c) (jz X d n A0 p c K) F A)
def fK (X : SX) (d n : Nat) (A0 : AH) (c : Code) (p : List Nat) (K : KX) (ns : List (NPos × TypeId × Nat)) (zs : List NPos) (ws slots : List Nat) (again : KF) : KX := Then (fun F' A' => nj X.E ns zs ws slots F' A' again) (jz X d n A0 p c K)
def ax (X : SX) (d n : Nat) (A0 : AH) (c : Code) (p : List Nat) (K : KX) (ns : List (NPos × TypeId × Nat)) (zs : List NPos) (ws slots : List Nat) (again : KF) (F : T Value) (A : AH) : Prop := sx X d A0 n (aT (subC p c)) F A (fK X d n A0 c p K ns zs ws slots again)
theorem LAtZ.step {X : SX} (hX : X.Ok) {d n : Nat} {A0 : AH} (h0 : A0.next = 0) {c : Code} {p : List Nat} {K : KX} {F : T Value} {A : AH} (ns : List (NPos × TypeId × Nat)) (zs : List NPos) (ws slots : List Nat) (hl : gN (subC p c) = true) (I : Nat → T Value → AH → Prop)
 (step : ∀ k F A, I k F A → ax X d n A0 c p K ns zs ws slots (fun F1 A1 => ∃ k', k' < k ∧ I k' F1 A1) F A) {k : Nat} (h : I k F A) : LAtZ X d n A0 c p K F A := by
 refine .mk ?_
 rw [j1 hl]
 refine W.loopT I (fun k F A hI => ?_) h Turns.refl
 refine (jI hX (step k F A hI)).mono fun ex F' A' q => ?_
 cases ex with
 | normal =>
   have q : nj X.E ns zs ws slots F' A' (fun F1 A1 => ∃ k', k' < k ∧ I k' F1 A1) := q
   obtain ⟨F1, A1, ⟨k', h1, h2⟩, h3⟩ := kI (E := X.E) hX.ok hX.gl (A0 := A0) h0 (n := n) q
   exact ⟨k', F1, A1, h1, h2, h3⟩
 | exit id => exact q
 | ret => exact q
def ay (X : SX) (d : Nat) (fn : Func) (args : List Value) (A1 : AH) (K : KV) : Prop := match fn.body with
 | some c => (match bK args 0 .leaf with
   | some F => bif Nat.ble args.length fn.ntmps then sxC X (inlN X d) ⟨A1.t, 0⟩ fn.ntmps c F A1 (finK X.E fn.results.toList K) else False
   | none => False)
 | none => False
def bt (E : Env) (fn : Func) (args : List Value) (A1 : AH) (v : Value) : Prop :=
 ∃ c F, fn.body = some c ∧ Nat.ble args.length fn.ntmps = true ∧ bK args 0 .leaf = some F ∧ W E ⟨A1.t, 0⟩ fn.ntmps c (Fin E fn fun v2 A2 => Frz A2 v2 v) F A1
theorem al {X : SX} (hX : X.Ok) {d : Nat} {fn : Func} {args : List Value} {A1 : AH} {v : Value} (h : ay X d fn args A1 (fun v2 A2 => Frz A2 v2 v)) : bt X.E fn args A1 v := by
 unfold ay at h
 split at h
 · rename_i c hc
   split at h
   · rename_i F hF
     cases hb : Nat.ble args.length fn.ntmps with
     | false => rw [hb] at h; exact h.elim
     | true =>
       rw [hb] at h
       exact ⟨c, F, hc, hb, hF, (jI hX (d := d) h).mono fun ex F' A' q => gh q⟩
   · exact h.elim
 · exact h.elim
theorem RVs.move {ρ : Nat → Option Nat} {σ : Sig} : ∀ {l l1 : List Value}, RVs ρ l l1 → ∀ {l' : List Value}, VRs σ l l' → VRs (sigT ρ σ) l1 l'
 | _, _, .nil, _, .nil => .nil
 | _, _, .cons h t, _, .cons a b => .cons (h.move _ a) (RVs.move t b)
theorem Rel.ren {P : Program} {σ : Sig} {A : AH} {w : World} (R : Rel P σ A w) {m : List (Nat × Nat)} {lh : List (Nat × AObj)} {nx : Nat} {t1 : T AObj} (hm : dZ nx m = true) (hh : ofL lh .leaf = some t1) (rh : RenH m A lh) : Rel P (sigT (back m) σ) ⟨t1, nx⟩ w := by
 have hH1 : ∀ {B' : Nat} {o1 : AObj}, t1.get B' = some o1 → ∃ B o, back m B' = some B ∧ A.t.get B = some o ∧ RO (back m) o o1 := fun h => by
  rcases ix hh h with h | h
  · exact rh.mem h
  · simp [T.get] at h
 refine ⟨?_, ?_, ?_, ?_, R.ro, ?_, fun B' h => ?_⟩
 · intro B' o1 h hhere
   obtain ⟨B, o, h1, h2, h3⟩ := hH1 h
   rcases R.obj0 B o h2 (by rw [← h3.here]; exact hhere) with ⟨b, d, c, g1, g2⟩ | ⟨g1, g2⟩
   · exact .inl ⟨b, d, c, cI h1 g1, h3.move g2⟩
   · exact .inr ⟨h3.nilOk.trans g1, B, h1, g2⟩
 · intro B1 B2 o1 o2 x1 x2 h1 h2 ho hh2 hne hx1 hx2
   obtain ⟨C1, p1, a1, a2, a3⟩ := hH1 h1
   obtain ⟨C2, p2, b1, b2, b3⟩ := hH1 h2
   obtain ⟨D1, d1, d2⟩ := cj hx1
   obtain ⟨D2, e1, e2⟩ := cj hx2
   rw [a1] at d1; cases d1
   rw [b1] at e1; cases e1
   exact R.inj C1 C2 p1 p2 x1 x2 a2 b2 (by rw [← a3.own]; exact ho) (by rw [← b3.here]; exact hh2) (fun e => by subst e; exact hne (iO hm a1 b1)) d2 e2
 · intro B' x hx
   obtain ⟨B, _, h2⟩ := cj hx
   exact R.lt B x h2
 · intro B' hB'
   show (back m B').bind σ.f = none
   cases hb : back m B' with
   | none => rfl
   | some B => exact absurd (gu hm (cA hb)) (by simp at hB'; omega)
 · intro B' o1 x h ho hx
   obtain ⟨B, o, h1, h2, h3⟩ := hH1 h
   obtain ⟨D, d1, d2⟩ := cj hx
   rw [h1] at d1; cases d1
   exact R.sep B o x h2 (by rw [← h3.own]; exact ho) d2
 · obtain ⟨B, h1, h2⟩ := h
   refine ⟨gu hm (cA h1), ?_⟩
   show (back m B').bind σ.f = none
   rw [h1]; exact (R.nl B h2).2
open Classical in
theorem Rel.more {P : Program} {σ : Sig} {A : AH} {w w' : World} (R : Rel P σ A w) (h : ∀ b, b < w.heap.size → w'.heap[b]? = w.heap[b]?) (hs : w.heap.size ≤ w'.heap.size) : Rel P σ A w' := by
 refine ⟨fun B o hB hh => ?_, R.inj, fun B x hx => Nat.lt_of_lt_of_le (R.lt B x hx) hs, R.fresh, fun b o hb => ?_, R.sep, R.nl⟩
 · rcases R.obj0 B o hB hh with ⟨b, d, c, h1, h2⟩ | h1
   · exact .inl ⟨b, d, c, h1, by rw [h b (R.lt B _ h1)]; exact h2⟩
   · exact .inr h1
 · rw [h b (gP (R.ro b o hb))]; exact R.ro b o hb
theorem Ext.more {σ : Sig} {A : AH} {w w' : World} (h : ∀ b, b < w.heap.size → w'.heap[b]? = w.heap[b]?) (hs : w.heap.size ≤ w'.heap.size) (h1 : w'.os = w.os) (h2 : w'.tape = w.tape) (h3 : w'.output = w.output) : Ext σ A w σ A w' :=
 ⟨fun _ _ => rfl, Nat.le_refl _, hs, fun b hb _ => h b hb, fun B o x g1 g2 g3 => .inr ⟨B, o, x, g1, g2, g3, rfl⟩, fun B o x g1 g2 g3 => .inr ⟨B, o, x, g1, g2, g3, rfl⟩, h1, h2, h3, fun _ _ h => h, fun _ _ h => .inl h, fun _ _ => Iff.rfl⟩
end
end Go.AM

/- A part of the proof. -/
import Derived.Test.YtcplcanaonmmpaaGreatDoorA
import Derived.Laws.StructEq
import Derived.Lib.UnsafeStr
import Derived.Deep.AppendSrc
import Derived.Deep.Upon
import Derived.Room.Entries
import Derived.Laws.MakeOwn
import Derived.Laws.AppendOwn
set_option linter.unusedVariables false
set_option linter.unusedSimpArgs false
namespace Go.AM
noncomputable section
def symI (op : BinOp) (k : IntKind) (x y : Int) : Option Value :=
 match op with
 | .add => some (.int k (k.wrap (x + y)))
 | .sub => some (.int k (k.wrap (x - y)))
 | .mul => some (.int k (k.wrap (x * y)))
 | .quo => bif decide (y = 0) then none else some (.int k (k.wrap (x.tdiv y)))
 | .rem => bif decide (y = 0) then none else some (.int k (x.tmod y))
 | .and => some (.int k (k.wrap (BitVec.ofInt k.bits x &&& BitVec.ofInt k.bits y).toNat))
 | .or => some (.int k (k.wrap (BitVec.ofInt k.bits x ||| BitVec.ofInt k.bits y).toNat))
 | .xor => some (.int k (k.wrap (BitVec.ofInt k.bits x ^^^ BitVec.ofInt k.bits y).toNat))
 | .andNot => some (.int k (k.wrap (BitVec.ofInt k.bits x &&& ~~~ BitVec.ofInt k.bits y).toNat))
 | .eql => some (.bool (decide (x = y)))
 | .neq => some (.bool (!decide (x = y)))
 | .lss => some (.bool (decide (x < y)))
 | .leq => some (.bool (decide (x ≤ y)))
 | .gtr => some (.bool (decide (y < x)))
 | .geq => some (.bool (decide (y ≤ x)))
 | .shl => none
 | .shr => none
def symBin (op : BinOp) (k : IntKind) (x : Int) (k' : IntKind) (y : Int) : Option Value :=
 match op with
 | .shl => bif decide (y < 0) then none else some (.int k (k.wrap (x * 2 ^ (min y.toNat k.bits))))
 | .shr => bif decide (y < 0) then none else some (.int k (x.fdiv (2 ^ (min y.toNat k.bits))))
 | op => bif kindEq k k' then symI op k x y else none
theorem symBin_ok {P : Program} {op : BinOp} {t : TypeId} {x y : Operand} {k k' : IntKind} {a b : Int} {v : Value} {w : World} (h : symBin op k a k' b = some v) :
 (do eqGuard op t x y (.int k a) (.int k' b); binOp op t (.int k a) (.int k' b)).run P w = .ok v w ∧ scal v = true := by
 simp only [Sem.run_bind, eqGuard_int, Result.andThen_ok]
 have key : ∀ op, op ≠ .shl → op ≠ .shr → (bif kindEq k k' then symI op k a b else none) = some v → (binOp op t (.int k a) (.int k' b)).run P w = .ok v w ∧ scal v = true := by
  intro op h1 h2 hq
  cases hk : kindEq k k' with
  | false => rw [hk] at hq; simp at hq
  | true =>
    rw [hk] at hq
    simp only [cond_true] at hq
    obtain rfl : k = k' := by simpa [kindEq] using hk
    unfold symI at hq
    split at hq <;> try (exact absurd rfl ‹_›)
    all_goals first
     | (cases hy : decide (b = 0) with
        | true => simp only [hy, cond_true] at hq; cases hq
        | false =>
          simp only [hy, cond_false, Option.some.injEq] at hq
          subst hq
          have hy : b ≠ 0 := by simpa using hy
          exact ⟨by simp [binOp, Op.intDiv, hy], rfl⟩)
     | (simp only [Option.some.injEq] at hq; subst hq; refine ⟨?_, rfl⟩; simp [binOp, Op.intArith, Op.intBits, Op.intCmp, bne]; done)
     | (simp only [Option.some.injEq] at hq; subst hq; refine ⟨?_, rfl⟩; simp [binOp, Op.intArith, Op.intBits, Op.intCmp, bne]; first | rfl | exact beq_eq_decide' _ _)
     | skip
 unfold symBin at h
 split at h
 · cases hy : decide (b < 0) with
   | true => simp only [hy, cond_true] at h; cases h
   | false =>
     simp only [hy, cond_false, Option.some.injEq] at h
     subst h
     have hy : ¬ b < 0 := by simpa using hy
     exact ⟨by simp only [binOp, Op.shift]; rw [if_neg hy]; rfl, rfl⟩
 · cases hy : decide (b < 0) with
   | true => simp only [hy, cond_true] at h; cases h
   | false =>
     simp only [hy, cond_false, Option.some.injEq] at h
     subst h
     have hy : ¬ b < 0 := by simpa using hy
     exact ⟨by simp only [binOp, Op.shift]; rw [if_neg hy]; rfl, rfl⟩
 · exact key _ ‹_› ‹_› h
theorem cellsL_cons (x : Value) (l : List Value) : cellsL (x :: l) = x.cells.toList ++ cellsL l := rfl
theorem cellsL_append (l m : List Value) : cellsL (l ++ m) = cellsL l ++ cellsL m := by simp [cellsL]
theorem cellsL_length {sz : Nat} : ∀ {els : List Value}, (∀ x ∈ els, x.cells.size = sz) → (cellsL els).length = els.length * sz
 | [], _ => by simp [cellsL]
 | x :: l, h => by
   rw [cellsL_cons, List.length_append, cellsL_length (fun y hy => h y (by simp [hy]))]
   have := h x (by simp)
   simp only [List.length_cons, Nat.succ_mul, Array.length_toList, this]
   omega
theorem cellsL_drop {sz : Nat} : ∀ {els : List Value} (i : Nat), (∀ x ∈ els, x.cells.size = sz) → (cellsL els).drop (i * sz) = cellsL (els.drop i)
 | els, 0, _ => by simp
 | [], i + 1, _ => by simp [cellsL]
 | x :: l, i + 1, h => by
   have hx := h x (by simp)
   rw [cellsL_cons, List.drop_succ_cons, ← cellsL_drop i (fun y hy => h y (by simp [hy])), Nat.succ_mul, Nat.add_comm, ← List.drop_drop]
   congr 1
   rw [List.drop_left' (by simpa using hx)]
theorem cellsL_take {sz : Nat} : ∀ {els : List Value} (i : Nat), (∀ x ∈ els, x.cells.size = sz) → (cellsL els).take (i * sz) = cellsL (els.take i)
 | els, 0, _ => by simp [cellsL]
 | [], i + 1, _ => by simp [cellsL]
 | x :: l, i + 1, h => by
   have hx := h x (by simp)
   rw [cellsL_cons, List.take_succ_cons, cellsL_cons, ← cellsL_take i (fun y hy => h y (by simp [hy])), Nat.succ_mul, Nat.add_comm, List.take_append, List.take_of_length_le (by simp; omega)]
   congr 2
   simp [hx]
theorem cellsL_get {sz : Nat} {els : List Value} {i : Nat} {x : Value} (h : ∀ x ∈ els, x.cells.size = sz) (hx : els[i]? = some x) : ((cellsL els).drop (i * sz)).take sz = x.cells.toList := by
 rw [cellsL_drop i h]
 have hi : i < els.length := by
  rcases Nat.lt_or_ge i els.length with h' | h'
  · exact h'
  · rw [List.getElem?_eq_none h'] at hx; cases hx
 rw [List.drop_eq_getElem_cons hi]
 rw [List.getElem?_eq_getElem hi] at hx
 simp only [Option.some.injEq] at hx
 rw [hx, cellsL_cons, List.take_left' (by simpa using h x (by rw [← hx]; exact List.getElem_mem hi))]
theorem dat_cells {P : Program} {σ : Sig} {A : AH} {w : World} (R : Rel P σ A w) {b o sz : Nat} {e : TypeId} {fz : Nat × Nat} {c : Array Value} {els : List Value}
 (hro : σ.ro b = some (.cells c e fz)) (hsz : ∀ x ∈ els, x.cells.size = sz) (h : VRs σ (cellsL els) ((c.toList.drop o).take (els.length * sz))) {i : Nat} {x : Value} (hx : els[i]? = some x) :
 ∃ l', VRs σ x.cells.toList l' ∧ ∀ (j : Nat) v', l'[j]? = some v' → w.cell? ⟨b, o + i * sz + j, none⟩ = some v' := by
 refine ⟨(((c.toList.drop o).take (els.length * sz)).drop (i * sz)).take sz, ?_, fun j v' hv => ?_⟩
 · rw [← cellsL_get hsz hx]; exact (h.drop _).take _
 · rw [List.getElem?_take] at hv
   split at hv
   · rw [List.getElem?_drop, List.getElem?_take] at hv
     split at hv
     · rw [List.getElem?_drop] at hv
       have hc : c[o + (i * sz + j)]? = some v' := by simpa using hv
       simp [World.cell?, R.ro b _ hro, Nat.add_assoc, hc]
     · cases hv
   · cases hv
def ldat (E : Env) (t : TypeId) (els : List Value) (i j : Nat) : Option Value :=
 match nth els i with
 | some x => (match und E t with
   | some d => bif isAggD d then (match E.ti t with
    | some ti => bif Nat.beq ((x.cells.toList.drop j).take ti.size).length ti.size then some (.agg ⟨(x.cells.toList.drop j).take ti.size⟩) else none
    | none => none)
     else nth x.cells.toList j
   | none => none)
 | none => none
theorem ldat_ok {E : Env} (ok : E.Ok) {σ : Sig} {A : AH} {w : World} (R : Rel E.P σ A w) {b o sz : Nat} {e : TypeId} {fz : Nat × Nat} {c : Array Value} {els : List Value}
 (hro : σ.ro b = some (.cells c e fz)) (hsz : ∀ x ∈ els, x.cells.size = sz) (hc : VRs σ (cellsL els) ((c.toList.drop o).take (els.length * sz))) {t : TypeId} {i j : Nat} {v : Value} (h : ldat E t els i j = some v) :
 ∃ v', (Instr.loadAt t (.pointer (some ⟨b, o + i * sz + j, none⟩))).run E.P w = .ok v' w ∧ VR σ v v' := by
 unfold ldat at h
 split at h
 · rename_i x hx
   rw [nth_eq] at hx
   obtain ⟨l', hl, hcell⟩ := dat_cells R hro hsz hc hx
   split at h
   · rename_i d hu
     cases hag : isAggD d with
     | true =>
       simp only [hag, cond_true] at h
       split at h
       · rename_i ti hti
         cases hlen : Nat.beq ((x.cells.toList.drop j).take ti.size).length ti.size with
         | false => rw [hlen] at h; simp at h
         | true =>
           rw [hlen] at h
           simp only [cond_true, Option.some.injEq] at h
           subst h
           have hlen := Nat.eq_of_beq_eq_true hlen
           have hvs := (hl.drop j).take ti.size
           refine ⟨.agg ⟨(l'.drop j).take ti.size⟩, ?_, .agg hvs⟩
           have hn : ((l'.drop j).take ti.size).length = ti.size := by rw [hvs.length, hlen]
           have hrun := run_loadCells_list (P := E.P) w ⟨b, o + i * sz + j, none⟩ ((l'.drop j).take ti.size) (fun m v hv => by
            rw [add_none]
            rw [List.getElem?_take] at hv
            split at hv
            · rw [List.getElem?_drop] at hv
              rw [show o + i * sz + j + m = o + i * sz + (j + m) by omega]
              exact hcell _ _ hv
            · cases hv)
           rw [hn] at hrun
           simp [Instr.loadAt, Instr.sureAddr, loadVar, run_agg ok hu, hag, run_size ok hti, hrun]
       · cases h
     | false =>
       simp only [hag, cond_false] at h
       rw [nth_eq] at h
       obtain ⟨v', h1, h2⟩ := hl.get h
       refine ⟨v', ?_, h2⟩
       have := hcell j v' h1
       simp [Instr.loadAt, Instr.sureAddr, loadVar, run_agg ok hu, hag, this]
   · cases h
 · cases h
def optA (ρ : Operand → Option Value) (x : Option Operand) : Option (Option Value) :=
 match x with
 | none => some none
 | some x => (match ρ x with | some v => bif scal v then some (some v) else none | none => none)
theorem opt_ok {σ : Sig} {ρ : Operand → Option Value} {ρ' : Operand → Value} (hρ : OpR σ ρ ρ') {x : Option Operand} {v : Option Value} (h : optA ρ x = some v) : x.map ρ' = v := by
 unfold optA at h
 split at h
 · simp only [Option.some.injEq] at h; subst h; rfl
 · rename_i x
   split at h
   · rename_i u hu
     cases hs : scal u with
     | false => rw [hs] at h; simp at h
     | true =>
       rw [hs] at h
       simp only [cond_true, Option.some.injEq] at h
       subst h
       simp [scal_eq hs (hρ x u hu)]
   · cases h
def symQ (E : Env) (ρ : Operand → Option Value) (op : Op) : Option Value :=
 match op with
 | .binOp op t x y _ => (match ρ x with
   | some (.int k a) => (match ρ y with | some (.int k' b) => symBin op k a k' b | _ => none)
   | some (.agg ⟨xs⟩) => (match ρ y with | some (.agg ⟨ys⟩) => eqAgg E op t xs ys | _ => none)
   | _ => none)
 | .convert s d x => (match ρ x with
   | some (.int _ n) => (match und E s, und E d with | some _, some (.int k) => some (.int k (k.wrap n)) | _, _ => none)
   | _ => none)
 | .indexAddr t x i => (match ρ x with
   | some (.func (.yield sz) ⟨els⟩ ⟨[]⟩) => (match ρ i, und E t with
     | some (.int _ n), some (.slice e) => (match E.ti e with
       | some ie => bif (Nat.beq ie.size sz && Nat.blt 0 sz) && (decide (0 ≤ n) && decide (n < els.length)) then some (.func (.yield sz) ⟨els⟩ ⟨[.int .i64 n.toNat, .int .i64 (0 : Nat)]⟩) else none
       | none => none)
     | _, _ => none)
   | _ => none)
 | .fieldAddr t x f => (match ρ x with
   | some (.func (.yield sz) ⟨els⟩ ⟨[.int .i64 i, .int .i64 j]⟩) => (match und E t with
     | some (.struct fs) => (match nth fs.toList f with
       | some fd => (match E.ti fd.type with
         | some ti => bif Nat.beq ti.size 0 || !Nat.blt (j.toNat + fd.offset) sz then none else some (.func (.yield sz) ⟨els⟩ ⟨[.int .i64 i, .int .i64 (j.toNat + fd.offset : Nat)]⟩)
         | none => none)
       | none => none)
     | _ => none)
   | _ => none)
 | .load t a => (match ρ a with
   | some (.func (.yield _) ⟨els⟩ ⟨[.int .i64 i, .int .i64 j]⟩) => ldat E t els i.toNat j.toNat
   | _ => none)
 | .slice t x lo hi mx => (match ρ x with
   | some (.func (.yield sz) ⟨els⟩ ⟨[]⟩) => (match mx, optA ρ lo, optA ρ hi with
     | none, some l, some h => (match und E t, bnds els.length els.length l h none with
       | some (.slice e), some (a, b, _) => (match E.ti e with
         | some ie => bif Nat.beq ie.size sz then some (.func (.yield sz) ⟨(els.take b).drop a⟩ ⟨[]⟩) else none
         | none => none)
       | _, _ => none)
     | _, _, _ => none)
   | _ => none)
 | .call c => (match c.callee with
   | .builtin .len => (match c.args.toList, c.argTypes.toList with
     | x :: _, t :: _ => (match ρ x with
       | some (.func (.yield _) ⟨els⟩ ⟨[]⟩) => (match und E t with | some (.slice _) => some (.int .i64 els.length) | _ => none)
       | _ => none)
     | _, _ => none)
   | _ => none)
 | _ => none
theorem symQ_ok {E : Env} (ok : E.Ok) {σ : Sig} {A : AH} {w : World} (R : Rel E.P σ A w) {ρ : Operand → Option Value} {ρ' : Operand → Value} (hρ : OpR σ ρ ρ') {o : Oper} {v : Value}
 (h : symQ E ρ o.op = some v) : ∃ v', (execOp ρ' o).run E.P w = .ok (.value v') w ∧ VR σ v v' := by
 unfold symQ at h
 unfold execOp
 split at h
 · rename_i op t x y yt hop
   rw [hop]
   split at h
   · rename_i k a ha
     split at h
     · rename_i k' b hb
       have e1 : ρ' x = .int k a := by have := hρ x _ ha; generalize ρ' x = z at this; cases this; rfl
       have e2 : ρ' y = .int k' b := by have := hρ y _ hb; generalize ρ' y = z at this; cases this; rfl
       obtain ⟨g1, g2⟩ := symBin_ok (P := E.P) (t := t) (x := x) (y := y) (w := w) h
       refine ⟨v, ?_, scal_refl g2 σ⟩
       simp only [e1, e2, Sem.run_bind] at g1 ⊢
       rw [g1]; rfl
     · cases h
   · rename_i xs ha
     split at h
     · rename_i ys hb
       have e1 : ∃ xs', ρ' x = .agg ⟨xs'⟩ ∧ VRs σ xs xs' := by have := hρ x _ ha; generalize ρ' x = z at this; cases this with | agg h => exact ⟨_, rfl, h⟩
       have e2 : ∃ ys', ρ' y = .agg ⟨ys'⟩ ∧ VRs σ ys ys' := by have := hρ y _ hb; generalize ρ' y = z at this; cases this with | agg h => exact ⟨_, rfl, h⟩
       obtain ⟨xs', e1, v1⟩ := e1
       obtain ⟨ys', e2, v2⟩ := e2
       obtain ⟨g1, g2⟩ := eqAgg_ok ok v1 v2 (x := x) (y := y) (w := w) h
       refine ⟨v, ?_, scal_refl g2 σ⟩
       simp only [e1, e2, Sem.run_bind] at g1 ⊢
       rw [g1]; rfl
     · cases h
   · cases h
 · rename_i s d x hop
   rw [hop]
   split at h
   · rename_i k0 n hn
     have e1 : ρ' x = .int k0 n := by have := hρ x _ hn; generalize ρ' x = z at this; cases this; rfl
     split at h
     · rename_i ds k hs hd
       simp only [Option.some.injEq] at h
       subst h
       exact ⟨_, by simp [e1, convert, run_und ok hs, run_und ok hd, Conv.intToInt], .int _ _⟩
     · cases h
   · cases h
 · rename_i t x i hop
   rw [hop]
   split at h
   · rename_i sz els hx
     split at h
     · rename_i k n e hi hu
       have e2 : ρ' i = .int k n := by have := hρ i _ hi; generalize ρ' i = z at this; cases this; rfl
       split at h
       · rename_i ie hie
         cases hb : (Nat.beq ie.size sz && Nat.blt 0 sz) && (decide (0 ≤ n) && decide (n < (els.length : Int))) with
         | false => rw [hb] at h; simp at h
         | true =>
           rw [hb] at h
           simp only [cond_true, Option.some.injEq] at h
           subst h
           simp only [Bool.and_eq_true, decide_eq_true_eq, Nat.beq_eq, Nat.blt_eq] at hb
           obtain ⟨⟨rfl, hpos⟩, h0, h1⟩ := hb
           have hv := hρ x _ hx
           generalize hy : ρ' x = y at hv
           cases hv with
           | func fn hf => simp [Fn.still] at hf
           | dat hro hsz hk hc =>
             refine ⟨_, ?_, .datP hro hsz (i := n.toNat) (by omega) hpos hc⟩
             simp [hy, e2, Instr.indexAt, asIntOf, run_und ok hu, Instr.sureAddr, h0, h1, run_size ok hie, add_none]
           | datN => simp at h1; omega
           | datE => simp at h1; omega
       · cases h
     · cases h
   · cases h
 · rename_i t x f hop
   rw [hop]
   split at h
   · rename_i sz els i j hx
     split at h
     · rename_i fs hu
       split at h
       · rename_i fd hf
         rw [nth_eq] at hf
         split at h
         · rename_i ti hti
           cases hb : Nat.beq ti.size 0 || !Nat.blt (j.toNat + fd.offset) sz with
           | true => rw [hb] at h; simp at h
           | false =>
             rw [hb] at h
             simp only [cond_false, Option.some.injEq] at h
             subst h
             simp only [Bool.or_eq_false_iff, Bool.not_eq_false', Nat.blt_eq] at hb
             obtain ⟨hz, hlt⟩ := hb
             have hz' := beq_false_ne hz
             have hf' : fs[f]? = some fd := by simpa using hf
             have hv := hρ x _ hx
             generalize hy : ρ' x = y at hv
             cases hv with
             | func fn hf => simp [Fn.still] at hf
             | @datP b o _ i j _ _ _ _ hro hsz hi hj hc =>
               simp only [Int.toNat_natCast] at hlt ⊢
               refine ⟨_, ?_, .datP hro hsz hi hlt hc⟩
               simp [hy, Instr.fieldAt, run_und ok hu, hf', Instr.sureAddr, fieldPlace, run_size ok hti, hz', add_none, Nat.add_assoc]
         · cases h
       · cases h
     · cases h
   · cases h
 · rename_i t a hop
   rw [hop]
   split at h
   · rename_i sz els i j hx
     have hv := hρ a _ hx
     generalize hy : ρ' a = y at hv
     cases hv with
     | func fn hf => simp [Fn.still] at hf
     | datP hro hsz hi hj hc =>
       simp only [Int.toNat_natCast] at h
       obtain ⟨v', g1, g2⟩ := ldat_ok ok R hro hsz hc h
       exact ⟨v', by simp [hy, g1], g2⟩
   · cases h
 · rename_i t x lo hi mx hop
   rw [hop]
   split at h
   · rename_i sz els hx
     split at h
     · rename_i l hh hl hhh
       split at h
       · rename_i e a b m hu hb
         split at h
         · rename_i ie hie
           cases hs : Nat.beq ie.size sz with
           | false => rw [hs] at h; simp at h
           | true =>
             rw [hs] at h
             simp only [cond_true, Option.some.injEq] at h
             subst h
             obtain rfl := Nat.eq_of_beq_eq_true hs
             have hv := hρ x _ hx
             simp only [opt_ok hρ hl, opt_ok hρ hhh, Option.map_none, Sem.run_bind]
             generalize ρ' x = y at hv ⊢
             cases hv with
             | func fn hf => simp [Fn.still] at hf
             | @dat b0 o k _ _ _ c _ hro hsz hk hc =>
               obtain ⟨hrun, h1, h2, h3, h4, _⟩ := bnds_ok (P := E.P) (w := w) (b := true) hb hk
               simp only [Option.isSome_none, Bool.false_eq_true, if_false] at hrun
               have hm := h4 rfl
               have hrun2 : (Instr.sliceAt t (.slice (some ⟨b0, o, none⟩) els.length k) l hh none).run E.P w = .ok (.slice (some (if k = a then ⟨b0, o, none⟩ else (⟨b0, o, none⟩ : Addr).add (a * ie.size))) (b - a) (k - a)) w := by
                simp only [Instr.sliceAt, Instr.slice, Sem.run_bind, run_und ok hu, Result.andThen_ok, hrun, run_size ok hie, Sem.run_pure, Option.map_some]
                split <;> rfl
               refine ⟨_, by rw [hrun2]; rfl, ?_⟩
               have hlen : ((els.take b).drop a).length = b - a := by simp; omega
               by_cases hka : k = a
               · have : (els.take b).drop a = [] := by apply List.eq_nil_of_length_eq_zero; omega
                 rw [this, show b - a = 0 by omega]
                 exact .datE _ _ _
               · rw [if_neg hka, add_none, ← hlen]
                 refine .dat hro (fun x hx => hsz x (List.mem_of_mem_take (List.mem_of_mem_drop hx))) (by omega) ?_
                 have hv := (hc.take (b * ie.size)).drop (a * ie.size)
                 rw [cellsL_take b hsz, cellsL_drop a (fun x hx => hsz x (List.mem_of_mem_take hx))] at hv
                 have e : List.drop (a * ie.size) (List.take (b * ie.size) (List.take (els.length * ie.size) (List.drop o c.toList))) = List.take (((els.take b).drop a).length * ie.size) (List.drop (o + a * ie.size) c.toList) := by
                  rw [List.take_take, Nat.min_eq_left (Nat.mul_le_mul_right _ (by omega)), List.drop_take, List.drop_drop, hlen, Nat.sub_mul]
                 rw [e] at hv
                 exact hv
             | datN =>
               obtain ⟨hrun, h1, h2, h3, h4, _⟩ := bnds_ok (P := E.P) (w := w) (b := true) (cp := 0) hb (Nat.le_refl _)
               simp only [Option.isSome_none, Bool.false_eq_true, if_false] at hrun
               have hb0 : b = 0 := by simp at h3; omega
               have ha0 : a = 0 := by omega
               subst hb0; subst ha0
               refine ⟨.slice none 0 0, ?_, by simpa using VR.datN _⟩
               simp only [List.length_nil] at hrun
               simp [Instr.sliceAt, Instr.slice, run_und ok hu, hrun, run_size ok hie]
             | datE _ ad k =>
               obtain ⟨hrun, h1, h2, h3, h4, _⟩ := bnds_ok (P := E.P) (w := w) (b := true) (cp := k) hb (Nat.zero_le _)
               simp only [Option.isSome_none, Bool.false_eq_true, if_false] at hrun
               have hb0 : b = 0 := by simp at h3; omega
               have ha0 : a = 0 := by omega
               subst hb0; subst ha0
               simp only [List.length_nil] at hrun
               have hrun2 : (Instr.sliceAt t (.slice (some ad) 0 k) l hh none).run E.P w = .ok (.slice (some (if k = 0 then ad else ad.add (0 * ie.size))) (0 - 0) (k - 0)) w := by
                simp only [Instr.sliceAt, Instr.slice, Sem.run_bind, run_und ok hu, Result.andThen_ok, hrun, run_size ok hie, Sem.run_pure, Option.map_some]
                split <;> rfl
               exact ⟨_, by rw [hrun2]; rfl, by simpa using VR.datE _ _ _⟩
         · cases h
       · cases h
     · cases h
   · cases h
 · rename_i c hop
   rw [hop]
   split at h
   · rename_i hb
     split at h
     · rename_i x r t ts hxa hta
       split at h
       · rename_i sz els hx
         split at h
         · rename_i e hu
           simp only [Option.some.injEq] at h
           subst h
           have hv := hρ x _ hx
           have ha : (c.args.map ρ')[0]? = some (ρ' x) := by rw [Array.getElem?_map, ← Array.getElem?_toList, hxa]; rfl
           have ht : c.argTypes[0]? = some t := by rw [← Array.getElem?_toList, hta]; rfl
           refine ⟨.int .i64 els.length, ?_, .int _ _⟩
           generalize ρ' x = y at hv ha
           have key : ∃ ad k, y = .slice ad els.length k := by
            cases hv with
            | func fn hf => simp [Fn.still] at hf
            | dat => exact ⟨_, _, rfl⟩
            | datN => exact ⟨_, _, rfl⟩
            | datE => exact ⟨_, _, rfl⟩
           obtain ⟨ad, k, rfl⟩ := key
           have hlen : (Builtin.len_ c.argTypes o.type (c.args.map ρ')).run E.P w = .ok (.int .i64 els.length) w := by
            unfold Builtin.len_
            rw [ha, ht]
            simp [run_und ok hu, goInt]
           simp only [resolve, hb, Sem.run_bind, Sem.run_pure, Result.andThen_ok, invoke, builtin, hlen]
         · cases h
       · cases h
     · cases h
   · cases h
 · cases h
def isG (m : Nat) : Bool := Nat.ble (unk + 3) m
def gLo (sz o : Nat) : Nat := bif Nat.beq sz 1 then o else o / sz
def gOff (sz o a : Nat) : Nat := bif Nat.beq sz 1 then a + o else o + a * sz
def gIdx (sz o i : Nat) : Nat := bif Nat.beq sz 1 then i + o else i + o / sz
def gPtr (sz B i j : Nat) : Value := .func (.yield sz) ⟨[.pointer (some ⟨B, 0, none⟩)]⟩ ⟨[.int .i64 (i : Nat), .int .i64 (j : Nat), .bool true]⟩
theorem gLo_eq {sz lo : Nat} (h : 0 < sz) : gLo sz (lo * sz) = lo := by
 unfold gLo
 cases hb : Nat.beq sz 1 with
 | true => have := Nat.eq_of_beq_eq_true hb; subst this; simp
 | false => simp only [cond_false]; exact Nat.mul_div_cancel _ h
theorem gOff_eq (sz o a : Nat) : gOff sz o a = o + a * sz := by
 unfold gOff
 cases hb : Nat.beq sz 1 with
 | true => have := Nat.eq_of_beq_eq_true hb; subst this; simp; omega
 | false => rfl
theorem gIdx_eq {sz lo i : Nat} (h : 0 < sz) : gIdx sz (lo * sz) i = i + lo := by
 unfold gIdx
 cases hb : Nat.beq sz 1 with
 | true => have := Nat.eq_of_beq_eq_true hb; subst this; simp
 | false => simp only [cond_false]; rw [Nat.mul_div_cancel _ h]
theorem isG_iff {m : Nat} : isG m = true ↔ unk + 3 ≤ m := by unfold isG; rw [Nat.ble_eq]
theorem gs_cases {σ : Sig} {B o n m : Nat} {y : Value} (h : VR σ (.slice (some ⟨B, o, none⟩) n m) y) (hg : isG m = true) :
 (n = 0 ∧ ∃ a, y = .slice a 0 0) ∨ ∃ b d c lo k, σ B = some (b, d, c) ∧ y = .slice (some ⟨b, d + o, none⟩) n k ∧ n ≤ k ∧ lo + k ≤ c ∧ o = lo * gsz m := by
 rw [isG_iff] at hg
 generalize hm0 : m = m0 at h
 cases h with
 | slice i n k hσ hk => omega
 | sliceU n hσ hn => omega
 | sliceV i n k hσ hn => omega
 | sliceE a a' k => omega
 | gs0 B o m a hm => exact .inl ⟨rfl, a, rfl⟩
 | gs lo o n k m hσ hn hc ho hm =>
   subst hm0
   exact .inr ⟨_, _, _, lo, k, hσ, rfl, hn, hc, ho⟩
theorem VR.gsMk {σ : Sig} {B b d c lo n k m : Nat} (h : σ B = some (b, d, c)) (hg : isG m = true) (hn : n ≤ k) (hc : lo + k ≤ c) : VR σ (.slice (some ⟨B, lo * gsz m, none⟩) n m) (.slice (some ⟨b, d + lo * gsz m, none⟩) n k) :=
 .gs lo _ n k m h hn hc rfl (isG_iff.1 hg)
theorem VR.gs0Mk {σ : Sig} (B o m : Nat) (a : Option Addr) (hg : isG m = true) : VR σ (.slice (some ⟨B, o, none⟩) 0 m) (.slice a 0 0) :=
 .gs0 B o m a (isG_iff.1 hg)
theorem cellsL_at {sz : Nat} {els : List Value} {i : Nat} {x : Value} (h : ∀ x ∈ els, x.cells.size = sz) (hx : els[i]? = some x) (j : Nat) (hj : j < sz) : (cellsL els)[i * sz + j]? = x.cells.toList[j]? := by
 rw [← cellsL_get h hx, List.getElem?_take, if_pos hj, List.getElem?_drop]
theorem gro_cells {P : Program} {σ : Sig} {w : World} {b d c : Nat} {els tl : List Value} {e : TypeId} (h : OR P σ w.heap[b]? d c (.gro els tl e)) {i : Nat} {x : Value} (hx : (els ++ tl)[i]? = some x) :
 ∃ l', VRs σ x.cells.toList l' ∧ ∀ (j : Nat) v', l'[j]? = some v' → w.cell? ⟨b, d + i * P.cellsOf e + j, none⟩ = some v' := by
 obtain ⟨c', lo, hi, h1, h2, h3, h4, h5, h6⟩ := h
 generalize hsz : P.cellsOf e = sz at *
 have hi' : i < (els ++ tl).length := (List.getElem?_eq_some_iff.1 hx).1
 have hxs : x.cells.toList.length = sz := by simpa using h4 x (List.mem_of_getElem? hx)
 have hmul : (i + 1) * sz ≤ c * sz := Nat.mul_le_mul_right _ (by omega)
 rw [Nat.succ_mul] at hmul
 have hlen : ((c'.toList.drop (d + i * sz)).take sz).length = sz := by simp; omega
 refine ⟨(c'.toList.drop (d + i * sz)).take sz, VRs.of_get (by rw [hlen, hxs]) fun j v hv => ?_, fun j v' hv => ?_⟩
 · have hj : j < sz := by rw [← hxs]; exact (List.getElem?_eq_some_iff.1 hv).1
   obtain ⟨v', g1, g2⟩ := h3 (i * sz + j) v (by rw [cellsL_at h4 hx j hj]; exact hv)
   refine ⟨v', ?_, g2⟩
   rw [List.getElem?_take, if_pos hj, List.getElem?_drop, Nat.add_assoc]
   simpa using g1
 · rw [List.getElem?_take] at hv
   split at hv
   · rw [List.getElem?_drop] at hv
     have : c'[d + i * sz + j]? = some v' := by simpa using hv
     simp [World.cell?, h1, this]
   · cases hv
theorem ldat_gen {E : Env} (ok : E.Ok) {σ : Sig} {w : World} {b base : Nat} {els : List Value} {t : TypeId} {i j : Nat} {v x : Value} (hx : nth els i = some x) {l' : List Value} (hl : VRs σ x.cells.toList l') (hcell : ∀ (m : Nat) v', l'[m]? = some v' → w.cell? ⟨b, base + m, none⟩ = some v') (h : ldat E t els i j = some v) :
 ∃ v', (Instr.loadAt t (.pointer (some ⟨b, base + j, none⟩))).run E.P w = .ok v' w ∧ VR σ v v' := by
 unfold ldat at h
 simp only [hx] at h
 split at h
 · rename_i d hu
   cases hag : isAggD d with
   | true =>
     simp only [hag, cond_true] at h
     split at h
     · rename_i ti hti
       cases hlen : Nat.beq ((x.cells.toList.drop j).take ti.size).length ti.size with
       | false => rw [hlen] at h; simp at h
       | true =>
         rw [hlen] at h
         simp only [cond_true, Option.some.injEq] at h
         subst h
         have hlen := Nat.eq_of_beq_eq_true hlen
         have hvs := (hl.drop j).take ti.size
         refine ⟨.agg ⟨(l'.drop j).take ti.size⟩, ?_, .agg hvs⟩
         have hn : ((l'.drop j).take ti.size).length = ti.size := by rw [hvs.length, hlen]
         have hrun := run_loadCells_list (P := E.P) w ⟨b, base + j, none⟩ ((l'.drop j).take ti.size) (fun m v hv => by
          rw [add_none]
          rw [List.getElem?_take] at hv
          split at hv
          · rw [List.getElem?_drop] at hv
            rw [show base + j + m = base + (j + m) by omega]
            exact hcell _ _ hv
          · cases hv)
         rw [hn] at hrun
         simp [Instr.loadAt, Instr.sureAddr, loadVar, run_agg ok hu, hag, run_size ok hti, hrun]
     · cases h
   | false =>
     simp only [hag, cond_false] at h
     rw [nth_eq] at h
     obtain ⟨v', h1, h2⟩ := hl.get h
     refine ⟨v', ?_, h2⟩
     have := hcell j v' h1
     simp [Instr.loadAt, Instr.sureAddr, loadVar, run_agg ok hu, hag, this]
 · cases h
def groQ (E : Env) (A : AH) (ρ : Operand → Option Value) (op : Op) : Option Value :=
 match op with
 | .indexAddr t x i => (match ρ x with
   | some (.slice (some ⟨B, o, none⟩) n m) => bif isG m then (match ρ i, und E t with
     | some (.int _ k), some (.slice e) => (match E.ti e with
       | some ie => bif (Nat.beq ie.size (gsz m) && Nat.blt 0 (gsz m)) && (decide (0 ≤ k) && decide (k < n)) then some (gPtr (gsz m) B (gIdx (gsz m) o k.toNat) 0) else none
       | none => none)
     | _, _ => none) else none
   | some (.func (.yield sz) ⟨[.pointer (some ⟨B, 0, none⟩)]⟩ ⟨[.int .i64 a, .int .i64 j, .bool true]⟩) => (match ρ i, und E t with
     | some (.int _ k), some (.array len el) => (match E.ti el with
       | some ie => bif (decide (0 ≤ k) && decide (k < len)) && Nat.blt (j.toNat + k.toNat * ie.size) sz then some (gPtr sz B a.toNat (j.toNat + k.toNat * ie.size)) else none
       | none => none)
     | _, _ => none)
   | _ => none)
 | .fieldAddr t x f => (match ρ x with
   | some (.func (.yield sz) ⟨[.pointer (some ⟨B, 0, none⟩)]⟩ ⟨[.int .i64 i, .int .i64 j, .bool true]⟩) => (match und E t with
     | some (.struct fs) => (match nth fs.toList f with
       | some fd => (match E.ti fd.type with
         | some ti => bif Nat.beq ti.size 0 || !Nat.blt (j.toNat + fd.offset) sz then none else some (gPtr sz B i.toNat (j.toNat + fd.offset))
         | none => none)
       | none => none)
     | _ => none)
   | _ => none)
 | .load t a => (match ρ a with
   | some (.func (.yield sz) ⟨[.pointer (some ⟨B, 0, none⟩)]⟩ ⟨[.int .i64 i, .int .i64 j, .bool true]⟩) => (match A.t.get B with
     | some (.gro els tl e) => (match E.ti e with
       | some ie => bif Nat.beq ie.size sz then ldat E t (glue els tl) i.toNat j.toNat else none
       | none => none)
     | _ => none)
   | _ => none)
 | .slice t x lo hi mx => (match ρ x with
   | some (.slice (some ⟨B, o, none⟩) n m) => bif isG m then (match optA ρ lo, optA ρ hi, optA ρ mx with
     | some l, some h, some z => (match und E t, bnds n n l h z with
       | some (.slice e), some (a, b, _) => (match E.ti e with
         | some ie => bif Nat.beq ie.size (gsz m) && Nat.blt 0 (gsz m) then some (.slice (some ⟨B, gOff (gsz m) o a, none⟩) (b - a) m) else none
         | none => none)
       | _, _ => none)
     | _, _, _ => none) else none
   | _ => none)
 | _ => none
theorem groQ_ok {E : Env} (ok : E.Ok) {σ : Sig} {A : AH} {w : World} (R : Rel E.P σ A w) {ρ : Operand → Option Value} {ρ' : Operand → Value} (hρ : OpR σ ρ ρ') {o : Oper} {v : Value}
 (h : groQ E A ρ o.op = some v) : ∃ v', (execOp ρ' o).run E.P w = .ok (.value v') w ∧ VR σ v v' := by
 unfold groQ at h
 unfold execOp
 split at h
 · rename_i t x i hop
   rw [hop]
   split at h
   · rename_i B o n m hx
     cases hg : isG m with
     | false => rw [hg] at h; cases h
     | true =>
     rw [hg] at h
     simp only [cond_true] at h
     split at h
     · rename_i kk k e hi hu
       have e2 : ρ' i = .int kk k := by have := hρ i _ hi; generalize ρ' i = z at this; cases this; rfl
       split at h
       · rename_i ie hie
         cases hb : (Nat.beq ie.size (gsz m) && Nat.blt 0 (gsz m)) && (decide (0 ≤ k) && decide (k < (n : Int))) with
         | false => rw [hb] at h; simp at h
         | true =>
           rw [hb] at h
           simp only [cond_true, Option.some.injEq] at h
           subst h
           simp only [Bool.and_eq_true, decide_eq_true_eq, Nat.beq_eq, Nat.blt_eq] at hb
           obtain ⟨⟨hsz, hpos⟩, h0, h1⟩ := hb
           have hv := hρ x _ hx
           generalize hy : ρ' x = y at hv
           rcases gs_cases hv hg with ⟨en, a, ey⟩ | ⟨b, d, c, lo, kq, hσ, ey, hn, hc, eo⟩
           · subst en; simp at h1; omega
           · subst ey
             rw [show gIdx (gsz m) o k.toNat = k.toNat + lo by rw [eo]; exact gIdx_eq hpos]
             rw [eo] at hy
             refine ⟨.pointer (some ⟨b, d + (k.toNat + lo) * gsz m + 0, none⟩), ?_, .gp (gsz m) (k.toNat + lo) 0 hσ⟩
             have ea : d + lo * gsz m + k.toNat * ie.size = d + (k.toNat + lo) * gsz m + 0 := by rw [hsz, Nat.add_mul]; omega
             simp [hy, e2, Instr.indexAt, asIntOf, run_und ok hu, Instr.sureAddr, h0, h1, run_size ok hie, add_none]
             simpa using ea
       · cases h
     · cases h
   · rename_i sz B a j hx
     split at h
     · rename_i kk k len el hi hu
       have e2 : ρ' i = .int kk k := by have := hρ i _ hi; generalize ρ' i = z at this; cases this; rfl
       split at h
       · rename_i ie hie
         cases hb : (decide (0 ≤ k) && decide (k < (len : Int))) && Nat.blt (j.toNat + k.toNat * ie.size) sz with
         | false => rw [hb] at h; simp at h
         | true =>
           rw [hb] at h
           simp only [cond_true, Option.some.injEq] at h
           subst h
           simp only [Bool.and_eq_true, decide_eq_true_eq] at hb
           obtain ⟨⟨h0, h1⟩, _⟩ := hb
           have hv := hρ x _ hx
           generalize hy : ρ' x = y at hv
           cases hv with
           | func fn hf => simp [Fn.still] at hf
           | @gp _ b d c _ a j hσ =>
             refine ⟨_, ?_, .gp sz a (j + k.toNat * ie.size) hσ⟩
             simp [hy, e2, Instr.indexAt, asIntOf, run_und ok hu, Instr.sureAddr, h0, h1, run_size ok hie, add_none, Nat.add_assoc]
       · cases h
     · cases h
   · cases h
 · rename_i t x f hop
   rw [hop]
   split at h
   · rename_i sz B i j hx
     split at h
     · rename_i fs hu
       split at h
       · rename_i fd hf
         rw [nth_eq] at hf
         split at h
         · rename_i ti hti
           cases hb : Nat.beq ti.size 0 || !Nat.blt (j.toNat + fd.offset) sz with
           | true => rw [hb] at h; simp at h
           | false =>
             rw [hb] at h
             simp only [cond_false, Option.some.injEq] at h
             subst h
             simp only [Bool.or_eq_false_iff, Bool.not_eq_false', Nat.blt_eq] at hb
             obtain ⟨hz, hlt⟩ := hb
             have hz' := beq_false_ne hz
             have hf' : fs[f]? = some fd := by simpa using hf
             have hv := hρ x _ hx
             generalize hy : ρ' x = y at hv
             cases hv with
             | func fn hf => simp [Fn.still] at hf
             | @gp _ b d c _ i j hσ =>
               simp only [Int.toNat_natCast] at hlt ⊢
               refine ⟨_, ?_, .gp sz i (j + fd.offset) hσ⟩
               simp [hy, Instr.fieldAt, run_und ok hu, hf', Instr.sureAddr, fieldPlace, run_size ok hti, hz', add_none, Nat.add_assoc]
         · cases h
       · cases h
     · cases h
   · cases h
 · rename_i t a hop
   rw [hop]
   split at h
   · rename_i sz B i j hx
     split at h
     · rename_i els tl e hB
       rw [glue_eq] at h
       split at h
       · rename_i ie hie
         cases hb : Nat.beq ie.size sz with
         | false => rw [hb] at h; cases h
         | true =>
           rw [hb] at h
           obtain rfl := Nat.eq_of_beq_eq_true hb
           simp only [cond_true] at h
           have hv := hρ a _ hx
           generalize hy : ρ' a = y at hv
           cases hv with
           | func fn hf => simp [Fn.still] at hf
           | @gp _ b d c _ i j hσ =>
             simp only [Int.toNat_natCast] at h
             have hor := R.at hB rfl hσ
             have hco : E.P.cellsOf e = ie.size := by simp [Program.cellsOf, ok.ti _ _ hie]
             have hnth : ∃ x, nth (els ++ tl) i = some x := by
              unfold ldat at h
              split at h
              · exact ⟨_, ‹_›⟩
              · cases h
             obtain ⟨x, hnx⟩ := hnth
             have hnx' := hnx
             rw [nth_eq] at hnx'
             obtain ⟨l', hl, hcell⟩ := gro_cells hor hnx'
             rw [hco] at hcell
             obtain ⟨v', g1, g2⟩ := ldat_gen ok hnx hl hcell h
             exact ⟨v', by simp [hy, g1], g2⟩
       · cases h
     · cases h
   · cases h
 · rename_i t x lo hi mx hop
   rw [hop]
   split at h
   · rename_i B o n m hx
     cases hg : isG m with
     | false => rw [hg] at h; cases h
     | true =>
     rw [hg] at h
     simp only [cond_true] at h
     split at h
     · rename_i l hh zz hl hhh hzz
       split at h
       · rename_i e a b mm hu hb
         split at h
         · rename_i ie hie
           cases hs : Nat.beq ie.size (gsz m) && Nat.blt 0 (gsz m) with
           | false => rw [hs] at h; simp at h
           | true =>
             rw [hs] at h
             simp only [cond_true, Option.some.injEq] at h
             subst h
             simp only [Bool.and_eq_true, Nat.beq_eq, Nat.blt_eq] at hs
             obtain ⟨hsz, hpos⟩ := hs
             have hv := hρ x _ hx
             simp only [opt_ok hρ hl, opt_ok hρ hhh, opt_ok hρ hzz, Sem.run_bind]
             generalize ρ' x = y at hv ⊢
             rcases gs_cases hv hg with ⟨en, ad, ey⟩ | ⟨b0, d, c, q, k, hσ, ey, hn, hc, eo⟩
             · subst en; subst ey
               obtain ⟨hrun, h1, h2, h3, h4, _⟩ := bnds_ok (P := E.P) (w := w) (b := true) (cp := 0) hb (Nat.le_refl _)
               have hb0 : b = 0 := by omega
               have ha0 : a = 0 := by omega
               have hm0 : mm = 0 := by omega
               subst hb0; subst ha0; subst hm0
               simp only [ite_self] at hrun
               refine ⟨.slice ad 0 0, ?_, by simpa using VR.gs0Mk _ _ m ad hg⟩
               cases ad with
               | none => simp [Instr.sliceAt, Instr.slice, run_und ok hu, hrun, run_size ok hie]
               | some ad =>
                 have hrun2 : (Instr.sliceAt t (.slice (some ad) 0 0) l hh zz).run E.P w = .ok (.slice (some (if 0 = 0 then ad else ad.add (0 * ie.size))) (0 - 0) (0 - 0)) w := by
                  simp only [Instr.sliceAt, Instr.slice, Sem.run_bind, run_und ok hu, Result.andThen_ok, hrun, run_size ok hie, Sem.run_pure, Option.map_some]
                  rfl
                 rw [hrun2]; rfl
             · subst ey
               rw [eo]
               obtain ⟨hrun, h1, h2, h3, h4, _⟩ := bnds_ok (P := E.P) (w := w) (b := true) hb hn
               generalize hK : (if zz.isSome then mm else k) = K at hrun
               have hKk : mm ≤ K ∧ K ≤ k := by
                cases zz with
                | none => simp only [Option.isSome_none, Bool.false_eq_true, if_false] at hK; omega
                | some z => simp only [Option.isSome_some, if_true] at hK; omega
               have hrun2 : (Instr.sliceAt t (.slice (some ⟨b0, d + q * gsz m, none⟩) n k) l hh zz).run E.P w = .ok (.slice (some (if K = a then ⟨b0, d + q * gsz m, none⟩ else (⟨b0, d + q * gsz m, none⟩ : Addr).add (a * ie.size))) (b - a) (K - a)) w := by
                simp only [Instr.sliceAt, Instr.slice, Sem.run_bind, run_und ok hu, Result.andThen_ok, hrun, run_size ok hie, Sem.run_pure, Option.map_some]
                split <;> rfl
               refine ⟨_, by rw [hrun2]; rfl, ?_⟩
               by_cases hka : K = a
               · rw [if_pos hka, show b - a = 0 by omega, show K - a = 0 by omega]
                 exact VR.gs0Mk _ _ m _ hg
               · rw [if_neg hka, add_none, gOff_eq, hsz, show q * gsz m + a * gsz m = (q + a) * gsz m by rw [Nat.add_mul], show d + q * gsz m + a * gsz m = d + (q + a) * gsz m by rw [Nat.add_mul]; omega]
                 exact VR.gsMk hσ hg (by omega) (by omega)
         · cases h
       · cases h
     · cases h
   · cases h
 · cases h
theorem arr_cell {P : Program} {σ : Sig} {w : World} {b d c n : Nat} {els rest : List Value} {e : TypeId} (h : OR P σ w.heap[b]? d c (.arr els rest n e)) {i : Nat} {v : Value} (hv : (els ++ rest)[i]? = some v) :
 ∃ v', w.cell? ⟨b, d + i, none⟩ = some v' ∧ VR σ v v' := by
 obtain ⟨⟨c', lo, hi, h1, h2, h3, h4⟩, h5⟩ := h
 obtain ⟨v', g1, g2⟩ := h3 i v hv
 exact ⟨v', by simp [World.cell?, h1, g1], g2⟩
theorem cells_row {P : Program} {σ : Sig} {w : World} {b : Nat} : ∀ {l : List Value} (o : Nat), (∀ (j : Nat) v, l[j]? = some v → ∃ v', w.cell? ⟨b, o + j, none⟩ = some v' ∧ VR σ v v') →
 ∃ l', VRs σ l l' ∧ (∀ (j : Nat) v', l'[j]? = some v' → w.cell? ⟨b, o + j, none⟩ = some v')
 | [], o, _ => ⟨[], .nil, fun j v' h => by simp at h⟩
 | x :: l, o, hget => by
   obtain ⟨x', h1, h2⟩ := hget 0 x (by simp)
   obtain ⟨l', h3, h4⟩ := cells_row (P := P) (l := l) (o + 1) (fun j v hv => by
    obtain ⟨v', g1, g2⟩ := hget (j + 1) v (by simpa using hv)
    exact ⟨v', by rw [show o + 1 + j = o + (j + 1) by omega]; exact g1, g2⟩)
   refine ⟨x' :: l', .cons h2 h3, fun j v' hv => ?_⟩
   cases j with
   | zero => simp at hv; subst hv; simpa using h1
   | succ j => simp at hv; rw [show o + (j + 1) = o + 1 + j by omega]; exact h4 j v' hv
def arrQ (E : Env) (A : AH) (ρ : Operand → Option Value) (op : Op) : Option Value :=
 match op with
 | .indexAddr t x i => (match ρ x with
   | some (.pointer (some ⟨B, 0, none⟩)) => (match ρ i, und E t with
     | some (.int _ k), some (.array len el) => (match E.ti el with
       | some ie => bif (Nat.beq ie.size 1 && Nat.ble 64 len) && (decide (0 ≤ k) && decide (k < len)) then some (gPtr 1 B k.toNat 0) else none
       | none => none)
     | _, _ => none)
   | _ => none)
 | .load t a => (match ρ a with
   | some (.pointer (some ⟨B, o, none⟩)) => (match A.t.get B with
     | some (.arr els rest n e) => (match und E t with
       | some d => bif isAggD d then (match E.ti t with
        | some ti => bif Nat.beq o 0 && Nat.beq ti.size n then some (.agg ⟨els⟩) else none
        | none => none)
         else bif Nat.ble n o then nth rest (o - n) else none
       | none => none)
     | _ => none)
   | some (.func (.yield sz) ⟨[.pointer (some ⟨B, 0, none⟩)]⟩ ⟨[.int .i64 i, .int .i64 j, .bool true]⟩) => (match A.t.get B with
     | some (.arr els rest n e) => (match und E t with
       | some d => bif isAggD d || !(Nat.beq sz 1 && Nat.beq j.toNat 0) then none else nth els i.toNat
       | none => none)
     | some (.cells c e) => (match und E t with
       | some d => bif isAggD d || !(Nat.beq sz 1 && Nat.beq j.toNat 0) then none else nth c i.toNat
       | none => none)
     | _ => none)
   | _ => none)
 | _ => none
theorem arrQ_ok {E : Env} (ok : E.Ok) {σ : Sig} {A : AH} {w : World} (R : Rel E.P σ A w) {ρ : Operand → Option Value} {ρ' : Operand → Value} (hρ : OpR σ ρ ρ') {o : Oper} {v : Value}
 (h : arrQ E A ρ o.op = some v) : ∃ v', (execOp ρ' o).run E.P w = .ok (.value v') w ∧ VR σ v v' := by
 unfold arrQ at h
 unfold execOp
 split at h
 · rename_i t x i hop
   rw [hop]
   split at h
   · rename_i B hx
     split at h
     · rename_i kk k len el hi hu
       have e2 : ρ' i = .int kk k := by have := hρ i _ hi; generalize ρ' i = z at this; cases this; rfl
       split at h
       · rename_i ie hie
         cases hb : (Nat.beq ie.size 1 && Nat.ble 64 len) && (decide (0 ≤ k) && decide (k < (len : Int))) with
         | false => rw [hb] at h; simp at h
         | true =>
           rw [hb] at h
           simp only [cond_true, Option.some.injEq] at h
           subst h
           simp only [Bool.and_eq_true, decide_eq_true_eq, Nat.beq_eq] at hb
           obtain ⟨⟨hsz, _⟩, h0, h1⟩ := hb
           have hv := hρ x _ hx
           generalize hy : ρ' x = y at hv
           cases hv with
           | @ptr _ b d c i hσ =>
             refine ⟨.pointer (some ⟨b, d + k.toNat * 1 + 0, none⟩), ?_, .gp 1 k.toNat 0 hσ⟩
             simp [hy, e2, Instr.indexAt, asIntOf, run_und ok hu, Instr.sureAddr, h0, h1, run_size ok hie, add_none, hsz]
       · cases h
     · cases h
   · cases h
 · rename_i t a hop
   rw [hop]
   split at h
   · rename_i B o hx
     split at h
     · rename_i els rest n e hB
       have hv := hρ a _ hx
       generalize hy : ρ' a = y at hv
       cases hv with
       | @ptr _ b d c i hσ =>
         have hor := R.at hB rfl hσ
         obtain ⟨_, hlen⟩ := id hor
         split at h
         · rename_i dd hu
           cases hag : isAggD dd with
           | true =>
             simp only [hag, cond_true] at h
             split at h
             · rename_i ti hti
               cases hb : Nat.beq o 0 && Nat.beq ti.size n with
               | false => rw [hb] at h; simp at h
               | true =>
                 rw [hb] at h
                 simp only [cond_true, Option.some.injEq] at h
                 subst h
                 simp only [Bool.and_eq_true, Nat.beq_eq] at hb
                 obtain ⟨rfl, hn⟩ := hb
                 obtain ⟨l', g1, g2⟩ := cells_row (P := E.P) (σ := σ) (w := w) (b := b) (l := els) (d + 0) (fun j v hv => by
                  obtain ⟨v', q1, q2⟩ := arr_cell hor (i := j) (v := v) (by rw [List.getElem?_append_left (List.getElem?_eq_some_iff.1 hv).1]; exact hv)
                  exact ⟨v', by simpa using q1, q2⟩)
                 have hrun := run_loadCells_list (P := E.P) w ⟨b, d + 0, none⟩ l' (fun j v hv => by rw [add_none]; exact g2 j v hv)
                 have hl : l'.length = ti.size := by rw [g1.length, hlen, hn]
                 rw [hl] at hrun
                 refine ⟨.agg ⟨l'⟩, ?_, .agg g1⟩
                 have hrun' : (loadCells ⟨b, d, none⟩ ti.size).run E.P w = .ok l'.toArray w := by simpa using hrun
                 simp [hy, Instr.loadAt, Instr.sureAddr, loadVar, run_agg ok hu, hag, run_size ok hti, hrun']
             · cases h
           | false =>
             simp only [hag, cond_false] at h
             cases hb : Nat.ble n o with
             | false => rw [hb] at h; simp at h
             | true =>
               rw [hb] at h
               simp only [cond_true, nth_eq] at h
               rw [Nat.ble_eq] at hb
               obtain ⟨v', q1, q2⟩ := arr_cell hor (i := o) (v := v) (by rw [List.getElem?_append_right (by omega), hlen]; exact h)
               exact ⟨v', by simp [hy, Instr.loadAt, Instr.sureAddr, loadVar, run_agg ok hu, hag, q1], q2⟩
         · cases h
     · cases h
   · rename_i sz B i j hx
     split at h
     · rename_i els rest n e hB
       split at h
       · rename_i dd hu
         cases hb : isAggD dd || !(Nat.beq sz 1 && Nat.beq j.toNat 0) with
         | true => rw [hb] at h; simp at h
         | false =>
           rw [hb] at h
           simp only [cond_false, nth_eq] at h
           simp only [Bool.or_eq_false_iff, Bool.not_eq_false', Bool.and_eq_true, Nat.beq_eq] at hb
           obtain ⟨hag, rfl, hj⟩ := hb
           have hv := hρ a _ hx
           generalize hy : ρ' a = y at hv
           cases hv with
           | func fn hf => simp [Fn.still] at hf
           | @gp _ b d c _ i j hσ =>
             simp only [Int.toNat_natCast] at h hj
             subst hj
             have hor := R.at hB rfl hσ
             obtain ⟨v', q1, q2⟩ := arr_cell hor (i := i) (v := v) (by rw [List.getElem?_append_left (List.getElem?_eq_some_iff.1 h).1]; exact h)
             exact ⟨v', by simp [hy, Instr.loadAt, Instr.sureAddr, loadVar, run_agg ok hu, hag, q1], q2⟩
       · cases h
     · rename_i cs e hB
       split at h
       · rename_i dd hu
         cases hb : isAggD dd || !(Nat.beq sz 1 && Nat.beq j.toNat 0) with
         | true => rw [hb] at h; simp at h
         | false =>
           rw [hb] at h
           simp only [cond_false, nth_eq] at h
           simp only [Bool.or_eq_false_iff, Bool.not_eq_false', Bool.and_eq_true, Nat.beq_eq] at hb
           obtain ⟨hag, rfl, hj⟩ := hb
           have hv := hρ a _ hx
           generalize hy : ρ' a = y at hv
           cases hv with
           | func fn hf => simp [Fn.still] at hf
           | @gp _ b d c _ i j hσ =>
             simp only [Int.toNat_natCast] at h hj
             subst hj
             obtain ⟨b', d', k', v', q0, q1, q2⟩ := look_cell R (B := B) (i := i) (c := cs) (v := v) (by simp [look, hB]) h
             rw [hσ] at q0
             simp only [Option.some.injEq, Prod.mk.injEq] at q0
             obtain ⟨rfl, rfl, rfl⟩ := q0
             exact ⟨v', by simp [hy, Instr.loadAt, Instr.sureAddr, loadVar, run_agg ok hu, hag, q1], q2⟩
       · cases h
     · cases h
   · cases h
 · cases h
def idxB (E : Env) (t : TypeId) (x i : Value) : Option Value :=
 match x with
 | .func (.yield sz) ⟨els⟩ ⟨[.int .i64 a, .int .i64 b]⟩ => bif E.sym then none else (match i, und E t with
   | .int _ n, some (.array len e) => (match E.ti e with
     | some ie => bif (Nat.beq ie.size sz && (decide (0 ≤ n) && decide (n < (len : Int)))) && Nat.blt (a.toNat + n.toNat) els.length then some (.func (.yield sz) ⟨els⟩ ⟨[.int .i64 (a.toNat + n.toNat : Nat), .int .i64 b]⟩) else none
     | none => none)
   | _, _ => none)
 | _ => idxA E t x i
theorem idxB_ok {E : Env} (ok : E.Ok) {σ : Sig} {t : TypeId} {x x' i i' v : Value} (hx : VR σ x x') (hi : VR σ i i') (h : idxB E t x i = some v) (w : World) :
 ∃ v', (Instr.indexAt t x' i').run E.P w = .ok v' w ∧ VR σ v v' := by
 unfold idxB at h
 split at h
 · rename_i sz els a b
   cases hs : E.sym with
   | true => rw [hs] at h; simp at h
   | false =>
     rw [hs] at h
     simp only [cond_false] at h
     split at h
     · rename_i k n len e hu
       cases hi
       split at h
       · rename_i ie hie
         cases hb : (Nat.beq ie.size sz && (decide (0 ≤ n) && decide (n < (len : Int)))) && Nat.blt (a.toNat + n.toNat) els.length with
         | false => rw [hb] at h; simp at h
         | true =>
           rw [hb] at h
           simp only [cond_true, Option.some.injEq] at h
           subst h
           simp only [Bool.and_eq_true, decide_eq_true_eq, Nat.beq_eq, Nat.blt_eq] at hb
           obtain ⟨⟨rfl, h0, h1⟩, h2⟩ := hb
           cases hx with
           | func fn hf => simp [Fn.still] at hf
           | @datP b0 o _ a b _ _ _ _ hro hsz hi hj hc =>
             simp only [Int.toNat_natCast] at h2 ⊢
             refine ⟨_, ?_, .datP hro hsz h2 hj hc⟩
             simp [Instr.indexAt, asIntOf, run_und ok hu, Instr.sureAddr, h0, h1, run_size ok hie, add_none, Nat.add_mul]
             omega
       · cases h
     · cases h
 · exact idx_ok ok hx hi h w
def loadB (E : Env) (A : AH) (t : TypeId) (a : Value) : Option Value :=
 match a with
 | .func (.yield _) ⟨els⟩ ⟨[.int .i64 i, .int .i64 j]⟩ => bif E.sym then none else ldat E t els i.toNat j.toNat
 | _ => loadA E A t a
theorem loadB_ok {E : Env} (ok : E.Ok) {σ : Sig} {A : AH} {w : World} (R : Rel E.P σ A w) {t : TypeId} {a a' v : Value} (ha : VR σ a a') (h : loadB E A t a = some v) :
 ∃ v', (Instr.loadAt t a').run E.P w = .ok v' w ∧ VR σ v v' := by
 unfold loadB at h
 split at h
 · rename_i sz els i j
   cases hs : E.sym with
   | true => rw [hs] at h; simp at h
   | false =>
     rw [hs] at h
     simp only [cond_false] at h
     cases ha with
     | func fn hf => simp [Fn.still] at hf
     | datP hro hsz hi hj hc =>
       simp only [Int.toNat_natCast] at h
       exact ldat_ok ok R hro hsz hc h
 · exact load_ok ok R ha h
def nnil : Value → Bool
 | .pointer none | .nilIface | .nilFunc => false
 | .func (.method _) _ _ => false
 | _ => true
def quietB (E : Env) (A : AH) (ρ : Operand → Option Value) (b : Builtin) (c : Call) (ty : TypeId) : Option Value :=
 match b with
 | .len => (match c.args.toList, c.argTypes.toList with
   | x :: _, t :: _ => (match ρ x with | some v => lenA E A t v | none => none)
   | _, _ => none)
 | .max => (match mapO ρ c.args.toList with
   | some vs => bif vs.all scal then (match prun E.P (Builtin.max_ c.argTypes ty ⟨vs⟩) with | some v => bif flat v then some v else none | none => none) else none
   | none => none)
 | .min => (match mapO ρ c.args.toList with
   | some vs => bif vs.all scal then (match prun E.P (Builtin.min_ c.argTypes ty ⟨vs⟩) with | some v => bif flat v then some v else none | none => none) else none
   | none => none)
 | .unsafeSliceData => (match c.args.toList with
   | [x] => (match ρ x with
     | some (.slice none _ _) => some (.pointer none)
     | some (.slice (some ⟨B, i, none⟩) n k) => bif Nat.beq n 0 || Nat.beq k 0 then none else some (.pointer (some ⟨B, i, none⟩))
     | _ => none)
   | _ => none)
 | _ => none
def failA (E : Env) (asserted : TypeId) (cok : Bool) : Option Value :=
 bif cok then (match E.ti asserted with | some i => (match i.zero with | some z => bif flat z then some (.tuple ⟨[z, .bool false]⟩) else none | none => none) | none => none) else none
def holdA (v : Value) (cok : Bool) : Value := bif cok then .tuple ⟨[v, .bool true]⟩ else v
def assertA (E : Env) (x : Value) (asserted : TypeId) (cok : Bool) : Option Value :=
 match und E asserted with
 | some (.interface want) => (match x with
   | .iface t _ => (match E.ti t with | some i => bif (want.toList.filter fun p => !i.methods.any fun m => m.name == p.1 && m.sig == p.2).isEmpty then some (holdA x cok) else none | none => none)
   | .nilIface => failA E asserted cok
   | _ => none)
 | some _ => (match x with
   | .iface t v => bif Nat.beq t asserted then some (holdA v cok) else failA E asserted cok
   | .nilIface => failA E asserted cok
   | _ => none)
 | none => none
theorem assert_ok {E : Env} (ok : E.Ok) {σ : Sig} {x x' v : Value} {xt asserted : TypeId} {cok : Bool} (hx : VR σ x x') (h : assertA E x asserted cok = some v) (w : World) :
 ∃ v', (Instr.typeAssert x' xt asserted cok).run E.P w = .ok v' w ∧ VR σ v v' := by
 have hhold : ∀ {u u' : Value}, VR σ u u' → VR σ (holdA u cok) (if cok then .tuple #[u', .bool true] else u') := by
  intro u u' hu
  cases cok with
  | false => exact hu
  | true => exact .tuple (.cons hu (.cons (.bool _) .nil))
 have hfail : ∀ {u : Value}, failA E asserted cok = some u → cok = true ∧ ∃ z, (zeroValue asserted).run E.P w = .ok z w ∧ VR σ u (.tuple #[z, .bool false]) := by
  intro u hu
  unfold failA at hu
  cases cok with
  | false => simp at hu
  | true =>
    simp only [cond_true] at hu
    split at hu
    · rename_i i hi
      split at hu
      · rename_i z hz
        cases hf : flat z with
        | false => rw [hf] at hu; simp at hu
        | true =>
          rw [hf] at hu
          simp only [cond_true, Option.some.injEq] at hu
          subst hu
          exact ⟨rfl, z, run_zero ok hi hz w, .tuple (.cons (flat_refl hf σ) (.cons (.bool _) .nil))⟩
      · cases hu
    · cases hu
 unfold assertA at h
 split at h
 · rename_i want hu
   split at h
   · rename_i t u
     split at h
     · rename_i i hi
       cases hm : (want.toList.filter fun p => !i.methods.any fun m => m.name == p.1 && m.sig == p.2).isEmpty with
       | false => rw [hm] at h; simp at h
       | true =>
         rw [hm] at h
         simp only [cond_true, Option.some.injEq] at h
         subst h
         cases hx with
         | iface _ hx =>
         refine ⟨_, ?_, hhold (.iface t hx)⟩
         have hmm : Instr.missingMethod want i.methods = none := by
          unfold Instr.missingMethod
          rw [List.isEmpty_iff] at hm
          simp [hm, Instr.least]
         simp [Instr.typeAssert, run_und ok hu, run_ti ok hi, hmm]
     · cases h
   · obtain ⟨rfl, z, hz, hv⟩ := hfail h
     cases hx
     exact ⟨_, by simp [Instr.typeAssert, run_und ok hu, hz], hv⟩
   · cases h
 · rename_i d hnd hu
   split at h
   · rename_i t u
     cases hx with
     | iface _ hx =>
     rename_i u'
     cases ht : Nat.beq t asserted with
     | true =>
       rw [ht] at h
       simp only [cond_true, Option.some.injEq] at h
       subst h
       obtain rfl := Nat.eq_of_beq_eq_true ht
       refine ⟨_, ?_, hhold hx⟩
       simp only [Instr.typeAssert, Sem.run_bind, run_und ok hu, Result.andThen_ok]
       cases d <;> first | (exact absurd hu (hnd _)) | simp
     | false =>
       rw [ht] at h
       simp only [cond_false] at h
       have hne : t ≠ asserted := beq_false_ne ht
       obtain ⟨rfl, z, hz, hv⟩ := hfail h
       refine ⟨_, ?_, hv⟩
       simp only [Instr.typeAssert, Sem.run_bind, run_und ok hu, Result.andThen_ok]
       cases d <;> first | (exact absurd hu (hnd _)) | simp [hne, hz]
   · obtain ⟨rfl, z, hz, hv⟩ := hfail h
     cases hx
     refine ⟨_, ?_, hv⟩
     simp only [Instr.typeAssert, Sem.run_bind, run_und ok hu, Result.andThen_ok]
     cases d <;> first | (exact absurd hu (hnd _)) | simp [hz]
   · cases h
 · cases h
def quiet0 (E : Env) (A : AH) (ρ : Operand → Option Value) (ty : TypeId) (op : Op) : Option Value :=
 match op with
 | .move x => ρ x
 | .assign x => ρ x
 | .pick c a b => (match ρ c with | some (.bool t) => (match t with | true => ρ a | false => ρ b) | _ => none)
 | .nilCheck x => (match ρ x with | some v => bif nnil v then some v else none | none => none)
 | .build t parts => (match partsA ρ parts.toList with | some ps => buildA E t ps | none => none)
 | .binOp op t x y _ => (match ρ x, ρ y with | some a, some b => binA E op t x y a b | _, _ => none)
 | .unOp op _ x => (match ρ x with | some (.bool b) => (match op with | .not => some (.bool (!b)) | _ => none) | some a => bif scal a then (match prun E.P (Op.unary op a) with | some v => bif flat v then some v else none | none => none) else none | none => none)
 | .convert s d x => (match ρ x with | some v => convA E A s d v | none => none)
 | .makeInterface t x => (match und E t, ρ x with | some (.interface _), _ => none | some _, some v => some (.iface t v) | _, _ => none)
 | .makeFunc fn first captured => bif Fn.still fn then (match mapO ρ first.toList, mapO ρ captured.toList with | some a, some b => some (.func fn ⟨a⟩ ⟨b⟩) | _, _ => none) else none
 | .slice t x lo hi mx => (match ρ x, optA ρ lo, optA ρ hi, optA ρ mx with | some v, some l, some h, some m => sliA E t v l h m | _, _, _, _ => none)
 | .fieldAddr t x f => (match ρ x with | some v => fldA E t v f | none => none)
 | .field t x f => (match ρ x with | some v => fieldA E t v f | none => none)
 | .indexAddr t x i => (match ρ x, ρ i with | some a, some b => idxB E t a b | _, _ => none)
 | .index t x i => (match ρ x, ρ i with | some a, some b => indexA E t a b | _, _ => none)
 | .lookup t x i cok => (match ρ x, ρ i with | some a, some b => lookupA E A t a b cok | _, _ => none)
 | .load t a => (match ρ a with | some v => loadB E A t v | none => none)
 | .extract t i => (match ρ t with | some (.tuple ⟨vs⟩) => nth vs i | _ => none)
 | .typeAssert x _ t cok => (match ρ x with | some v => assertA E v t cok | none => none)
 | .call c => (match c.callee with | .builtin b => quietB E A ρ b c ty | _ => none)
 | _ => none
theorem head_eq {α : Type} {l : Array α} {x : α} {r : List α} (h : l.toList = x :: r) : l[0]? = some x := by
 rw [← Array.getElem?_toList, h]; rfl
theorem quietB_ok {E : Env} (ok : E.Ok) {σ : Sig} {A : AH} {w : World} (R : Rel E.P σ A w) {ρ : Operand → Option Value} {ρ' : Operand → Value} (hρ : OpR σ ρ ρ') {b : Builtin} {c : Call} {ty : TypeId} {cs : Array Bool} {v : Value}
 (h : quietB E A ρ b c ty = some v) : ∃ v', (builtin b c.argTypes ty cs (c.args.map ρ')).run E.P w = .ok (.value v') w ∧ VR σ v v' := by
 unfold quietB at h
 split at h
 · split at h
   · rename_i x r t ts hx ht
     split at h
     · rename_i u hu
       have ha : (c.args.map ρ')[0]? = some (ρ' x) := by rw [Array.getElem?_map, head_eq hx]; rfl
       obtain ⟨h1, h2⟩ := len_ok ok R (ty := ty) (hρ x u hu) h (head_eq ht) ha
       exact ⟨v, by simp [builtin, h1], flat_refl h2 σ⟩
     · cases h
   · cases h
 · split at h
   · rename_i vs hvs
     cases hs : vs.all scal with
     | false => rw [hs] at h; simp at h
     | true =>
       rw [hs] at h
       simp only [cond_true] at h
       obtain ⟨h1, h2⟩ := prun_flat (σ := σ) h w
       have e : c.args.map ρ' = ⟨vs⟩ := by
        apply Array.toList_inj.1
        rw [Array.toList_map]
        exact scals_eq hs (mapO_rel hρ hvs)
       exact ⟨v, by simp [builtin, e, h1], h2⟩
   · cases h
 · split at h
   · rename_i vs hvs
     cases hs : vs.all scal with
     | false => rw [hs] at h; simp at h
     | true =>
       rw [hs] at h
       simp only [cond_true] at h
       obtain ⟨h1, h2⟩ := prun_flat (σ := σ) h w
       have e : c.args.map ρ' = ⟨vs⟩ := by
        apply Array.toList_inj.1
        rw [Array.toList_map]
        exact scals_eq hs (mapO_rel hρ hvs)
       exact ⟨v, by simp [builtin, e, h1], h2⟩
   · cases h
 · split at h
   · rename_i x hx
     have e : c.args.map ρ' = #[ρ' x] := by apply Array.toList_inj.1; rw [Array.toList_map, hx]; rfl
     split at h
     · rename_i n k hu
       simp only [Option.some.injEq] at h
       subst h
       have hv := hρ x _ hu
       generalize ρ' x = y at e hv
       cases hv
       exact ⟨_, by simp [builtin, e, Lib.run_unsafeSliceData_nil], .ptr0⟩
     · rename_i B i n k hu
       simp only [cond_eq_ite, Bool.or_eq_true, Nat.beq_eq] at h
       split at h
       · cases h
       · rename_i hnk
         simp only [Option.some.injEq] at h
         subst h
         have hv := hρ x _ hu
         have key : ∃ b d cc kk, σ B = some (b, d, cc) ∧ ρ' x = .slice (some ⟨b, d + i, none⟩) n kk ∧ kk ≠ 0 := by
          generalize ρ' x = y at hv
          cases hv with
          | slice _ _ _ hσ hk => exact ⟨_, _, _, _, hσ, rfl, fun e => hnk (.inr e)⟩
          | sliceU _ hσ hk => exact ⟨_, _, _, _, hσ, rfl, fun e => hnk (.inl (by omega))⟩
          | sliceV _ _ _ hσ hk => exact ⟨_, _, _, _, hσ, rfl, fun e => hnk (.inl (by omega))⟩
          | sliceE => exact absurd (.inl rfl) hnk
          | gs0 => exact absurd (.inl rfl) hnk
          | gs lo o' n' k' m hσ hk hc ho hm => exact ⟨_, _, _, _, hσ, rfl, fun e => hnk (.inl (by omega))⟩
         obtain ⟨b, d, cc, kk, hσ, hy, hkk⟩ := key
         rw [hy] at e
         refine ⟨_, ?_, .ptr i hσ⟩
         simp only [builtin, e, Sem.run_bind, Lib.run_unsafeSliceData_row w _ _ _ _ _ hkk, Result.andThen_ok]
         rfl
     · cases h
   · cases h
 · cases h
theorem quiet0_ok {E : Env} (ok : E.Ok) {σ : Sig} {A : AH} {w : World} (R : Rel E.P σ A w) {ρ : Operand → Option Value} {ρ' : Operand → Value} (hρ : OpR σ ρ ρ') {o : Oper} {v : Value}
 (h : quiet0 E A ρ o.type o.op = some v) : ∃ v', (execOp ρ' o).run E.P w = .ok (.value v') w ∧ VR σ v v' := by
 unfold quiet0 at h
 unfold execOp
 split at h
 · rename_i x hop; rw [hop]; exact ⟨_, rfl, hρ x v h⟩
 · rename_i x hop; rw [hop]; exact ⟨_, rfl, hρ x v h⟩
 · rename_i c a b hop
   rw [hop]
   split at h
   · rename_i t ht
     have hc := hρ c _ ht
     have e : ρ' c = .bool t := by generalize ρ' c = y at hc; cases hc; rfl
     split at h
     · exact ⟨ρ' a, by simp [e, asBool], hρ a v h⟩
     · exact ⟨ρ' b, by simp [e, asBool], hρ b v h⟩
   · cases h
 · rename_i x hop
   rw [hop]
   split at h
   · rename_i u hu
     cases hn : nnil u with
     | false => rw [hn] at h; simp at h
     | true =>
       rw [hn] at h
       simp only [cond_true, Option.some.injEq] at h
       subst h
       have hx := hρ x _ hu
       refine ⟨ρ' x, ?_, hx⟩
       simp only
       generalize ρ' x = x' at hx
       cases hx <;> first | rfl | (simp [nnil] at hn; done) | skip
       rename_i fn _ _ _ _ hf hx hy
       cases fn <;> first | rfl | (simp [nnil] at hn)
   · cases h
 · rename_i t parts hop
   rw [hop]
   split at h
   · rename_i ps hps
     have hp : PRs σ ps (parts.map fun p => (p.1, ρ' p.2)).toList := by rw [Array.toList_map]; exact parts_ok hρ hps
     obtain ⟨v', g1, g2⟩ := build_ok ok hp h w
     exact ⟨v', by simp only [Sem.run_bind]; rw [show (parts.map fun (x : Nat × Operand) => match x with | (i, x) => (i, ρ' x)) = (parts.map fun p => (p.1, ρ' p.2)) from rfl, g1]; rfl, g2⟩
   · cases h
 · rename_i op t x y yt hop
   rw [hop]
   split at h
   · rename_i a b ha hb
     obtain ⟨v', g1, g2⟩ := bin_ok ok (hρ x a ha) (hρ y b hb) h w
     exact ⟨v', by simp only [Sem.run_bind] at g1 ⊢; rw [g1]; rfl, g2⟩
   · cases h
 · rename_i op xt x hop
   rw [hop]
   split at h
   · rename_i b hb
     split at h
     · simp only [Option.some.injEq] at h
       subst h
       have hx := hρ x _ hb
       have e : ρ' x = .bool b := by generalize ρ' x = y at hx; cases hx; rfl
       exact ⟨.bool (!b), by simp [e, Op.unary], .bool _⟩
     · cases h
   · rename_i a hna ha
     cases hs : scal a with
     | false => rw [hs] at h; simp at h
     | true =>
       rw [hs] at h
       simp only [cond_true] at h
       obtain ⟨h1, h2⟩ := prun_flat (σ := σ) h w
       have e := scal_eq hs (hρ x a ha)
       exact ⟨v, by simp [e, h1], h2⟩
   · cases h
 · rename_i s d x hop
   rw [hop]
   split at h
   · rename_i u hu
     obtain ⟨v', g1, g2⟩ := conv_ok ok R (hρ x u hu) h
     exact ⟨v', by simp [g1], g2⟩
   · cases h
 · rename_i t x hop
   rw [hop]
   split at h
   · cases h
   · rename_i d u hnx hu hd
     simp only [Option.some.injEq] at h
     subst h
     refine ⟨.iface t (ρ' x), ?_, .iface t (hρ x u hd)⟩
     simp only [Sem.run_bind, Instr.makeInterface, run_und ok hu, Result.andThen_ok]
     cases d <;> first | rfl | exact absurd rfl (fun e => hnx _ e)
   · cases h
 · rename_i fn first captured hop
   rw [hop]
   cases hs : Fn.still fn with
   | false => rw [hs] at h; simp at h
   | true =>
     rw [hs] at h
     simp only [cond_true] at h
     split at h
     · rename_i a b ha hb
       simp only [Option.some.injEq] at h
       subst h
       refine ⟨.func fn ⟨first.toList.map ρ'⟩ ⟨captured.toList.map ρ'⟩, ?_, .func fn hs (mapO_rel hρ ha) (mapO_rel hρ hb)⟩
       have e1 : (⟨first.toList.map ρ'⟩ : Array Value) = first.map ρ' := by apply Array.toList_inj.1; simp
       have e2 : (⟨captured.toList.map ρ'⟩ : Array Value) = captured.map ρ' := by apply Array.toList_inj.1; simp
       rw [e1, e2]
       rfl
     · cases h
 · rename_i t x lo hi mx hop
   rw [hop]
   split at h
   · rename_i u l hh m hu hl hhh hm
     obtain ⟨v', g1, g2⟩ := sli_ok ok (hρ x u hu) h w
     refine ⟨v', ?_, g2⟩
     simp only [opt_ok hρ hl, opt_ok hρ hhh, opt_ok hρ hm, Sem.run_bind, g1]
     rfl
   · cases h
 · rename_i t x f hop
   rw [hop]
   split at h
   · rename_i u hu
     obtain ⟨v', g1, g2⟩ := fld_ok ok (hρ x u hu) h w
     exact ⟨v', by simp [g1], g2⟩
   · cases h
 · rename_i t x f hop
   rw [hop]
   split at h
   · rename_i u hu
     obtain ⟨v', g1, g2⟩ := field_ok ok (hρ x u hu) h w
     exact ⟨v', by simp [g1], g2⟩
   · cases h
 · rename_i t x i hop
   rw [hop]
   split at h
   · rename_i a b ha hb
     obtain ⟨v', g1, g2⟩ := idxB_ok ok (hρ x a ha) (hρ i b hb) h w
     exact ⟨v', by simp [g1], g2⟩
   · cases h
 · rename_i t x i hop
   rw [hop]
   split at h
   · rename_i a b ha hb
     obtain ⟨v', g1, g2⟩ := index_ok ok (hρ x a ha) (hρ i b hb) h w
     exact ⟨v', by simp [g1], g2⟩
   · cases h
 · rename_i t x i cok hop
   rw [hop]
   split at h
   · rename_i a b ha hb
     obtain ⟨v', g1, g2⟩ := lookup_ok ok R (hρ x a ha) (hρ i b hb) h
     exact ⟨v', by simp [g1], g2⟩
   · cases h
 · rename_i t a hop
   rw [hop]
   split at h
   · rename_i u hu
     obtain ⟨v', g1, g2⟩ := loadB_ok ok R (hρ a u hu) h
     exact ⟨v', by simp [g1], g2⟩
   · cases h
 · rename_i t i hop
   rw [hop]
   split at h
   · rename_i vs hu
     have hx : ∃ vs', ρ' t = .tuple ⟨vs'⟩ ∧ VRs σ vs vs' := by
      have hx := hρ t _ hu
      generalize ρ' t = x' at hx
      cases hx with
      | tuple hvs => exact ⟨_, rfl, hvs⟩
     obtain ⟨vs', ex, hvs⟩ := hx
     rw [nth_eq] at h
     obtain ⟨v', g1, g2⟩ := hvs.get h
     have g1' : (⟨vs'⟩ : Array Value)[i]? = some v' := by simpa using g1
     exact ⟨v', by simp [Instr.extract, ex, g1'], g2⟩
   · cases h
 · rename_i x xt t cok hop
   rw [hop]
   split at h
   · rename_i u hu
     obtain ⟨v', g1, g2⟩ := assert_ok ok (xt := xt) (hρ x u hu) h w
     exact ⟨v', by simp [g1], g2⟩
   · cases h
 · rename_i c hop
   rw [hop]
   split at h
   · rename_i b hb
     obtain ⟨v', g1, g2⟩ := quietB_ok ok R hρ (cs := c.args.map fun | .const _ => true | _ => false) h
     exact ⟨v', by simp only [resolve, hb, Sem.run_bind, Sem.run_pure, Result.andThen_ok, invoke]; exact g1, g2⟩
   · cases h
 · cases h
def quiet (E : Env) (A : AH) (ρ : Operand → Option Value) (ty : TypeId) (op : Op) : Option Value :=
 match E.sym with
 | false => quiet0 E A ρ ty op
 | true => (match symQ E ρ op with | some v => some v | none => (match groQ E A ρ op with | some v => some v | none => (match arrQ E A ρ op with | some v => some v | none => quiet0 E A ρ ty op)))
theorem quiet_ok {E : Env} (ok : E.Ok) {σ : Sig} {A : AH} {w : World} (R : Rel E.P σ A w) {ρ : Operand → Option Value} {ρ' : Operand → Value} (hρ : OpR σ ρ ρ') {o : Oper} {v : Value}
 (h : quiet E A ρ o.type o.op = some v) : ∃ v', (execOp ρ' o).run E.P w = .ok (.value v') w ∧ VR σ v v' := by
 unfold quiet at h
 split at h
 · exact quiet0_ok ok R hρ h
 · split at h
   · rename_i u hu
     simp only [Option.some.injEq] at h
     subst h
     exact symQ_ok ok R hρ hu
   · split at h
     · rename_i u hu
       simp only [Option.some.injEq] at h
       subst h
       exact groQ_ok ok R hρ hu
     · split at h
       · rename_i u hu
         simp only [Option.some.injEq] at h
         subst h
         exact arrQ_ok ok R hρ hu
       · exact quiet0_ok ok R hρ h
def rep (z : List Value) : Nat → List Value
 | 0 => []
 | n + 1 => z ++ rep z n
theorem rep_length (z : List Value) : ∀ n, (rep z n).length = n * z.length
 | 0 => by simp [rep]
 | n + 1 => by simp [rep, rep_length z n, Nat.add_mul]; omega
theorem rep_all {z : List Value} (h : z.all scal = true) : ∀ n, (rep z n).all scal = true
 | 0 => rfl
 | n + 1 => by simp only [rep, List.all_append, h, rep_all h n]; rfl
theorem rep_get (z : List Value) (hz : 0 < z.length) : ∀ (n i : Nat), i < n * z.length → (rep z n)[i]? = z[i % z.length]?
 | 0, i, h => by simp at h
 | n + 1, i, h => by
   simp only [rep, List.getElem?_append]
   by_cases hi : i < z.length
   · rw [if_pos hi, Nat.mod_eq_of_lt hi]
   · rw [if_neg hi, rep_get z hz n (i - z.length) (by rw [Nat.add_mul] at h; omega)]
     congr 1
     rw [Nat.mod_eq_sub_mod (Nat.le_of_not_lt hi)]
theorem range_rep (z : Array Value) (n : Nat) (hz : 0 < z.size ∨ n = 0) : (Array.range (n * z.size)).map (fun i => z[i % z.size]!) = ⟨rep z.toList n⟩ := by
 rcases hz with hz | rfl
 · apply Array.toList_inj.1
   apply List.ext_getElem?
   intro i
   by_cases hi : i < n * z.size
   · have hm : i % z.size < z.size := Nat.mod_lt _ hz
     have := rep_get z.toList (by simpa using hz) n i (by simpa using hi)
     simp only [Array.length_toList] at this
     rw [this]
     simp [hi, hm]
   · have hl := rep_length z.toList n
     simp only [Array.length_toList] at hl
     rw [List.getElem?_eq_none (by simp; omega), List.getElem?_eq_none (by simp only [hl]; omega)]
 · simp [rep]
def allocA (E : Env) (ρ : Operand → Option Value) (op : Op) : Option (AObj × (Nat → Value)) :=
 match op with
 | .alloc e => (match E.ti e with
   | some i => (match i.zero with
     | some z => let cs := z.cells.toList; bif cs.all scal then some (.cells cs e, fun id => .pointer (some ⟨id, 0, none⟩)) else none
     | none => none)
   | none => none)
 | .box e x => (match ρ x with | some v => some (.cells v.cells.toList e, fun id => .pointer (some ⟨id, 0, none⟩)) | none => none)
 | .buildSlice t len parts => (match und E t, partsA ρ parts.toList with
   | some (.slice e), some ps => (match E.ti e with
     | some ie => (match ie.zero with
       | some z => let cs := z.cells.toList
         bif cs.all scal && (Nat.beq cs.length ie.size && (Nat.blt 0 ie.size && Nat.ble (len * ie.size) 16777216)) then
          (match fillA (fun i => some (i * ie.size, ie.size)) (rep cs len) ps with
          | some r => some (.cells r e, fun id => .slice (some ⟨id, 0, none⟩) len len)
          | none => none) else none
       | none => none)
     | none => none)
   | _, _ => none)
 | .makeSlice t l c => (match und E t, ρ l, ρ c with
   | some (.slice e), some (.int _ l), some (.int _ c) => (match E.ti e with
     | some ie => (match ie.zero with
       | some z => let cs := z.cells.toList
         bif cs.all scal && (Nat.beq cs.length ie.size && (Nat.blt 0 ie.size && (decide (0 ≤ l) && (decide (l ≤ c) && (decide (c ≤ 281474976710656) && Nat.ble (ie.bytes * c.toNat) 281474976710656))))) then
          some (.cells (rep cs c.toNat) e, fun id => .slice (some ⟨id, 0, none⟩) l.toNat c.toNat) else none
       | none => none)
     | none => none)
   | _, _, _ => none)
 | .makeMap t r => (match r with
   | none => some (.map [] 0, fun id => .map (some id))
   | some x => (match und E t, ρ x with
     | some (.map _ _), some (.int _ _) => some (.map [] 0, fun id => .map (some id))
     | _, _ => none))
 | _ => none
theorem or_cells {P : Program} {σ' : Sig} {c c' : List Value} {e : TypeId} (h : VRs σ' c c') : OR P σ' (some (.cells ⟨c'⟩ e)) 0 0 (.cells c e) := by
 refine ⟨⟨c'⟩, 0, 0, rfl, fun i _ h => by omega, fun i v hv => ?_, by simp, rfl⟩
 obtain ⟨v', h1, h2⟩ := h.get hv
 exact ⟨v', by simpa using h1, h2⟩
theorem alloc_ok {E : Env} (ok : E.Ok) {σ : Sig} {ρ : Operand → Option Value} {ρ' : Operand → Value} (hρ : OpR σ ρ ρ') {o : Oper} {ob : AObj} {fv : Nat → Value} (h : allocA E ρ o.op = some (ob, fv)) :
 ∃ (ob' : Obj) (fv' : Nat → Value), (∀ w : World, (execOp ρ' o).run E.P w = .ok (.value (fv' w.heap.size)) { w with heap := w.heap.push ob' }) ∧
   (∀ σ' : Sig, σ.sub σ' → OR E.P σ' (some ob') 0 0 ob) ∧ (∀ (σ' : Sig) (id b c : Nat), σ' id = some (b, 0, c) → VR σ' (fv id) (fv' b)) ∧ ob.own = true := by
 unfold allocA at h
 unfold execOp
 split at h
 · rename_i e hop
   rw [hop]
   split at h
   · rename_i i hi
     split at h
     · rename_i z hz
       cases hs : z.cells.toList.all scal with
       | false => simp only [hs] at h; simp at h
       | true =>
         simp only [hs, cond_true, Option.some.injEq, Prod.mk.injEq] at h
         obtain ⟨rfl, rfl⟩ := h
         refine ⟨.cells z.cells e, fun b => .pointer (some ⟨b, 0, none⟩), fun w => ?_, fun σ' _ => ?_, fun σ' id b c h => ?_, rfl⟩
         · simp [Instr.alloc, run_zero ok hi hz, newVar, newRow]
         · exact or_cells (scals_refl hs σ')
         · have := VR.ptr (σ := σ') 0 h; simpa using this
     · cases h
   · cases h
 · rename_i e x hop
   rw [hop]
   split at h
   · rename_i v hv
     simp only [Option.some.injEq, Prod.mk.injEq] at h
     obtain ⟨rfl, rfl⟩ := h
     refine ⟨.cells (ρ' x).cells e, fun b => .pointer (some ⟨b, 0, none⟩), fun w => ?_, fun σ' hs => ?_, fun σ' id b c h => ?_, rfl⟩
     · simp [Instr.box, newVar, newRow]
     · exact or_cells ((hρ x v hv).mono hs).cells
     · have := VR.ptr (σ := σ') 0 h; simpa using this
   · cases h
 · rename_i t len parts hop
   rw [hop]
   split at h
   · rename_i e ps hu hps
     split at h
     · rename_i ie hie
       split at h
       · rename_i z hz
         simp only at h
         cases hb : (z.cells.toList.all scal && (Nat.beq z.cells.toList.length ie.size && (Nat.blt 0 ie.size && Nat.ble (len * ie.size) 16777216))) with
         | false => rw [hb] at h; simp at h
         | true =>
           rw [hb] at h
           simp only [cond_true] at h
           simp only [Bool.and_eq_true, Nat.ble_eq, blt_eq, decide_eq_true_eq] at hb
           obtain ⟨h1, h2, h3, h4⟩ := hb
           have h2 : z.cells.size = ie.size := by have := Nat.eq_of_beq_eq_true h2; simpa using this
           split at h
           · rename_i r hr
             simp only [Option.some.injEq, Prod.mk.injEq] at h
             obtain ⟨rfl, rfl⟩ := h
             have hp : PRs σ ps (parts.map fun p => (p.1, ρ' p.2)).toList := by rw [Array.toList_map]; exact parts_ok hρ hps
             obtain ⟨r', g1, g2⟩ := fill_ok hp (scals_refl (rep_all h1 len) σ) hr
             have hrr := range_rep z.cells len (.inl (by omega))
             rw [h2] at hrr
             refine ⟨.cells ⟨r'⟩ e, fun b => .slice (some ⟨b, 0, none⟩) len len, fun w => ?_, fun σ' hs => ?_, fun σ' id b c h => ?_, rfl⟩
             · have hsm : ¬ (len * ie.size > 2 ^ 24) := by simp; omega
               simp only [Sem.run_bind, Instr.buildSlice, run_und ok hu, Result.andThen_ok, run_size ok hie, Sem.run_ite]
               rw [if_neg hsm]
               have hpp : (parts.map fun (x : Nat × Operand) => match x with | (i, x) => (i, ρ' x)) = (parts.map fun p => (p.1, ρ' p.2)) := rfl
               by_cases hl0 : len * ie.size = 0
               · have hl : len = 0 := by rcases Nat.mul_eq_zero.1 hl0 with h | h <;> omega
                 subst hl
                 have e0 : (Array.range 0).map (fun i => (#[] : Array Value)[i % (#[] : Array Value).size]!) = ⟨[]⟩ := by apply Array.toList_inj.1; simp
                 simp only [rep] at g1
                 simp only [Nat.zero_mul, if_true, Sem.run_pure, Result.andThen_ok, hpp, e0, g1]
                 simp [newRow]
               · simp only [hl0, if_false, Sem.run_bind, run_zero ok hie hz, Result.andThen_ok, Sem.run_pure, h2, hrr, hpp, g1]
                 simp [newRow]
             · exact or_cells (g2.mono hs)
             · have := VR.slice (σ := σ') 0 len len h (by have : len ≤ len * ie.size := Nat.le_mul_of_pos_right _ h3; simp [unk]; omega); simpa using this
           · cases h
       · cases h
     · cases h
   · cases h
 · rename_i t l c hop
   rw [hop]
   split at h
   · rename_i e k1 l0 k2 c0 hu hl hc
     split at h
     · rename_i ie hie
       split at h
       · rename_i z hz
         simp only at h
         cases hb : (z.cells.toList.all scal && (Nat.beq z.cells.toList.length ie.size && (Nat.blt 0 ie.size && (decide (0 ≤ l0) && (decide (l0 ≤ c0) && (decide (c0 ≤ 281474976710656) && Nat.ble (ie.bytes * c0.toNat) 281474976710656)))))) with
         | false => rw [hb] at h; simp at h
         | true =>
           rw [hb] at h
           simp only [cond_true, Option.some.injEq, Prod.mk.injEq] at h
           obtain ⟨rfl, rfl⟩ := h
           simp only [Bool.and_eq_true, Nat.ble_eq, blt_eq, decide_eq_true_eq] at hb
           obtain ⟨h1, h2, h3, h4, h5, h6, h7⟩ := hb
           have h2 : z.cells.size = ie.size := by have := Nat.eq_of_beq_eq_true h2; simpa using this
           have el : ρ' l = .int k1 l0 := by have := hρ l _ hl; generalize ρ' l = x at this; cases this; rfl
           have ec : ρ' c = .int k2 c0 := by have := hρ c _ hc; generalize ρ' c = x at this; cases this; rfl
           have hrr := range_rep z.cells c0.toNat (.inl (by omega))
           rw [h2] at hrr
           have wl : IntKind.i64.wrap l0 = l0 := wrap_small (by simp [small]; omega)
           have wc : IntKind.i64.wrap c0 = c0 := wrap_small (by simp [small]; omega)
           refine ⟨.cells ⟨rep z.cells.toList c0.toNat⟩ e, fun b => .slice (some ⟨b, 0, none⟩) l0.toNat c0.toNat, fun w => ?_, fun σ' hs => ?_, fun σ' id b c h => ?_, rfl⟩
           · have t1 : ¬ (c0 < 0) := by omega
             have hmul : (ie.bytes : Int) * c0 ≤ 281474976710656 := by
              have : ((ie.bytes * c0.toNat : Nat) : Int) ≤ 281474976710656 := Int.ofNat_le.2 h7
              rw [Int.natCast_mul, Int.toNat_of_nonneg (by omega)] at this
              exact this
             have e48 : (2 : Int) ^ 48 = 281474976710656 := by decide
             have t2 : ¬ ((ie.bytes : Int) * c0 > 2 ^ 48) := by rw [e48]; omega
             have t3 : ¬ (l0 < 0) := by omega
             have t4 : ¬ (l0 > c0) := by omega
             simp only [el, ec, Sem.run_bind, Instr.makeSlice, run_und ok hu, Result.andThen_ok, asInt, asIntOf, Sem.run_pure, run_ti ok hie, wl, wc, t1, t2, t3, t4, decide_false, Bool.or_false, Bool.false_eq_true, if_false, run_askRoom, run_size ok hie]
             by_cases hl0 : c0.toNat * ie.size = 0
             · have hl : c0.toNat = 0 := by rcases Nat.mul_eq_zero.1 hl0 with h | h <;> omega
               have e0 : (Array.range 0).map (fun i => (#[] : Array Value)[i % (#[] : Array Value).size]!) = ⟨[]⟩ := by apply Array.toList_inj.1; simp
               simp only [hl, Nat.zero_mul, if_true, Sem.run_pure, Result.andThen_ok, rep, e0]
               have e1 : (Array.range 0).map (fun _ => (default : Value)) = (⟨[]⟩ : Array Value) := by apply Array.toList_inj.1; simp
               simp [newRow, e1]
             · simp only [hl0, if_false, run_zero ok hie hz, Sem.run_bind, Result.andThen_ok, Sem.run_pure, h2, hrr]
               simp [newRow]
           · exact or_cells (scals_refl (rep_all h1 _) σ')
           · have := VR.slice (σ := σ') 0 l0.toNat c0.toNat h (by simp [unk]; omega); simpa using this
       · cases h
     · cases h
   · cases h
 · rename_i t r hop
   rw [hop]
   have fin : ∀ σ' : Sig, OR E.P σ' (some (.map #[] 0)) 0 0 (.map [] 0) := fun σ' => ⟨#[], rfl, .nil⟩
   split at h
   · simp only [Option.some.injEq, Prod.mk.injEq] at h
     obtain ⟨rfl, rfl⟩ := h
     refine ⟨.map #[] 0, fun b => .map (some b), fun w => ?_, fun σ' hs => fin σ', fun σ' id b c h => .map h, rfl⟩
     simp [Instr.makeMap]
   · rename_i x
     split at h
     · rename_i kt et k n hu hx
       simp only [Option.some.injEq, Prod.mk.injEq] at h
       obtain ⟨rfl, rfl⟩ := h
       have ex : ρ' x = .int k n := by have := hρ x _ hx; generalize ρ' x = y at this; cases this; rfl
       refine ⟨.map #[] 0, fun b => .map (some b), fun w => ?_, fun σ' hs => fin σ', fun σ' id b c h => .map h, rfl⟩
       simp [Instr.makeMap, ex, run_und ok hu, asInt, asIntOf]
     · cases h
 · cases h
def FU : Nat := 40
def putCells (A : AH) (B o : Nat) (vs : List Value) : Option AH :=
 match A.t.get B with
 | some (.cells c e) =>
   bif vs.all cellv && (Nat.blt 0 vs.length && Nat.ble (o + vs.length) c.length) then (match T.set FU A.t B (.cells (over c o vs) e) with | some t => some ⟨t, A.next⟩ | none => none) else none
 | _ => none
theorem put_ok {P : Program} {σ : Sig} {A A' : AH} {w : World} (R : Rel P σ A w) {B o b d c : Nat} {vs vs' : List Value} (hv : VRs σ vs vs') (h : putCells A B o vs = some A') (hσ : σ B = some (b, d, c)) :
 ∃ w', (storeCells ⟨b, d + o, none⟩ vs').run P w = .ok () w' ∧ Rel P σ A' w' ∧ Ext σ A w σ A' w' := by
 unfold putCells at h
 split at h
 · rename_i cs e hg
   cases hb : (vs.all cellv && (Nat.blt 0 vs.length && Nat.ble (o + vs.length) cs.length)) with
   | false => rw [hb] at h; simp at h
   | true =>
     rw [hb] at h
     simp only [cond_true] at h
     simp only [Bool.and_eq_true, Nat.ble_eq, blt_eq, decide_eq_true_eq] at hb
     obtain ⟨h1, h2, h3⟩ := hb
     split at h
     · rename_i t ht
       simp only [Option.some.injEq] at h
       subst h
       obtain ⟨b', d', c', hσ', ca, lo, hi, g1, g2, g3, g4, g5⟩ := R.obj B _ hg rfl
       rw [hσ] at hσ'
       simp only [Option.some.injEq, Prod.mk.injEq] at hσ'
       obtain ⟨rfl, rfl, rfl⟩ := hσ'
       have hlen := hv.length
       have hsz : d + o + vs'.length ≤ ca.size := by
        have hlast : o + vs.length - 1 < cs.length := by omega
        obtain ⟨v', e1, _⟩ := g3 (o + vs.length - 1) cs[o + vs.length - 1] (by simp [hlast])
        have : d + (o + vs.length - 1) < ca.size := by
         rcases Nat.lt_or_ge (d + (o + vs.length - 1)) ca.size with h | h
         · exact h
         · rw [Array.getElem?_eq_none h] at e1; cases e1
        omega
       obtain ⟨w', r1, r2, r3, r4, r5, r6, r7, r8⟩ := run_stores (P := P) vs' 0 w b (d + o) ca e lo hi g1 (by omega) g2 (hv.cellv h1)
       refine ⟨w', r1, ?_, Ext.upd hg rfl hσ ht r2 r3 r5 r6 r7⟩
       refine R.upd hg rfl hσ ht rfl r2 r3 ?_
       rw [r4]
       have hsz' : d + o + vs'.length ≤ ca.toList.length := by simpa using hsz
       refine ⟨_, lo, hi, rfl, fun i hi' => g2 i (by rw [List.size_toArray, over_length (by simpa using hsz)] at hi'; simpa using hi'), fun i v hiv => ?_, ?_, g5⟩
       · rw [over_get h3] at hiv
         have hget : (over ca.toList (d + o + 0) vs').toArray[d + i]? = (over ca.toList (d + o) vs')[d + i]? := by simp
         rw [hget, over_get hsz']
         by_cases k1 : i < o
         · rw [if_pos k1] at hiv
           rw [if_pos (by omega)]
           obtain ⟨v', e1, e2⟩ := g3 i v hiv
           exact ⟨v', by simpa using e1, e2⟩
         · rw [if_neg k1] at hiv
           rw [if_neg (by omega)]
           by_cases k2 : i < o + vs.length
           · rw [if_pos k2] at hiv
             rw [if_pos (by omega)]
             obtain ⟨v', e1, e2⟩ := hv.get hiv
             exact ⟨v', by rw [← e1]; congr 1; omega, e2⟩
           · rw [if_neg k2] at hiv
             rw [if_neg (by omega)]
             obtain ⟨v', e1, e2⟩ := g3 i v hiv
             exact ⟨v', by simpa using e1, e2⟩
       · rw [List.size_toArray, over_length (by simpa using hsz)]; simpa using g4
     · cases h
 · cases h
theorem over_mid {a u r vs : List Value} {j : Nat} (h : j + vs.length ≤ u.length) : over (a ++ u ++ r) (a.length + j) vs = a ++ over u j vs ++ r := by
 unfold over
 have e1 : (a ++ u ++ r).take (a.length + j) = a ++ u.take j := by
  rw [List.append_assoc, List.take_length_add_append, List.take_append_of_le_length (by omega)]
 have e2 : (a ++ u ++ r).drop (a.length + j + vs.length) = u.drop (j + vs.length) ++ r := by
  rw [List.append_assoc, Nat.add_assoc, List.drop_length_add_append, List.drop_append_of_le_length h]
 rw [e1, e2]
 simp [List.append_assoc]
theorem cellsL_set {sz : Nat} {els : List Value} {i j : Nat} {u u2 : Value} {vs : List Value} (h : ∀ x ∈ els, x.cells.size = sz) (hu : els[i]? = some u) (hj : j + vs.length ≤ sz) (h2 : u2.cells.toList = over u.cells.toList j vs) :
 cellsL (els.set i u2) = over (cellsL els) (i * sz + j) vs := by
 have hi : i < els.length := (List.getElem?_eq_some_iff.1 hu).1
 have hui : els[i] = u := (List.getElem?_eq_some_iff.1 hu).2
 have hus : u.cells.toList.length = sz := by simpa using h u (List.mem_of_getElem? hu)
 have e1 : els = els.take i ++ u :: els.drop (i + 1) := by rw [← hui, ← List.drop_eq_getElem_cons hi, List.take_append_drop]
 have e2 : els.set i u2 = els.take i ++ u2 :: els.drop (i + 1) := by rw [List.set_eq_take_append_cons_drop, if_pos hi]
 have hl : (cellsL (els.take i)).length = i * sz := by
  rw [cellsL_length (fun x hx => h x (List.mem_of_mem_take hx))]
  simp
  rw [Nat.min_eq_left (by omega)]
 rw [e2, cellsL_append, cellsL_cons, h2, ← List.append_assoc]
 have e3 : cellsL els = cellsL (els.take i) ++ u.cells.toList ++ cellsL (els.drop (i + 1)) := by
  conv => lhs; rw [e1]
  rw [cellsL_append, cellsL_cons, List.append_assoc]
 rw [e3, ← hl, over_mid (by rw [hus]; exact hj)]
theorem gro_put {P : Program} {σ : Sig} {A : AH} {w : World} (R : Rel P σ A w) {f B b d c off : Nat} {e : TypeId} {els tl els2 vs vs' : List Value} {t : T AObj} (hg : A.t.get B = some (.gro els tl e)) (hσ : σ B = some (b, d, c)) (hv : VRs σ vs vs') (hcv : vs.all cellv = true)
 (hoff : off + vs.length ≤ (cellsL (els ++ tl)).length) (he : cellsL els2 = over (cellsL (els ++ tl)) off vs) (hsz : ∀ x ∈ els2, x.cells.size = P.cellsOf e) (hlen : els2.length = (els ++ tl).length) (ht : T.set f A.t B (.gro els2 [] e) = some t) :
 ∃ w', (storeCells ⟨b, d + off, none⟩ vs').run P w = .ok () w' ∧ Rel P σ ⟨t, A.next⟩ w' ∧ Ext σ A w σ ⟨t, A.next⟩ w' := by
 obtain ⟨ca, lo, hi, g1, g2, g3, g4, g5, g6⟩ := R.at hg rfl hσ
 have hl := hv.length
 have hcl := cellsL_length g4
 have hmul : (els ++ tl).length * P.cellsOf e ≤ c * P.cellsOf e := Nat.mul_le_mul_right _ g6
 have hsz2 : d + off + vs'.length ≤ ca.size := by omega
 obtain ⟨w', r1, r2, r3, r4, r5, r6, r7, r8⟩ := run_stores (P := P) vs' 0 w b (d + off) ca e lo hi g1 (by omega) g2 (hv.cellv hcv)
 refine ⟨w', r1, ?_, Ext.upd hg rfl hσ ht r2 r3 r5 r6 r7⟩
 refine R.upd hg rfl hσ ht rfl r2 r3 ?_
 rw [r4]
 have hsz' : d + off + vs'.length ≤ ca.toList.length := by simpa using hsz2
 refine ⟨_, lo, hi, rfl, fun i hi' => g2 i (by rw [List.size_toArray, over_length (by simpa using hsz2)] at hi'; simpa using hi'), fun i v hiv => ?_, by rw [List.append_nil]; exact hsz, ?_, by rw [List.append_nil, hlen]; exact g6⟩
 · rw [List.append_nil, he, over_get hoff] at hiv
   have hget : (over ca.toList (d + off + 0) vs').toArray[d + i]? = (over ca.toList (d + off) vs')[d + i]? := by simp
   rw [hget, over_get hsz']
   by_cases k1 : i < off
   · rw [if_pos k1] at hiv
     rw [if_pos (by omega)]
     obtain ⟨v', e1, e2⟩ := g3 i v hiv
     exact ⟨v', by simpa using e1, e2⟩
   · rw [if_neg k1] at hiv
     rw [if_neg (by omega)]
     by_cases k2 : i < off + vs.length
     · rw [if_pos k2] at hiv
       rw [if_pos (by omega)]
       obtain ⟨v', e1, e2⟩ := hv.get hiv
       exact ⟨v', by rw [← e1]; congr 1; omega, e2⟩
     · rw [if_neg k2] at hiv
       rw [if_neg (by omega)]
       obtain ⟨v', e1, e2⟩ := g3 i v hiv
       exact ⟨v', by simpa using e1, e2⟩
 · rw [List.size_toArray, over_length (by simpa using hsz2)]; simpa using g5
def setEl (u v : Value) (sz j : Nat) : Value := bif Nat.beq v.cells.toList.length sz then v else .agg ⟨over u.cells.toList j v.cells.toList⟩
theorem setEl_cells {u v : Value} {sz j : Nat} (hu : u.cells.size = sz) (hj : j + v.cells.toList.length ≤ sz) : (setEl u v sz j).cells.toList = over u.cells.toList j v.cells.toList := by
 have hul : u.cells.toList.length = sz := by simpa using hu
 unfold setEl
 cases hb : Nat.beq v.cells.toList.length sz with
 | true =>
   have hb := Nat.eq_of_beq_eq_true hb
   have h0 : j = 0 := by omega
   subst h0
   simp only [cond_true]
   unfold over
   rw [Nat.zero_add, hb, ← hul, List.drop_length]
   simp
 | false => rfl
def groStore (E : Env) (A : AH) (t : TypeId) (B sz i j : Nat) (v : Value) : Option AH :=
 match E.ti t, A.t.get B with
 | some ti, some (.gro els tl e) => (match E.ti e, nth (glue els tl) i with
   | some ie, some u => bif (Nat.beq ie.size sz && Nat.beq v.cells.toList.length ti.size) && (v.cells.toList.all cellv && Nat.ble (j + v.cells.toList.length) sz) then
    (match T.set FU A.t B (.gro ((glue els tl).set i (setEl u v sz j)) [] e) with | some t => some ⟨t, A.next⟩ | none => none) else none
   | _, _ => none)
 | _, _ => none
theorem groStore_ok {E : Env} (ok : E.Ok) {σ : Sig} {A A' : AH} {w : World} (R : Rel E.P σ A w) {t : TypeId} {B b d c sz i j : Nat} {v v' : Value} (hσ : σ B = some (b, d, c)) (hv : VR σ v v') (h : groStore E A t B sz i j v = some A') :
 ∃ w', (Instr.storeAt t (.pointer (some ⟨b, d + i * sz + j, none⟩)) v').run E.P w = .ok () w' ∧ Rel E.P σ A' w' ∧ Ext σ A w σ A' w' := by
 unfold groStore at h
 split at h
 · rename_i ti els tl e hti hg
   rw [glue_eq] at h
   split at h
   · rename_i ie u hie hu
     rw [nth_eq] at hu
     cases hb : ((Nat.beq ie.size sz && Nat.beq v.cells.toList.length ti.size) && (v.cells.toList.all cellv && Nat.ble (j + v.cells.toList.length) sz)) with
     | false => rw [hb] at h; simp at h
     | true =>
       rw [hb] at h
       simp only [cond_true] at h
       simp only [Bool.and_eq_true, Nat.ble_eq, Nat.beq_eq] at hb
       obtain ⟨⟨rfl, hn⟩, hcv, hj⟩ := hb
       split at h
       · rename_i t2 ht
         simp only [Option.some.injEq] at h
         subst h
         have hco : E.P.cellsOf e = ie.size := by simp [Program.cellsOf, ok.ti _ _ hie]
         obtain ⟨ca, lo, hi, g1, g2, g3, g4, g5, g6⟩ := R.at hg rfl hσ
         rw [hco] at g4
         have hus := g4 u (List.mem_of_getElem? hu)
         have hil : i < (els ++ tl).length := (List.getElem?_eq_some_iff.1 hu).1
         have hse := setEl_cells hus hj
         have hset := cellsL_set g4 hu hj hse
         have hcl := cellsL_length g4
         have hmul : (i + 1) * ie.size ≤ (els ++ tl).length * ie.size := Nat.mul_le_mul_right _ hil
         rw [Nat.succ_mul] at hmul
         obtain ⟨w', r1, r2, r3⟩ := gro_put R hg hσ hv.cells hcv (by omega) hset (fun x hx => by
          rw [hco]
          rcases List.mem_or_eq_of_mem_set hx with hx | rfl
          · exact g4 x hx
          · have : (setEl u v ie.size j).cells.toList.length = ie.size := by rw [hse, over_length (by simpa [hus] using hj)]; simpa using hus
            simpa using this) (by simp) ht
         refine ⟨w', ?_, r2, r3⟩
         have hl := hv.cells.length
         have hs : v'.cells.size = ti.size := by simp at hl hn; omega
         rw [← Nat.add_assoc] at r1
         simp [Instr.storeAt, Instr.sureAddr, storeVar, run_size ok hti, hs, r1]
       · cases h
   · cases h
 · cases h
theorem arr_put {P : Program} {σ : Sig} {A : AH} {w : World} (R : Rel P σ A w) {f B b d c n off : Nat} {e : TypeId} {els rest els2 rest2 vs vs' : List Value} {t : T AObj} (hg : A.t.get B = some (.arr els rest n e)) (hσ : σ B = some (b, d, c)) (hv : VRs σ vs vs') (hcv : vs.all cellv = true)
 (h0 : 0 < vs.length) (hoff : off + vs.length ≤ (els ++ rest).length) (he : els2 ++ rest2 = over (els ++ rest) off vs) (hlen : els2.length = n) (ht : T.set f A.t B (.arr els2 rest2 n e) = some t) :
 ∃ w', (storeCells ⟨b, d + off, none⟩ vs').run P w = .ok () w' ∧ Rel P σ ⟨t, A.next⟩ w' ∧ Ext σ A w σ ⟨t, A.next⟩ w' := by
 obtain ⟨⟨ca, lo, hi, g1, g2, g3, g4, g5⟩, g6⟩ := R.at hg rfl hσ
 have hl := hv.length
 have hsz2 : d + off + vs'.length ≤ ca.size := by
  have hlast : off + vs.length - 1 < (els ++ rest).length := by omega
  obtain ⟨v', e1, _⟩ := g3 (off + vs.length - 1) (els ++ rest)[off + vs.length - 1] (List.getElem?_eq_getElem hlast)
  have : d + (off + vs.length - 1) < ca.size := by
   rcases Nat.lt_or_ge (d + (off + vs.length - 1)) ca.size with h | h
   · exact h
   · rw [Array.getElem?_eq_none h] at e1; cases e1
  omega
 obtain ⟨w', r1, r2, r3, r4, r5, r6, r7, r8⟩ := run_stores (P := P) vs' 0 w b (d + off) ca e lo hi g1 (by omega) g2 (hv.cellv hcv)
 refine ⟨w', r1, ?_, Ext.upd hg rfl hσ ht r2 r3 r5 r6 r7⟩
 refine R.upd hg rfl hσ ht rfl r2 r3 ?_
 rw [r4]
 have hsz' : d + off + vs'.length ≤ ca.toList.length := by simpa using hsz2
 refine ⟨⟨_, lo, hi, rfl, fun i hi' => g2 i (by rw [List.size_toArray, over_length (by simpa using hsz2)] at hi'; simpa using hi'), fun i v hiv => ?_, by rw [List.size_toArray, over_length (by simpa using hsz2)]; simpa using g4, g5⟩, hlen⟩
 rw [he, over_get hoff] at hiv
 have hget : (over ca.toList (d + off + 0) vs').toArray[d + i]? = (over ca.toList (d + off) vs')[d + i]? := by simp
 rw [hget, over_get hsz']
 by_cases k1 : i < off
 · rw [if_pos k1] at hiv
   rw [if_pos (by omega)]
   obtain ⟨v', e1, e2⟩ := g3 i v hiv
   exact ⟨v', by simpa using e1, e2⟩
 · rw [if_neg k1] at hiv
   rw [if_neg (by omega)]
   by_cases k2 : i < off + vs.length
   · rw [if_pos k2] at hiv
     rw [if_pos (by omega)]
     obtain ⟨v', e1, e2⟩ := hv.get hiv
     exact ⟨v', by rw [← e1]; congr 1; omega, e2⟩
   · rw [if_neg k2] at hiv
     rw [if_neg (by omega)]
     obtain ⟨v', e1, e2⟩ := g3 i v hiv
     exact ⟨v', by simpa using e1, e2⟩
def arrStore (E : Env) (A : AH) (t : TypeId) (a v : Value) : Option AH :=
 match a with
 | .pointer (some ⟨B, o, none⟩) => (match A.t.get B with
   | some (.arr els rest n e) => (match E.ti t with
     | some ti => (match Nat.ble n o with
       | true => bif (Nat.beq v.cells.toList.length ti.size && v.cells.toList.all cellv) && (Nat.blt 0 v.cells.toList.length && Nat.ble (o - n + v.cells.toList.length) rest.length) then
        (match T.set FU A.t B (.arr els (over rest (o - n) v.cells.toList) n e) with | some t => some ⟨t, A.next⟩ | none => none) else none
       | false => bif (Nat.beq v.cells.toList.length ti.size && v.cells.toList.all cellv) && (Nat.beq o 0 && Nat.beq v.cells.toList.length n) then
        (match T.set FU A.t B (.arr v.cells.toList rest n e) with | some t => some ⟨t, A.next⟩ | none => none) else none)
     | none => none)
   | _ => none)
 | .func (.yield sz) ⟨[.pointer (some ⟨B, 0, none⟩)]⟩ ⟨[.int .i64 i, .int .i64 j, .bool true]⟩ => (match A.t.get B with
   | some (.arr els rest n e) => (match E.ti t, v.cells.toList with
     | some ti, [x] => bif (Nat.beq sz 1 && Nat.beq j.toNat 0) && ((Nat.beq ti.size 1 && cellv x) && Nat.blt i.toNat n) then
      (match T.set FU A.t B (.arr (els.set i.toNat x) rest n e) with | some t => some ⟨t, A.next⟩ | none => none) else none
     | _, _ => none)
   | some (.cells c e) => (match E.ti t with
     | some ti => bif (Nat.beq sz 1 && Nat.beq j.toNat 0) && (Nat.beq ti.size 1 && Nat.beq v.cells.toList.length 1) then putCells A B i.toNat v.cells.toList else none
     | none => none)
   | _ => none)
 | _ => none
theorem over_set {c : List Value} {i : Nat} {x : Value} (h : i < c.length) : over c i [x] = c.set i x := by
 unfold over
 rw [List.set_eq_take_append_cons_drop, if_pos h]
 simp
theorem arrStore_ok {E : Env} (ok : E.Ok) {σ : Sig} {A A' : AH} {w : World} (R : Rel E.P σ A w) {t : TypeId} {a v a' v' : Value} (ha : VR σ a a') (hv : VR σ v v') (h : arrStore E A t a v = some A') :
 ∃ w', (Instr.storeAt t a' v').run E.P w = .ok () w' ∧ Rel E.P σ A' w' ∧ Ext σ A w σ A' w' := by
 have hvl := hv.cells.length
 unfold arrStore at h
 split at h
 · rename_i B o
   cases ha with
   | @ptr _ b d c o' hσ =>
     split at h
     · rename_i els rest n e hB
       have hor := R.at hB rfl hσ
       obtain ⟨_, hlen⟩ := id hor
       split at h
       · rename_i ti hti
         have fin : ∀ {els2 rest2 : List Value} {A2 : AH}, ((Nat.beq v.cells.toList.length ti.size && v.cells.toList.all cellv) = true) → 0 < v.cells.toList.length → o + v.cells.toList.length ≤ (els ++ rest).length → els2 ++ rest2 = over (els ++ rest) o v.cells.toList → els2.length = n →
          (match T.set FU A.t B (.arr els2 rest2 n e) with | some t => some (⟨t, A.next⟩ : AH) | none => none) = some A2 → ∃ w', (Instr.storeAt t (.pointer (some ⟨b, d + o, none⟩)) v').run E.P w = .ok () w' ∧ Rel E.P σ A2 w' ∧ Ext σ A w σ A2 w' := by
          intro els2 rest2 A2 h1 h0 h2 h3 h4 h5
          split at h5
          · rename_i t2 ht
            simp only [Option.some.injEq] at h5
            subst h5
            simp only [Bool.and_eq_true, Nat.beq_eq] at h1
            obtain ⟨w', r1, r2, r3⟩ := arr_put R hB hσ hv.cells h1.2 h0 h2 h3 h4 ht
            refine ⟨w', ?_, r2, r3⟩
            have hs : v'.cells.size = ti.size := by simp at hvl h1; omega
            simp [Instr.storeAt, Instr.sureAddr, storeVar, run_size ok hti, hs, r1]
          · cases h5
         split at h
         · rename_i hno
           rw [Nat.ble_eq] at hno
           cases hb : (Nat.beq v.cells.toList.length ti.size && v.cells.toList.all cellv) && (Nat.blt 0 v.cells.toList.length && Nat.ble (o - n + v.cells.toList.length) rest.length) with
           | false => rw [hb] at h; simp at h
           | true =>
             rw [hb] at h
             simp only [cond_true] at h
             rw [Bool.and_eq_true, Bool.and_eq_true (a := Nat.blt _ _), Nat.ble_eq, Nat.blt_eq] at hb
             obtain ⟨hb1, hb2, hb3⟩ := hb
             have := fin hb1 hb2 (by rw [List.length_append]; omega) (by
              have := over_mid (a := els) (u := rest) (r := []) (vs := v.cells.toList) (j := o - n) hb3
              rw [List.append_nil, List.append_nil, hlen, show n + (o - n) = o by omega] at this
              exact this.symm) hlen h
             exact this
         · rename_i hno
           cases hb : (Nat.beq v.cells.toList.length ti.size && v.cells.toList.all cellv) && (Nat.beq o 0 && Nat.beq v.cells.toList.length n) with
           | false => rw [hb] at h; simp at h
           | true =>
             rw [hb] at h
             simp only [cond_true] at h
             rw [Bool.and_eq_true, Bool.and_eq_true (a := Nat.beq o 0), Nat.beq_eq, Nat.beq_eq] at hb
             obtain ⟨hb1, rfl, hb3⟩ := hb
             have hn0 : 0 < n := by
              rcases Nat.eq_zero_or_pos n with q | q
              · subst q; simp at hno
              · exact q
             have := fin hb1 (by omega) (by rw [List.length_append]; omega) (by
              unfold over
              rw [Nat.zero_add, hb3, ← hlen, List.drop_left]
              simp) hb3 h
             exact this
       · cases h
     · cases h
 · rename_i sz B i j
   cases ha with
   | func fn hf => simp [Fn.still] at hf
   | @gp _ b d c _ i j hσ =>
     simp only [Int.toNat_natCast] at h
     split at h
     · rename_i els rest n e hB
       have hor := R.at hB rfl hσ
       obtain ⟨_, hlen⟩ := id hor
       split at h
       · rename_i ti x hti hx
         cases hb : (Nat.beq sz 1 && Nat.beq j 0) && ((Nat.beq ti.size 1 && cellv x) && Nat.blt i n) with
         | false => rw [hb] at h; simp at h
         | true =>
           rw [hb] at h
           simp only [cond_true] at h
           simp only [Bool.and_eq_true, Nat.beq_eq, Nat.blt_eq] at hb
           obtain ⟨⟨rfl, rfl⟩, ⟨hti1, hcx⟩, hin⟩ := hb
           split at h
           · rename_i t2 ht
             simp only [Option.some.injEq] at h
             subst h
             have hvc := hv.cells
             rw [hx] at hvc hvl
             obtain ⟨w', r1, r2, r3⟩ := arr_put R hB hσ hvc (by simp [hcx]) (by simp) (off := i) (by rw [List.length_append]; simp; omega) (by
              rw [over_set (by rw [List.length_append]; omega), List.set_append_left _ _ (by omega)]) (by simpa using hlen) ht
             refine ⟨w', ?_, r2, r3⟩
             have hs : v'.cells.size = ti.size := by simp at hvl; omega
             have e0 : d + i * 1 + 0 = d + i := by omega
             rw [e0]
             simp [Instr.storeAt, Instr.sureAddr, storeVar, run_size ok hti, hs, r1]
           · cases h
       · cases h
     · rename_i cs e hB
       split at h
       · rename_i ti hti
         cases hb : (Nat.beq sz 1 && Nat.beq j 0) && (Nat.beq ti.size 1 && Nat.beq v.cells.toList.length 1) with
         | false => rw [hb] at h; simp at h
         | true =>
           rw [hb] at h
           simp only [cond_true] at h
           simp only [Bool.and_eq_true, Nat.beq_eq] at hb
           obtain ⟨⟨rfl, rfl⟩, hti1, hl1⟩ := hb
           obtain ⟨w', r1, r2, r3⟩ := put_ok R hv.cells h hσ
           refine ⟨w', ?_, r2, r3⟩
           have hs : v'.cells.size = ti.size := by simp at hvl hl1; omega
           have e0 : d + i * 1 + 0 = d + i := by omega
           rw [e0]
           simp [Instr.storeAt, Instr.sureAddr, storeVar, run_size ok hti, hs, r1]
       · cases h
     · cases h
 · cases h
def storeA0 (E : Env) (A : AH) (t : TypeId) (a v : Value) : Option AH :=
 match a with
 | .pointer (some ⟨B, o, none⟩) => (match E.ti t with
   | some i => let vs := v.cells.toList; bif Nat.beq vs.length i.size then putCells A B o vs else none
   | none => none)
 | .func (.yield sz) ⟨[.pointer (some ⟨B, 0, none⟩)]⟩ ⟨[.int .i64 i, .int .i64 j, .bool true]⟩ => groStore E A t B sz i.toNat j.toNat v
 | _ => none
theorem store0_ok {E : Env} (ok : E.Ok) {σ : Sig} {A A' : AH} {w : World} (R : Rel E.P σ A w) {t : TypeId} {a v a' v' : Value} (ha : VR σ a a') (hv : VR σ v v') (h : storeA0 E A t a v = some A') :
 ∃ w', (Instr.storeAt t a' v').run E.P w = .ok () w' ∧ Rel E.P σ A' w' ∧ Ext σ A w σ A' w' := by
 unfold storeA0 at h
 split at h
 · rename_i B o
   cases ha with
   | ptr o' hσ =>
     rename_i b d c
     split at h
     · rename_i i hi
       simp only at h
       cases hb : Nat.beq v.cells.toList.length i.size with
       | false => rw [hb] at h; simp at h
       | true =>
         rw [hb] at h
         simp only [cond_true] at h
         have hb := Nat.eq_of_beq_eq_true hb
         obtain ⟨w', r1, r2, r3⟩ := put_ok R hv.cells h hσ
         refine ⟨w', ?_, r2, r3⟩
         have hl := hv.cells.length
         have hs : v'.cells.size = i.size := by simp at hl hb; omega
         simp [Instr.storeAt, Instr.sureAddr, storeVar, run_size ok hi, hs, r1]
     · cases h
 · rename_i sz B i j
   cases ha with
   | func fn hf => simp [Fn.still] at hf
   | @gp _ b d c _ i j hσ =>
     simp only [Int.toNat_natCast] at h
     exact groStore_ok ok R hσ hv h
 · cases h
def storeA (E : Env) (A : AH) (t : TypeId) (a v : Value) : Option AH := match storeA0 E A t a v with | some r => some r | none => arrStore E A t a v
theorem store_ok {E : Env} (ok : E.Ok) {σ : Sig} {A A' : AH} {w : World} (R : Rel E.P σ A w) {t : TypeId} {a v a' v' : Value} (ha : VR σ a a') (hv : VR σ v v') (h : storeA E A t a v = some A') :
 ∃ w', (Instr.storeAt t a' v').run E.P w = .ok () w' ∧ Rel E.P σ A' w' ∧ Ext σ A w σ A' w' := by
 unfold storeA at h
 split at h
 · rename_i r hr
   simp only [Option.some.injEq] at h
   subst h
   exact store0_ok ok R ha hv hr
 · exact arrStore_ok ok R ha hv h
def srcA (A : AH) (size : Nat) (x : Value) : Option (Nat × List Value) :=
 match x with
 | .slice none n k => bif Nat.beq n 0 then some (0, []) else none
 | .slice (some ⟨B, o, none⟩) n k => bif Nat.beq n 0 then some (0, []) else (match lookN A B o (n * size) with
   | some l => bif l.all cellv then some (n, l) else none
   | none => none)
 | .string s => bif Nat.beq size 1 then some (s.size, s.data.toList.map fun b => .int .u8 b.toNat) else none
 | _ => none
theorem lookN_length {A : AH} {B o n : Nat} {l : List Value} (h : lookN A B o n = some l) : l.length = n := by
 unfold lookN at h
 split at h
 · simp only at h
   rename_i c hc
   cases hb : Nat.beq ((c.drop o).take n).length n with
   | false => rw [hb] at h; simp at h
   | true => rw [hb] at h; simp only [cond_true, Option.some.injEq] at h; subst h; exact Nat.eq_of_beq_eq_true hb
 · cases h
theorem src_ok {P : Program} {σ : Sig} {A : AH} {w : World} (R : Rel P σ A w) {size n : Nat} {x x' : Value} {news : List Value} (hx : VR σ x x') (h : srcA A size x = some (n, news)) {tx : TypeId}
 (hk : (∃ e', P.underlying tx = some (.slice e')) ∨ P.underlying tx = some .string) : ∃ news', VRs σ news news' ∧ Src P size tx x' n news' w ∧ news.length = n * size ∧ news.all cellv = true := by
 unfold srcA at h
 split at h
 · rename_i n0 k
   cases hb : Nat.beq n0 0 with
   | false => rw [hb] at h; simp at h
   | true =>
     rw [hb] at h
     simp only [cond_true, Option.some.injEq, Prod.mk.injEq] at h
     obtain ⟨rfl, rfl⟩ := h
     obtain rfl := Nat.eq_of_beq_eq_true hb
     cases hx
     exact ⟨[], .nil, ⟨hk, fun _ => rfl, rfl, rfl, by simp, by simp⟩, by simp, rfl⟩
 · rename_i B o n0 k
   cases hb : Nat.beq n0 0 with
   | true =>
     rw [hb] at h
     simp only [cond_true, Option.some.injEq, Prod.mk.injEq] at h
     obtain ⟨rfl, rfl⟩ := h
     obtain rfl := Nat.eq_of_beq_eq_true hb
     have hx2 : ∃ a' kk, x' = .slice a' 0 kk := by cases hx <;> exact ⟨_, _, rfl⟩
     obtain ⟨a', kk, rfl⟩ := hx2
     cases a' with
     | none => exact ⟨[], .nil, ⟨hk, fun _ => rfl, rfl, rfl, by simp, by simp⟩, by simp, rfl⟩
     | some a' => exact ⟨[], .nil, ⟨hk, fun _ => rfl, by simp [Builtin.firstCells, loadCells, loadCellsFrom], by simp [Builtin.firstCells, loadCells, loadCellsFrom], by simp, by simp⟩, by simp, rfl⟩
   | false =>
     rw [hb] at h
     simp only [cond_false] at h
     have hn' := beq_false_ne hb
     split at h
     · rename_i l hl
       cases hc : l.all cellv with
       | false => rw [hc] at h; simp at h
       | true =>
         rw [hc] at h
         simp only [cond_true, Option.some.injEq, Prod.mk.injEq] at h
         obtain ⟨rfl, rfl⟩ := h
         have hx2 : ∃ b d c kk, σ B = some (b, d, c) ∧ x' = .slice (some ⟨b, d + o, none⟩) n0 kk := by
          cases hx with
          | slice i' n' k' hσ hk => exact ⟨_, _, _, _, hσ, rfl⟩
          | sliceU n' hσ hn => exact ⟨_, _, _, _, hσ, rfl⟩
          | sliceV i' n' k' hσ hn => exact ⟨_, _, _, _, hσ, rfl⟩
          | sliceE a a' k' => exact absurd rfl hn'
          | gs0 => exact absurd rfl hn'
          | gs lo o' n' k' m hσ hk hc ho hm => exact ⟨_, _, _, _, hσ, rfl⟩
         obtain ⟨b, d, c, kk, hσ, rfl⟩ := hx2
         obtain ⟨l', g1, g2⟩ := look_cells2 R hl hσ
         exact ⟨l', g1, ⟨hk, fun _ => rfl, g2 w rfl, g2 w.drew rfl, by rw [g1.length, lookN_length hl], g1.cellv hc⟩, lookN_length hl, hc⟩
     · cases h
 · rename_i s
   cases hb : Nat.beq size 1 with
   | false => rw [hb] at h; simp at h
   | true =>
     rw [hb] at h
     simp only [cond_true, Option.some.injEq, Prod.mk.injEq] at h
     obtain ⟨rfl, rfl⟩ := h
     obtain rfl := Nat.eq_of_beq_eq_true hb
     cases hx
     have hall : (s.data.toList.map fun b => Value.int .u8 b.toNat).all scal = true := by rw [List.all_eq_true]; intro x hx; obtain ⟨_, _, rfl⟩ := List.mem_map.1 hx; rfl
     have hall2 : (s.data.toList.map fun b => Value.int .u8 b.toNat).all cellv = true := by rw [List.all_eq_true]; intro x hx; obtain ⟨_, _, rfl⟩ := List.mem_map.1 hx; rfl
     refine ⟨_, scals_refl hall σ, ⟨hk, fun _ => rfl, firstCells_string s w, firstCells_string s w.drew, ?_, ?_⟩, ?_, hall2⟩
     · have := byteCells_length s; unfold byteCells at this; rw [this, Nat.mul_one]
     · intro u hu; obtain ⟨_, _, rfl⟩ := List.mem_map.1 hu; rfl
     · have := byteCells_length s; unfold byteCells at this; rw [this, Nat.mul_one]
 · cases h
def newBlock (A : AH) (o : AObj) : Option AH :=
 match T.set FU A.t A.next o with | some t => some ⟨t, A.next + 1⟩ | none => none
def slcOrStr : TypeDesc → Bool
 | .slice _ | .string => true
 | _ => false
def appendA (E : Env) (A : AH) (ts : List TypeId) (s x : Value) : Option (Value × AH) :=
 match ts with
 | [t, tx] => (match und E t, und E tx with
   | some (.slice e), some dx => (match E.ti e with
     | some ie => (match ie.zero, srcA A ie.size x with
       | some z, some (n, news) =>
         bif slcOrStr dx && (Nat.beq z.cells.toList.length ie.size && Nat.blt 0 ie.size) then
         (match s with
         | .slice none sl sk =>
           bif Nat.beq sl 0 && Nat.beq sk 0 then
            bif Nat.beq n 0 then some (s, A)
            else bif Nat.ble n 70368744177664 && Nat.ble (n * ie.bytes) 140737488355328 then
             (match newBlock A (.cells news e) with | some A' => some (.slice (some ⟨A.next, 0, none⟩) n unk, A') | none => none) else none
           else none
         | .slice (some ⟨B, o, none⟩) sl sk =>
           bif Nat.beq n 0 then bif Nat.ble unk sk || Nat.ble sl sk then some (s, A) else none
           else bif Nat.ble (sl + n) 70368744177664 && Nat.ble ((sl + n) * ie.bytes) 140737488355328 then
            bif Nat.blt sk unk then
             bif Nat.ble (sl + n) sk then (match putCells A B (o + sl * ie.size) news with | some A' => some (.slice (some ⟨B, o, none⟩) (sl + n) sk, A') | none => none)
             else (match (bif Nat.beq sl 0 then some [] else lookN A B o (sl * ie.size)) with
              | some olds => (match newBlock A (.cells (olds ++ news) e) with | some A' => some (.slice (some ⟨A.next, 0, none⟩) (sl + n) unk, A') | none => none)
              | none => none)
            else bif Nat.beq sk unk then
             (match A.t.get B with
             | some (.cells c eb) => bif Nat.beq eb e && Nat.ble (sl * ie.size) c.length then
               (match T.set FU A.t B .dead with
               | some t' => (match T.set FU t' A.next (.cells (c.take (sl * ie.size) ++ news) e) with
                 | some t'' => some (.slice (some ⟨A.next, 0, none⟩) (sl + n) unk, ⟨t'', A.next + 1⟩)
                 | none => none)
               | none => none) else none
             | _ => none)
            else none
           else none
         | _ => none) else none
       | _, _ => none)
     | none => none)
   | _, _ => none)
 | _ => none
theorem lookN_take {A : AH} {B n : Nat} {c : List Value} (h : look A B = some c) (hn : n ≤ c.length) : lookN A B 0 n = some (c.take n) := by
 unfold lookN
 rw [h]
 have hlen : (c.take n).length = n := by simp; omega
 have hb : Nat.beq (c.take n).length n = true := by rw [hlen]; simp
 simp only [List.drop_zero, hb, cond_true]
theorem zeroCells_size (z : Array Value) (n : Nat) : (Builtin.zeroCells z n).size = n * z.size := by simp [Builtin.zeroCells]
theorem or_grown {P : Program} {σ' : Sig} {c c' : List Value} {e : TypeId} {ie : TypeInfo} {z : Value} {cap need : Nat} (hi : P.info? e = some ie) (hz : z.cells.size = ie.size) (hl : c'.length = need * ie.size) (hcap : need ≤ cap) (h : VRs σ' c c') :
 OR P σ' (some (.cells (c'.toArray ++ Builtin.zeroCells z.cells (cap - need)) e)) 0 cap (.cells c e) := by
 refine ⟨_, 0, 0, rfl, fun i _ h => by omega, fun i v hv => ?_, ?_, rfl⟩
 · obtain ⟨v', h1, h2⟩ := h.get hv
   refine ⟨v', ?_, h2⟩
   have hlt : i < c'.length := (List.getElem?_eq_some_iff.1 h1).1
   rw [Nat.zero_add, Array.getElem?_append, if_pos (by simpa using hlt)]
   simpa using h1
 · rw [Array.size_append, zeroCells_size, hz, List.size_toArray, hl]
   simp only [Program.cellsOf, hi, Option.map_some, Option.getD_some, Nat.zero_add]
   rw [← Nat.add_mul]
   exact Nat.le_of_eq (by congr 1; omega)
theorem append_ok {E : Env} (ok : E.Ok) {σ : Sig} {A A' : AH} {w : World} (R : Rel E.P σ A w) {ts : Array TypeId} {ty : TypeId} {s x s' x' v : Value} (hs : VR σ s s') (hx : VR σ x x') (h : appendA E A ts.toList s x = some (v, A')) :
    ∃ v' w' σ', (Builtin.append_ ts ty #[s', x']).run E.P w = .ok v' w' ∧ VR σ' v v' ∧ Rel E.P σ' A' w' ∧ Ext σ A w σ' A' w' := by
  unfold appendA at h
  split at h
  · rename_i t tx hts
    obtain rfl : ts = #[t, tx] := by cases ts; simp_all
    split at h
    · rename_i e dx hu hux
      split at h
      · rename_i ie hie
        split at h
        · rename_i z n news hz hsrc
          cases hb : (slcOrStr dx && (Nat.beq z.cells.toList.length ie.size && Nat.blt 0 ie.size)) with
          | false => rw [hb] at h; simp at h
          | true =>
            rw [hb] at h
            simp only [cond_true] at h
            simp only [Bool.and_eq_true, blt_eq, decide_eq_true_eq] at hb
            obtain ⟨b1, b2, b3⟩ := hb
            have b2 : z.cells.size = ie.size := by have := Nat.eq_of_beq_eq_true b2; simpa using this
            have hut := und_ok ok hu
            have hi := ok.ti _ _ hie
            have hk : (∃ e', E.P.underlying tx = some (.slice e')) ∨ E.P.underlying tx = some .string := by
              have := und_ok ok hux
              cases dx <;> simp [slcOrStr] at b1
              · exact .inr this
              · exact .inl ⟨_, this⟩
            obtain ⟨news', hnews, hS, hnl, hcv⟩ := src_ok R hx hsrc hk
            have grow : ∀ (base : Option Addr) (sl sk : Nat) (olds olds' : List Value) (A0 : AH), Rel E.P σ A0 w → A0.next = A.next →
                VRs σ olds olds' → olds.length = sl * ie.size → (Builtin.firstCells ie.size sl (.slice base sl sk)).run E.P w.drew = .ok olds'.toArray w.drew →
                sk < sl + n → sl + n ≤ 70368744177664 → (sl + n) * ie.bytes ≤ 140737488355328 → ∀ t2, T.set FU A0.t A.next (.cells (olds ++ news) e) = some t2 →
                (∃ cap : Nat, sl + n ≤ cap ∧ ∃ w' : World, (Builtin.append_ #[t, tx] ty #[.slice base sl sk, x']).run E.P w = .ok (.slice (some ⟨w.heap.size, 0, none⟩) (sl + n) cap) w' ∧
                  Rel E.P (upd σ A.next (w.heap.size, 0, cap)) ⟨t2, A.next + 1⟩ w' ∧ Ext σ A0 w (upd σ A.next (w.heap.size, 0, cap)) ⟨t2, A.next + 1⟩ w') := by
              intro base sl sk olds olds' A0 R0 hn0 ho hol hold hlt hsm hby t2 ht2
              have hfit : Builtin.nextslicecap (sl + n) sk * ie.bytes ≤ 281474976710656 := by
                have h1 := Room.nextslicecap_le' hlt
                calc Builtin.nextslicecap (sl + n) sk * ie.bytes ≤ 2 * (sl + n) * ie.bytes := Nat.mul_le_mul_right _ h1
                  _ = 2 * ((sl + n) * ie.bytes) := Nat.mul_assoc _ _ _
                  _ ≤ 281474976710656 := by omega
              have hrun := run_append_grow_src w t tx ty e ie z hut hi hz base sl sk olds' hold x' n news' hS hlt (by omega) hfit
              have hge := grownCap_ge w (sl + n) sk e
              generalize grownCap w (sl + n) sk e = cap at hrun hge
              refine ⟨cap, hge, _, hrun, ?_, ?_⟩
              · rw [← hn0] at ht2 ⊢
                refine R0.alloc (ob := .cells ((olds' ++ news').toArray ++ Builtin.zeroCells z.cells (cap - (sl + n))) e) ht2 (R0.fresh _ (Nat.le_refl _)) (Nat.lt_succ_self _) (Nat.le_succ _) ?_ rfl
                refine or_grown hi b2 ?_ hge (((ho.mono (upd_sub (R0.fresh _ (Nat.le_refl _))))).append (hnews.mono (upd_sub (R0.fresh _ (Nat.le_refl _)))))
                rw [List.length_append, ho.length, hol, hnews.length, hnl, Nat.add_mul]
              · rw [← hn0] at ht2 ⊢
                exact Ext.alloc R0 ht2 (Nat.le_succ _) (ob := .cells ((olds' ++ news').toArray ++ Builtin.zeroCells z.cells (cap - (sl + n))) e) rfl rfl rfl rfl
            split at h
            · -- nil
              rename_i sl sk
              cases hs
              cases hb : (Nat.beq sl 0 && Nat.beq sk 0) with
              | false => rw [hb] at h; simp at h
              | true =>
                rw [hb] at h
                simp only [cond_true] at h
                simp only [Bool.and_eq_true] at hb
                obtain ⟨e1, e2⟩ := hb
                obtain rfl := Nat.eq_of_beq_eq_true e1
                obtain rfl := Nat.eq_of_beq_eq_true e2
                cases hn : Nat.beq n 0 with
                | true =>
                  rw [hn] at h
                  simp only [cond_true, Option.some.injEq, Prod.mk.injEq] at h
                  obtain ⟨rfl, rfl⟩ := h
                  obtain rfl := Nat.eq_of_beq_eq_true hn
                  have hnil : news' = [] := by have := hnews.length; rw [hnl] at this; simpa using this
                  subst hnil
                  exact ⟨_, w, σ, run_append_nothing w t tx ty e ie hut hi none 0 0 (Nat.le_refl _) x' hS, .slice0 _ _, R, Ext.refl _ _ _⟩
                | false =>
                  rw [hn] at h
                  simp only [cond_false] at h
                  have hn' := beq_false_ne hn
                  cases hb2 : (Nat.ble n 70368744177664 && Nat.ble (n * ie.bytes) 140737488355328) with
                  | false => rw [hb2] at h; simp at h
                  | true =>
                    rw [hb2] at h
                    simp only [cond_true, newBlock] at h
                    simp only [Bool.and_eq_true, Nat.ble_eq] at hb2
                    cases ht2 : T.set FU A.t A.next (.cells news e) with
                    | none => simp [ht2] at h
                    | some t2 =>
                      simp only [ht2, Option.some.injEq, Prod.mk.injEq] at h
                      obtain ⟨rfl, rfl⟩ := h
                      obtain ⟨cap, g1, w', g2, g3, g4⟩ := grow none 0 0 [] [] A R rfl .nil (by simp) (by simp [Builtin.firstCells]) (by omega) (by omega) (by simpa using hb2.2) t2 (by simpa using ht2)
                      refine ⟨_, w', _, g2, ?_, g3, g4⟩
                      simp only [Nat.zero_add] at g1 ⊢
                      exact .sliceU n upd_same g1
            · rename_i B o sl sk
              cases hn : Nat.beq n 0 with
              | true =>
                rw [hn] at h
                simp only [cond_true] at h
                cases hb2 : (Nat.ble unk sk || Nat.ble sl sk) with
                | false => rw [hb2] at h; simp at h
                | true =>
                  rw [hb2] at h
                  simp only [cond_true, Option.some.injEq, Prod.mk.injEq] at h
                  obtain ⟨rfl, rfl⟩ := h
                  obtain rfl := Nat.eq_of_beq_eq_true hn
                  have hnil : news' = [] := by have := hnews.length; rw [hnl] at this; simpa using this
                  subst hnil
                  have hle : ∃ a' kk, s' = .slice a' sl kk ∧ sl ≤ kk := by
                    cases hs with
                    | slice i' n' k' hσ hk' => simp only [Bool.or_eq_true, Nat.ble_eq] at hb2; exact ⟨_, _, rfl, by omega⟩
                    | sliceU n' hσ hn => exact ⟨_, _, rfl, hn⟩
                    | sliceV i' n' k' hσ hn => exact ⟨_, _, rfl, hn⟩
                    | sliceE a a' k' => exact ⟨_, _, rfl, Nat.zero_le _⟩
                    | gs0 => exact ⟨_, _, rfl, Nat.zero_le _⟩
                    | gs lo o' n' k' m hσ hk hc ho hm => exact ⟨_, _, rfl, hk⟩
                  obtain ⟨a', kk, rfl, hle⟩ := hle
                  exact ⟨_, w, σ, run_append_nothing w t tx ty e ie hut hi a' sl kk hle x' hS, hs, R, Ext.refl _ _ _⟩
              | false =>
                rw [hn] at h
                simp only [cond_false] at h
                have hn' := beq_false_ne hn
                cases hb2 : (Nat.ble (sl + n) 70368744177664 && Nat.ble ((sl + n) * ie.bytes) 140737488355328) with
                | false => rw [hb2] at h; simp at h
                | true =>
                  rw [hb2] at h
                  simp only [cond_true] at h
                  simp only [Bool.and_eq_true, Nat.ble_eq] at hb2
                  have hfirst : ∀ (a' : Addr) (kk : Nat), (Builtin.firstCells ie.size sl (.slice (some a') sl kk)) = loadCells a' (sl * ie.size) := fun _ _ => rfl
                  cases hex : Nat.blt sk unk with
                  | true =>
                    rw [hex] at h
                    simp only [cond_true] at h
                    rw [blt_eq, decide_eq_true_eq] at hex
                    have hcon : ∃ b d c, σ B = some (b, d, c) ∧ s' = .slice (some ⟨b, d + o, none⟩) sl sk := by
                      cases hs with
                      | slice i' n' k' hσ hk => exact ⟨_, _, _, hσ, rfl⟩
                      | sliceU n' hσ hn => omega
                      | sliceV i' n' k' hσ hn => omega
                      | sliceE a a' k' => omega
                      | gs0 B o m a hm => omega
                      | gs lo o' n' k' m hσ hk hc ho hm => omega
                    obtain ⟨b, d, c, hσ, rfl⟩ := hcon
                    cases hroom : Nat.ble (sl + n) sk with
                    | true =>
                      rw [hroom] at h
                      simp only [cond_true] at h
                      have hroom := Nat.le_of_ble_eq_true hroom
                      split at h
                      · rename_i A2 hput
                        simp only [Option.some.injEq, Prod.mk.injEq] at h
                        obtain ⟨rfl, rfl⟩ := h
                        obtain ⟨w', r1, r2, r3⟩ := put_ok R hnews hput hσ
                        refine ⟨.slice (some ⟨b, d + o, none⟩) (sl + n) sk, w', σ, ?_, .slice o (sl + n) sk hσ hex, r2, r3⟩
                        rw [← Nat.add_assoc] at r1
                        rcases hk with ⟨e', hk⟩ | hk <;>
                          simp [Builtin.append_, run_underlying hut, run_underlying hk, sizeOf, typeInfo, hi, hS.len, hroom, hS.cells, add_none, r1]
                      · cases h
                    | false =>
                      rw [hroom] at h
                      simp only [cond_false] at h
                      have hroom' : sk < sl + n := by
                        have : ¬ sl + n ≤ sk := by intro hc; rw [← Nat.ble_eq] at hc; rw [hc] at hroom; cases hroom
                        omega
                      split at h
                      · rename_i olds holds
                        simp only [newBlock] at h
                        cases ht2 : T.set FU A.t A.next (.cells (olds ++ news) e) with
                        | none => simp [ht2] at h
                        | some t2 =>
                          simp only [ht2, Option.some.injEq, Prod.mk.injEq] at h
                          obtain ⟨rfl, rfl⟩ := h
                          have hol : ∃ olds', VRs σ olds olds' ∧ olds.length = sl * ie.size ∧ (Builtin.firstCells ie.size sl (.slice (some ⟨b, d + o, none⟩) sl sk)).run E.P w.drew = .ok olds'.toArray w.drew := by
                            cases hz0 : Nat.beq sl 0 with
                            | true =>
                              rw [hz0] at holds
                              simp only [cond_true, Option.some.injEq] at holds
                              subst holds
                              obtain rfl := Nat.eq_of_beq_eq_true hz0
                              exact ⟨[], .nil, by simp, by simp [Builtin.firstCells, loadCells, loadCellsFrom]⟩
                            | false =>
                              rw [hz0] at holds
                              simp only [cond_false] at holds
                              obtain ⟨l', g1, g2⟩ := look_cells2 R holds hσ
                              exact ⟨l', g1, lookN_length holds, g2 w.drew rfl⟩
                          obtain ⟨olds', q1, q2, q3⟩ := hol
                          obtain ⟨cap, g1, w', g2, g3, g4⟩ := grow (some ⟨b, d + o, none⟩) sl sk olds olds' A R rfl q1 q2 q3 hroom' hb2.1 hb2.2 t2 ht2
                          exact ⟨_, w', _, g2, .sliceU (sl + n) upd_same g1, g3, g4⟩
                      · cases h
                  | false =>
                    rw [hex] at h
                    simp only [cond_false] at h
                    cases huk : Nat.beq sk unk with
                    | false => rw [huk] at h; simp at h
                    | true =>
                      rw [huk] at h
                      simp only [cond_true] at h
                      obtain rfl := Nat.eq_of_beq_eq_true huk
                      have hcon : ∃ b d c, σ B = some (b, d, c) ∧ o = 0 ∧ s' = .slice (some ⟨b, d, none⟩) sl c ∧ sl ≤ c := by
                        cases hs with
                        | slice i' n' k' hσ hk => omega
                        | sliceU n' hσ hn => exact ⟨_, _, _, hσ, rfl, rfl, hn⟩
                        | gs0 B o m a hm => omega
                        | gs lo o' n' k' m hσ hk hc ho hm => omega
                      obtain ⟨b, d, c, hσ, rfl, rfl, hlc⟩ := hcon
                      split at h
                      · rename_i cs eb hg
                        cases hb3 : (Nat.beq eb e && Nat.ble (sl * ie.size) cs.length) with
                        | false => rw [hb3] at h; simp at h
                        | true =>
                          rw [hb3] at h
                          simp only [cond_true] at h
                          simp only [Bool.and_eq_true, Nat.ble_eq] at hb3
                          obtain ⟨h3, h4⟩ := hb3
                          obtain rfl := Nat.eq_of_beq_eq_true h3
                          split at h
                          · rename_i t1 ht1
                            split at h
                            · rename_i t2 ht2
                              simp only [Option.some.injEq, Prod.mk.injEq] at h
                              obtain ⟨rfl, rfl⟩ := h
                              obtain ⟨b', d', c', hσ', ca, lo, hi', g1, g2, g3, g4, g5⟩ := R.obj B _ hg rfl
                              rw [hσ] at hσ'
                              simp only [Option.some.injEq, Prod.mk.injEq] at hσ'
                              obtain ⟨rfl, rfl, rfl⟩ := hσ'
                              have hcell : E.P.cellsOf eb = ie.size := by simp [Program.cellsOf, hi]
                              rw [hcell] at g4
                              by_cases hroom : sl + n ≤ c
                              · -- there is room
                                have hmul : (sl + n) * ie.size ≤ c * ie.size := Nat.mul_le_mul_right _ hroom
                                have hnl' : news'.length = n * ie.size := by rw [hnews.length, hnl]
                                have hsz : d + sl * ie.size + news'.length ≤ ca.size := by rw [hnl']; rw [Nat.add_mul] at hmul; omega
                                obtain ⟨w', r1, r2, r3, r4, r5, r6, r7, r8⟩ := run_stores (P := E.P) news' 0 w b (d + sl * ie.size) ca eb lo hi' g1 (by omega) g2 (hnews.cellv hcv)
                                have hsub : σ.sub (upd σ A.next (b, d, c)) := upd_sub (R.fresh _ (Nat.le_refl _))
                                refine ⟨.slice (some ⟨b, d, none⟩) (sl + n) c, w', upd σ A.next (b, d, c), ?_, .sliceU (sl + n) upd_same hroom, ?_, Ext.move R hg rfl hσ ht1 ht2 r2 r3 r5 r6 r7⟩
                                · rcases hk with ⟨e', hk⟩ | hk <;>
                                    simp [Builtin.append_, run_underlying hut, run_underlying hk, sizeOf, typeInfo, hi, hS.len, hroom, hS.cells, add_none, r1]
                                · refine R.move hg rfl hσ ht1 ht2 rfl r2 r3 ?_
                                  rw [r4]
                                  have hsz' : d + sl * ie.size + news'.length ≤ ca.toList.length := by simpa using hsz
                                  refine ⟨_, lo, hi', rfl, fun i hii => g2 i (by rw [List.size_toArray, over_length (by simpa using hsz)] at hii; simpa using hii), fun i v hiv => ?_, ?_, g5⟩
                                  · have hget : (over ca.toList (d + sl * ie.size + 0) news').toArray[d + i]? = (over ca.toList (d + sl * ie.size) news')[d + i]? := by simp
                                    rw [hget, over_get hsz']
                                    rw [List.getElem?_append] at hiv
                                    have htl : (cs.take (sl * ie.size)).length = sl * ie.size := by simp; omega
                                    rw [htl] at hiv
                                    by_cases k1 : i < sl * ie.size
                                    · rw [if_pos k1, List.getElem?_take, if_pos k1] at hiv
                                      rw [if_pos (by omega)]
                                      obtain ⟨v', e1, e2⟩ := g3 i v hiv
                                      exact ⟨v', by simpa using e1, e2.mono hsub⟩
                                    · rw [if_neg k1] at hiv
                                      rw [if_neg (by omega)]
                                      have hin : i - sl * ie.size < news.length := (List.getElem?_eq_some_iff.1 hiv).1
                                      rw [if_pos (by rw [hnl']; omega)]
                                      obtain ⟨v', e1, e2⟩ := hnews.get hiv
                                      have ei : d + i - (d + sl * ie.size) = i - sl * ie.size := by omega
                                      exact ⟨v', by rw [ei]; exact e1, e2.mono hsub⟩
                                  · rw [List.size_toArray, over_length (by simpa using hsz), hcell]; simpa using g4
                              · -- it grows
                                have hol : ∃ olds', VRs σ (cs.take (sl * ie.size)) olds' ∧ (Builtin.firstCells ie.size sl (.slice (some ⟨b, d, none⟩) sl c)).run E.P w.drew = .ok olds'.toArray w.drew := by
                                  have hl : lookN A B 0 (sl * ie.size) = some (cs.take (sl * ie.size)) := lookN_take (by unfold look; rw [hg]) h4
                                  obtain ⟨l', q1, q2⟩ := look_cells2 R hl hσ
                                  exact ⟨l', q1, by rw [hfirst]; have := q2 w.drew rfl; simpa using this⟩
                                obtain ⟨olds', q1, q3⟩ := hol
                                have q2 : (cs.take (sl * ie.size)).length = sl * ie.size := by simp; omega
                                obtain ⟨cap, k1, w', k2, k3, k4⟩ := grow (some ⟨b, d, none⟩) sl c _ olds' ⟨t1, A.next⟩ (R.dead ht1) rfl q1 q2 q3 (by omega) hb2.1 hb2.2 t2 ht2
                                exact ⟨_, w', _, k2, .sliceU (sl + n) upd_same k1, k3, (Ext.dead ht1).trans k4⟩
                            · cases h
                          · cases h
                      · cases h
            · cases h
        · cases h
      · cases h
    · cases h
  · cases h
theorem ERs.get {σ : Sig} : ∀ {l : List (Value × Value × Nat)} {l' : List MapEntry}, ERs σ l l' → ∀ {i : Nat} {x}, l[i]? = some x → ∃ e, l'[i]? = some e ∧ ER σ x e
 | _, _, .nil, i, x, h => by simp at h
 | _, _, .cons hv t, i, x, h => by
   cases i with
   | zero => simp at h; subst h; exact ⟨_, by simp, hv⟩
   | succ i => simp at h; obtain ⟨v', h1, h2⟩ := t.get h; exact ⟨v', by simpa using h1, h2⟩
theorem ERs.append {σ : Sig} : ∀ {l m : List (Value × Value × Nat)} {l' m' : List MapEntry}, ERs σ l l' → ERs σ m m' → ERs σ (l ++ m) (l' ++ m')
 | _, _, _, _, .nil, h => h
 | _, _, _, _, .cons hv t, h => .cons hv (t.append h)
theorem ERs.set {σ : Sig} : ∀ {l : List (Value × Value × Nat)} {l' : List MapEntry} (n : Nat) {x e}, ERs σ l l' → ER σ x e → ERs σ (l.set n x) (l'.set n e)
 | _, _, _, _, _, .nil, _ => .nil
 | _, _, 0, _, _, .cons _ t, h => .cons h t
 | _, _, n + 1, _, _, .cons hv t, h => .cons hv (t.set n h)
theorem ERs.erase {σ : Sig} : ∀ {l : List (Value × Value × Nat)} {l' : List MapEntry} (n : Nat), ERs σ l l' → ERs σ (l.eraseIdx n) (l'.eraseIdx n)
 | _, _, _, .nil => .nil
 | _, _, 0, .cons _ t => t
 | _, _, n + 1, .cons hv t => .cons hv (t.erase n)
theorem run_setObj {P : Program} {w : World} {b : Nat} {o o2 : Obj} (h : w.heap[b]? = some o) (hc : ∀ c e f, o ≠ .cells c e f) : (setObj b o2).run P w = .ok () { w with heap := w.heap.setIfInBounds b o2 } := by
 unfold setObj
 cases o <;> first | exact absurd rfl (hc _ _ _) | simp [Sem.run, h]
def setA (A : AH) (B : Nat) (o : AObj) : Option AH := match T.set FU A.t B o with | some t => some ⟨t, A.next⟩ | none => none
theorem set_ok {P : Program} {σ : Sig} {A A' : AH} {w : World} (R : Rel P σ A w) {B b d c : Nat} {o o2 : AObj} {ob ob2 : Obj} (hg : A.t.get B = some o) (ho : o.own = true) (ho2 : o2.own = true) (hσ : σ B = some (b, d, c)) (hset : setA A B o2 = some A')
 (hob : w.heap[b]? = some ob) (hor : OR P σ (some ob2) d c o2) :
 Rel P σ A' { w with heap := w.heap.setIfInBounds b ob2 } ∧ Ext σ A w σ A' { w with heap := w.heap.setIfInBounds b ob2 } := by
 unfold setA at hset
 split at hset
 · rename_i t ht
   simp only [Option.some.injEq] at hset
   subst hset
   have hlt : b < w.heap.size := by
    rcases Nat.lt_or_ge b w.heap.size with h | h
    · exact h
    · rw [Array.getElem?_eq_none h] at hob; cases hob
   have h1 : (w.heap.setIfInBounds b ob2).size = w.heap.size := by simp
   have h2 : ∀ b', b' ≠ b → (w.heap.setIfInBounds b ob2)[b']? = w.heap[b']? := fun b' hne => by rw [Array.getElem?_setIfInBounds]; rw [if_neg (fun e => hne e.symm)]
   have h3 : (w.heap.setIfInBounds b ob2)[b]? = some ob2 := by rw [Array.getElem?_setIfInBounds]; simp [hlt]
   exact ⟨R.upd hg ho hσ ht ho2 h1 h2 (by simp only [h3]; exact hor), Ext.upd hg ho hσ ht h1 h2 rfl rfl rfl⟩
 · cases hset
def mapUpdA (E : Env) (A : AH) (t : TypeId) (m k v : Value) : Option AH :=
 match und E t, m with
 | some (.map kt et), .map (some B) => (match A.t.get B with
   | some (.map es clock) => bif flat k && keyOk E false kt k then
     (match findK E kt k es with
     | some none => setA A B (.map (es ++ [(k, v, clock)]) (clock + 1))
     | some (some (i, _)) => (match nth es i with
       | some (key, _, born) => bif Instr.sameBits 10000 key k then setA A B (.map (es.set i (k, v, born)) clock) else none
       | none => none)
     | none => none) else none
   | _ => none)
 | _, _ => none
theorem mapUpd_ok {E : Env} (ok : E.Ok) {σ : Sig} {A A' : AH} {w : World} (R : Rel E.P σ A w) {t : TypeId} {m k v m' k' v' : Value} (hm : VR σ m m') (hk : VR σ k k') (hv : VR σ v v') (h : mapUpdA E A t m k v = some A') :
 ∃ w', (Instr.mapUpdate t m' k' v').run E.P w = .ok () w' ∧ Rel E.P σ A' w' ∧ Ext σ A w σ A' w' := by
 unfold mapUpdA at h
 split at h
 · rename_i kt et B hu
   split at h
   · rename_i es clock hg
     cases hb : (flat k && keyOk E false kt k) with
     | false => rw [hb] at h; simp at h
     | true =>
       rw [hb] at h
       simp only [cond_true] at h
       simp only [Bool.and_eq_true] at hb
       obtain ⟨hf, hko⟩ := hb
       obtain rfl := flat_eq hf hk
       obtain ⟨b, d, c, es', h1, h2, h3⟩ := map_at R hg
       cases hm with
       | map hσ =>
         rw [hσ] at h1
         simp only [Option.some.injEq, Prod.mk.injEq] at h1
         obtain ⟨rfl, rfl, rfl⟩ := h1
         obtain ⟨f1, f2⟩ := find_ok ok h3 (kt := kt) (k := k') w
         have hgo := run_getObj (P := E.P) h2 (by simp)
         split at h
         · rename_i hfn
           have hor : ∀ dd cc, OR E.P σ (some (.map (es'.push { key := k', val := v', born := clock }) (clock + 1))) dd cc (.map (es ++ [(k', v, clock)]) (clock + 1)) :=
            fun _ _ => ⟨_, rfl, by rw [Array.toList_push]; exact h3.append (.cons ⟨rfl, hv, rfl⟩ .nil)⟩
           obtain ⟨r1, r2⟩ := set_ok R hg rfl rfl hσ h h2 (hor _ _)
           refine ⟨_, ?_, r1, r2⟩
           simp [Instr.mapUpdate, run_und ok hu, hgo, key_ok ok hko, f1 hfn, run_setObj h2 (by simp)]
         · rename_i i u hfn
           obtain ⟨u', g1, g2⟩ := f2 i u hfn
           rw [nth_eq] at h
           split at h
           · rename_i key vv born hi
             cases hsb : Instr.sameBits 10000 key k' with
             | false => rw [hsb] at h; simp at h
             | true =>
               rw [hsb] at h
               simp only [cond_true] at h
               obtain ⟨e, e1, e2, e3, e4⟩ := h3.get hi
               simp only at e2 e3 e4
               have e1' : es'[i]? = some e := by simpa using e1
               have hmod : (es'.modify i fun e => { e with key := k', val := v' }).toList = es'.toList.set i { e with key := k', val := v' } := by
                apply List.ext_getElem?
                intro j
                rw [Array.getElem?_toList, Array.getElem?_modify, List.getElem?_set]
                by_cases hj : i = j
                · subst hj
                  have hlt : i < es'.toList.length := (List.getElem?_eq_some_iff.1 e1).1
                  simp only [if_true, e1', hlt]
                  rfl
                · simp [hj]
               have hor : ∀ dd cc, OR E.P σ (some (.map (es'.modify i fun e => { e with key := k', val := v' }) clock)) dd cc (.map (es.set i (k', v, born)) clock) :=
                fun _ _ => ⟨_, rfl, by rw [hmod]; exact h3.set i ⟨rfl, hv, e4⟩⟩
               obtain ⟨r1, r2⟩ := set_ok R hg rfl rfl hσ h h2 (hor _ _)
               refine ⟨_, ?_, r1, r2⟩
               have hks : (Instr.keyThatStays (((es'[i]?).map (·.key)).getD k') k').run E.P w = .ok k' w := by
                rw [e1']
                simp only [Option.map_some, Option.getD_some, e2, Instr.keyThatStays, hsb, if_true]
                rfl
               simp only [Instr.mapUpdate, Sem.run_bind, run_und ok hu, Result.andThen_ok, hgo, key_ok ok hko, g1, hks]
               exact run_setObj h2 (by simp)
           · cases h
         · cases h
   · cases h
 · cases h
def delA (E : Env) (A : AH) (ts : List TypeId) (m k : Value) : Option AH :=
 match ts with
 | t :: _ => (match und E t with
   | some (.map kt et) => bif flat k then (match m with
     | .map none => bif keyOk E true kt k then some A else none
     | .map (some B) => (match A.t.get B with
       | some (.map es clock) => bif keyOk E es.isEmpty kt k then
         (match findK E kt k es with
         | some none => setA A B (.map es clock)
         | some (some (i, _)) => setA A B (.map (es.eraseIdx i) clock)
         | none => none) else none
       | _ => none)
     | _ => none) else none
   | _ => none)
 | _ => none
theorem del_ok {E : Env} (ok : E.Ok) {σ : Sig} {A A' : AH} {w : World} (R : Rel E.P σ A w) {ts : Array TypeId} {ty : TypeId} {m k m' k' : Value} {as : Array Value} (ha0 : as[0]? = some m') (ha1 : as[1]? = some k') (hm : VR σ m m') (hk : VR σ k k') (h : delA E A ts.toList m k = some A') :
 ∃ w', (Builtin.delete_ ts ty as).run E.P w = .ok (.tuple #[]) w' ∧ Rel E.P σ A' w' ∧ Ext σ A w σ A' w' := by
 unfold delA at h
 split at h
 · rename_i t ts' hts
   have ht0 := head_eq hts
   split at h
   · rename_i kt et hu
     cases hf : flat k with
     | false => rw [hf] at h; simp at h
     | true =>
       rw [hf] at h
       simp only [cond_true] at h
       obtain rfl := flat_eq hf hk
       split at h
       · cases hm
         cases hko : keyOk E true kt k' with
         | false => rw [hko] at h; simp at h
         | true =>
           rw [hko] at h
           simp only [cond_true, Option.some.injEq] at h
           subst h
           exact ⟨w, by simp [Builtin.delete_, ht0, ha0, ha1, run_und ok hu, key_ok ok hko], R, Ext.refl _ _ _⟩
       · rename_i B
         split at h
         · rename_i es clock hg
           obtain ⟨b, d, c, es', h1, h2, h3⟩ := map_at R hg
           cases hm with
           | map hσ =>
             rw [hσ] at h1
             simp only [Option.some.injEq, Prod.mk.injEq] at h1
             obtain ⟨rfl, rfl, rfl⟩ := h1
             cases hko : keyOk E es.isEmpty kt k' with
             | false => rw [hko] at h; simp at h
             | true =>
               rw [hko] at h
               simp only [cond_true] at h
               obtain ⟨f1, f2⟩ := find_ok ok h3 (kt := kt) (k := k') w
               have hgo := run_getObj (P := E.P) h2 (by simp)
               have hemp : es'.isEmpty = es.isEmpty := by rw [← h3.isEmpty]; simp [Array.isEmpty, List.isEmpty_iff, Bool.eq_iff_iff]
               split at h
               · rename_i hfn
                 have hor : ∀ dd cc, OR E.P σ (some (.map es' clock)) dd cc (.map es clock) := fun _ _ => ⟨_, rfl, h3⟩
                 obtain ⟨r1, r2⟩ := set_ok R hg rfl rfl hσ h h2 (hor _ _)
                 refine ⟨_, ?_, r1, r2⟩
                 simp [Builtin.delete_, ht0, ha0, ha1, run_und ok hu, hgo, hemp, key_ok ok hko, f1 hfn, run_setObj h2 (by simp)]
               · rename_i i u hfn
                 obtain ⟨u', g1, g2⟩ := f2 i u hfn
                 have hor : ∀ dd cc, OR E.P σ (some (.map (es'.eraseIdxIfInBounds i) clock)) dd cc (.map (es.eraseIdx i) clock) :=
                  fun _ _ => ⟨_, rfl, by rw [Array.toList_eraseIdxIfInBounds]; exact h3.erase i⟩
                 obtain ⟨r1, r2⟩ := set_ok R hg rfl rfl hσ h h2 (hor _ _)
                 refine ⟨_, ?_, r1, r2⟩
                 simp [Builtin.delete_, ht0, ha0, ha1, run_und ok hu, hgo, hemp, key_ok ok hko, g1, run_setObj h2 (by simp)]
               · cases h
         · cases h
       · cases h
   · cases h
 · cases h
def clearA (E : Env) (A : AH) (ts : List TypeId) (x : Value) : Option AH :=
 match ts with
 | t :: _ => (match und E t with
   | some (.slice e) => (match x with
     | .slice none _ _ => some A
     | .slice (some ⟨B, o, none⟩) n k => bif Nat.beq n 0 then some A else (match E.ti e with
       | some ie => (match ie.zero with
         | some z => bif z.cells.toList.all scal && Nat.blt 0 z.cells.toList.length then putCells A B o (rep z.cells.toList n) else none
         | none => none)
       | none => none)
     | _ => none)
   | some (.map _ _) => (match x with
     | .map none => some A
     | .map (some B) => (match A.t.get B with | some (.map es clock) => setA A B (.map [] clock) | _ => none)
     | _ => none)
   | _ => none)
 | _ => none
theorem clear_ok {E : Env} (ok : E.Ok) {σ : Sig} {A A' : AH} {w : World} (R : Rel E.P σ A w) {ts : Array TypeId} {ty : TypeId} {x x' : Value} {as : Array Value} (ha0 : as[0]? = some x') (hx : VR σ x x') (h : clearA E A ts.toList x = some A') :
 ∃ w', (Builtin.clear_ ts ty as).run E.P w = .ok (.tuple #[]) w' ∧ Rel E.P σ A' w' ∧ Ext σ A w σ A' w' := by
 unfold clearA at h
 split at h
 · rename_i t ts' hts
   have ht0 := head_eq hts
   split at h
   · rename_i e hu
     split at h
     · cases hx
       simp only [Option.some.injEq] at h
       subst h
       exact ⟨w, by simp [Builtin.clear_, ht0, ha0, run_und ok hu], R, Ext.refl _ _ _⟩
     · rename_i B o n k
       cases hn : Nat.beq n 0 with
       | true =>
         rw [hn] at h
         simp only [cond_true, Option.some.injEq] at h
         subst h
         obtain rfl := Nat.eq_of_beq_eq_true hn
         have hx2 : ∃ a' kk, x' = .slice a' 0 kk := by cases hx <;> exact ⟨_, _, rfl⟩
         obtain ⟨a', kk, rfl⟩ := hx2
         cases a' <;>
         exact ⟨w, by simp [Builtin.clear_, ht0, ha0, run_und ok hu], R, Ext.refl _ _ _⟩
       | false =>
         rw [hn] at h
         simp only [cond_false] at h
         have hn' := beq_false_ne hn
         split at h
         · rename_i ie hie
           split at h
           · rename_i z hz
             cases hb : (z.cells.toList.all scal && Nat.blt 0 z.cells.toList.length) with
             | false => rw [hb] at h; simp at h
             | true =>
               rw [hb] at h
               simp only [cond_true] at h
               simp only [Bool.and_eq_true, blt_eq, decide_eq_true_eq] at hb
               have hx2 : ∃ b d c kk, σ B = some (b, d, c) ∧ x' = .slice (some ⟨b, d + o, none⟩) n kk := by
                cases hx with
                | slice i' n' k' hσ hk => exact ⟨_, _, _, _, hσ, rfl⟩
                | sliceU n' hσ hn => exact ⟨_, _, _, _, hσ, rfl⟩
                | sliceV i' n' k' hσ hn => exact ⟨_, _, _, _, hσ, rfl⟩
                | sliceE a a' k' => exact absurd rfl hn'
                | gs0 => exact absurd rfl hn'
                | gs lo o' n' k' m hσ hk hc ho hm => exact ⟨_, _, _, _, hσ, rfl⟩
               obtain ⟨b, d, c, kk, hσ, rfl⟩ := hx2
               obtain ⟨w', r1, r2, r3⟩ := put_ok R (scals_refl (rep_all hb.1 n) σ) h hσ
               refine ⟨w', ?_, r2, r3⟩
               have hzc : (Builtin.zeroCells z.cells n).toList = rep z.cells.toList n := by
                have := range_rep z.cells n (.inl (by simpa using hb.2))
                unfold Builtin.zeroCells
                rw [this]
               cases n with
               | zero => exact absurd rfl hn'
               | succ n => simp [Builtin.clear_, ht0, ha0, run_und ok hu, run_zero ok hie hz, hzc, r1]
           · cases h
         · cases h
     · cases h
   · rename_i kt et hu
     split at h
     · cases hx
       simp only [Option.some.injEq] at h
       subst h
       exact ⟨w, by simp [Builtin.clear_, ht0, ha0, run_und ok hu], R, Ext.refl _ _ _⟩
     · rename_i B
       split at h
       · rename_i es clock hg
         obtain ⟨b, d, c, es', h1, h2, h3⟩ := map_at R hg
         cases hx with
         | map hσ =>
           rw [hσ] at h1
           simp only [Option.some.injEq, Prod.mk.injEq] at h1
           obtain ⟨rfl, rfl, rfl⟩ := h1
           have hor : ∀ dd cc, OR E.P σ (some (.map #[] clock)) dd cc (.map [] clock) := fun _ _ => ⟨_, rfl, .nil⟩
           obtain ⟨r1, r2⟩ := set_ok R hg rfl rfl hσ h h2 (hor _ _)
           refine ⟨_, ?_, r1, r2⟩
           simp [Builtin.clear_, ht0, ha0, run_und ok hu, run_getObj (P := E.P) h2 (by simp), run_setObj h2 (by simp)]
       · cases h
     · cases h
   · cases h
 · cases h
def copyA (E : Env) (A : AH) (ts : List TypeId) (dst src : Value) : Option (Value × AH) :=
 match ts with
 | t :: _ => (match und E t with
   | some (.slice e) => (match E.ti e with
     | some ie => (match dst, src with
       | .slice base dl _, .slice sb sl _ =>
         let n := bif Nat.ble sl dl then sl else dl
         bif Nat.beq n 0 then some (.int .i64 0, A)
         else (match base, sb with
          | some ⟨B, o, none⟩, some ⟨B2, o2, none⟩ => (match lookN A B2 o2 (n * ie.size) with
            | some l => (match putCells A B o l with | some A' => some (.int .i64 n, A') | none => none)
            | none => none)
          | _, _ => none)
       | .slice base dl _, .string s =>
         let n := bif Nat.ble s.size dl then s.size else dl
         bif Nat.beq n 0 then some (.int .i64 0, A)
         else (match base with
          | some ⟨B, o, none⟩ => (match putCells A B o ((s.data.toList.take n).map fun b => .int .u8 b.toNat) with | some A' => some (.int .i64 n, A') | none => none)
          | _ => none)
       | _, _ => none)
     | none => none)
   | _ => none)
 | _ => none
theorem min_eq (a b : Nat) : (bif Nat.ble a b then a else b) = Nat.min a b := by
 cases h : Nat.ble a b with
 | true => have := Nat.le_of_ble_eq_true h; simp only [cond_true]; exact (Nat.min_eq_left this).symm
 | false =>
   have : ¬ a ≤ b := by intro hc; rw [← Nat.ble_eq] at hc; rw [hc] at h; cases h
   simp only [cond_false]; exact (Nat.min_eq_right (by omega)).symm
theorem addr_of_slice {σ : Sig} {B o n k : Nat} {x' : Value} (hx : VR σ (.slice (some ⟨B, o, none⟩) n k) x') (hn : n ≠ 0) : ∃ b d c kk, σ B = some (b, d, c) ∧ x' = .slice (some ⟨b, d + o, none⟩) n kk := by
 cases hx with
 | slice i' n' k' hσ hk => exact ⟨_, _, _, _, hσ, rfl⟩
 | sliceU n' hσ hn => exact ⟨_, _, _, _, hσ, rfl⟩
 | sliceV i' n' k' hσ hn => exact ⟨_, _, _, _, hσ, rfl⟩
 | sliceE a a' k' => exact absurd rfl hn
 | gs0 => exact absurd rfl hn
 | gs lo o' n' k' m hσ hk hc ho hm => exact ⟨_, _, _, _, hσ, rfl⟩
theorem len_of_slice {σ : Sig} {a : Option Addr} {n k : Nat} {x' : Value} (hx : VR σ (.slice a n k) x') : ∃ a' kk, x' = .slice a' n kk := by
 cases hx <;> exact ⟨_, _, rfl⟩
theorem copy_ok {E : Env} (ok : E.Ok) {σ : Sig} {A A' : AH} {w : World} (R : Rel E.P σ A w) {ts : Array TypeId} {ty : TypeId} {x y x' y' v : Value} {as : Array Value} (ha0 : as[0]? = some x') (ha1 : as[1]? = some y') (hx : VR σ x x') (hy : VR σ y y') (h : copyA E A ts.toList x y = some (v, A')) :
 ∃ w', (Builtin.copy_ ts ty as).run E.P w = .ok v w' ∧ flat v = true ∧ Rel E.P σ A' w' ∧ Ext σ A w σ A' w' := by
 unfold copyA at h
 split at h
 · rename_i t ts' hts
   have ht0 := head_eq hts
   split at h
   · rename_i e hu
     split at h
     · rename_i ie hie
       split at h
       · rename_i base dl dk sb sl sk
         simp only [min_eq] at h
         obtain ⟨xa, xk, rfl⟩ := len_of_slice hx
         obtain ⟨ya, yk, rfl⟩ := len_of_slice hy
         cases hn : Nat.beq (Nat.min sl dl) 0 with
         | true =>
           rw [hn] at h
           simp only [cond_true, Option.some.injEq, Prod.mk.injEq] at h
           obtain ⟨rfl, rfl⟩ := h
           have hn := Nat.eq_of_beq_eq_true hn
           refine ⟨w, ?_, rfl, R, Ext.refl _ _ _⟩
           cases xa <;> cases ya <;> simp [Builtin.copy_, ht0, ha0, ha1, run_und ok hu, Builtin.lenOf, hn, run_size ok hie, Builtin.firstCells, loadCells, loadCellsFrom, storeCells, goInt]
         | false =>
           rw [hn] at h
           simp only [cond_false] at h
           have hn' := beq_false_ne hn
           have hdl : dl ≠ 0 := by intro e; subst e; simp at hn'
           have hsl : sl ≠ 0 := by intro e; subst e; simp at hn'
           split at h
           · rename_i B o B2 o2
             obtain ⟨b, d, c, kk, hσ, ex⟩ := addr_of_slice hx hdl
             obtain ⟨b2, d2, c2, kk2, hσ2, ey⟩ := addr_of_slice hy hsl
             simp only [Value.slice.injEq] at ex ey
             obtain ⟨rfl, _, rfl⟩ := ex
             obtain ⟨rfl, _, rfl⟩ := ey
             split at h
             · rename_i l hl
               split at h
               · rename_i A2 hput
                 simp only [Option.some.injEq, Prod.mk.injEq] at h
                 obtain ⟨rfl, rfl⟩ := h
                 obtain ⟨l', g1, g2⟩ := look_cells R hl hσ2
                 obtain ⟨w', r1, r2, r3⟩ := put_ok R g1 hput hσ
                 refine ⟨w', ?_, rfl, r2, r3⟩
                 simp [Builtin.copy_, ht0, ha0, ha1, run_und ok hu, Builtin.lenOf, run_size ok hie, Builtin.firstCells, g2, r1, goInt]
               · cases h
             · cases h
           · cases h
       · rename_i base dl dk s
         simp only [min_eq] at h
         obtain ⟨xa, xk, rfl⟩ := len_of_slice hx
         cases hy
         cases hn : Nat.beq (Nat.min s.size dl) 0 with
         | true =>
           rw [hn] at h
           simp only [cond_true, Option.some.injEq, Prod.mk.injEq] at h
           obtain ⟨rfl, rfl⟩ := h
           have hn := Nat.eq_of_beq_eq_true hn
           refine ⟨w, ?_, rfl, R, Ext.refl _ _ _⟩
           have hex : ((s.extract 0 0).data.map fun b => Value.int .u8 b.toNat).toList = [] := by
            rw [Array.toList_map, Lib.extract_data]; simp
           cases xa <;> simp [Builtin.copy_, ht0, ha0, ha1, run_und ok hu, Builtin.lenOf, hn, run_size ok hie, Builtin.firstCells, hex, storeCells, goInt] <;> (rw [Array.toList_map] at hex; simp [hex, storeCells])
         | false =>
           rw [hn] at h
           simp only [cond_false] at h
           have hn' := beq_false_ne hn
           have hdl : dl ≠ 0 := by intro e; subst e; simp at hn'
           split at h
           · rename_i B o
             obtain ⟨b, d, c, kk, hσ, ex⟩ := addr_of_slice hx hdl
             simp only [Value.slice.injEq] at ex
             obtain ⟨rfl, _, rfl⟩ := ex
             split at h
             · rename_i A2 hput
               simp only [Option.some.injEq, Prod.mk.injEq] at h
               obtain ⟨rfl, rfl⟩ := h
               have hall : ((s.data.toList.take (Nat.min s.size dl)).map fun b => Value.int .u8 b.toNat).all scal = true := by
                rw [List.all_eq_true]; intro x hx; obtain ⟨_, _, rfl⟩ := List.mem_map.1 hx; rfl
               obtain ⟨w', r1, r2, r3⟩ := put_ok R (scals_refl hall σ) hput hσ
               refine ⟨w', ?_, rfl, r2, r3⟩
               have hex : ((s.extract 0 (Nat.min s.size dl)).data.map fun b => Value.int .u8 b.toNat).toList = (s.data.toList.take (Nat.min s.size dl)).map fun b => Value.int .u8 b.toNat := by
                rw [Array.toList_map, Lib.extract_data]; simp
               simp only [Builtin.copy_, ht0, ha0, ha1, Sem.run_bind, run_und ok hu, Result.andThen_ok, Builtin.lenOf, Sem.run_pure, run_size ok hie, Builtin.firstCells, hex, r1]
               rfl
             · cases h
           · cases h
       · cases h
     · cases h
   · cases h
 · cases h
def s2bA (E : Env) (A : AH) (src dst : TypeId) (x : Value) : Option (Value × AH) :=
 match x with
 | .string s => (match und E src, und E dst with
   | some ds, some (.slice e) => (match und E e, E.ti e with
     | some (.int .u8), some ie => bif Nat.beq ie.size 1 then (match newBlock A (.cells (s.data.toList.map fun b => .int .u8 b.toNat) e) with
       | some A' => some (.slice (some ⟨A.next, 0, none⟩) s.size unk, A')
       | none => none) else none
     | _, _ => none)
   | _, _ => none)
 | _ => none
theorem s2b_ok {E : Env} (ok : E.Ok) {σ : Sig} {A A' : AH} {w : World} (R : Rel E.P σ A w) {src dst : TypeId} {x x' v : Value} (hx : VR σ x x') (h : s2bA E A src dst x = some (v, A')) :
 ∃ v' w' σ', (convert src dst x').run E.P w = .ok v' w' ∧ VR σ' v v' ∧ Rel E.P σ' A' w' ∧ Ext σ A w σ' A' w' := by
 unfold s2bA at h
 split at h
 · rename_i s
   cases hx
   split at h
   · rename_i ds e hs hd
     split at h
     · rename_i ie he hie
       cases hb : Nat.beq ie.size 1 with
       | false => rw [hb] at h; simp at h
       | true =>
         rw [hb] at h
         simp only [cond_true, newBlock] at h
         have hb := Nat.eq_of_beq_eq_true hb
         cases ht : T.set FU A.t A.next (.cells (s.data.toList.map fun b => .int .u8 b.toNat) e) with
         | none => simp [ht] at h
         | some t2 =>
           simp only [ht, Option.some.injEq, Prod.mk.injEq] at h
           obtain ⟨rfl, rfl⟩ := h
           have hge : s.size ≤ (Question.appendCap s.size 0 e).cut (w.tape w.drawn (.appendCap s.size 0 e)) := by simp [Question.cut]
           generalize hcap : (Question.appendCap s.size 0 e).cut (w.tape w.drawn (.appendCap s.size 0 e)) = cap at hge
           let arr : Array Value := (s.data.map fun b => Value.int .u8 b.toNat) ++ Array.replicate (cap - s.size) (.int .u8 0)
           have harr : arr.size = cap := by
            have : s.data.size = s.size := rfl
            simp only [arr, Array.size_append, Array.size_map, Array.size_replicate]; omega
           let w' : World := { w with heap := w.heap.push (.cells arr e (arr.size, arr.size + 1)), drawn := w.drawn + 1 }
           refine ⟨.slice (some ⟨w.heap.size, 0, none⟩) s.size cap, w', upd σ A.next (w.heap.size, 0, cap), ?_, .sliceU s.size upd_same hge, ?_, ?_⟩
           · have hconv : (convert src dst (.string s)).run E.P w = (Conv.stringToBytes e s).run E.P w := by
              cases ds <;> simp [convert, run_und ok hs, run_und ok hd, run_und ok he]
             rw [hconv]
             simp only [Conv.stringToBytes, Sem.run_bind, run_choose, Question.forced, Bool.false_eq_true, if_false, Result.andThen_ok, hcap, newRow, run_newObj, Sem.run_pure, markStringish, run_shape]
             have hsh : World.shape? { w with heap := w.heap.push (.cells arr e), drawn := w.drawn + 1 } w.heap.size = some (e, arr.size) := by
              simp [World.shape?]
             have hfold : ((s.data.map fun b => Value.int .u8 b.toNat) ++ Array.replicate (cap - s.size) (.int .u8 0)) = arr := rfl
             simp only [hfold, hsh, run_freeze, Result.andThen_ok, Sem.run_pure]
             congr 1
             simp only [World.freeze, w']
             rw [if_neg (by omega)]
             congr 1
             apply Array.ext_getElem?
             intro i
             rw [Array.getElem?_modify, Array.getElem?_push, Array.getElem?_push]
             by_cases hi : w.heap.size = i
             · subst hi; simp
             · rw [if_neg hi]
               by_cases hi2 : i = w.heap.size
               · exact absurd hi2.symm hi
               · simp [hi2]
           · refine R.alloc ht (R.fresh _ (Nat.le_refl _)) (Nat.lt_succ_self _) (Nat.le_succ _) (ob := .cells arr e (arr.size, arr.size + 1)) ?_ rfl
             refine ⟨arr, arr.size, arr.size + 1, rfl, fun i hi hh => by omega, fun i v hv => ?_, ?_, rfl⟩
             · rw [List.getElem?_map] at hv
               cases hg : s.data.toList[i]? with
               | none => rw [hg] at hv; simp at hv
               | some x =>
                 rw [hg] at hv
                 simp only [Option.map_some, Option.some.injEq] at hv
                 subst hv
                 refine ⟨_, ?_, .int _ _⟩
                 have hlt : i < s.data.size := by have := (List.getElem?_eq_some_iff.1 hg).1; simpa using this
                 rw [Nat.zero_add]
                 simp only [arr]
                 rw [Array.getElem?_append, if_pos (by simpa using hlt), Array.getElem?_map]
                 rw [← Array.getElem?_toList, hg]
                 rfl
             · rw [harr]
               simp [Program.cellsOf, ok.ti _ _ hie, hb]
           · exact Ext.alloc R ht (Nat.le_succ _) (ob := .cells arr e (arr.size, arr.size + 1)) rfl rfl rfl rfl
     · cases h
   · cases h
 · cases h
def rangeA (E : Env) (A : AH) (t : TypeId) (x : Value) : Option (Value × AH) :=
 match und E t, x with
 | some .string, .string s => (match newBlock A (.siter s 0) with | some A' => some (.pointer (some ⟨A.next, 0, none⟩), A') | none => none)
 | _, _ => none
theorem range_ok {E : Env} (ok : E.Ok) {σ : Sig} {A A' : AH} {w : World} (R : Rel E.P σ A w) {t : TypeId} {x x' v : Value} (hx : VR σ x x') (h : rangeA E A t x = some (v, A')) :
 ∃ v' w' σ', (Instr.range t x').run E.P w = .ok v' w' ∧ VR σ' v v' ∧ Rel E.P σ' A' w' ∧ Ext σ A w σ' A' w' := by
 unfold rangeA at h
 split at h
 · rename_i s hu
   cases hx
   simp only [newBlock] at h
   cases ht : T.set FU A.t A.next (.siter s 0) with
   | none => simp [ht] at h
   | some t2 =>
     simp only [ht, Option.some.injEq, Prod.mk.injEq] at h
     obtain ⟨rfl, rfl⟩ := h
     refine ⟨.pointer (some ⟨w.heap.size, 0, none⟩), { w with heap := w.heap.push (.stringIter s 0) }, upd σ A.next (w.heap.size, 0, 0), ?_, ?_, ?_, ?_⟩
     · simp [Instr.range, run_und ok hu]
     · have := VR.ptr (σ := upd σ A.next (w.heap.size, 0, 0)) 0 (upd_same (σ := σ) (id := A.next) (x := (w.heap.size, 0, 0))); simpa using this
     · exact R.alloc ht (R.fresh _ (Nat.le_refl _)) (Nat.lt_succ_self _) (Nat.le_succ _) (ob := .stringIter s 0) ⟨rfl, rfl⟩ rfl
     · exact Ext.alloc R ht (Nat.le_succ _) (ob := .stringIter s 0) rfl rfl rfl rfl
 · cases h
def nextA (A : AH) (it : Value) (isString : Bool) : Option (Value × AH) :=
 match it, isString with
 | .pointer (some ⟨B, 0, none⟩), true => (match A.t.get B with
   | some (.siter s pos) => bif Nat.blt pos s.size then
     (match Utf8.decode s pos with
     | (c, width) => (match setA A B (.siter s (pos + width)) with | some A' => some (.tuple ⟨[.bool true, .int .i64 pos, .int .i32 c]⟩, A') | none => none))
     else some (.tuple ⟨[.bool false]⟩, A)
   | _ => none)
 | _, _ => none
theorem next_ok {E : Env} (ok : E.Ok) {σ : Sig} {A A' : AH} {w : World} (R : Rel E.P σ A w) {it it' v : Value} {b : Bool} {ty : TypeId} (hx : VR σ it it') (h : nextA A it b = some (v, A')) :
 ∃ v' w', (Instr.next it' b ty).run E.P w = .ok v' w' ∧ VR σ v v' ∧ Rel E.P σ A' w' ∧ Ext σ A w σ A' w' := by
 unfold nextA at h
 split at h
 · rename_i B
   split at h
   · rename_i s pos hg
     obtain ⟨bb, d, c, hσ, hob⟩ := R.obj B _ hg rfl
     obtain ⟨hob, hd0⟩ : w.heap[bb]? = some (.stringIter s pos) ∧ d = 0 := hob
     cases hx with
     | ptr i hσ' =>
       rw [hσ] at hσ'
       simp only [Option.some.injEq, Prod.mk.injEq] at hσ'
       obtain ⟨rfl, rfl, rfl⟩ := hσ'
       subst hd0
       cases hb : Nat.blt pos s.size with
       | true =>
         rw [hb] at h
         simp only [cond_true] at h
         rw [blt_eq, decide_eq_true_eq] at hb
         split at h
         · rename_i A2 hset
           simp only [Option.some.injEq, Prod.mk.injEq] at h
           obtain ⟨rfl, rfl⟩ := h
           obtain ⟨r1, r2⟩ := set_ok R hg rfl rfl hσ hset hob (ob2 := .stringIter s (pos + (Utf8.decode s pos).2)) ⟨rfl, rfl⟩
           refine ⟨_, _, ?_, .tuple (.cons (.bool _) (.cons (.int _ _) (.cons (.int _ _) .nil))), r1, r2⟩
           simp [Instr.next, run_getObj hob (by simp), hb, run_setObj hob (by simp), goInt]
         · cases h
       | false =>
         rw [hb] at h
         simp only [cond_false, Option.some.injEq, Prod.mk.injEq] at h
         obtain ⟨rfl, rfl⟩ := h
         have hb' : ¬ pos < s.size := by rw [blt_eq, decide_eq_false_iff_not] at hb; exact hb
         refine ⟨_, w, ?_, .tuple (.cons (.bool _) .nil), R, Ext.refl _ _ _⟩
         simp [Instr.next, run_getObj hob (by simp), hb']
   · cases h
 · cases h
theorem cells_one {v : Value} (h : cellv v = true) : v.cells.toList = [v] := by
 cases v <;> simp_all [cellv, Value.oneCell', Value.cells]
def chunk (agg : Bool) (sz : Nat) : Nat → List Value → List Value
 | 0, _ => []
 | k + 1, l => (match agg with
   | true => .agg ⟨l.take sz⟩
   | false => (match l with | v :: _ => v | [] => undef)) :: chunk agg sz k (l.drop sz)
theorem chunk_ok {agg : Bool} {sz : Nat} (hz : agg = true ∨ sz = 1) : ∀ (k : Nat) (l : List Value), l.length = k * sz → l.all cellv = true → cellsL (chunk agg sz k l) = l ∧ (∀ x ∈ chunk agg sz k l, x.cells.size = sz) ∧ (chunk agg sz k l).length = k
 | 0, l, h, _ => by
   have : l = [] := List.eq_nil_of_length_eq_zero (by simpa using h)
   subst this
   exact ⟨rfl, fun x hx => by simp [chunk] at hx, rfl⟩
 | k + 1, l, h, hc => by
   rw [Nat.succ_mul] at h
   have hd : (l.drop sz).length = k * sz := by simp; omega
   have hcd : (l.drop sz).all cellv = true := by
    rw [List.all_eq_true] at hc ⊢
    exact fun x hx => hc x (List.mem_of_mem_drop hx)
   obtain ⟨h1, h2, h3⟩ := chunk_ok hz k (l.drop sz) hd hcd
   have hhead : ∃ u : Value, chunk agg sz (k + 1) l = u :: chunk agg sz k (l.drop sz) ∧ u.cells.toList = l.take sz := by
    cases agg with
    | true => exact ⟨.agg ⟨l.take sz⟩, rfl, rfl⟩
    | false =>
      have hz : sz = 1 := by simpa using hz
      subst hz
      cases l with
      | nil => simp at h
      | cons v r =>
        refine ⟨v, rfl, ?_⟩
        simp only [List.all_cons, Bool.and_eq_true] at hc
        simpa using cells_one hc.1
   obtain ⟨u, e1, e2⟩ := hhead
   have hu : u.cells.size = sz := by
    have : u.cells.toList.length = sz := by rw [e2]; simp; omega
    simpa using this
   rw [e1]
   refine ⟨by rw [cellsL_cons, e2, h1, List.take_append_drop], fun x hx => ?_, by simp [h3]⟩
   rcases List.mem_cons.1 hx with rfl | hx
   · exact hu
   · exact h2 x hx
def srcG (E : Env) (A : AH) (e : TypeId) (sz : Nat) (x : Value) : Option (List Value) :=
 match x with
 | .func (.yield sz') ⟨els⟩ ⟨[]⟩ => bif Nat.beq sz' sz then some els else none
 | .slice none n _ => bif Nat.beq n 0 then some [] else none
 | .slice (some ⟨B, o, none⟩) n m => (match isG m with
   | true => (match A.t.get B with
     | some (.gro els tl e2) => (match E.ti e2 with
       | some ie => bif (Nat.beq ie.size sz && Nat.beq (gsz m) sz) && (Nat.blt 0 sz && Nat.ble (n + gLo sz o) (glue els tl).length) then some (((glue els tl).drop (gLo sz o)).take n) else none
       | none => none)
     | _ => none)
   | false => (match lookN A B o (n * sz), und E e with
     | some l, some d => bif (Nat.blt m (unk + 2) && l.all cellv) && (isAggD d || Nat.beq sz 1) then some (chunk (isAggD d) sz n l) else none
     | _, _ => none))
 | _ => none
theorem run_row {P : Program} {w : World} {b o : Nat} {l : List Value} (h : ∀ (j : Nat) v, l[j]? = some v → w.cell? ⟨b, o + j, none⟩ = some v) (w' : World) (hw : w'.heap = w.heap) : (loadCells ⟨b, o, none⟩ l.length).run P w' = .ok l.toArray w' :=
 run_loadCells_list w' ⟨b, o, none⟩ l (fun j v hv => by
  rw [add_none]
  have := h j v hv
  unfold World.cell? at this ⊢
  rw [hw]; exact this)
theorem cellsL_mem {els : List Value} {sz : Nat} (h : ∀ x ∈ els, x.cells.size = sz) (a n : Nat) : ∀ x ∈ (els.drop a).take n, x.cells.size = sz := fun x hx => h x (List.mem_of_mem_drop (List.mem_of_mem_take hx))
theorem srcG_ok {E : Env} (ok : E.Ok) {σ : Sig} {A : AH} {w : World} (R : Rel E.P σ A w) {e : TypeId} {sz : Nat} {x x' : Value} {news : List Value} (hx : VR σ x x') (h : srcG E A e sz x = some news) (hcv : (cellsL news).all cellv = true) {tx : TypeId}
 (hk : (∃ e', E.P.underlying tx = some (.slice e')) ∨ E.P.underlying tx = some .string) : ∃ news', VRs σ (cellsL news) news' ∧ Src E.P sz tx x' news.length news' w ∧ (∀ u ∈ news, u.cells.size = sz) := by
 have mk : ∀ (b o kk n : Nat) (news' : List Value), VRs σ (cellsL news) news' → (∀ u ∈ news, u.cells.size = sz) → news.length = n → (∀ (j : Nat) v, news'[j]? = some v → w.cell? ⟨b, o + j, none⟩ = some v) →
  Src E.P sz tx (.slice (some ⟨b, o, none⟩) n kk) news.length news' w := by
  intro b o kk n news' hv hsz hn hcell
  subst hn
  have hl : news'.length = news.length * sz := by rw [hv.length, cellsL_length hsz]
  have hrun := fun w' hw => run_row (P := E.P) hcell w' hw
  rw [hl] at hrun
  exact ⟨hk, fun _ => rfl, hrun w rfl, hrun w.drew rfl, hl, hv.cellv hcv⟩
 have none0 : ∀ (a : Option Addr) (kk : Nat), news = [] → ∃ news', VRs σ (cellsL news) news' ∧ Src E.P sz tx (.slice a 0 kk) news.length news' w ∧ (∀ u ∈ news, u.cells.size = sz) := by
  intro a kk hn
  subst hn
  cases a with
  | none => exact ⟨[], .nil, ⟨hk, fun _ => rfl, rfl, rfl, by simp, by simp⟩, by simp⟩
  | some a' => exact ⟨[], .nil, ⟨hk, fun _ => rfl, by simp [Builtin.firstCells, loadCells, loadCellsFrom], by simp [Builtin.firstCells, loadCells, loadCellsFrom], by simp, by simp⟩, by simp⟩
 unfold srcG at h
 split at h
 · rename_i sz' els
   cases hb : Nat.beq sz' sz with
   | false => rw [hb] at h; cases h
   | true =>
     rw [hb] at h
     obtain rfl := Nat.eq_of_beq_eq_true hb
     simp only [cond_true, Option.some.injEq] at h
     subst h
     cases hx with
     | func fn hf => simp [Fn.still] at hf
     | @dat b o k _ e0 fz c _ hro hsz hk0 hc =>
       refine ⟨_, hc, mk b o k _ _ hc hsz rfl (fun j v hv => ?_), hsz⟩
       rw [List.getElem?_take] at hv
       split at hv
       · rw [List.getElem?_drop] at hv
         have : c[o + j]? = some v := by simpa using hv
         simp [World.cell?, R.ro b _ hro, this]
       · cases hv
     | datN => exact none0 none 0 rfl
     | datE _ a k => exact none0 (some a) k rfl
 · rename_i n k
   cases hb : Nat.beq n 0 with
   | false => rw [hb] at h; cases h
   | true =>
     rw [hb] at h
     obtain rfl := Nat.eq_of_beq_eq_true hb
     simp only [cond_true, Option.some.injEq] at h
     cases hx
     exact none0 none k h.symm
 · rename_i B o n m
   split at h
   · rename_i hg
     split at h
     · rename_i els0 tl0 e2 hB
       rw [glue_eq] at h
       generalize hE : els0 ++ tl0 = els at h
       split at h
       · rename_i ie hie
         cases hb : (Nat.beq ie.size sz && Nat.beq (gsz m) sz) && (Nat.blt 0 sz && Nat.ble (n + gLo sz o) els.length) with
         | false => rw [hb] at h; cases h
         | true =>
           rw [hb] at h
           simp only [cond_true, Option.some.injEq] at h
           simp only [Bool.and_eq_true, Nat.beq_eq, Nat.blt_eq, Nat.ble_eq] at hb
           obtain ⟨⟨hsz, hgs⟩, hpos, hle⟩ := hb
           rcases gs_cases hx hg with ⟨rfl, a, rfl⟩ | ⟨b, d, c, lo, k, hσ, rfl, hn, hc, rfl⟩
           · exact none0 a 0 (by rw [← h]; simp)
           · rw [hgs, gLo_eq hpos] at h hle
             have hco : E.P.cellsOf e2 = sz := by simp [Program.cellsOf, ok.ti _ _ hie, hsz]
             obtain ⟨c', l0, h0, g1, g2, g3, g4, g5, g6⟩ := R.at hB rfl hσ
             rw [hE] at g3 g4 g6
             rw [hco] at g4 g5
             have hsub := cellsL_mem g4 lo n
             rw [h] at hsub
             have hlen : news.length = n := by rw [← h]; simp; omega
             have hcl : cellsL news = ((cellsL els).drop (lo * sz)).take (n * sz) := by
              rw [← h, cellsL_drop lo g4, cellsL_take n (fun x hx => g4 x (List.mem_of_mem_drop hx))]
             have hmul : (lo + n) * sz ≤ c * sz := Nat.mul_le_mul_right _ (by omega)
             rw [Nat.add_mul] at hmul
             have hv : VRs σ (cellsL news) ((c'.toList.drop (d + lo * sz)).take (n * sz)) := by
              refine VRs.of_get ?_ fun j v hj => ?_
              · rw [cellsL_length hsub, hlen]; simp; omega
              · rw [hcl, List.getElem?_take] at hj
                split at hj
                · rename_i hjn
                  rw [List.getElem?_drop] at hj
                  obtain ⟨v', e1, e2⟩ := g3 (lo * sz + j) v hj
                  refine ⟨v', ?_, e2⟩
                  rw [List.getElem?_take, if_pos hjn, List.getElem?_drop, Nat.add_assoc]
                  simpa using e1
                · cases hj
             refine ⟨_, hv, ?_, hsub⟩
             rw [hgs]
             refine mk b (d + lo * sz) k n _ hv hsub hlen fun j v hj => ?_
             rw [List.getElem?_take] at hj
             split at hj
             · rw [List.getElem?_drop] at hj
               have : c'[d + lo * sz + j]? = some v := by simpa using hj
               simp [World.cell?, g1, this]
             · cases hj
       · cases h
     · cases h
   · rename_i hg
     split at h
     · rename_i l dd hl hu
       cases hb : (Nat.blt m (unk + 2) && l.all cellv) && (isAggD dd || Nat.beq sz 1) with
       | false => rw [hb] at h; cases h
       | true =>
         rw [hb] at h
         simp only [cond_true, Option.some.injEq] at h
         simp only [Bool.and_eq_true, Bool.or_eq_true, Nat.beq_eq, Nat.blt_eq] at hb
         obtain ⟨⟨hm, hal⟩, hz⟩ := hb
         obtain ⟨h1, h2, h3⟩ := chunk_ok hz n l (lookN_length hl) hal
         rw [h] at h1 h2 h3
         have hcon : ∃ b d c kk, σ B = some (b, d, c) ∧ x' = .slice (some ⟨b, d + o, none⟩) n kk := by
          cases hx with
          | slice i' n' k' hσ hk => exact ⟨_, _, _, _, hσ, rfl⟩
          | sliceU n' hσ hn => exact ⟨_, _, _, _, hσ, rfl⟩
          | sliceV i' n' k' hσ hn => exact ⟨_, _, _, _, hσ, rfl⟩
          | sliceE a a' k' => omega
          | gs0 B o m a hm' => omega
          | gs lo o' n' k' m hσ hk hc ho hm' => omega
         obtain ⟨b, d, c, kk, hσ, rfl⟩ := hcon
         obtain ⟨l', g1, g2⟩ := look_cells2 R hl hσ
         rw [← h1] at g1
         refine ⟨l', g1, ⟨hk, fun _ => by rw [h3]; rfl, ?_, ?_, by rw [g1.length, cellsL_length h2], g1.cellv hcv⟩, h2⟩
         · rw [h3]; exact g2 w rfl
         · rw [h3]; exact g2 w.drew rfl
     · cases h
 · cases h
def groApp (E : Env) (A : AH) (ts : List TypeId) (B o n m : Nat) (x : Value) : Option (Value × AH) :=
 match ts with
 | [t, tx] => (match und E t, und E tx with
   | some (.slice e), some dx => (match E.ti e, A.t.get B with
     | some ie, some (.gro els tl eb) => (match ie.zero, srcG E A e ie.size x with
       | some z, some news =>
         bif (slcOrStr dx && (Nat.beq z.cells.toList.length ie.size && Nat.blt 0 ie.size)) && (Nat.beq eb e && (Nat.beq (gsz m) ie.size && isG m)) then
          bif ((cellsL news).all cellv && Nat.beq (n + gLo ie.size o) (glue els tl).length) && (Nat.ble (n + news.length) 70368744177664 && Nat.ble ((n + news.length) * ie.bytes) 140737488355328) then
           (match T.set FU A.t B .dead with
           | some t' => (match T.set FU t' A.next (.gro ((glue els tl).drop (gLo ie.size o)) news e) with
             | some t'' => some (.slice (some ⟨A.next, 0, none⟩) (n + news.length) m, ⟨t'', A.next + 1⟩)
             | none => none)
           | none => none)
          else none
         else none
       | _, _ => none)
     | _, _ => none)
   | _, _ => none)
 | _ => none
theorem or_gro_new {P : Program} {σ' : Sig} {els tl : List Value} {c' : List Value} {e : TypeId} {ie : TypeInfo} {z : Value} {cap : Nat} (hi : P.info? e = some ie) (hz : z.cells.size = ie.size) (hsz : ∀ x ∈ els ++ tl, x.cells.size = ie.size) (hcap : (els ++ tl).length ≤ cap) (h : VRs σ' (cellsL (els ++ tl)) c') :
 OR P σ' (some (.cells (c'.toArray ++ Builtin.zeroCells z.cells (cap - (els ++ tl).length)) e)) 0 cap (.gro els tl e) := by
 have hco : P.cellsOf e = ie.size := by simp [Program.cellsOf, hi]
 have hl : c'.length = (els ++ tl).length * ie.size := by rw [h.length, cellsL_length hsz]
 refine ⟨_, 0, 0, rfl, fun i _ h => by omega, fun i v hv => ?_, by rw [hco]; exact hsz, ?_, hcap⟩
 · obtain ⟨v', h1, h2⟩ := h.get hv
   refine ⟨v', ?_, h2⟩
   have hlt : i < c'.length := (List.getElem?_eq_some_iff.1 h1).1
   rw [Nat.zero_add, Array.getElem?_append, if_pos (by simpa using hlt)]
   simpa using h1
 · rw [Array.size_append, zeroCells_size, hz, List.size_toArray, hl, hco, Nat.zero_add, ← Nat.add_mul]
   exact Nat.le_of_eq (by congr 1; omega)
theorem groApp_ok {E : Env} (ok : E.Ok) {σ : Sig} {A A' : AH} {w : World} (R : Rel E.P σ A w) {ts : Array TypeId} {ty : TypeId} {B o n m : Nat} {x s' x' v : Value} (hs : VR σ (.slice (some ⟨B, o, none⟩) n m) s') (hx : VR σ x x') (h : groApp E A ts.toList B o n m x = some (v, A')) :
    ∃ v' w' σ', (Builtin.append_ ts ty #[s', x']).run E.P w = .ok v' w' ∧ VR σ' v v' ∧ Rel E.P σ' A' w' ∧ Ext σ A w σ' A' w' := by
  unfold groApp at h
  split at h
  · rename_i t tx hts
    obtain rfl : ts = #[t, tx] := by cases ts; simp_all
    split at h
    · rename_i e dx hu hux
      split at h
      · rename_i ie els0 tl0 eb hie hB
        rw [glue_eq] at h
        generalize hE : els0 ++ tl0 = els at h
        split at h
        · rename_i z news hz hsrc
          cases hb : (slcOrStr dx && (Nat.beq z.cells.toList.length ie.size && Nat.blt 0 ie.size)) && (Nat.beq eb e && (Nat.beq (gsz m) ie.size && isG m)) with
          | false => rw [hb] at h; simp at h
          | true =>
            rw [hb] at h
            simp only [cond_true] at h
            simp only [Bool.and_eq_true, Nat.beq_eq, Nat.blt_eq] at hb
            obtain ⟨⟨b1, b2, b3⟩, rfl, hgs, hg⟩ := hb
            have b2 : z.cells.size = ie.size := by simpa using b2
            cases hb2 : ((cellsL news).all cellv && Nat.beq (n + gLo ie.size o) els.length) && (Nat.ble (n + news.length) 70368744177664 && Nat.ble ((n + news.length) * ie.bytes) 140737488355328) with
            | false => rw [hb2] at h; simp at h
            | true =>
              rw [hb2] at h
              simp only [cond_true] at h
              simp only [Bool.and_eq_true, Nat.beq_eq, Nat.ble_eq] at hb2
              obtain ⟨⟨hcv, hfull⟩, hs1, hs2⟩ := hb2
              split at h
              · rename_i t1 ht1
                split at h
                · rename_i t2 ht2
                  simp only [Option.some.injEq, Prod.mk.injEq] at h
                  obtain ⟨rfl, rfl⟩ := h
                  have hut := und_ok ok hu
                  have hi := ok.ti _ _ hie
                  have hk : (∃ e', E.P.underlying tx = some (.slice e')) ∨ E.P.underlying tx = some .string := by
                    have := und_ok ok hux
                    cases dx <;> simp [slcOrStr] at b1
                    · exact .inr this
                    · exact .inl ⟨_, this⟩
                  obtain ⟨news', hnews, hS, hnsz⟩ := srcG_ok ok R hx hsrc hcv hk
                  have hco : E.P.cellsOf eb = ie.size := by simp [Program.cellsOf, hi]
                  have grow : ∀ (base : Option Addr) (sk : Nat) (olds olds' : List Value), VRs σ (cellsL olds) olds' → (∀ x ∈ olds, x.cells.size = ie.size) → olds = els.drop (gLo ie.size o) → olds.length = n →
                      (Builtin.firstCells ie.size n (.slice base n sk)).run E.P w.drew = .ok olds'.toArray w.drew → sk < n + news.length →
                      ∃ v' w' σ', (Builtin.append_ #[t, tx] ty #[.slice base n sk, x']).run E.P w = .ok v' w' ∧ VR σ' (.slice (some ⟨A.next, 0, none⟩) (n + news.length) m) v' ∧ Rel E.P σ' ⟨t2, A.next + 1⟩ w' ∧ Ext σ A w σ' ⟨t2, A.next + 1⟩ w' := by
                    intro base sk olds olds' ho hosz hoe hol hold hlt
                    have hfit : Builtin.nextslicecap (n + news.length) sk * ie.bytes ≤ 281474976710656 := by
                      have h1 := Room.nextslicecap_le' hlt
                      calc Builtin.nextslicecap (n + news.length) sk * ie.bytes ≤ 2 * (n + news.length) * ie.bytes := Nat.mul_le_mul_right _ h1
                        _ = 2 * ((n + news.length) * ie.bytes) := Nat.mul_assoc _ _ _
                        _ ≤ 281474976710656 := by omega
                    have hrun := run_append_grow_src w t tx ty eb ie z hut hi hz base n sk olds' hold x' news.length news' hS hlt (by omega) hfit
                    have hge := grownCap_ge w (n + news.length) sk eb
                    generalize grownCap w (n + news.length) sk eb = cap at hrun hge
                    have R0 : Rel E.P σ ⟨t1, A.next⟩ w := R.dead ht1
                    have hsub := upd_sub (x := (w.heap.size, 0, cap)) (R0.fresh A.next (Nat.le_refl _))
                    have hlen : (els.drop (gLo ie.size o) ++ news).length = n + news.length := by rw [List.length_append, ← hoe, hol]
                    refine ⟨_, _, upd σ A.next (w.heap.size, 0, cap), hrun, ?_, ?_, ?_⟩
                    · have hv := VR.gsMk (σ := upd σ A.next (w.heap.size, 0, cap)) (lo := 0) (n := n + news.length) (k := cap) (m := m) upd_same hg hge (Nat.le_of_eq (Nat.zero_add _))
                      simpa using hv
                    · refine R0.alloc (ob := .cells ((olds' ++ news').toArray ++ Builtin.zeroCells z.cells (cap - (n + news.length))) eb) ht2 (R0.fresh _ (Nat.le_refl _)) (Nat.lt_succ_self _) (Nat.le_succ _) ?_ rfl
                      have hor := or_gro_new (P := E.P) (σ' := upd σ A.next (w.heap.size, 0, cap)) (els := els.drop (gLo ie.size o)) (tl := news) (c' := olds' ++ news') (e := eb) (cap := cap) hi b2 (fun x hx => by
                        rcases List.mem_append.1 hx with hx | hx
                        · exact hosz x (by rw [hoe]; exact hx)
                        · exact hnsz x hx) (by rw [hlen]; exact hge) (by rw [cellsL_append, ← hoe]; exact (ho.mono hsub).append (hnews.mono hsub))
                      rw [hlen] at hor
                      exact hor
                    · exact (Ext.dead ht1).trans (Ext.alloc R0 ht2 (Nat.le_succ _) (ob := .cells ((olds' ++ news').toArray ++ Builtin.zeroCells z.cells (cap - (n + news.length))) eb) rfl rfl rfl rfl)
                  rcases gs_cases hs hg with ⟨rfl, a, rfl⟩ | ⟨b, d, c, lo, k, hσ, rfl, hn, hc, rfl⟩
                  · -- nothing yet
                    have hdrop : els.drop (gLo ie.size o) = [] := List.drop_eq_nil_of_le (by omega)
                    by_cases hn0 : news.length = 0
                    · have hnil : news = [] := List.eq_nil_of_length_eq_zero hn0
                      subst hnil
                      have hnil' : news' = [] := by have := hnews.length; simpa [cellsL] using this
                      subst hnil'
                      rw [hdrop] at ht2
                      obtain ⟨q1, q2⟩ := Rel.nilGro (R.dead ht1) ht2
                      exact ⟨_, w, _, run_append_nothing w t tx ty eb ie hut hi a 0 0 (Nat.le_refl _) x' hS, VR.gs0Mk _ _ m a hg, q1, (Ext.dead ht1).trans q2⟩
                    · exact grow a 0 [] [] .nil (by simp) hdrop.symm rfl (by cases a <;> simp [Builtin.firstCells, loadCells, loadCellsFrom]) (by omega)
                  · rw [hgs, gLo_eq b3] at hfull
                    rw [hgs, gLo_eq b3] at ht2
                    obtain ⟨ca, l0, h0, g1, g2, g3, g4, g5, g6⟩ := R.at hB rfl hσ
                    rw [hE] at g3 g4 g6
                    rw [hco] at g4 g5
                    have hmulc : (lo + k) * ie.size = lo * ie.size + k * ie.size := Nat.add_mul _ _ _
                    have hcm : (lo + k) * ie.size ≤ c * ie.size := Nat.mul_le_mul_right _ hc
                    rw [hmulc] at hcm
                    have hcl := cellsL_length g4
                    have hdl : (els.drop lo).length = n := by simp; omega
                    have hcd : cellsL (els.drop lo) = (cellsL els).drop (lo * ie.size) := (cellsL_drop lo g4).symm
                    have hdsz : ∀ x ∈ els.drop lo, x.cells.size = ie.size := fun x hx => g4 x (List.mem_of_mem_drop hx)
                    have holdv : ∀ (i : Nat) v, (cellsL (els.drop lo))[i]? = some v → ∃ v', ca[d + lo * ie.size + i]? = some v' ∧ VR σ v v' := fun i v hv => by
                      rw [hcd, List.getElem?_drop] at hv
                      obtain ⟨v', e1, e2⟩ := g3 _ v hv
                      exact ⟨v', by rw [Nat.add_assoc]; exact e1, e2⟩
                    by_cases hroom : n + news.length ≤ k
                    · -- there is room
                      have hnl' : news'.length = news.length * ie.size := by rw [hnews.length, cellsL_length hnsz]
                      have hmul : (n + news.length) * ie.size ≤ k * ie.size := Nat.mul_le_mul_right _ hroom
                      rw [Nat.add_mul] at hmul
                      have hsz : d + lo * ie.size + n * ie.size + news'.length ≤ ca.size := by omega
                      obtain ⟨w', r1, r2, r3, r4, r5, r6, r7, r8⟩ := run_stores (P := E.P) news' 0 w b (d + lo * ie.size + n * ie.size) ca eb l0 h0 g1 (by omega) g2 (hnews.cellv hcv)
                      have hsub : σ.sub (upd σ A.next (b, d + lo * ie.size, k)) := upd_sub (R.fresh _ (Nat.le_refl _))
                      refine ⟨.slice (some ⟨b, d + lo * ie.size, none⟩) (n + news.length) k, w', upd σ A.next (b, d + lo * ie.size, k), ?_, ?_, ?_, Ext.move R hB rfl hσ ht1 ht2 r2 r3 r5 r6 r7⟩
                      · rw [hgs]
                        rcases hk with ⟨e', hk⟩ | hk <;>
                          simp [Builtin.append_, run_underlying hut, run_underlying hk, sizeOf, typeInfo, hi, hS.len, hroom, hS.cells, add_none, r1]
                      · have hv := VR.gsMk (σ := upd σ A.next (b, d + lo * ie.size, k)) (lo := 0) (n := n + news.length) (k := k) (m := m) upd_same hg hroom (Nat.le_of_eq (Nat.zero_add _))
                        simpa using hv
                      · refine R.move hB rfl hσ ht1 ht2 rfl r2 r3 ?_
                        rw [r4]
                        have hsz' : d + lo * ie.size + n * ie.size + news'.length ≤ ca.toList.length := by simpa using hsz
                        refine ⟨_, l0, h0, rfl, fun i hii => g2 i (by rw [List.size_toArray, over_length (by simpa using hsz)] at hii; simpa using hii), fun i v hiv => ?_, fun x hx => ?_, ?_, by rw [List.length_append, hdl]; exact hroom⟩
                        · have hget : (over ca.toList (d + lo * ie.size + n * ie.size + 0) news').toArray[d + lo * ie.size + i]? = (over ca.toList (d + lo * ie.size + n * ie.size) news')[d + lo * ie.size + i]? := by simp
                          rw [hget, over_get hsz']
                          rw [cellsL_append, List.getElem?_append, cellsL_length hdsz, hdl] at hiv
                          by_cases k1 : i < n * ie.size
                          · rw [if_pos k1] at hiv
                            rw [if_pos (by omega)]
                            obtain ⟨v', e1, e2⟩ := holdv i v hiv
                            exact ⟨v', by simpa using e1, e2.mono hsub⟩
                          · rw [if_neg k1] at hiv
                            rw [if_neg (by omega)]
                            have hin : i - n * ie.size < (cellsL news).length := (List.getElem?_eq_some_iff.1 hiv).1
                            rw [cellsL_length hnsz] at hin
                            rw [if_pos (by rw [hnl']; omega)]
                            obtain ⟨v', e1, e2⟩ := hnews.get hiv
                            have ei : d + lo * ie.size + i - (d + lo * ie.size + n * ie.size) = i - n * ie.size := by omega
                            exact ⟨v', by rw [ei]; exact e1, e2.mono hsub⟩
                        · rw [hco]
                          rcases List.mem_append.1 hx with hx | hx
                          · exact hdsz x hx
                          · exact hnsz x hx
                        · rw [List.size_toArray, over_length (by simpa using hsz), hco]
                          have h9 : ca.toList.length = ca.size := by simp
                          omega
                    · -- it grows
                      have hol : VRs σ (cellsL (els.drop lo)) ((ca.toList.drop (d + lo * ie.size)).take (n * ie.size)) := by
                        have hmul : n * ie.size ≤ k * ie.size := Nat.mul_le_mul_right _ hn
                        refine VRs.of_get (by rw [cellsL_length hdsz, hdl]; simp; omega) fun j v hv => ?_
                        have hj : j < n * ie.size := by have := (List.getElem?_eq_some_iff.1 hv).1; rwa [cellsL_length hdsz, hdl] at this
                        obtain ⟨v', e1, e2⟩ := holdv j v hv
                        exact ⟨v', by rw [List.getElem?_take, if_pos hj, List.getElem?_drop]; simpa using e1, e2⟩
                      have hll : ((ca.toList.drop (d + lo * ie.size)).take (n * ie.size)).length = n * ie.size := by rw [hol.length, cellsL_length hdsz, hdl]
                      rw [hgs]
                      refine grow (some ⟨b, d + lo * ie.size, none⟩) k (els.drop lo) _ hol hdsz (by rw [hgs, gLo_eq b3]) hdl ?_ (by omega)
                      show (loadCells ⟨b, d + lo * ie.size, none⟩ (n * ie.size)).run E.P w.drew = _
                      have := run_row (P := E.P) (w := w) (b := b) (o := d + lo * ie.size) (l := (ca.toList.drop (d + lo * ie.size)).take (n * ie.size)) (fun j v hv => by
                        rw [List.getElem?_take] at hv
                        split at hv
                        · rw [List.getElem?_drop] at hv
                          have : ca[d + lo * ie.size + j]? = some v := by simpa using hv
                          simp [World.cell?, g1, this]
                        · cases hv) w.drew rfl
                      rw [hll] at this
                      exact this
                · cases h
              · cases h
        · cases h
      · cases h
    · cases h
  · cases h
def groApp2 (E : Env) (A : AH) (ts : List TypeId) (B o n m : Nat) (x : Value) : Option (Value × AH) :=
 match ts with
 | [t, tx] => (match und E t, und E tx with
   | some (.slice e), some dx => (match E.ti e, A.t.get B with
     | some ie, some (.gro els tl eb) => (match ie.zero, srcG E A e ie.size x with
       | some z, some news =>
         bif (slcOrStr dx && (Nat.beq z.cells.toList.length ie.size && Nat.blt 0 ie.size)) && (Nat.beq eb e && (Nat.beq (gsz m) ie.size && isG m)) then
          bif ((cellsL news).all cellv && Nat.ble (n + gLo ie.size o) (glue els tl).length) && (Nat.ble (n + news.length) 70368744177664 && Nat.ble ((n + news.length) * ie.bytes) 140737488355328) then
           (match T.set FU A.t B .dead with
           | some t' => (match T.set FU t' A.next (.gro (((glue els tl).drop (gLo ie.size o)).take n ++ news) [] e) with
             | some t'' => some (.slice (some ⟨A.next, 0, none⟩) (n + news.length) m, ⟨t'', A.next + 1⟩)
             | none => none)
           | none => none)
          else none
         else none
       | _, _ => none)
     | _, _ => none)
   | _, _ => none)
 | _ => none
theorem OR.glued {P : Program} {σ : Sig} {ob : Option Obj} {d c : Nat} {a b : List Value} {e : TypeId} (h : OR P σ ob d c (.gro a b e)) : OR P σ ob d c (.gro (a ++ b) [] e) := by
 obtain ⟨ca, l0, h0, g1, g2, g3, g4, g5, g6⟩ := h
 exact ⟨ca, l0, h0, g1, g2, by rw [List.append_nil]; exact g3, by rw [List.append_nil]; exact g4, g5, by rw [List.append_nil]; exact g6⟩
theorem groApp2_ok {E : Env} (ok : E.Ok) {σ : Sig} {A A' : AH} {w : World} (R : Rel E.P σ A w) {ts : Array TypeId} {ty : TypeId} {B o n m : Nat} {x s' x' v : Value} (hs : VR σ (.slice (some ⟨B, o, none⟩) n m) s') (hx : VR σ x x') (h : groApp2 E A ts.toList B o n m x = some (v, A')) :
    ∃ v' w' σ', (Builtin.append_ ts ty #[s', x']).run E.P w = .ok v' w' ∧ VR σ' v v' ∧ Rel E.P σ' A' w' ∧ Ext σ A w σ' A' w' := by
  unfold groApp2 at h
  split at h
  · rename_i t tx hts
    obtain rfl : ts = #[t, tx] := by cases ts; simp_all
    split at h
    · rename_i e dx hu hux
      split at h
      · rename_i ie els0 tl0 eb hie hB
        rw [glue_eq] at h
        generalize hE : els0 ++ tl0 = els at h
        split at h
        · rename_i z news hz hsrc
          cases hb : (slcOrStr dx && (Nat.beq z.cells.toList.length ie.size && Nat.blt 0 ie.size)) && (Nat.beq eb e && (Nat.beq (gsz m) ie.size && isG m)) with
          | false => rw [hb] at h; simp at h
          | true =>
            rw [hb] at h
            simp only [cond_true] at h
            simp only [Bool.and_eq_true, Nat.beq_eq, Nat.blt_eq] at hb
            obtain ⟨⟨b1, b2, b3⟩, rfl, hgs, hg⟩ := hb
            have b2 : z.cells.size = ie.size := by simpa using b2
            cases hb2 : ((cellsL news).all cellv && Nat.ble (n + gLo ie.size o) els.length) && (Nat.ble (n + news.length) 70368744177664 && Nat.ble ((n + news.length) * ie.bytes) 140737488355328) with
            | false => rw [hb2] at h; simp at h
            | true =>
              rw [hb2] at h
              simp only [cond_true] at h
              simp only [Bool.and_eq_true, Nat.ble_eq] at hb2
              obtain ⟨⟨hcv, hfull⟩, hs1, hs2⟩ := hb2
              split at h
              · rename_i t1 ht1
                split at h
                · rename_i t2 ht2
                  simp only [Option.some.injEq, Prod.mk.injEq] at h
                  obtain ⟨rfl, rfl⟩ := h
                  have hut := und_ok ok hu
                  have hi := ok.ti _ _ hie
                  have hk : (∃ e', E.P.underlying tx = some (.slice e')) ∨ E.P.underlying tx = some .string := by
                    have := und_ok ok hux
                    cases dx <;> simp [slcOrStr] at b1
                    · exact .inr this
                    · exact .inl ⟨_, this⟩
                  obtain ⟨news', hnews, hS, hnsz⟩ := srcG_ok ok R hx hsrc hcv hk
                  have hco : E.P.cellsOf eb = ie.size := by simp [Program.cellsOf, hi]
                  have grow : ∀ (base : Option Addr) (sk : Nat) (olds olds' : List Value), VRs σ (cellsL olds) olds' → (∀ x ∈ olds, x.cells.size = ie.size) → olds = (els.drop (gLo ie.size o)).take n → olds.length = n →
                      (Builtin.firstCells ie.size n (.slice base n sk)).run E.P w.drew = .ok olds'.toArray w.drew → sk < n + news.length →
                      ∃ v' w' σ', (Builtin.append_ #[t, tx] ty #[.slice base n sk, x']).run E.P w = .ok v' w' ∧ VR σ' (.slice (some ⟨A.next, 0, none⟩) (n + news.length) m) v' ∧ Rel E.P σ' ⟨t2, A.next + 1⟩ w' ∧ Ext σ A w σ' ⟨t2, A.next + 1⟩ w' := by
                    intro base sk olds olds' ho hosz hoe hol hold hlt
                    have hfit : Builtin.nextslicecap (n + news.length) sk * ie.bytes ≤ 281474976710656 := by
                      have h1 := Room.nextslicecap_le' hlt
                      calc Builtin.nextslicecap (n + news.length) sk * ie.bytes ≤ 2 * (n + news.length) * ie.bytes := Nat.mul_le_mul_right _ h1
                        _ = 2 * ((n + news.length) * ie.bytes) := Nat.mul_assoc _ _ _
                        _ ≤ 281474976710656 := by omega
                    have hrun := run_append_grow_src w t tx ty eb ie z hut hi hz base n sk olds' hold x' news.length news' hS hlt (by omega) hfit
                    have hge := grownCap_ge w (n + news.length) sk eb
                    generalize grownCap w (n + news.length) sk eb = cap at hrun hge
                    have R0 : Rel E.P σ ⟨t1, A.next⟩ w := R.dead ht1
                    have hsub := upd_sub (x := (w.heap.size, 0, cap)) (R0.fresh A.next (Nat.le_refl _))
                    have hlen : ((els.drop (gLo ie.size o)).take n ++ news).length = n + news.length := by rw [List.length_append, ← hoe, hol]
                    refine ⟨_, _, upd σ A.next (w.heap.size, 0, cap), hrun, ?_, ?_, ?_⟩
                    · have hv := VR.gsMk (σ := upd σ A.next (w.heap.size, 0, cap)) (lo := 0) (n := n + news.length) (k := cap) (m := m) upd_same hg hge (Nat.le_of_eq (Nat.zero_add _))
                      simpa using hv
                    · refine R0.alloc (ob := .cells ((olds' ++ news').toArray ++ Builtin.zeroCells z.cells (cap - (n + news.length))) eb) ht2 (R0.fresh _ (Nat.le_refl _)) (Nat.lt_succ_self _) (Nat.le_succ _) ?_ rfl
                      have hor := or_gro_new (P := E.P) (σ' := upd σ A.next (w.heap.size, 0, cap)) (els := (els.drop (gLo ie.size o)).take n) (tl := news) (c' := olds' ++ news') (e := eb) (cap := cap) hi b2 (fun x hx => by
                        rcases List.mem_append.1 hx with hx | hx
                        · exact hosz x (by rw [hoe]; exact hx)
                        · exact hnsz x hx) (by rw [hlen]; exact hge) (by rw [cellsL_append, ← hoe]; exact (ho.mono hsub).append (hnews.mono hsub))
                      rw [hlen] at hor
                      exact hor.glued
                    · exact (Ext.dead ht1).trans (Ext.alloc R0 ht2 (Nat.le_succ _) (ob := .cells ((olds' ++ news').toArray ++ Builtin.zeroCells z.cells (cap - (n + news.length))) eb) rfl rfl rfl rfl)
                  rcases gs_cases hs hg with ⟨rfl, a, rfl⟩ | ⟨b, d, c, lo, k, hσ, rfl, hn, hc, rfl⟩
                  · -- nothing yet
                    have hdrop : (els.drop (gLo ie.size o)).take 0 = [] := List.take_zero
                    by_cases hn0 : news.length = 0
                    · have hnil : news = [] := List.eq_nil_of_length_eq_zero hn0
                      subst hnil
                      have hnil' : news' = [] := by have := hnews.length; simpa [cellsL] using this
                      subst hnil'
                      rw [hdrop] at ht2
                      have ht2 : T.set FU t1 A.next (.gro [] [] eb) = some t2 := ht2
                      obtain ⟨q1, q2⟩ := Rel.nilGro (R.dead ht1) ht2
                      exact ⟨_, w, _, run_append_nothing w t tx ty eb ie hut hi a 0 0 (Nat.le_refl _) x' hS, VR.gs0Mk _ _ m a hg, q1, (Ext.dead ht1).trans q2⟩
                    · exact grow a 0 [] [] .nil (by simp) hdrop.symm rfl (by cases a <;> simp [Builtin.firstCells, loadCells, loadCellsFrom]) (by omega)
                  · rw [hgs, gLo_eq b3] at hfull
                    rw [hgs, gLo_eq b3] at ht2
                    obtain ⟨ca, l0, h0, g1, g2, g3, g4, g5, g6⟩ := R.at hB rfl hσ
                    rw [hE] at g3 g4 g6
                    rw [hco] at g4 g5
                    have hmulc : (lo + k) * ie.size = lo * ie.size + k * ie.size := Nat.add_mul _ _ _
                    have hcm : (lo + k) * ie.size ≤ c * ie.size := Nat.mul_le_mul_right _ hc
                    rw [hmulc] at hcm
                    have hcl := cellsL_length g4
                    have hdl : ((els.drop lo).take n).length = n := by rw [List.length_take, List.length_drop]; omega
                    have hcd : cellsL ((els.drop lo).take n) = ((cellsL els).drop (lo * ie.size)).take (n * ie.size) := by rw [cellsL_drop lo g4, cellsL_take n (fun x hx => g4 x (List.mem_of_mem_drop hx))]
                    have hdsz : ∀ x ∈ (els.drop lo).take n, x.cells.size = ie.size := fun x hx => g4 x (List.mem_of_mem_drop (List.mem_of_mem_take hx))
                    have holdv : ∀ (i : Nat) v, (cellsL ((els.drop lo).take n))[i]? = some v → ∃ v', ca[d + lo * ie.size + i]? = some v' ∧ VR σ v v' := fun i v hv => by
                      rw [hcd, List.getElem?_take] at hv
                      split at hv
                      · rw [List.getElem?_drop] at hv
                        obtain ⟨v', e1, e2⟩ := g3 _ v hv
                        exact ⟨v', by rw [Nat.add_assoc]; exact e1, e2⟩
                      · cases hv
                    by_cases hroom : n + news.length ≤ k
                    · -- there is room
                      have hnl' : news'.length = news.length * ie.size := by rw [hnews.length, cellsL_length hnsz]
                      have hmul : (n + news.length) * ie.size ≤ k * ie.size := Nat.mul_le_mul_right _ hroom
                      rw [Nat.add_mul] at hmul
                      have hsz : d + lo * ie.size + n * ie.size + news'.length ≤ ca.size := by omega
                      obtain ⟨w', r1, r2, r3, r4, r5, r6, r7, r8⟩ := run_stores (P := E.P) news' 0 w b (d + lo * ie.size + n * ie.size) ca eb l0 h0 g1 (by omega) g2 (hnews.cellv hcv)
                      have hsub : σ.sub (upd σ A.next (b, d + lo * ie.size, k)) := upd_sub (R.fresh _ (Nat.le_refl _))
                      refine ⟨.slice (some ⟨b, d + lo * ie.size, none⟩) (n + news.length) k, w', upd σ A.next (b, d + lo * ie.size, k), ?_, ?_, ?_, Ext.move R hB rfl hσ ht1 ht2 r2 r3 r5 r6 r7⟩
                      · rw [hgs]
                        rcases hk with ⟨e', hk⟩ | hk <;>
                          simp [Builtin.append_, run_underlying hut, run_underlying hk, sizeOf, typeInfo, hi, hS.len, hroom, hS.cells, add_none, r1]
                      · have hv := VR.gsMk (σ := upd σ A.next (b, d + lo * ie.size, k)) (lo := 0) (n := n + news.length) (k := k) (m := m) upd_same hg hroom (Nat.le_of_eq (Nat.zero_add _))
                        simpa using hv
                      · refine R.move hB rfl hσ ht1 ht2 rfl r2 r3 (OR.glued ?_)
                        rw [r4]
                        have hsz' : d + lo * ie.size + n * ie.size + news'.length ≤ ca.toList.length := by simpa using hsz
                        refine ⟨_, l0, h0, rfl, fun i hii => g2 i (by rw [List.size_toArray, over_length (by simpa using hsz)] at hii; simpa using hii), fun i v hiv => ?_, fun x hx => ?_, ?_, by rw [List.length_append, hdl]; exact hroom⟩
                        · have hget : (over ca.toList (d + lo * ie.size + n * ie.size + 0) news').toArray[d + lo * ie.size + i]? = (over ca.toList (d + lo * ie.size + n * ie.size) news')[d + lo * ie.size + i]? := by simp
                          rw [hget, over_get hsz']
                          rw [cellsL_append, List.getElem?_append, cellsL_length hdsz, hdl] at hiv
                          by_cases k1 : i < n * ie.size
                          · rw [if_pos k1] at hiv
                            rw [if_pos (by omega)]
                            obtain ⟨v', e1, e2⟩ := holdv i v hiv
                            exact ⟨v', by simpa using e1, e2.mono hsub⟩
                          · rw [if_neg k1] at hiv
                            rw [if_neg (by omega)]
                            have hin : i - n * ie.size < (cellsL news).length := (List.getElem?_eq_some_iff.1 hiv).1
                            rw [cellsL_length hnsz] at hin
                            rw [if_pos (by rw [hnl']; omega)]
                            obtain ⟨v', e1, e2⟩ := hnews.get hiv
                            have ei : d + lo * ie.size + i - (d + lo * ie.size + n * ie.size) = i - n * ie.size := by omega
                            exact ⟨v', by rw [ei]; exact e1, e2.mono hsub⟩
                        · rw [hco]
                          rcases List.mem_append.1 hx with hx | hx
                          · exact hdsz x hx
                          · exact hnsz x hx
                        · rw [List.size_toArray, over_length (by simpa using hsz), hco]
                          have h9 : ca.toList.length = ca.size := by simp
                          omega
                    · -- it grows
                      have hol : VRs σ (cellsL ((els.drop lo).take n)) ((ca.toList.drop (d + lo * ie.size)).take (n * ie.size)) := by
                        have hmul : n * ie.size ≤ k * ie.size := Nat.mul_le_mul_right _ hn
                        refine VRs.of_get (by rw [cellsL_length hdsz, hdl]; simp; omega) fun j v hv => ?_
                        have hj : j < n * ie.size := by have := (List.getElem?_eq_some_iff.1 hv).1; rwa [cellsL_length hdsz, hdl] at this
                        obtain ⟨v', e1, e2⟩ := holdv j v hv
                        exact ⟨v', by rw [List.getElem?_take, if_pos hj, List.getElem?_drop]; simpa using e1, e2⟩
                      have hll : ((ca.toList.drop (d + lo * ie.size)).take (n * ie.size)).length = n * ie.size := by rw [hol.length, cellsL_length hdsz, hdl]
                      rw [hgs]
                      refine grow (some ⟨b, d + lo * ie.size, none⟩) k ((els.drop lo).take n) _ hol hdsz (by rw [hgs, gLo_eq b3]) hdl ?_ (by omega)
                      show (loadCells ⟨b, d + lo * ie.size, none⟩ (n * ie.size)).run E.P w.drew = _
                      have := run_row (P := E.P) (w := w) (b := b) (o := d + lo * ie.size) (l := (ca.toList.drop (d + lo * ie.size)).take (n * ie.size)) (fun j v hv => by
                        rw [List.getElem?_take] at hv
                        split at hv
                        · rw [List.getElem?_drop] at hv
                          have : ca[d + lo * ie.size + j]? = some v := by simpa using hv
                          simp [World.cell?, g1, this]
                        · cases hv) w.drew rfl
                      rw [hll] at this
                      exact this
                · cases h
              · cases h
        · cases h
      · cases h
    · cases h
  · cases h
theorem Rel.retell {P : Program} {σ : Sig} {A : AH} {w : World} (R : Rel P σ A w) {f B : Nat} {o o2 : AObj} {t : T AObj} (hB : A.t.get B = some o) (hset : T.set f A.t B o2 = some t) (h1 : o2.own = o.own) (h2 : o2.here = o.here) (h3 : o2.nilOk = o.nilOk) (hor : ∀ b d c : Nat, OR P σ w.heap[b]? d c o → OR P σ w.heap[b]? d c o2) :
 Rel P σ ⟨t, A.next⟩ w ∧ Ext σ A w σ ⟨t, A.next⟩ w := by
 have hg := T.get_set hset
 have old : ∀ {B' : Nat} {o' : AObj}, t.get B' = some o' → ∃ o'', A.t.get B' = some o'' ∧ o'.own = o''.own ∧ o'.here = o''.here := fun {B' o'} h => by
  rw [hg] at h
  by_cases e : B' = B
  · subst e; rw [if_pos rfl] at h; simp only [Option.some.injEq] at h; subst h; exact ⟨o, hB, h1, h2⟩
  · rw [if_neg e] at h; exact ⟨o', h, rfl, rfl⟩
 refine ⟨⟨fun B' o' h hh => ?_, fun B1 B2 o1 o2 x x' g1 g2 ho hh hne hx hx' => ?_, R.lt, R.fresh, R.ro, fun B' o' x h ho hx => ?_, R.nl⟩,
  ⟨fun _ _ => rfl, Nat.le_refl _, Nat.le_refl _, fun _ _ _ => rfl, fun B' o' x g1 g2 g3 => ?_, fun B' o' x g1 g2 g3 => ?_, rfl, rfl, rfl, fun _ _ h => h, fun _ _ h => .inl h, fun _ _ => Iff.rfl⟩⟩
 · have h : t.get B' = some o' := h
   rw [hg] at h
   by_cases e : B' = B
   · subst e
     rw [if_pos rfl] at h
     simp only [Option.some.injEq] at h
     subst h
     rcases R.obj0 B' o hB (by rw [← h2]; exact hh) with ⟨b, d, c, k1, k2⟩ | ⟨k1, k2⟩
     · exact .inl ⟨b, d, c, k1, hor b d c k2⟩
     · exact .inr ⟨h3.trans k1, k2⟩
   · rw [if_neg e] at h; exact R.obj0 B' o' h hh
 · obtain ⟨p1, a1, a2, a3⟩ := old g1
   obtain ⟨p2, b1, b2, b3⟩ := old g2
   exact R.inj B1 B2 p1 p2 x x' a1 b1 (a2 ▸ ho) (b3 ▸ hh) hne hx hx'
 · obtain ⟨p1, a1, a2, a3⟩ := old h
   exact R.sep B' p1 x a1 (a2 ▸ ho) hx
 · obtain ⟨p1, a1, a2, a3⟩ := old g1
   exact .inr ⟨B', p1, x, a1, a2 ▸ g2, g3, rfl⟩
 · obtain ⟨p1, a1, a2, a3⟩ := old g1
   exact .inr ⟨B', p1, x, a1, a3 ▸ g2, g3, rfl⟩
theorem Rel.retellAt {P : Program} {σ : Sig} {A : AH} {w : World} (R : Rel P σ A w) {f B : Nat} {o o2 : AObj} {t : T AObj} (hB : A.t.get B = some o) (hset : T.set f A.t B o2 = some t) (h1 : o2.own = o.own) (h2 : o2.here = o.here) (h3 : o2.nilOk = o.nilOk) (hor : ∀ b d c : Nat, σ B = some (b, d, c) → OR P σ w.heap[b]? d c o → OR P σ w.heap[b]? d c o2) :
 Rel P σ ⟨t, A.next⟩ w ∧ Ext σ A w σ ⟨t, A.next⟩ w := by
 have hg := T.get_set hset
 have old : ∀ {B' : Nat} {o' : AObj}, t.get B' = some o' → ∃ o'', A.t.get B' = some o'' ∧ o'.own = o''.own ∧ o'.here = o''.here := fun {B' o'} h => by
  rw [hg] at h
  by_cases e : B' = B
  · subst e; rw [if_pos rfl] at h; simp only [Option.some.injEq] at h; subst h; exact ⟨o, hB, h1, h2⟩
  · rw [if_neg e] at h; exact ⟨o', h, rfl, rfl⟩
 refine ⟨⟨fun B' o' h hh => ?_, fun B1 B2 o1 o2 x x' g1 g2 ho hh hne hx hx' => ?_, R.lt, R.fresh, R.ro, fun B' o' x h ho hx => ?_, R.nl⟩,
  ⟨fun _ _ => rfl, Nat.le_refl _, Nat.le_refl _, fun _ _ _ => rfl, fun B' o' x g1 g2 g3 => ?_, fun B' o' x g1 g2 g3 => ?_, rfl, rfl, rfl, fun _ _ h => h, fun _ _ h => .inl h, fun _ _ => Iff.rfl⟩⟩
 · have h : t.get B' = some o' := h
   rw [hg] at h
   by_cases e : B' = B
   · subst e
     rw [if_pos rfl] at h
     simp only [Option.some.injEq] at h
     subst h
     rcases R.obj0 B' o hB (by rw [← h2]; exact hh) with ⟨b, d, c, k1, k2⟩ | ⟨k1, k2⟩
     · exact .inl ⟨b, d, c, k1, hor b d c k1 k2⟩
     · exact .inr ⟨h3.trans k1, k2⟩
   · rw [if_neg e] at h; exact R.obj0 B' o' h hh
 · obtain ⟨p1, a1, a2, a3⟩ := old g1
   obtain ⟨p2, b1, b2, b3⟩ := old g2
   exact R.inj B1 B2 p1 p2 x x' a1 b1 (a2 ▸ ho) (b3 ▸ hh) hne hx hx'
 · obtain ⟨p1, a1, a2, a3⟩ := old h
   exact R.sep B' p1 x a1 (a2 ▸ ho) hx
 · obtain ⟨p1, a1, a2, a3⟩ := old g1
   exact .inr ⟨B', p1, x, a1, a2 ▸ g2, g3, rfl⟩
 · obtain ⟨p1, a1, a2, a3⟩ := old g1
   exact .inr ⟨B', p1, x, a1, a3 ▸ g2, g3, rfl⟩
def splc (l : List Value) (lo : Nat) (news : List Value) : List Value := l.take lo ++ (news ++ l.drop (lo + news.length))
def groCopy (E : Env) (A : AH) (ts : List TypeId) (B o n m B2 o2 n2 m2 : Nat) : Option (Value × AH) :=
 match ts with
 | t :: _ => (match und E t with
   | some (.slice e) => (match E.ti e, A.t.get B, A.t.get B2 with
     | some ie, some (.gro els tl eb), some (.gro els2 tl2 eb2) =>
       bif ((Nat.beq eb e && Nat.beq eb2 e) && (Nat.beq (gsz m) ie.size && Nat.beq (gsz m2) ie.size)) && ((isG m && isG m2) && Nat.blt 0 ie.size) then
        bif (cellsL (((glue els2 tl2).drop (gLo ie.size o2)).take (Nat.min n2 n))).all cellv && (Nat.ble (gLo ie.size o + n) (glue els tl).length && Nat.ble (gLo ie.size o2 + n2) (glue els2 tl2).length) then
         (match T.set FU A.t B (.gro (splc (glue els tl) (gLo ie.size o) (((glue els2 tl2).drop (gLo ie.size o2)).take (Nat.min n2 n))) [] eb) with
         | some t' => some (.int .i64 (Nat.min n2 n : Nat), ⟨t', A.next⟩)
         | none => none)
        else none
       else none
     | _, _, _ => none)
   | _ => none)
 | _ => none
theorem cellsL_splc {sz lo : Nat} {els news : List Value} (h : ∀ x ∈ els, x.cells.size = sz) (hn : ∀ x ∈ news, x.cells.size = sz) : cellsL (splc els lo news) = over (cellsL els) (lo * sz) (cellsL news) := by
 unfold splc over
 rw [cellsL_append, cellsL_append, cellsL_take lo h, cellsL_length hn, ← Nat.add_mul, cellsL_drop (lo + news.length) h, List.append_assoc]
theorem splc_length {lo : Nat} {els news : List Value} (h : lo + news.length ≤ els.length) : (splc els lo news).length = els.length := by
 unfold splc
 simp only [List.length_append, List.length_take, List.length_drop]
 omega
theorem groCopy_ok {E : Env} (ok : E.Ok) {σ : Sig} {A A' : AH} {w : World} (R : Rel E.P σ A w) {ts : Array TypeId} {ty : TypeId} {B o n m B2 o2 n2 m2 : Nat} {x' y' v : Value} {as : Array Value} (ha0 : as[0]? = some x') (ha1 : as[1]? = some y')
 (hx : VR σ (.slice (some ⟨B, o, none⟩) n m) x') (hy : VR σ (.slice (some ⟨B2, o2, none⟩) n2 m2) y') (h : groCopy E A ts.toList B o n m B2 o2 n2 m2 = some (v, A')) :
 ∃ w', (Builtin.copy_ ts ty as).run E.P w = .ok v w' ∧ flat v = true ∧ Rel E.P σ A' w' ∧ Ext σ A w σ A' w' := by
 unfold groCopy at h
 split at h
 · rename_i t ts' hts
   have ht0 := head_eq hts
   split at h
   · rename_i e hu
     split at h
     · rename_i ie els0 tl0 eb els20 tl20 eb2 hie hB hB2
       simp only [glue_eq] at h
       generalize hE : els0 ++ tl0 = els at h
       generalize hE2 : els20 ++ tl20 = els2 at h
       cases hb : ((Nat.beq eb e && Nat.beq eb2 e) && (Nat.beq (gsz m) ie.size && Nat.beq (gsz m2) ie.size)) && ((isG m && isG m2) && Nat.blt 0 ie.size) with
       | false => rw [hb] at h; simp at h
       | true =>
         rw [hb] at h
         simp only [cond_true] at h
         simp only [Bool.and_eq_true, Nat.beq_eq, Nat.blt_eq] at hb
         obtain ⟨⟨⟨rfl, rfl⟩, hg1, hg2⟩, ⟨hG, hG2⟩, hpos⟩ := hb
         cases hb2 : (cellsL ((els2.drop (gLo ie.size o2)).take (Nat.min n2 n))).all cellv && (Nat.ble (gLo ie.size o + n) els.length && Nat.ble (gLo ie.size o2 + n2) els2.length) with
         | false => rw [hb2] at h; simp at h
         | true =>
           rw [hb2] at h
           simp only [cond_true] at h
           simp only [Bool.and_eq_true, Nat.ble_eq] at hb2
           obtain ⟨hcv, hle, hle2⟩ := hb2
           split at h
           · rename_i t' ht
             simp only [Option.some.injEq, Prod.mk.injEq] at h
             obtain ⟨rfl, rfl⟩ := h
             by_cases hk0 : Nat.min n2 n = 0
             · have e0 : splc els (gLo ie.size o) ((els2.drop (gLo ie.size o2)).take (Nat.min n2 n)) = els := by rw [hk0]; simp [splc]
               rw [e0] at ht
               obtain ⟨xa, xk, rfl⟩ := len_of_slice hx
               obtain ⟨ya, yk, rfl⟩ := len_of_slice hy
               obtain ⟨R2, X2⟩ := R.retell hB ht rfl rfl rfl fun b d c hor => by
                obtain ⟨c', lo, hi, g1, g2, g3, g4, g5, g6⟩ := hor
                rw [hE] at g3 g4 g6
                exact ⟨c', lo, hi, g1, g2, by rw [List.append_nil]; exact g3, by rw [List.append_nil]; exact g4, g5, by rw [List.append_nil]; exact g6⟩
               refine ⟨w, ?_, rfl, R2, X2⟩
               cases xa <;> cases ya <;> simp [Builtin.copy_, ht0, ha0, ha1, run_und ok hu, Builtin.lenOf, hk0, run_size ok hie, Builtin.firstCells, loadCells, loadCellsFrom, storeCells, goInt]
             · have hn0 : n ≠ 0 := fun e => hk0 (by rw [e]; exact Nat.min_zero _)
               have hn20 : n2 ≠ 0 := fun e => hk0 (by rw [e]; exact Nat.zero_min _)
               rcases gs_cases hx hG with ⟨rfl, _⟩ | ⟨b, d, c, lo, kc, hσ, rfl, hn, hc, rfl⟩
               · exact absurd rfl hn0
               rcases gs_cases hy hG2 with ⟨rfl, _⟩ | ⟨b2, d2, c2, lo2, kc2, hσ2, rfl, hn2, hc2, rfl⟩
               · exact absurd rfl hn20
               have hkn : Nat.min n2 n ≤ n := Nat.min_le_right _ _
               have hkn2 : Nat.min n2 n ≤ n2 := Nat.min_le_left _ _
               generalize hk : Nat.min n2 n = k at *
               rw [hg1, gLo_eq hpos] at hle ht
               rw [hg2, gLo_eq hpos] at hle2 ht hcv
               obtain ⟨ca, l0, h0, g1, g2, g3, g4, g5, g6⟩ := R.at hB rfl hσ
               obtain ⟨cb, l1, h1, f1, f2, f3, f4, f5, f6⟩ := R.at hB2 rfl hσ2
               rw [hE] at g3 g4 g6
               rw [hE2] at f3 f4 f6
               have hco : E.P.cellsOf eb2 = ie.size := by simp [Program.cellsOf, ok.ti _ _ hie]
               rw [hco] at g4 g5 f4 f5
               generalize hN : (els2.drop lo2).take k = news at *
               have hnl : news.length = k := by rw [← hN]; simp; omega
               have hnsz : ∀ x ∈ news, x.cells.size = ie.size := fun x hx => f4 x (List.mem_of_mem_drop (List.mem_of_mem_take (by rw [hN]; exact hx)))
               have hcl : cellsL news = ((cellsL els2).drop (lo2 * ie.size)).take (k * ie.size) := by
                rw [← hN, cellsL_drop lo2 f4, cellsL_take k (fun x hx => f4 x (List.mem_of_mem_drop hx))]
               have m1 : (lo2 + k) * ie.size ≤ c2 * ie.size := Nat.mul_le_mul_right _ (by omega)
               rw [Nat.add_mul] at m1
               have m2 : (lo + k) * ie.size ≤ els.length * ie.size := Nat.mul_le_mul_right _ (by omega)
               rw [Nat.add_mul] at m2
               have m3 : els.length * ie.size ≤ c * ie.size := Nat.mul_le_mul_right _ g6
               have hv : VRs σ (cellsL news) ((cb.toList.drop (d2 + lo2 * ie.size)).take (k * ie.size)) := by
                refine VRs.of_get ?_ fun j v hj => ?_
                · rw [cellsL_length hnsz, hnl]; simp; omega
                · rw [hcl, List.getElem?_take] at hj
                  split at hj
                  · rename_i hjn
                    rw [List.getElem?_drop] at hj
                    obtain ⟨v', e1, e2⟩ := f3 (lo2 * ie.size + j) v hj
                    refine ⟨v', ?_, e2⟩
                    rw [List.getElem?_take, if_pos hjn, List.getElem?_drop, Nat.add_assoc]
                    simpa using e1
                  · cases hj
               have hl' : ((cb.toList.drop (d2 + lo2 * ie.size)).take (k * ie.size)).length = k * ie.size := by rw [hv.length, cellsL_length hnsz, hnl]
               have hload : (loadCells ⟨b2, d2 + lo2 * ie.size, none⟩ (k * ie.size)).run E.P w = .ok ((cb.toList.drop (d2 + lo2 * ie.size)).take (k * ie.size)).toArray w := by
                have := run_row (P := E.P) (w := w) (b := b2) (o := d2 + lo2 * ie.size) (l := (cb.toList.drop (d2 + lo2 * ie.size)).take (k * ie.size)) (fun j v hj => by
                 rw [List.getElem?_take] at hj
                 split at hj
                 · rw [List.getElem?_drop] at hj
                   have : cb[d2 + lo2 * ie.size + j]? = some v := by simpa using hj
                   simp [World.cell?, f1, this]
                 · cases hj) w rfl
                rw [hl'] at this
                exact this
               generalize hnew : (cb.toList.drop (d2 + lo2 * ie.size)).take (k * ie.size) = new' at *
               have hroom : d + lo * ie.size + new'.length ≤ ca.size := by rw [hl']; omega
               obtain ⟨w', r1, r2, r3, r4, r5, r6, r7, r8⟩ := run_stores (P := E.P) new' 0 w b (d + lo * ie.size) ca eb2 l0 h0 g1 (by simpa using hroom) g2 (hv.cellv hcv)
               refine ⟨w', ?_, rfl, ?_, Ext.upd hB rfl hσ ht r2 r3 r5 r6 r7⟩
               · simp [Builtin.copy_, ht0, ha0, ha1, run_und ok hu, Builtin.lenOf, run_size ok hie, Builtin.firstCells, hk, hg1, hg2, hload, r1, goInt]
               · refine R.upd hB rfl hσ ht rfl r2 r3 ?_
                 rw [r4]
                 have hroom' : d + lo * ie.size + new'.length ≤ ca.toList.length := by simpa using hroom
                 have hsp := cellsL_splc (lo := lo) g4 hnsz
                 refine ⟨_, l0, h0, rfl, fun i hii => g2 i (by rw [List.size_toArray, over_length (by simpa using hroom)] at hii; simpa using hii), fun i v hiv => ?_, fun x hx => ?_, ?_, by rw [List.append_nil, splc_length (by omega)]; exact g6⟩
                 · rw [List.append_nil, hsp, over_get (by rw [cellsL_length g4, cellsL_length hnsz, hnl]; exact m2), cellsL_length hnsz, hnl] at hiv
                   have hget : (over ca.toList (d + lo * ie.size + 0) new').toArray[d + i]? = (over ca.toList (d + lo * ie.size) new')[d + i]? := by simp
                   rw [hget, over_get hroom', hl']
                   by_cases k1 : i < lo * ie.size
                   · rw [if_pos k1] at hiv
                     rw [if_pos (by omega)]
                     obtain ⟨v', e1, e2⟩ := g3 i v hiv
                     exact ⟨v', by simpa using e1, e2⟩
                   · rw [if_neg k1] at hiv
                     rw [if_neg (by omega)]
                     by_cases k2 : i < lo * ie.size + k * ie.size
                     · rw [if_pos k2] at hiv
                       rw [if_pos (by omega)]
                       obtain ⟨v', e1, e2⟩ := hv.get hiv
                       exact ⟨v', by rw [show d + i - (d + lo * ie.size) = i - lo * ie.size by omega]; exact e1, e2⟩
                     · rw [if_neg k2] at hiv
                       rw [if_neg (by omega)]
                       obtain ⟨v', e1, e2⟩ := g3 i v hiv
                       exact ⟨v', by simpa using e1, e2⟩
                 · rw [hco]
                   rw [List.append_nil] at hx
                   unfold splc at hx
                   rcases List.mem_append.1 hx with hx | hx
                   · exact g4 x (List.mem_of_mem_take hx)
                   · rcases List.mem_append.1 hx with hx | hx
                     · exact hnsz x hx
                     · exact g4 x (List.mem_of_mem_drop hx)
                 · rw [List.size_toArray, over_length (by simpa using hroom), hco]
                   have h9 : ca.toList.length = ca.size := by simp
                   omega
           · cases h
     · cases h
   · cases h
 · cases h
def copyAll (E : Env) (A : AH) (ts : List TypeId) (d s : Value) : Option (Value × AH) :=
 match d, s with
 | .slice (some ⟨B, o, none⟩) n m, .slice (some ⟨B2, o2, none⟩) n2 m2 => (match isG m with
   | true => groCopy E A ts B o n m B2 o2 n2 m2
   | false => copyA E A ts (.slice (some ⟨B, o, none⟩) n m) (.slice (some ⟨B2, o2, none⟩) n2 m2))
 | d, s => copyA E A ts d s
theorem copyAll_ok {E : Env} (ok : E.Ok) {σ : Sig} {A A' : AH} {w : World} (R : Rel E.P σ A w) {ts : Array TypeId} {ty : TypeId} {x y x' y' v : Value} {as : Array Value} (ha0 : as[0]? = some x') (ha1 : as[1]? = some y') (hx : VR σ x x') (hy : VR σ y y') (h : copyAll E A ts.toList x y = some (v, A')) :
 ∃ w', (Builtin.copy_ ts ty as).run E.P w = .ok v w' ∧ flat v = true ∧ Rel E.P σ A' w' ∧ Ext σ A w σ A' w' := by
 unfold copyAll at h
 split at h
 · split at h
   · exact groCopy_ok ok R ha0 ha1 hx hy h
   · exact copy_ok ok R ha0 ha1 hx hy h
 · exact copy_ok ok R ha0 ha1 hx hy h
def sameB (B : Nat) (x : Value) : Bool := match x with | .slice (some ⟨B2, _, none⟩) _ _ => Nat.beq B B2 | _ => false
def appAll (E : Env) (A : AH) (ts : List TypeId) (s x : Value) : Option (Value × AH) :=
 match s with
 | .slice (some ⟨B, o, none⟩) n m => (match isG m with
   | true => bif sameB B x then groApp2 E A ts B o n m x else groApp E A ts B o n m x
   | false => appendA E A ts s x)
 | _ => appendA E A ts s x
theorem appAll_ok {E : Env} (ok : E.Ok) {σ : Sig} {A A' : AH} {w : World} (R : Rel E.P σ A w) {ts : Array TypeId} {ty : TypeId} {s x s' x' v : Value} (hs : VR σ s s') (hx : VR σ x x') (h : appAll E A ts.toList s x = some (v, A')) :
 ∃ v' w' σ', (Builtin.append_ ts ty #[s', x']).run E.P w = .ok v' w' ∧ VR σ' v v' ∧ Rel E.P σ' A' w' ∧ Ext σ A w σ' A' w' := by
 unfold appAll at h
 split at h
 · split at h
   · rw [Bool.cond_eq_ite] at h
     split at h
     · exact groApp2_ok ok R hs hx h
     · exact groApp_ok ok R hs hx h
   · exact append_ok ok R hs hx h
 · exact append_ok ok R hs hx h
def okB : Value → Bool
 | .int .u8 (.ofNat n) => Nat.blt n 256
 | _ => false
def ustrA (E : Env) (A : AH) (ats : List TypeId) (p n : Value) : Option (Value × AH) :=
 match ats, p, n with
 | [pt, _], .pointer q, .int .i64 (.ofNat m) => bif Nat.beq m 0 then some (.string (mkBytes []), A) else (match q with
   | some ⟨B, o, none⟩ => bif Nat.beq o 0 then (match und E pt, A.t.get B with
     | some (.pointer e), some (.cells c e') => (match E.ti e with
       | some j => bif (Nat.beq e e' && Nat.beq j.size 1) && Nat.ble m 9223372036854775807 then (match lookN A B 0 m with
         | some l => bif l.all okB then (match bytesA l, T.set FU A.t B .dead with
           | some r, some t => some (.string (mkBytes r), ⟨t, A.next⟩)
           | _, _ => none) else none
         | none => none) else none
       | none => none)
     | _, _ => none) else none
   | _ => none)
 | _, _, _ => none
theorem ustr_ok {E : Env} (ok : E.Ok) {σ : Sig} {A A' : AH} {w : World} (R : Rel E.P σ A w) {ats : Array TypeId} {ty : TypeId} {p n p' n' v : Value} (hp : VR σ p p') (hn : VR σ n n') (h : ustrA E A ats.toList p n = some (v, A')) :
    ∃ w', (Builtin.unsafeString_ ats ty #[p', n']).run E.P w = .ok v w' ∧ flat v = true ∧ Rel E.P σ A' w' ∧ Ext σ A w σ A' w' := by
  unfold ustrA at h
  split at h
  · rename_i pt it q m hats
    have hats' : ats = #[pt, it] := by apply Array.toList_inj.1; rw [hats]
    subst hats'
    cases hn
    cases hm : Nat.beq m 0 with
    | true =>
      rw [hm] at h
      simp only [cond_true, Option.some.injEq, Prod.mk.injEq] at h
      obtain ⟨rfl, rfl⟩ := h
      obtain rfl := Nat.eq_of_beq_eq_true hm
      have he : (ByteArray.empty) = mkBytes [] := by apply WideShapes.bytes_inj; rfl
      have hpp : ∃ q', p' = .pointer q' := by cases hp <;> exact ⟨_, rfl⟩
      obtain ⟨q', rfl⟩ := hpp
      refine ⟨w, ?_, rfl, R, Ext.refl _ _ _⟩
      rw [← he]
      exact Lib.run_unsafeString_none w pt it ty q'
    | false =>
      rw [hm] at h
      simp only [cond_false] at h
      have hm0 : m ≠ 0 := beq_false_ne hm
      split at h
      · rename_i B o
        cases ho : Nat.beq o 0 with
        | false => rw [ho] at h; simp at h
        | true =>
        rw [ho] at h
        simp only [cond_true] at h
        obtain rfl := Nat.eq_of_beq_eq_true ho
        split at h
        · rename_i e c e' hpt hB
          split at h
          · rename_i j hj
            simp only [cond_eq_ite, Bool.and_eq_true, Nat.beq_eq, Nat.ble_eq] at h
            split at h
            · rename_i hc
              obtain ⟨⟨rfl, hsz⟩, hmx⟩ := hc
              split at h
              · rename_i l hl
                split at h
                · rename_i hok
                  split at h
                  · rename_i r t hr ht
                    simp only [Option.some.injEq, Prod.mk.injEq] at h
                    obtain ⟨rfl, rfl⟩ := h
                    cases hp with
                    | ptr _ hσ =>
                    rename_i b d k
                    obtain ⟨b2, d2, k2, hσ2, c', lo, hi, hb, _, hcl, _, hd0⟩ := R.obj B _ hB rfl
                    rw [hσ] at hσ2
                    simp only [Option.some.injEq, Prod.mk.injEq] at hσ2
                    obtain ⟨rfl, rfl, rfl⟩ := hσ2
                    subst hd0
                    have hlk : look A B = some c := by simp [look, hB]
                    have hle : l = c.take m ∧ l.length = m := by
                      unfold lookN at hl
                      rw [hlk] at hl
                      simp only [List.drop_zero, cond_eq_ite, Nat.beq_eq] at hl
                      split at hl
                      · rename_i e; simp only [Option.some.injEq] at hl; subst hl; exact ⟨rfl, e⟩
                      · cases hl
                    have hcells : ∀ (i : Nat) x, r[i]? = some x → c'[i]? = some (.int .u8 x.toNat) := by
                      intro i x hx
                      have : ∀ {l0 : List Value} {r0 : List UInt8}, l0.all okB = true → bytesA l0 = some r0 → l0 = r0.map fun x => Value.int .u8 x.toNat := by
                        intro l0 r0 h1 h2
                        induction l0 generalizing r0 with
                        | nil => simp [bytesA] at h2; subst h2; rfl
                        | cons v l0 ih =>
                          simp only [List.all_cons, Bool.and_eq_true] at h1
                          have h3 := h1.1
                          unfold okB at h3
                          split at h3
                          · rename_i n
                            rw [blt_eq] at h3
                            have hn : n < 256 := by simpa using h3
                            simp only [bytesA] at h2
                            split at h2
                            · rename_i r1 hr1
                              simp only [Option.some.injEq] at h2
                              subst h2
                              rw [ih h1.2 hr1]
                              simp [UInt8.toNat_ofNat, Nat.mod_eq_of_lt hn]
                            · cases h2
                          · cases h3
                      have hl2 := this hok hr
                      have hi : l[i]? = some (.int .u8 x.toNat) := by rw [hl2]; simp [hx]
                      rw [hle.1, List.getElem?_take] at hi
                      split at hi
                      · obtain ⟨v', g1, g2⟩ := hcl i _ hi
                        cases g2
                        simpa using g1
                      · cases hi
                    have hrl : r.length = m := by
                      rw [← hle.2]
                      have : ∀ {l0 : List Value} {r0 : List UInt8}, bytesA l0 = some r0 → r0.length = l0.length := by
                        intro l0 r0 h2
                        induction l0 generalizing r0 with
                        | nil => simp [bytesA] at h2; subst h2; rfl
                        | cons v l0 ih =>
                          unfold bytesA at h2
                          split at h2
                          · simp at *
                          · rename_i n l1 e
                            simp only [List.cons.injEq] at e
                            obtain ⟨rfl, rfl⟩ := e
                            split at h2
                            · rename_i r1 hr1
                              simp only [Option.some.injEq] at h2
                              subst h2
                              simp [ih hr1]
                            · cases h2
                          · cases h2
                      exact this hr
                    have hsize : m ≤ c'.size := by
                      obtain ⟨v', g, _⟩ := hcl (m - 1) _ (List.getElem?_eq_getElem (show m - 1 < c.length by have := hle.2; rw [hle.1, List.length_take] at this; omega))
                      rcases Nat.lt_or_ge (0 + (m - 1)) c'.size with h' | h'
                      · omega
                      · rw [Array.getElem?_eq_none h'] at g; cases g
                    have hrun := Lib.run_unsafeString_row (P := E.P) w pt it ty e (und_ok ok hpt) (by simp [Program.cellsOf, ok.ti _ _ hj, hsz]) b c'.size (by simp [World.shape?, hb]) r
                      (by intro e; rw [e] at hrl; simp at hrl; omega) (by omega) (by omega) (fun i x hx => by
                        rw [add_none]
                        simp [World.cell?, hb, hcells i x hx])
                    rw [hrl] at hrun
                    refine ⟨w.freeze ⟨b, 0, none⟩ m, ?_, rfl, ?_, ?_⟩
                    · exact hrun
                    · refine Rel.kill R hB rfl hσ ht ?_ ?_
                      · simp [World.freeze, hm0]
                      · intro b' hb'
                        simp only [World.freeze, hm0, if_false, Array.getElem?_modify]
                        rw [if_neg (fun e => hb' e.symm)]
                    · refine Ext.kill hB rfl hσ ht ?_ ?_ ?_ ?_ ?_
                      · simp [World.freeze, hm0]
                      · intro b' hb'
                        simp only [World.freeze, hm0, if_false, Array.getElem?_modify]
                        rw [if_neg (fun e => hb' e.symm)]
                      all_goals simp [World.freeze, hm0]
                  · cases h
                · cases h
              · cases h
            · cases h
          · cases h
        · cases h
      · cases h
  · cases h
def effB (E : Env) (A : AH) (ρ : Operand → Option Value) (b : Builtin) (c : Call) : Option (Value × AH) :=
 match b with
 | .append => (match c.args.toList with
   | [x, y] => (match ρ x, ρ y with | some s, some v => appAll E A c.argTypes.toList s v | _, _ => none)
   | _ => none)
 | .delete => (match c.args.toList with
   | [x, y] => (match ρ x, ρ y with | some m, some k => (match delA E A c.argTypes.toList m k with | some A' => some (undef, A') | none => none) | _, _ => none)
   | _ => none)
 | .clear => (match c.args.toList with
   | [x] => (match ρ x with | some m => (match clearA E A c.argTypes.toList m with | some A' => some (undef, A') | none => none) | none => none)
   | _ => none)
 | .copy => (match c.args.toList with
   | [x, y] => (match ρ x, ρ y with | some d, some s => copyAll E A c.argTypes.toList d s | _, _ => none)
   | _ => none)
 | .unsafeString => (match c.args.toList with
   | [x, y] => (match ρ x, ρ y with | some p, some n => ustrA E A c.argTypes.toList p n | _, _ => none)
   | _ => none)
 | _ => none
def effA (E : Env) (A : AH) (ρ : Operand → Option Value) (op : Op) : Option (Value × AH) :=
 match op with
 | .store t a x => (match ρ a, ρ x with | some p, some v => (match storeA E A t p v with | some A' => some (undef, A') | none => none) | _, _ => none)
 | .mapUpdate t m k x => (match ρ m, ρ k, ρ x with | some m, some k, some v => (match mapUpdA E A t m k v with | some A' => some (undef, A') | none => none) | _, _, _ => none)
 | .insert t m k x => (match ρ m, ρ k, ρ x with | some m, some k, some v => (match mapUpdA E A t m k v with | some A' => some (undef, A') | none => none) | _, _, _ => none)
 | .convert s d x => (match ρ x with | some v => s2bA E A s d v | none => none)
 | .range t x => (match ρ x with | some v => rangeA E A t v | none => none)
 | .next it b => (match ρ it with | some v => nextA A v b | none => none)
 | .call c => (match c.callee with | .builtin b => effB E A ρ b c | _ => none)
 | _ => none
theorem two_args {α β : Type} {l : Array α} {x y : α} (h : l.toList = [x, y]) (f : α → β) : l.map f = #[f x, f y] := by
 apply Array.toList_inj.1; rw [Array.toList_map, h]; rfl
theorem one_arg {α β : Type} {l : Array α} {x : α} (h : l.toList = [x]) (f : α → β) : l.map f = #[f x] := by
 apply Array.toList_inj.1; rw [Array.toList_map, h]; rfl
theorem effB_ok {E : Env} (ok : E.Ok) {σ : Sig} {A A' : AH} {w : World} (R : Rel E.P σ A w) {ρ : Operand → Option Value} {ρ' : Operand → Value} (hρ : OpR σ ρ ρ') {b : Builtin} {c : Call} {ty : TypeId} {cs : Array Bool} {v : Value}
 (h : effB E A ρ b c = some (v, A')) : Good E.P σ A w ((builtin b c.argTypes ty cs (c.args.map ρ')).run E.P w) v A' := by
 unfold effB at h
 split at h
 · split at h
   · rename_i x y hxy
     split at h
     · rename_i s u hs hu
       obtain ⟨v', w', σ', r1, r2, r3, r4⟩ := appAll_ok ok R (ty := ty) (hρ x s hs) (hρ y u hu) h
       refine Good.value (v' := v') (w' := w') ?_ r2 r3 r4
       rw [two_args hxy]
       simp [builtin, r1]
     · cases h
   · cases h
 · split at h
   · rename_i x y hxy
     split at h
     · rename_i m k hm hk
       split at h
       · rename_i A2 hd
         simp only [Option.some.injEq, Prod.mk.injEq] at h
         obtain ⟨rfl, rfl⟩ := h
         obtain ⟨w', r1, r2, r3⟩ := del_ok ok R (ty := ty) (as := #[ρ' x, ρ' y]) rfl rfl (hρ x m hm) (hρ y k hk) hd
         refine Good.value (v' := .tuple #[]) (w' := w') ?_ (undef_refl σ) r2 r3
         rw [two_args hxy]
         simp [builtin, r1]
       · cases h
     · cases h
   · cases h
 · split at h
   · rename_i x hxy
     split at h
     · rename_i m hm
       split at h
       · rename_i A2 hd
         simp only [Option.some.injEq, Prod.mk.injEq] at h
         obtain ⟨rfl, rfl⟩ := h
         obtain ⟨w', r1, r2, r3⟩ := clear_ok ok R (ty := ty) (as := #[ρ' x]) rfl (hρ x m hm) hd
         refine Good.value (v' := .tuple #[]) (w' := w') ?_ (undef_refl σ) r2 r3
         rw [one_arg hxy]
         simp [builtin, r1]
       · cases h
     · cases h
   · cases h
 · split at h
   · rename_i x y hxy
     split at h
     · rename_i d s hd hs
       obtain ⟨w', r1, r0, r2, r3⟩ := copyAll_ok ok R (ty := ty) (as := #[ρ' x, ρ' y]) rfl rfl (hρ x d hd) (hρ y s hs) h
       refine Good.value (v' := v) (w' := w') ?_ (flat_refl r0 σ) r2 r3
       rw [two_args hxy]
       simp [builtin, r1]
     · cases h
   · cases h
 · split at h
   · rename_i x y hxy
     split at h
     · rename_i d s hd hs
       obtain ⟨w', r1, r0, r2, r3⟩ := ustr_ok ok R (ty := ty) (hρ x d hd) (hρ y s hs) h
       refine Good.value (v' := v) (w' := w') ?_ (flat_refl r0 σ) r2 r3
       rw [two_args hxy]
       simp [builtin, r1]
     · cases h
   · cases h
 · cases h
theorem eff_ok {E : Env} (ok : E.Ok) {σ : Sig} {A A' : AH} {w : World} (R : Rel E.P σ A w) {ρ : Operand → Option Value} {ρ' : Operand → Value} (hρ : OpR σ ρ ρ') {o : Oper} {v : Value}
 (h : effA E A ρ o.op = some (v, A')) : Good E.P σ A w ((execOp ρ' o).run E.P w) v A' := by
 unfold effA at h
 unfold execOp
 split at h
 · rename_i t a x hop
   rw [hop]
   split at h
   · rename_i p u hp hu
     split at h
     · rename_i A2 hs
       simp only [Option.some.injEq, Prod.mk.injEq] at h
       obtain ⟨rfl, rfl⟩ := h
       obtain ⟨w', r1, r2, r3⟩ := store_ok ok R (hρ a p hp) (hρ x u hu) hs
       exact Good.skip (w' := w') (by simp [r1]) r2 r3
     · cases h
   · cases h
 · rename_i t m k x hop
   rw [hop]
   split at h
   · rename_i m0 k0 u hm hk hu
     split at h
     · rename_i A2 hs
       simp only [Option.some.injEq, Prod.mk.injEq] at h
       obtain ⟨rfl, rfl⟩ := h
       obtain ⟨w', r1, r2, r3⟩ := mapUpd_ok ok R (hρ m m0 hm) (hρ k k0 hk) (hρ x u hu) hs
       exact Good.skip (w' := w') (by simp [r1]) r2 r3
     · cases h
   · cases h
 · rename_i t m k x hop
   rw [hop]
   split at h
   · rename_i m0 k0 u hm hk hu
     split at h
     · rename_i A2 hs
       simp only [Option.some.injEq, Prod.mk.injEq] at h
       obtain ⟨rfl, rfl⟩ := h
       obtain ⟨w', r1, r2, r3⟩ := mapUpd_ok ok R (hρ m m0 hm) (hρ k k0 hk) (hρ x u hu) hs
       exact Good.skip (w' := w') (by simp [r1]) r2 r3
     · cases h
   · cases h
 · rename_i s d x hop
   rw [hop]
   split at h
   · rename_i u hu
     obtain ⟨v', w', σ', r1, r2, r3, r4⟩ := s2b_ok ok R (hρ x u hu) h
     exact Good.value (v' := v') (w' := w') (by simp [r1]) r2 r3 r4
   · cases h
 · rename_i t x hop
   rw [hop]
   split at h
   · rename_i u hu
     obtain ⟨v', w', σ', r1, r2, r3, r4⟩ := range_ok ok R (hρ x u hu) h
     exact Good.value (v' := v') (w' := w') (by simp [r1]) r2 r3 r4
   · cases h
 · rename_i it b hop
   rw [hop]
   split at h
   · rename_i u hu
     obtain ⟨v', w', r1, r2, r3, r4⟩ := next_ok ok R (ty := o.type) (hρ it u hu) h
     exact Good.value (v' := v') (w' := w') (by simp [r1]) r2 r3 r4
   · cases h
 · rename_i c hop
   rw [hop]
   split at h
   · rename_i b hb
     have := effB_ok ok R hρ (ty := o.type) (cs := c.args.map fun | .const _ => true | _ => false) h
     simp only [resolve, hb, Sem.run_bind, Sem.run_pure, Result.andThen_ok, invoke]
     exact this
   · cases h
 · cases h
def isPtrD : TypeDesc → Bool
 | .pointer _ => true
 | _ => false
def methA (E : Env) (t : TypeId) (name : String) : Option FuncId :=
 match E.ti t, und E t with
 | some i, some d => (match i.methods.find? (·.name == name) with
   | some m => bif m.path.isEmpty then (match m.func with
     | some (f, p) => bif isPtrD d == p then some f else none
     | none => none) else none
   | none => none)
 | _, _ => none
theorem meth_ok {E : Env} (ok : E.Ok) {t : TypeId} {name : String} {f : FuncId} (h : methA E t name = some f) (v : Value) (args : Array Value) (w : World) :
 (callMethod (.iface t v) name args).run E.P w = (callFunc f (#[v] ++ args)).run E.P w := by
 unfold methA at h
 split at h
 · rename_i i d hi hd
   split at h
   · rename_i m hm
     cases hp : m.path.isEmpty with
     | false => rw [hp] at h; simp at h
     | true =>
       rw [hp] at h
       simp only [cond_true] at h
       split at h
       · rename_i f0 p hf
         cases hq : (isPtrD d == p) with
         | false => rw [hq] at h; simp at h
         | true =>
           rw [hq] at h
           simp only [cond_true, Option.some.injEq] at h
           subst h
           have hp2 : m.path.toList = [] := by simpa using hp
           obtain ⟨k, hk⟩ : ∃ k, E.P.types.size + Made.depth = k + 1 := ⟨_, rfl⟩
           have hmeth : (method (k + 1) t v name).run E.P w = .ok (f0, v) w := by
            simp only [method, Sem.run_bind, run_ti ok hi, Result.andThen_ok, hm, hp2, follow, Sem.run_pure, hf, receiverAt, run_und ok hd]
            have hq := beq_iff_eq.1 hq
            subst hq
            cases d <;> simp [isPtrD, Place.get]
           simp only [callMethod, Sem.run_bind, run_program, Result.andThen_ok, hk, hmeth]
       · cases h
   · cases h
 · cases h
def enterA (E : Env) (ρ : Operand → Option Value) (op : Op) : Option (FuncId × List Value) :=
 match op with
 | .call c => (match c.callee with
   | .value f => (match ρ f, mapO ρ c.args.toList with
     | some (.func (.func g) ⟨first⟩ ⟨cap⟩), some as => some (g, first ++ as ++ cap)
     | _, _ => none)
   | .invoke r name => (match ρ r, mapO ρ c.args.toList with
     | some (.iface t v), some as => (match methA E t name with | some g => some (g, v :: as) | none => none)
     | _, _ => none)
   | _ => none)
 | _ => none
theorem enter_ok {E : Env} (ok : E.Ok) {σ : Sig} {ρ : Operand → Option Value} {ρ' : Operand → Value} (hρ : OpR σ ρ ρ') {o : Oper} {g : FuncId} {args : List Value}
 (h : enterA E ρ o.op = some (g, args)) : ∃ args', VRs σ args args' ∧ ∀ w : World, (execOp ρ' o).run E.P w = (callFunc g ⟨args'⟩).run E.P w := by
 unfold enterA at h
 unfold execOp
 split at h
 · rename_i c hop
   rw [hop]
   split at h
   · rename_i f hf
     split at h
     · rename_i g0 first cap as hg has
       simp only [Option.some.injEq, Prod.mk.injEq] at h
       obtain ⟨rfl, rfl⟩ := h
       have hfn := hρ f _ hg
       obtain ⟨first', cap', ef, hfi, hca⟩ : ∃ first' cap', ρ' f = .func (.func g0) ⟨first'⟩ ⟨cap'⟩ ∧ VRs σ first first' ∧ VRs σ cap cap' := by
        generalize ρ' f = y at hfn
        cases hfn with
        | func fn hs h1 h2 => exact ⟨_, _, rfl, h1, h2⟩
       refine ⟨first' ++ c.args.toList.map ρ' ++ cap', (hfi.append (mapO_rel hρ has)).append hca, fun w => ?_⟩
       simp only [resolve, hf, ef, Deferred.ofValue, Sem.run_bind, Sem.run_pure, Result.andThen_ok, invoke]
       congr 2
       apply Array.toList_inj.1
       simp
     · cases h
   · rename_i r name hf
     split at h
     · rename_i t v as hr has
       split at h
       · rename_i g0 hg
         simp only [Option.some.injEq, Prod.mk.injEq] at h
         obtain ⟨rfl, rfl⟩ := h
         have hrv := hρ r _ hr
         obtain ⟨v', ev', hv'⟩ : ∃ v', ρ' r = .iface t v' ∧ VR σ v v' := by
          generalize ρ' r = y at hrv
          cases hrv with
          | iface _ h1 => exact ⟨_, rfl, h1⟩
         refine ⟨v' :: c.args.toList.map ρ', .cons hv' (mapO_rel hρ has), fun w => ?_⟩
         have h0 : (#[Value.iface t v'] ++ c.args.map ρ')[0]? = some (.iface t v') := by rw [Array.getElem?_append]; rfl
         have h1 : (#[Value.iface t v'] ++ c.args.map ρ').extract 1 (#[Value.iface t v'] ++ c.args.map ρ').size = c.args.map ρ' := by
          apply Array.toList_inj.1
          simp [List.take_of_length_le]
         simp only [resolve, hf, ev', Sem.run_bind, Sem.run_pure, Result.andThen_ok, invoke, h0, h1]
         rw [meth_ok ok hg]
         congr 2
         apply Array.toList_inj.1
         simp
       · cases h
     · cases h
   · cases h
 · cases h
theorem callFunc_enter {E : Env} (ok : E.Ok) {f : FuncId} {g : Func} (h : E.fn f = some g) (args : Array Value) (w : World) : (callFunc f args).run E.P w = .ok (.enter f args) w := by
 obtain ⟨h1, h2⟩ := ok.fnb f g h
 unfold callFunc
 rw [Sem.run_bind, run_program, Result.andThen_ok, ok.fn f g h]
 simp only [h2, h1, Bool.false_eq_true, if_false]
 rfl
def ev (E : Env) (F : T Value) : Operand → Option Value
 | .tmp t => F.get t
 | .const v => bif flat v then some v else none
 | .global g => (match E.gl g with | some cs => some (plc cs) | none => none)
 | .func f => some (.func (.func f) ⟨[]⟩ ⟨[]⟩)
def Glob (E : Env) (σ : Sig) : Prop := ∀ g cs, E.gl g = some cs → cs.all scal = true ∧ 0 < cs.length ∧ ∃ (c : Array Value) (e : TypeId) (fz : Nat × Nat), σ.ro g = some (.cells c e fz) ∧ c.toList.take cs.length = cs
theorem Glob.sub {E : Env} {σ σ' : Sig} (h : Glob E σ) (hs : σ.sub σ') : Glob E σ' := fun g cs hg => by
 obtain ⟨h1, h2, c, e, fz, h3, h4⟩ := h g cs hg
 exact ⟨h1, h2, c, e, fz, hs.ro _ _ h3, h4⟩
theorem plc_ok {σ : Sig} {g : Nat} {cs : List Value} {c : Array Value} {e : TypeId} {fz : Nat × Nat} (hs : cs.all scal = true) (hl : 0 < cs.length) (hro : σ.ro g = some (.cells c e fz)) (hc : c.toList.take cs.length = cs) : VR σ (plc cs) (.pointer (some ⟨g, 0, none⟩)) := by
 have h1 : ∀ x ∈ cs, x.cells = #[x] := fun x hx => by
  have := List.all_eq_true.1 hs x hx
  cases x <;> first | rfl | simp [scal] at this
 have h2 : cellsL cs = cs := by
  clear hl hc hs
  induction cs with
  | nil => rfl
  | cons x l ih => rw [cellsL_cons, ih fun y hy => h1 y (by simp [hy]), h1 x (by simp)]; rfl
 have := VR.datP (σ := σ) (b := g) (o := 0) (sz := 1) (i := 0) (j := 0) (els := cs) hro (fun x hx => by rw [h1 x hx]; rfl) hl (by omega) (by
  rw [h2, List.drop_zero, Nat.mul_one, hc]
  exact scals_refl hs σ)
 exact this
def slot (F : T Value) (t : Nat) : Option Value := F.get t
def VO (σ : Sig) (o : Option Value) (v' : Value) : Prop := ∀ v, o = some v → VR σ v v'
theorem VO.mono {σ σ' : Sig} (hs : σ.sub σ') {o : Option Value} {v' : Value} (h : VO σ o v') : VO σ' o v' := fun v e => (h v e).mono hs
structure FR (σ : Sig) (F : T Value) (n : Nat) (a : Act) : Prop where
 size : a.tmps.size = n
 val : ∀ t, VO σ (slot F t) (a.tmps.getD t undef)
 defers : a.defers = []
theorem FR.mono {σ σ' : Sig} (hs : σ.sub σ') {F : T Value} {n : Nat} {a : Act} (h : FR σ F n a) : FR σ' F n a := ⟨h.size, fun t => (h.val t).mono hs, h.defers⟩
theorem ev_rel {E : Env} {σ : Sig} (hg : Glob E σ) {F : T Value} {a : Act} (hv : ∀ t, VO σ (slot F t) (a.tmps.getD t undef)) : OpR σ (ev E F) a.eval := by
 intro x v h
 cases x with
 | tmp t =>
   exact hv t v h
 | const u =>
   simp only [ev] at h
   cases hf : flat u with
   | false => rw [hf] at h; simp at h
   | true => rw [hf] at h; simp only [cond_true, Option.some.injEq] at h; subst h; exact flat_refl hf σ
 | global g =>
   simp only [ev] at h
   cases hf : E.gl g with
   | none => rw [hf] at h; simp at h
   | some cs =>
     rw [hf] at h
     simp only [Option.some.injEq] at h
     subst h
     obtain ⟨h1, h2, c, e, fz, h3, h4⟩ := hg g cs hf
     exact plc_ok h1 h2 h3 h4
 | func f =>
   simp only [ev, Option.some.injEq] at h
   subst h
   exact .func _ rfl .nil .nil
def put (n : Nat) (F : T Value) (dst : Option Tmp) (v : Value) : Option (T Value) :=
 match dst with
 | none => some F
 | some d => bif Nat.blt d n then T.set FU F d v else none
theorem put_rel {σ : Sig} {F F' : T Value} {n : Nat} {a : Act} {dst : Option Tmp} {v v' : Value} (h : FR σ F n a) (hv : VR σ v v') (hp : put n F dst v = some F') : FR σ F' n (a.put dst v') := by
 cases dst with
 | none => simp only [put, Option.some.injEq] at hp; subst hp; exact h
 | some d =>
   simp only [put] at hp
   cases hb : Nat.blt d n with
   | false => rw [hb] at hp; simp at hp
   | true =>
     rw [hb] at hp
     simp only [cond_true] at hp
     rw [blt_eq, decide_eq_true_eq] at hb
     have hg := T.get_set hp
     refine ⟨by simp [Act.put, h.size], fun t => ?_, h.defers⟩
     intro u hu
     unfold slot at hu
     rw [hg] at hu
     by_cases e : t = d
     · subst e
       simp only [if_true, Option.some.injEq] at hu
       subst hu
       simp only [Act.put]
       have : (a.tmps.setIfInBounds t v').getD t undef = v' := by
        rw [Array.getD_eq_getD_getElem?, Array.getElem?_setIfInBounds]; simp [h.size, hb]
       rw [this]; exact hv
     · rw [if_neg e] at hu
       have : (a.tmps.setIfInBounds d v').getD t undef = a.tmps.getD t undef := by
        rw [Array.getD_eq_getD_getElem?, Array.getElem?_setIfInBounds, if_neg (fun e' => e e'.symm), Array.getD_eq_getD_getElem?]
       simp only [Act.put]
       rw [this]; exact h.val t u hu
def wantA (ops : List Oper) (F : T Value) (o : Oper) : Option Bool :=
 match o.guard with
 | none => some true
 | some (j, want) => (match nth ops j with
   | some oj => (match oj.dst with
     | some d => (match slot F d with
       | some (.bool b) => some (match b, want with | true, true => true | false, false => true | _, _ => false)
       | some _ => some false
       | none => none)
     | none => some false)
   | none => some false)
theorem VR.bool_iff {σ : Sig} {v v' : Value} (h : VR σ v v') (b : Bool) : v = .bool b ↔ v' = .bool b := by
 cases h <;> simp
theorem want_eq {σ : Sig} {ops : Array Oper} {F : T Value} {a : Act} {o : Oper} (hv : ∀ j want oj d, o.guard = some (j, want) → ops[j]? = some oj → oj.dst = some d → VO σ (slot F d) (a.tmps.getD d undef)) {r : Bool} (hr : wantA ops.toList F o = some r) :
 Region.wanted o (yielded ops a.tmps) = r := by
 unfold wantA at hr
 unfold Region.wanted
 cases hg : o.guard with
 | none => rw [hg] at hr; simp only [Option.some.injEq] at hr; subst hr; rfl
 | some jw =>
   obtain ⟨j, want⟩ := jw
   rw [hg] at hr
   have e0 : ops.toList[j]? = ops[j]? := by simp
   simp only [yielded, nth_eq, e0] at hr ⊢
   cases hj : ops[j]? with
   | none => simp only [hj, Option.some.injEq] at hr; subst hr; simp
   | some oj =>
     simp only [hj] at hr
     simp only [Option.bind_some]
     cases hd : oj.dst with
     | none => simp only [hd, Option.some.injEq] at hr; subst hr; simp
     | some d =>
       simp only [hd] at hr
       simp only [Option.bind_some]
       have h := hv j want oj d hg hj hd
       have htm : ∀ b, a.tmps[d]? = some (.bool b) ↔ a.tmps.getD d undef = .bool b := by
        intro b
        rw [Array.getD_eq_getD_getElem?]
        cases hx : a.tmps[d]? with
        | none => simp [undef]
        | some x => simp
       cases hs : slot F d with
       | none => simp [hs] at hr
       | some u =>
         have hb := fun b => VR.bool_iff (h u hs) b
         cases u with
         | bool b =>
           simp only [hs, Option.some.injEq] at hr
           subst hr
           rw [(htm b).2 ((hb b).1 rfl)]
           cases b <;> cases want <;> rfl
         | _ =>
           simp only [hs, Option.some.injEq] at hr
           subst hr
           have hne : ∀ b, a.tmps[d]? ≠ some (.bool b) := by
            intro b hc
            have := (hb b).2 ((htm b).1 hc)
            cases this
           cases hx : a.tmps[d]? with
           | none => cases want <;> rfl
           | some x =>
             cases x <;> first | exact absurd hx (hne _) | (cases want <;> rfl)
abbrev CallF := FuncId → List Value → AH → Option (Value × AH)
def CallOk (E : Env) (call : CallF) : Prop := ∀ f args A v A', call f args A = some (v, A') → ∀ σ w args', Rel E.P σ A w → Glob E σ → VRs σ args args' →
 Calls E.P f ⟨args'⟩ w (fun e w' => ∃ v' σ', e = .returned v' ∧ VR σ' v v' ∧ Rel E.P σ' A' w' ∧ Ext σ A w σ' A' w')
def Does (E : Env) (σ : Sig) (A : AH) (w : World) (o : Oper) (a : Act) (v : Value) (A' : AH) : Prop :=
 ∀ (K : Act → World → Prop) (Q : Exit → Act → World → Prop), (∀ v' w' σ', VR σ' v v' → Rel E.P σ' A' w' → Ext σ A w σ' A' w' → K (a.put o.dst v') w') → o.wp E.P a w K Q
theorem does_of_good {E : Env} {σ : Sig} {A A' : AH} {w : World} {o : Oper} {a : Act} {v : Value} (G : Good E.P σ A w ((execOp a.eval o).run E.P w) v A') : Does E σ A w o a v A' := by
 intro K Q hK
 obtain ⟨nx, v', w', σ', h1, h2, h3, h4, h5⟩ := G
 unfold Oper.wp
 rw [h1]
 rcases h2 with rfl | ⟨rfl, rfl⟩
 · exact hK v' w' σ' h3 h4 h5
 · exact hK undef w' σ' h3 h4 h5
theorem does_quiet {E : Env} (ok : E.Ok) {σ : Sig} {A : AH} {w : World} (R : Rel E.P σ A w) {ρ : Operand → Option Value} {o : Oper} {a : Act} (hρ : OpR σ ρ a.eval) {v : Value} (h : quiet E A ρ o.type o.op = some v) : Does E σ A w o a v A := by
 obtain ⟨v', h1, h2⟩ := quiet_ok ok R hρ h
 exact does_of_good (Good.value h1 h2 R (Ext.refl _ _ _))
def effAll (call : CallF) (E : Env) (A : AH) (ρ : Operand → Option Value) (op : Op) : Option (Value × AH) :=
 match effA E A ρ op with
 | some r => some r
 | none => (match enterA E ρ op with
   | some (g, args) => (match E.fn g with
     | some _ => call g args A
     | none => (match E.ext g with
       | some x => x args A
       | none => none))
   | none => none)
theorem does_eff {E : Env} (ok : E.Ok) {call : CallF} (hc : CallOk E call) {σ : Sig} {A A' : AH} {w : World} (R : Rel E.P σ A w) (hg : Glob E σ) {ρ : Operand → Option Value} {o : Oper} {a : Act} (hρ : OpR σ ρ a.eval) {v : Value}
 (h : effAll call E A ρ o.op = some (v, A')) : Does E σ A w o a v A' := by
 unfold effAll at h
 split at h
 · rename_i r hr
   simp only [Option.some.injEq] at h
   subst h
   exact does_of_good (eff_ok ok R hρ hr)
 · split at h
   · rename_i g args hen
     obtain ⟨args', ha, hrun⟩ := enter_ok ok hρ hen
     split at h
     · rename_i fn hfn
       intro K Q hK
       unfold Oper.wp
       rw [hrun, callFunc_enter ok hfn]
       show Calls E.P g ⟨args'⟩ w _
       refine (hc g args A v A' h σ w args' R hg ha).mono fun e w' he => ?_
       obtain ⟨v', σ', rfl, h1, h2, h3⟩ := he
       exact hK v' w' σ' h1 h2 h3
     · split at h
       · rename_i x hx
         refine does_of_good ?_
         rw [hrun]
         exact ok.ext g x args A v A' hx h σ w args' R ha
       · cases h
   · cases h
theorem does_alloc {E : Env} (ok : E.Ok) {σ : Sig} {A A' : AH} {w : World} (R : Rel E.P σ A w) {ρ : Operand → Option Value} {o : Oper} {a : Act} (hρ : OpR σ ρ a.eval) {ob : AObj} {fv : Nat → Value}
 (h : allocA E ρ o.op = some (ob, fv)) (hn : newBlock A ob = some A') : Does E σ A w o a (fv A.next) A' := by
 obtain ⟨ob', fv', h1, h2, h3, h4⟩ := alloc_ok ok hρ h
 unfold newBlock at hn
 split at hn
 · rename_i t ht
   simp only [Option.some.injEq] at hn
   subst hn
   have hid : σ A.next = none := R.fresh _ (Nat.le_refl _)
   exact does_of_good (Good.value (h1 w) (h3 (upd σ A.next (w.heap.size, 0, 0)) A.next w.heap.size 0 upd_same)
    (R.alloc ht hid (Nat.lt_succ_self _) (Nat.le_succ _) (h2 _ (upd_sub hid)) rfl) (Ext.alloc R ht (Nat.le_succ _) (ob := ob') rfl rfl rfl rfl))
 · cases hn
def opA (call : CallF) (E : Env) (A : AH) (ρ : Operand → Option Value) (ty : TypeId) (op : Op) : Option (Value × AH) :=
 match quiet E A ρ ty op with
 | some v => some (v, A)
 | none => (match allocA E ρ op with
   | some (ob, fv) => (match newBlock A ob with | some A' => some (fv A.next, A') | none => none)
   | none => effAll call E A ρ op)
theorem does_op {E : Env} (ok : E.Ok) {call : CallF} (hc : CallOk E call) {σ : Sig} {A A' : AH} {w : World} (R : Rel E.P σ A w) (hg : Glob E σ) {ρ : Operand → Option Value} {o : Oper} {a : Act} (hρ : OpR σ ρ a.eval) {v : Value}
 (h : opA call E A ρ o.type o.op = some (v, A')) : Does E σ A w o a v A' := by
 unfold opA at h
 split at h
 · rename_i u hu
   simp only [Option.some.injEq, Prod.mk.injEq] at h
   obtain ⟨rfl, rfl⟩ := h
   exact does_quiet ok R hρ hu
 · split at h
   · rename_i ob fv hal
     split at h
     · rename_i A2 hn
       simp only [Option.some.injEq, Prod.mk.injEq] at h
       obtain ⟨rfl, rfl⟩ := h
       exact does_alloc ok R hρ hal hn
     · cases h
   · exact does_eff ok hc R hg hρ h
def evOps (call : CallF) (E : Env) (ops : List Oper) (n : Nat) : List Oper → T Value → AH → Option (T Value × AH)
 | [], F, A => some (F, A)
 | o :: rest, F, A =>
   match wantA ops F o with
   | some true => (match opA call E A (ev E F) o.type o.op with
     | some (v, A') => (match put n F o.dst v with | some F' => evOps call E ops n rest F' A' | none => none)
     | none => none)
   | some false => (match put n F o.dst undef with | some F' => evOps call E ops n rest F' A | none => none)
   | none => none
theorem evOps_ok {E : Env} (ok : E.Ok) {call : CallF} (hc : CallOk E call) {ops : Array Oper} {n : Nat} {Q : Exit → Act → World → Prop} : ∀ (l : List Oper) (k : Nat) (F F' : T Value) (A A' : AH) (σ : Sig) (a : Act) (w : World),
 evOps call E ops.toList n l F A = some (F', A') → (∀ (i : Nat), i < l.length → ops[k + i]? = l[i]?) → Rel E.P σ A w → Glob E σ → FR σ F n a →
 (∀ a' w' σ', FR σ' F' n a' → Rel E.P σ' A' w' → Ext σ A w σ' A' w' → Q .normal a' w') → wpOps E.P ops Q (List.range' k l.length) a w
 | [], k, F, F', A, A', σ, a, w, h, _, R, hg, hF, hQ => by
   simp only [evOps, Option.some.injEq, Prod.mk.injEq] at h
   obtain ⟨rfl, rfl⟩ := h
   exact hQ a w σ hF R (Ext.refl _ _ _)
 | o :: rest, k, F, F', A, A', σ, a, w, h, hl, R, hg, hF, hQ => by
   have h0 : ops[k]? = some o := by have := hl 0 (by simp); simpa using this
   have hr : ∀ (i : Nat), i < rest.length → ops[k + 1 + i]? = rest[i]? := fun i hi => by
    have := hl (i + 1) (by simp; omega)
    rw [show k + 1 + i = k + (i + 1) by omega, this]
    simp
   rw [List.length_cons, List.range'_succ, wpOps_cons]
   unfold wpOp
   simp only [h0]
   simp only [evOps] at h
   cases hw : wantA ops.toList F o with
   | none => rw [hw] at h; cases h
   | some b =>
   rw [want_eq (σ := σ) (F := F) (fun _ _ _ d _ _ _ => hF.val d) hw]
   cases b with
   | true =>
     rw [hw] at h
     simp only at h
     rw [if_pos rfl]
     left
     split at h
     · rename_i v A1 hop
       split at h
       · rename_i F1 hput
         refine does_op ok hc R hg (ev_rel hg hF.val) hop _ _ fun v' w' σ' h1 h2 h3 => ?_
         have hsub := Ext.sub R h3
         exact evOps_ok ok hc rest (k + 1) F1 F' A1 A' σ' _ w' h hr h2 (hg.sub hsub) (put_rel (hF.mono hsub) h1 hput) fun a2 w2 σ2 k1 k2 k3 => hQ a2 w2 σ2 k1 k2 (h3.trans k3)
       · cases h
     · cases h
   | false =>
     rw [hw] at h
     simp only at h
     rw [if_neg (by simp)]
     split at h
     · rename_i F1 hput
       exact evOps_ok ok hc rest (k + 1) F1 F' A A' σ _ w h hr R hg (put_rel hF (undef_refl σ) hput) hQ
     · cases h
def isEff (E : Env) : Op → Bool
 | .store .. | .mapUpdate .. | .insert .. | .range .. | .next .. => true
 | .convert _ d _ => (match und E d with | some (.slice _) => true | _ => false)
 | .call c => (match c.callee with | .builtin b => (match b with | .len | .max | .min | .cap | .unsafeSliceData => false | _ => true) | _ => true)
 | _ => false
def tmpsOf (op : Op) : List Nat := op.operands.toList.filterMap fun | .tmp t => some t | _ => none
def rho (E : Env) (F : T Value) (ts : List Nat) : Operand → Option Value
 | .tmp t => bif ts.any (Nat.beq t) then F.get t else none
 | x => ev E F x
theorem rho_rel {E : Env} {σ : Sig} (hg : Glob E σ) {F : T Value} {a : Act} {ts : List Nat} (hv : ∀ t, t ∈ ts → VO σ (slot F t) (a.tmps.getD t undef)) : OpR σ (rho E F ts) a.eval := by
 intro x v h
 cases x with
 | tmp t =>
   simp only [rho] at h
   cases hb : ts.any (Nat.beq t) with
   | false => rw [hb] at h; simp at h
   | true =>
     rw [hb] at h
     simp only [cond_true] at h
     have hm : t ∈ ts := by
      rw [List.any_eq_true] at hb
      obtain ⟨y, hy, e⟩ := hb
      have := Nat.eq_of_beq_eq_true e
      subst this; exact hy
     exact hv t hm v h
 | const u =>
   simp only [rho, ev] at h
   cases hf : flat u with
   | false => rw [hf] at h; simp at h
   | true => rw [hf] at h; simp only [cond_true, Option.some.injEq] at h; subst h; exact flat_refl hf σ
 | global g =>
   simp only [rho, ev] at h
   cases hf : E.gl g with
   | none => rw [hf] at h; simp at h
   | some cs =>
     rw [hf] at h
     simp only [Option.some.injEq] at h
     subst h
     obtain ⟨h1, h2, c, e, fz, h3, h4⟩ := hg g cs hf
     exact plc_ok h1 h2 h3 h4
 | func f =>
   simp only [rho, ev, Option.some.injEq] at h
   subst h
   exact .func _ rfl .nil .nil
def maskOf (ms : List Nat) : List Edge → Nat
 | [] => 0
 | e :: l => bif Region.binds .any e then (1 <<< e.on) ||| ((nth ms e.on).getD 0 ||| maskOf ms l) else maskOf ms l
def masks : List Oper → List Nat → List Nat
 | [], acc => acc
 | o :: l, acc => masks l (acc ++ [maskOf acc o.after.toList])
def bit (ms : List Nat) (i j : Nat) : Bool := ((nth ms i).getD 0).testBit j
theorem masks_spec : ∀ (l : List Oper) (acc : List Nat), ∃ r, masks l acc = acc ++ r ∧ r.length = l.length ∧ ∀ (i : Nat) o, l[i]? = some o → r[i]? = some (maskOf (acc ++ r.take i) o.after.toList)
 | [], acc => ⟨[], by simp [masks]⟩
 | o :: l, acc => by
   obtain ⟨r, h1, h2, h3⟩ := masks_spec l (acc ++ [maskOf acc o.after.toList])
   refine ⟨maskOf acc o.after.toList :: r, by simp [masks, h1], by simp [h2], fun i o' hi => ?_⟩
   cases i with
   | zero => simp at hi; subst hi; simp
   | succ i =>
     simp at hi
     have := h3 i o' hi
     simpa using this
theorem maskOf_bit {ms : List Nat} {j : Nat} : ∀ {l : List Edge}, (maskOf ms l).testBit j = true → ∃ e ∈ l, Region.binds .any e = true ∧ (e.on = j ∨ ((nth ms e.on).getD 0).testBit j = true)
 | [], h => by simp [maskOf] at h
 | e :: l, h => by
   simp only [maskOf] at h
   cases hb : Region.binds .any e with
   | true =>
     rw [hb] at h
     simp only [cond_true, Nat.testBit_or, Bool.or_eq_true] at h
     rcases h with h | h | h
     · have : e.on = j := by
        rw [Nat.testBit_shiftLeft] at h
        simp only [Bool.and_eq_true, decide_eq_true_eq] at h
        obtain ⟨h1, h2⟩ := h
        have : j - e.on = 0 := by
         cases hx : j - e.on with
         | zero => rfl
         | succ n => rw [hx] at h2; simp [Nat.testBit_succ] at h2
        omega
       exact ⟨e, by simp, hb, .inl this⟩
     · exact ⟨e, by simp, hb, .inr h⟩
     · obtain ⟨e', h1, h2, h3⟩ := maskOf_bit h
       exact ⟨e', by simp [h1], h2, h3⟩
   | false =>
     rw [hb] at h
     simp only [cond_false] at h
     obtain ⟨e', h1, h2, h3⟩ := maskOf_bit h
     exact ⟨e', by simp [h1], h2, h3⟩
def pairOk (E : Env) (ops : Array Oper) (ms : List Nat) (i j : Nat) (oi oj : Oper) : Bool :=
 (match oj.dst with
  | some t => (!(oi.looksAt ops).contains t || (Nat.beq i j || (bif Nat.blt j i then bit ms i j else bit ms j i))) &&
    (match oi.dst with | some s => !(Nat.beq s t) || (!(Nat.blt i j) || bit ms j i) | none => true)
  | none => true) &&
 (!(isEff E oi.op && (isEff E oj.op && Nat.blt i j)) || bit ms j i)
def regOk (E : Env) (ops : Array Oper) : Bool :=
 let l := ops.toList
 let ms := masks l []
 l.zipIdx.all fun (oi, i) => (oi.after.toList.all fun e => !(Region.binds .any e) || Nat.blt e.on i) && l.zipIdx.all fun (oj, j) => pairOk E ops ms i j oi oj
structure SF (E : Env) (ops : Array Oper) (ms : List Nat) : Prop where
 closed : ∀ (L : Nat → Prop), (∀ i o, ops[i]? = some o → L i → ∀ e ∈ o.after.toList, Region.binds .any e = true → L e.on) → ∀ i, i < ops.size → L i → ∀ j, bit ms i j = true → L j
 anc : ∀ (L : Nat → Prop), (∀ i o, ops[i]? = some o → L i → ∀ e ∈ o.after.toList, Region.binds .any e = true → L e.on) → ∀ i o, ops[i]? = some o → (∀ e ∈ o.after.toList, Region.binds .any e = true → L e.on) → ∀ j, bit ms i j = true → L j
 back : ∀ i o, ops[i]? = some o → ∀ e ∈ o.after.toList, Region.binds .any e = true → e.on < i
 low : ∀ i, i < ops.size → ∀ j, bit ms i j = true → j < i
 temps : ∀ i j oi oj t, ops[i]? = some oi → ops[j]? = some oj → oj.dst = some t → t ∈ oi.looksAt ops → i ≠ j → (j < i → bit ms i j = true) ∧ (i < j → bit ms j i = true)
 dsts : ∀ i j oi oj t, ops[i]? = some oi → ops[j]? = some oj → oi.dst = some t → oj.dst = some t → i < j → bit ms j i = true
 effs : ∀ i j oi oj, ops[i]? = some oi → ops[j]? = some oj → isEff E oi.op = true → isEff E oj.op = true → i < j → bit ms j i = true
theorem sf_of {E : Env} {ops : Array Oper} (h : regOk E ops = true) : SF E ops (masks ops.toList []) := by
 unfold regOk at h
 simp only [List.all_eq_true] at h
 have hget : ∀ i o, ops[i]? = some o → (o, i) ∈ ops.toList.zipIdx := by
  intro i o hi
  rw [List.mk_mem_zipIdx_iff_getElem?]
  simpa using hi
 obtain ⟨r, m1, m2, m3⟩ := masks_spec ops.toList []
 simp only [List.nil_append] at m1 m3
 have hms : ∀ i o, ops[i]? = some o → (nth (masks ops.toList []) i).getD 0 = maskOf (r.take i) o.after.toList := by
  intro i o hi
  rw [m1, nth_eq, m3 i o (by simpa using hi)]
  rfl
 have hback : ∀ i o, ops[i]? = some o → ∀ e ∈ o.after.toList, Region.binds .any e = true → e.on < i := by
  intro i o hi e he hb
  have := h _ (hget i o hi)
  simp only [Bool.and_eq_true, List.all_eq_true] at this
  have := this.1 e he
  simp only [hb, Bool.not_true, Bool.false_or] at this
  rw [blt_eq, decide_eq_true_eq] at this
  exact this
 have hnth : ∀ i j, j < i → (nth (r.take i) j).getD 0 = (nth (masks ops.toList []) j).getD 0 := by
  intro i j hij
  rw [m1, nth_eq, nth_eq, List.getElem?_take, if_pos hij]
 have hpair : ∀ i j oi oj, ops[i]? = some oi → ops[j]? = some oj → pairOk E ops (masks ops.toList []) i j oi oj = true := by
  intro i j oi oj hi hj
  have := h _ (hget i oi hi)
  simp only [Bool.and_eq_true, List.all_eq_true] at this
  exact this.2 _ (hget j oj hj)
 have hclosed : ∀ (L : Nat → Prop), (∀ i o, ops[i]? = some o → L i → ∀ e ∈ o.after.toList, Region.binds .any e = true → L e.on) → ∀ i, i < ops.size → L i → ∀ j, bit (masks ops.toList []) i j = true → L j := by
  intro L hL i
  induction i using Nat.strongRecOn with
  | _ i ih =>
    intro hi hLi j hb
    have ho : ops[i]? = some ops[i] := by simp [hi]
    unfold bit at hb
    rw [hms i _ ho] at hb
    obtain ⟨e, he, hbn, hh⟩ := maskOf_bit hb
    have hlt := hback i _ ho e he hbn
    have hLe := hL i _ ho hLi e he hbn
    rcases hh with rfl | hh
    · exact hLe
    · rw [hnth i e.on hlt] at hh
      exact ih e.on hlt (by omega) hLe j hh
 have hlow : ∀ i, i < ops.size → ∀ j, bit (masks ops.toList []) i j = true → j < i := by
  intro i
  induction i using Nat.strongRecOn with
  | _ i ih =>
    intro hi j hb
    have ho : ops[i]? = some ops[i] := by simp [hi]
    unfold bit at hb
    rw [hms i _ ho] at hb
    obtain ⟨e, he, hbn, hh⟩ := maskOf_bit hb
    have hlt := hback i _ ho e he hbn
    rcases hh with rfl | hh
    · exact hlt
    · rw [hnth i e.on hlt] at hh
      have := ih e.on hlt (by omega) j hh
      omega
 refine ⟨hclosed, ?_, hback, hlow, ?_, ?_, ?_⟩
 · intro L hL i o hi hp j hb
   unfold bit at hb
   rw [hms i _ hi] at hb
   obtain ⟨e, he, hbn, hh⟩ := maskOf_bit hb
   have hlt := hback i _ hi e he hbn
   have hLe := hp e he hbn
   have hisz : i < ops.size := by
    rcases Nat.lt_or_ge i ops.size with h | h
    · exact h
    · rw [Array.getElem?_eq_none h] at hi; cases hi
   rcases hh with rfl | hh
   · exact hLe
   · rw [hnth i e.on hlt] at hh
     exact hclosed L hL e.on (by omega) hLe j hh
 · intro i j oi oj t hi hj hd ht hne
   have := hpair i j oi oj hi hj
   simp only [pairOk, hd, Bool.and_eq_true, Bool.or_eq_true] at this
   have := this.1.1
   have hc : (oi.looksAt ops).contains t = true := by simpa using ht
   rw [hc] at this
   rcases this with h | h | h
   · simp at h
   · exact absurd (Nat.eq_of_beq_eq_true h) hne
   · constructor
     · intro hlt
       have : Nat.blt j i = true := by rw [blt_eq]; simpa using hlt
       rw [this] at h; exact h
     · intro hlt
       have : Nat.blt j i = false := by rw [blt_eq]; simp; omega
       rw [this] at h; exact h
 · intro i j oi oj t hi hj hdi hdj hlt
   have := hpair i j oi oj hi hj
   simp only [pairOk, hdj, hdi, Bool.and_eq_true, Bool.or_eq_true] at this
   have := this.1.2
   rcases this with h | h | h
   · simp at h
   · rw [blt_eq] at h; simp at h; omega
   · exact h
 · intro i j oi oj hi hj ei ej hlt
   have := hpair i j oi oj hi hj
   simp only [pairOk, Bool.and_eq_true, Bool.or_eq_true] at this
   have := this.2
   rcases this with h | h
   · have hb : Nat.blt i j = true := by rw [blt_eq]; simpa using hlt
     rw [ei, ej, hb] at h; simp at h
   · exact h
def fvl (ops : Array Oper) (vs : List Value) (L : Nat → Bool) (F0 : T Value) (t : Nat) : Nat → Option Value
 | 0 => slot F0 t
 | k + 1 => if L k = true ∧ (ops[k]?).bind (·.dst) = some t then some ((vs[k]?).getD undef) else fvl ops vs L F0 t k
theorem fvl_skip {ops : Array Oper} {vs : List Value} {L : Nat → Bool} {F0 : T Value} {t : Nat} {i : Nat} : ∀ k, i ≤ k → (∀ j, i ≤ j → j < k → ¬ (L j = true ∧ (ops[j]?).bind (·.dst) = some t)) → fvl ops vs L F0 t k = fvl ops vs L F0 t i
  | 0, h, _ => by have : i = 0 := by omega
                  subst this; rfl
  | k + 1, h, hj => by
    by_cases e : i = k + 1
    · subst e; rfl
    · rw [fvl, if_neg (hj k (by omega) (by omega))]
      exact fvl_skip k (by omega) fun j h1 h2 => hj j h1 (by omega)
theorem fvl_congr {ops : Array Oper} {vs : List Value} {L L' : Nat → Bool} {F0 : T Value} {t : Nat} : ∀ k, (∀ j, j < k → (ops[j]?).bind (·.dst) = some t → L j = L' j) → fvl ops vs L F0 t k = fvl ops vs L' F0 t k
 | 0, _ => rfl
 | k + 1, h => by
   simp only [fvl]
   rw [fvl_congr k fun j hj => h j (by omega)]
   by_cases e : (ops[k]?).bind (·.dst) = some t
   · rw [h k (by omega) e]
   · rw [if_neg (fun c => e c.2), if_neg (fun c => e c.2)]
def vis (A : AH) (B : Nat) : Option AObj :=
 match A.t.get B with
 | some o => bif o.here then some o else none
 | none => none
theorem vis_some {A : AH} {B : Nat} {o : AObj} : vis A B = some o ↔ A.t.get B = some o ∧ o.here = true := by
  unfold vis
  cases h : A.t.get B with
  | none => simp
  | some x =>
    cases hx : x.here with
    | false => simp only [hx, cond_false]; constructor
               · intro e; cases e
               · rintro ⟨e, h2⟩; simp only [Option.some.injEq] at e; subst e; rw [hx] at h2; cases h2
    | true => simp only [hx, cond_true, Option.some.injEq]; constructor
              · rintro rfl; exact ⟨rfl, hx⟩
              · rintro ⟨e, _⟩; exact e
abbrev Al := Nat × Nat × AObj
def addAl (m : Nat) : List Al → AH → Option AH
 | [], G => some G
 | (i, id, ob) :: r, G =>
   match addAl m r G with
   | some H => bif m.testBit i then (match vis H id with
     | some _ => some H
     | none => (match T.set FU H.t id ob with | some t => some ⟨t, H.next⟩ | none => none)) else some H
   | none => none
theorem addAl_spec {m : Nat} : ∀ {als : List Al} {G H : AH}, addAl m als G = some H → (∀ x ∈ als, x.2.2.here = true) →
 H.next = G.next ∧ (∀ B o, vis H B = some o → vis G B = some o ∨ (vis G B = none ∧ ∃ i, (i, B, o) ∈ als ∧ m.testBit i = true)) ∧
 (∀ B o, vis G B = some o → vis H B = some o) ∧ (∀ i B o, (i, B, o) ∈ als → m.testBit i = true → ∃ o', vis H B = some o')
 | [], G, H, h, _ => by
   simp only [addAl, Option.some.injEq] at h
   subst h
   exact ⟨rfl, fun B o h => .inl h, fun B o h => h, fun i B o h => by simp at h⟩
 | (i, id, ob) :: r, G, H, h, hh => by
   simp only [addAl] at h
   cases hr : addAl m r G with
   | none => simp [hr] at h
   | some H1 =>
     simp only [hr] at h
     obtain ⟨s1, s2, s3, s4⟩ := addAl_spec hr (fun x hx => hh x (by simp [hx]))
     cases hb : m.testBit i with
     | false =>
       rw [hb] at h
       simp only [cond_false, Option.some.injEq] at h
       subst h
       refine ⟨s1, fun B o hB => ?_, s3, fun j B o hj hjb => ?_⟩
       · rcases s2 B o hB with h | ⟨h1, j, h2, h3⟩
         · exact .inl h
         · exact .inr ⟨h1, j, by simp [h2], h3⟩
       · rcases List.mem_cons.1 hj with e | e
         · simp only [Prod.mk.injEq] at e; rw [e.1, hb] at hjb; cases hjb
         · exact s4 j B o e hjb
     | true =>
       rw [hb] at h
       simp only [cond_true] at h
       cases hv : vis H1 id with
       | some ov =>
         simp only [hv, Option.some.injEq] at h
         subst h
         refine ⟨s1, fun B o hB => ?_, s3, fun j B o hj hjb => ?_⟩
         · rcases s2 B o hB with h | ⟨h1, j, h2, h3⟩
           · exact .inl h
           · exact .inr ⟨h1, j, by simp [h2], h3⟩
         · rcases List.mem_cons.1 hj with e | e
           · simp only [Prod.mk.injEq] at e; rw [e.2.1]; exact ⟨ov, hv⟩
           · exact s4 j B o e hjb
       | none =>
         simp only [hv] at h
         split at h
         · rename_i t ht
           simp only [Option.some.injEq] at h
           subst h
           have hg := T.get_set ht
           have hvis : ∀ B, vis ⟨t, H1.next⟩ B = if B = id then some ob else vis H1 B := by
            intro B
            unfold vis
            simp only [hg]
            by_cases e : B = id
            · simp only [e, if_true, hh (i, id, ob) (by simp), cond_true]
            · simp only [e, if_false]
           refine ⟨s1, fun B o hB => ?_, fun B o hB => ?_, fun j B o hj hjb => ?_⟩
           · rw [hvis] at hB
             by_cases e : B = id
             · rw [if_pos e, Option.some.injEq] at hB
               subst hB; subst e
               refine .inr ⟨?_, i, by simp, hb⟩
               cases hgv : vis G B with
               | none => rfl
               | some x => rw [s3 B x hgv] at hv; cases hv
             · rw [if_neg e] at hB
               rcases s2 B o hB with h | ⟨h1, j, h2, h3⟩
               · exact .inl h
               · exact .inr ⟨h1, j, by simp [h2], h3⟩
           · rw [hvis]
             by_cases e : B = id
             · rw [e] at hB; rw [s3 _ _ hB] at hv; cases hv
             · rw [if_neg e]; exact s3 B o hB
           · rw [hvis]
             by_cases e : B = id
             · exact ⟨ob, by rw [if_pos e]⟩
             · rw [if_neg e]
               rcases List.mem_cons.1 hj with e' | e'
               · simp only [Prod.mk.injEq] at e'; exact absurd e'.2.1 e
               · exact s4 j B o e' hjb
         · cases h
def gf (als : List Al) (G : AH) (L : Nat → Bool) (B : Nat) : Option AObj :=
 match vis G B with
 | some o => some o
 | none => (als.find? (fun x => Nat.beq x.2.1 B && L x.1)).map (·.2.2)
structure AlsOk (n0 m : Nat) (als : List Al) : Prop where
 id : ∀ x ∈ als, x.2.1 = n0 + x.1
 lt : ∀ x ∈ als, x.1 < m
 own : ∀ x ∈ als, x.2.2.own = true
 uniq : ∀ x ∈ als, ∀ y ∈ als, x.1 = y.1 → x = y
theorem gf_some {als : List Al} {G : AH} {L : Nat → Bool} {B : Nat} {o : AObj} (h : gf als G L B = some o) : vis G B = some o ∨ (vis G B = none ∧ ∃ i, (i, B, o) ∈ als ∧ L i = true) := by
 unfold gf at h
 split at h
 · rename_i x hx
   simp only [Option.some.injEq] at h
   subst h; exact .inl hx
 · rename_i hx
   rw [Option.map_eq_some_iff] at h
   obtain ⟨y, hy, rfl⟩ := h
   have hp := List.find?_some hy
   have hm := List.mem_of_find?_eq_some hy
   simp only [Bool.and_eq_true] at hp
   have := Nat.eq_of_beq_eq_true hp.1
   subst this
   exact .inr ⟨hx, y.1, hm, hp.2⟩
theorem gf_core {als : List Al} {G : AH} {L : Nat → Bool} {B : Nat} {o : AObj} (h : vis G B = some o) : gf als G L B = some o := by unfold gf; rw [h]
theorem gf_al {n0 m : Nat} {als : List Al} (ha : AlsOk n0 m als) {G : AH} {L : Nat → Bool} {i B : Nat} {o : AObj} (hm : (i, B, o) ∈ als) (hL : L i = true) (hv : vis G B = none) : gf als G L B = some o := by
 unfold gf
 rw [hv]
 simp only
 cases hf : als.find? (fun x => Nat.beq x.2.1 B && L x.1) with
 | none =>
   rw [List.find?_eq_none] at hf
   have := hf _ hm
   simp [hL] at this
 | some y =>
   have hp := List.find?_some hf
   have hmem := List.mem_of_find?_eq_some hf
   simp only [Bool.and_eq_true] at hp
   have e1 := Nat.eq_of_beq_eq_true hp.1
   have e2 := ha.id y hmem
   have e3 := ha.id _ hm
   simp only at e3
   have : y = (i, B, o) := ha.uniq y hmem _ hm (by simp only; omega)
   subst this; rfl
theorem gf_same {als : List Al} {G : AH} {L L' : Nat → Bool} (h : ∀ x ∈ als, L' x.1 = L x.1) (B : Nat) : gf als G L' B = gf als G L B := by
 unfold gf
 have : ∀ (l : List Al), (∀ x ∈ l, L' x.1 = L x.1) → l.find? (fun x => Nat.beq x.2.1 B && L' x.1) = l.find? (fun x => Nat.beq x.2.1 B && L x.1) := by
  intro l hl
  induction l with
  | nil => rfl
  | cons x l ih =>
    simp only [List.find?_cons, hl x (by simp)]
    rw [ih fun y hy => hl y (by simp [hy])]
 rw [this als h]
structure TR (call : CallF) (E : Env) (ops : Array Oper) (ms : List Nat) (n n0 : Nat) (F0 : T Value) (fs : List (T Value)) (vs : List Value) (cs : List AH) (es : List Nat) (als : List Al) : Prop where
 fs0 : fs[0]? = some F0
 row : ∀ i o, ops[i]? = some o → ∃ F F' v, fs[i]? = some F ∧ fs[i + 1]? = some F' ∧ vs[i]? = some v ∧ put n F o.dst v = some F' ∧
  ((wantA ops.toList F o = some false ∧ v = undef ∧ i ∉ es ∧ (∀ x ∈ als, x.1 ≠ i)) ∨
   (wantA ops.toList F o = some true ∧ i ∉ es ∧ (∀ x ∈ als, x.1 ≠ i) ∧
    ∀ (e : Nat) G, cs[e]? = some G → (∀ (j : Nat) i', es[j]? = some i' → bit ms i i' = true → j < e) → (∀ (j : Nat) i', es[j]? = some i' → j < e → bit ms i' i = false) →
      ∃ H, addAl ((nth ms i).getD 0) als G = some H ∧ quiet E H (rho E F (tmpsOf o.op)) o.type o.op = some v) ∨
   (wantA ops.toList F o = some true ∧ i ∉ es ∧ ∃ ob fv, allocA E (rho E F (tmpsOf o.op)) o.op = some (ob, fv) ∧ (i, n0 + i, ob) ∈ als ∧ v = fv (n0 + i)) ∨
   (wantA ops.toList F o = some true ∧ (∀ x ∈ als, x.1 ≠ i) ∧ ∃ (e : Nat), ∃ G G' H, es[e]? = some i ∧ cs[e]? = some G ∧ cs[e + 1]? = some G' ∧ addAl ((nth ms i).getD 0) als G = some H ∧
    effAll call E H (rho E F (tmpsOf o.op)) o.op = some (v, G') ∧ ∀ x ∈ als, ∀ ob, vis H x.2.1 = some ob → ∃ ob', vis G' x.2.1 = some ob'))
 es_eff : ∀ (j : Nat) i, es[j]? = some i → ∃ o, ops[i]? = some o ∧ isEff E o.op = true
 es_inc : ∀ (j j' : Nat) i i', es[j]? = some i → es[j']? = some i' → j < j' → i < i'
 als_ok : AlsOk n0 ops.size als
 cs_len : cs.length = es.length + 1
 cs_next : ∀ G ∈ cs, n0 + ops.size ≤ G.next
structure St (E : Env) (ops : Array Oper) (n n0 : Nat) (F0 : T Value) (vs : List Value) (cs : List AH) (es : List Nat) (als : List Al) (σ0 : Sig) (g0 : Nat → Option AObj) (w0 : World)
 (L : Nat → Bool) (e : Nat) (σ : Sig) (a : Act) (w : World) : Prop where
 cl : ∀ i o, ops[i]? = some o → L i = true → ∀ ed ∈ o.after.toList, Region.binds .any ed = true → L ed.on = true
 lt : ∀ i, L i = true → i < ops.size
 ef : ∀ (j : Nat) i, es[j]? = some i → (L i = true ↔ j < e)
 sz : a.tmps.size = n
 df : a.defers = []
 fr : ∀ t, VO σ (fvl ops vs L F0 t ops.size) (a.tmps.getD t undef)
 free : ∀ x ∈ als, L x.1 = false → σ x.2.1 = none ∧ ¬ σ.nl x.2.1
 glob : Glob E σ
 rel : ∃ G, cs[e]? = some G ∧ RelG E.P σ (gf als G L) G.next w ∧ ExtG σ0 g0 n0 w0 σ (gf als G L) G.next w
theorem slot_text {call : CallF} {E : Env} {ops : Array Oper} {ms : List Nat} {n n0 : Nat} {F0 : T Value} {fs : List (T Value)} {vs : List Value} {cs : List AH} {es : List Nat} {als : List Al}
 (tr : TR call E ops ms n n0 F0 fs vs cs es als) (t : Nat) : ∀ (k : Nat) F, k ≤ ops.size → fs[k]? = some F → slot F t = fvl ops vs (fun _ => true) F0 t k
 | 0, F, _, h => by rw [tr.fs0, Option.some.injEq] at h; subst h; rfl
 | k + 1, F, hk, h => by
   have ho : ops[k]? = some ops[k] := by simp <;> omega
   obtain ⟨F1, F2, v, h1, h2, h3, h4, _⟩ := tr.row k _ ho
   rw [h2, Option.some.injEq] at h
   subst h
   have ih := slot_text tr t k F1 (by omega) h1
   simp only [fvl, ho, Option.bind_some, h3, Option.getD_some, true_and]
   cases hd : (ops[k]'(by omega)).dst with
   | none =>
     rw [hd] at h4
     simp only [put, Option.some.injEq] at h4
     subst h4
     rw [if_neg (by simp)]
     exact ih
   | some d =>
     rw [hd] at h4
     simp only [put] at h4
     cases hb : Nat.blt d n with
     | false => rw [hb] at h4; simp at h4
     | true =>
       rw [hb] at h4
       simp only [cond_true] at h4
       have hg := T.get_set h4
       unfold slot
       rw [hg]
       by_cases e : t = d
       · subst e; simp
       · rw [if_neg e, if_neg (by simp; exact fun h => e h.symm)]
         exact ih
theorem tmps_looks (ops : Array Oper) (o : Oper) {t : Nat} (h : t ∈ tmpsOf o.op) : t ∈ o.looksAt ops := by
 unfold Oper.looksAt
 exact List.mem_append_left _ h
section
variable {call : CallF} {E : Env} {ops : Array Oper} {ms : List Nat} {n n0 : Nat} {F0 : T Value} {fs : List (T Value)} {vs : List Value} {cs : List AH} {es : List Nat} {als : List Al}
 {σ0 : Sig} {g0 : Nat → Option AObj} {w0 : World} {L : Nat → Bool} {e : Nat} {σ : Sig} {a : Act} {w : World} {i : Nat} {o : Oper} {F : T Value}
theorem looks_same (sf : SF E ops ms) (tr : TR call E ops ms n n0 F0 fs vs cs es als) (st : St E ops n n0 F0 vs cs es als σ0 g0 w0 L e σ a w) (ho : ops[i]? = some o) (hF : fs[i]? = some F) (hLi : L i = false)
 (hr : ∀ ed ∈ o.after.toList, Region.binds .any ed = true → L ed.on = true) {t : Nat} (ht : t ∈ o.looksAt ops) : VO σ (slot F t) (a.tmps.getD t undef) := by
 have hi : i < ops.size := by
  rcases Nat.lt_or_ge i ops.size with h | h
  · exact h
  · rw [Array.getElem?_eq_none h] at ho; cases ho
 rw [slot_text tr t i F (by omega) hF]
 have hanc : ∀ j, bit ms i j = true → L j = true := sf.anc (fun i => L i = true) st.cl i o ho hr
 have h1 : fvl ops vs L F0 t ops.size = fvl ops vs L F0 t i := by
  refine fvl_skip ops.size (by omega) fun j hj1 hj2 hc => ?_
  have hoj : ops[j]? = some ops[j] := by simp [hj2]
  rw [hoj, Option.bind_some] at hc
  by_cases e : i = j
  · subst e; rw [hLi] at hc; cases hc.1
  · have := (sf.temps i j o _ t ho hoj hc.2 ht e).2 (by omega)
    have := sf.closed (fun i => L i = true) st.cl j hj2 hc.1 i this
    rw [hLi] at this; cases this
 have h2 : fvl ops vs L F0 t i = fvl ops vs (fun _ => true) F0 t i := by
  refine fvl_congr i fun j hj hd => ?_
  have hoj : ops[j]? = some (ops[j]'(by omega)) := by simp <;> omega
  rw [hoj, Option.bind_some] at hd
  exact hanc j ((sf.temps i j o _ t ho hoj hd ht (by omega)).1 hj)
 rw [← h2, ← h1]
 exact st.fr t
theorem slots_next (sf : SF E ops ms) (st : St E ops n n0 F0 vs cs es als σ0 g0 w0 L e σ a w) (ho : ops[i]? = some o) (hLi : L i = false) {v v' : Value} (hv : vs[i]? = some v) {σ' : Sig} (hsub : σ.sub σ') (hvr : VR σ' v v')
 (hd : ∀ d, o.dst = some d → d < n) (t : Nat) : VO σ' (fvl ops vs (fun j => decide (j = i) || L j) F0 t ops.size) ((a.put o.dst v').tmps.getD t undef) := by
 have hi : i < ops.size := by
  rcases Nat.lt_or_ge i ops.size with h | h
  · exact h
  · rw [Array.getElem?_eq_none h] at ho; cases ho
 by_cases e : o.dst = some t
 · have h1 : fvl ops vs (fun j => decide (j = i) || L j) F0 t ops.size = fvl ops vs (fun j => decide (j = i) || L j) F0 t (i + 1) := by
    refine fvl_skip ops.size (by omega) fun j hj1 hj2 hc => ?_
    have hoj : ops[j]? = some ops[j] := by simp [hj2]
    rw [hoj, Option.bind_some] at hc
    have hLj : L j = true := by
     have := hc.1
     simp only [Bool.or_eq_true, decide_eq_true_eq] at this
     rcases this with h | h
     · omega
     · exact h
    have := sf.dsts i j o _ t ho hoj e hc.2 (by omega)
    have := sf.closed (fun i => L i = true) st.cl j hj2 hLj i this
    rw [hLi] at this; cases this
   rw [h1, fvl, if_pos ⟨by simp, by rw [ho, Option.bind_some, e]⟩, hv]
   have hlt := hd t e
   have : (a.put o.dst v').tmps.getD t undef = v' := by
    rw [e]
    simp only [Act.put]
    rw [Array.getD_eq_getD_getElem?, Array.getElem?_setIfInBounds]; simp [st.sz, hlt]
   rw [this]; intro u hu; simp only [Option.getD_some, Option.some.injEq] at hu; subst hu; exact hvr
 · have h1 : fvl ops vs (fun j => decide (j = i) || L j) F0 t ops.size = fvl ops vs L F0 t ops.size := by
    refine fvl_congr ops.size fun j hj hd' => ?_
    by_cases ej : j = i
    · subst ej; rw [ho, Option.bind_some] at hd'; exact absurd hd' e
    · simp [ej]
   rw [h1]
   have : (a.put o.dst v').tmps.getD t undef = a.tmps.getD t undef := by
    cases hdst : o.dst with
    | none => rfl
    | some d =>
      simp only [Act.put]
      rw [Array.getD_eq_getD_getElem?, Array.getElem?_setIfInBounds, if_neg (fun e' => e (by rw [hdst, e'])), Array.getD_eq_getD_getElem?]
   rw [this]; exact (st.fr t).mono hsub
end
end
end Go.AM

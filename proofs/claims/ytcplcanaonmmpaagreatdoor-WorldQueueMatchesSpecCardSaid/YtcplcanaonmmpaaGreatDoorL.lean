/- A part of the proof. -/
import Derived.Test.YtcplcanaonmmpaaGreatDoorA
import Derived.JoinedOf
import Derived.LaidByTextLater
import Derived.KernelRfl
import Derived.SevenTiedAt
import Derived.Lay
set_option linter.unusedVariables false
set_option linter.unusedSimpArgs false
namespace Go.FA
open Go.AM
noncomputable section
theorem get_of_map {α : Type} {l : List α} {g : Nat → Option α} {n : Nat} (h : l.map some = (List.range n).map g) : l.length = n ∧ ∀ i, i < n → l[i]? = g i := by
 have hl : l.length = n := by simpa using congrArg List.length h
 refine ⟨hl, fun i hi => ?_⟩
 have h2 := congrArg (·[i]?) h
 simp only [List.getElem?_map, List.getElem?_range hi, Option.map_some] at h2
 cases hc : l[i]? with
 | none => rw [hc] at h2; simp at h2
 | some a => rw [hc] at h2; simpa using h2
theorem blt_dec (a b : Nat) : Nat.blt a b = decide (a < b) := by
 rw [Bool.eq_iff_iff]; simp [Nat.blt, Nat.ble_eq]; omega
def infoF (P : Program) (n : Nat) (ti : T TypeInfo) (t : TypeId) : Option TypeInfo := bif Nat.blt t n then ti.get t else P.info? t
def funcF (n : Nat) (fn : T Func) (f : FuncId) : Option Func := bif Nat.blt f n then fn.get f else none
theorem info_eq {P : Program} {n : Nat} {ti : T TypeInfo} (h : P.types.toList.map some = (List.range n).map ti.get) : P.types.size = n ∧ P.info? = infoF P n ti := by
 obtain ⟨hl, hg⟩ := get_of_map h
 have hs : P.types.size = n := by rw [← hl]; rfl
 refine ⟨hs, funext fun t => ?_⟩
 unfold infoF
 rw [blt_dec]
 by_cases ht : t < n
 · simp only [ht, decide_true, cond_true]
   unfold Tables.info?
   rw [hs, if_pos ht, ← hg t ht]
   simp
 · simp [ht]
theorem func_eq {P : Program} {n : Nat} {fn : T Func} (h : P.funcs.toList.map some = (List.range n).map fn.get) : P.funcs.size = n ∧ ∀ f : Nat, P.funcs[f]? = funcF n fn f := by
 obtain ⟨hl, hg⟩ := get_of_map h
 have hs : P.funcs.size = n := by rw [← hl]; rfl
 refine ⟨hs, fun f => ?_⟩
 unfold funcF
 rw [blt_dec]
 by_cases ht : f < n
 · simp only [ht, decide_true, cond_true]
   rw [← hg f ht]
   simp
 · simp only [ht, decide_false, cond_false]
   exact Array.getElem?_eq_none (by omega)
theorem grown_fix {P : Program} {L : List TypeId} (h : P.grow L = L) : ∀ d, P.grown d L = L
 | 0 => rfl
 | d + 1 => by show P.grown d (P.grow L) = L; rw [h]; exact grown_fix h d
theorem grown_add (P : Program) : ∀ a b seen, P.grown (a + b) seen = P.grown b (P.grown a seen)
 | 0, b, seen => by rw [Nat.zero_add]; rfl
 | a + 1, b, seen => by
   rw [Nat.succ_add]
   show P.grown (a + b) (P.grow seen) = P.grown b (P.grown a (P.grow seen))
   exact grown_add P a b _
theorem book_of {P : Program} {n : Nat} (hn : P.types.size = n) {t : TypeId} {L : List TypeId} (k : Nat) (hk : Nat.ble k n = true) (h1 : P.grown k [t] = L) (h2 : P.grow L = L) : P.book t = L := by
 have hk : k ≤ n := by simpa using hk
 unfold Program.book
 rw [hn]
 obtain ⟨m, rfl⟩ := Nat.exists_eq_add_of_le hk
 rw [grown_add, h1]
 exact grown_fix h2 m
def idxOf {α : Type} (p : α → Bool) : List α → Nat → List Nat
 | [], _ => []
 | x :: l, i => bif p x then i :: idxOf p l (i + 1) else idxOf p l (i + 1)
theorem filter_range' {α : Type} (p : α → Bool) (L : List α) : ∀ (l : List α) (k : Nat), L.drop k = l → ((List.range' k l.length).filter fun i => (L[i]?).any p) = idxOf p l k
 | [], k, _ => by simp [idxOf]
 | x :: l, k, h => by
   have hx : L[k]? = some x := by
    have := congrArg (·[0]?) h
    simpa [List.getElem?_drop] using this
   have ht : L.drop (k + 1) = l := by
    have := congrArg (List.drop 1) h
    simpa [List.drop_drop, Nat.add_comm] using this
   simp only [List.length_cons, List.range'_succ, List.filter_cons, hx, Option.any_some, idxOf]
   rw [filter_range' p L l (k + 1) ht]
   cases p x <;> simp
theorem funcNamed_eq (P : Program) (name : String) : P.funcNamed name = match idxOf (fun fn : Func => fn.name == name) P.funcs.toList 0 with | [i] => some i | _ => none := by
 unfold Program.funcNamed
 have h := filter_range' (fun fn : Func => fn.name == name) P.funcs.toList P.funcs.toList 0 rfl
 have hs : P.funcs.size = P.funcs.toList.length := rfl
 rw [hs, List.range_eq_range', ← h]
 simp only [Array.getElem?_toList]
 rfl
theorem funcNamed_of {P : Program} {name : String} {i : FuncId} (h : idxOf (fun fn : Func => fn.name == name) P.funcs.toList 0 = [i]) : P.funcNamed name = some i := by
 rw [funcNamed_eq, h]
def cloF (adj : T (List FuncId)) (n : Nat) : List FuncId → T Unit → List FuncId → Option (List FuncId) :=
 Nat.rec (motive := fun _ => List FuncId → T Unit → List FuncId → Option (List FuncId)) (fun _ _ _ => none)
  (fun _ ih todo s seen => match todo with
   | [] => some seen.reverse
   | f :: todo => match s.get f with
     | some _ => ih todo s seen
     | none => match T.set 32 s f () with
       | none => none
       | some s' => ih ((adj.get f).getD [] ++ todo) s' (f :: seen)) n
theorem cloF_ok {P : Program} {adj : T (List FuncId)} (hl : ∀ f : Nat, (P.funcs[f]?).elim [] P.leadsTo = (adj.get f).getD []) {L : List FuncId} : ∀ (n : Nat) (todo : List FuncId) (s : T Unit) (seen : List FuncId), (∀ x, seen.contains x = (s.get x).isSome) →
 cloF adj n todo s seen = some L → ∀ m, n ≤ m → P.closureVia m todo seen = L
 | 0, todo, s, seen, hs, h, m, hm => by cases h
 | n + 1, [], s, seen, hs, h, m, hm => by
   have h : some seen.reverse = some L := h
   cases h
   cases m <;> (unfold Program.closureVia; rfl)
 | n + 1, f :: todo, s, seen, hs, h, m, hm => by
   obtain ⟨k, rfl⟩ : ∃ k, m = k + 1 := ⟨m - 1, by omega⟩
   have h : (match s.get f with
    | some _ => cloF adj n todo s seen
    | none => match T.set 32 s f () with
      | none => none
      | some s' => cloF adj n ((adj.get f).getD [] ++ todo) s' (f :: seen)) = some L := h
   unfold Program.closureVia
   rw [hs f]
   cases hg : s.get f with
   | some u =>
     rw [hg] at h
     simp only [Option.isSome_some, if_true]
     exact cloF_ok hl n todo s seen hs h k (by omega)
   | none =>
     rw [hg] at h
     simp only [Option.isSome_none, Bool.false_eq_true, if_false]
     cases ht : T.set 32 s f () with
     | none => simp [ht] at h
     | some s' =>
       simp only [ht] at h
       rw [hl f]
       refine cloF_ok hl n _ s' (f :: seen) (fun x => ?_) h k (by omega)
       rw [T.get_set ht x, List.contains_cons]
       by_cases e : x = f
       · simp [e]
       · rw [if_neg e, hs x]
         simp [e]
theorem closure_of {P : Program} {A : List (List FuncId)} {adj : T (List FuncId)} {f : FuncId} {L : List FuncId} (n N : Nat)
 (hA : P.funcs.toList.map P.leadsTo = A) (hadj : A.map some = (List.range N).map adj.get) (hout : ∀ i, N ≤ i → adj.get i = none)
 (hn : Nat.ble n (1 + (A.map fun l => l.length + 1).sum) = true) (hc : cloF adj n [f] .leaf [] = some L) : P.closure f = L := by
 obtain ⟨hlen, hget⟩ := get_of_map hadj
 unfold Program.closure
 refine cloF_ok (adj := adj) (fun g => ?_) n [f] .leaf [] (fun x => by simp [T.get_leaf]) hc _ ?_
 · by_cases hg : g < N
   · rw [← hget g hg, ← hA]
     simp only [List.getElem?_map, Array.getElem?_toList]
     cases P.funcs[g]? <;> rfl
   · rw [hout g (Nat.le_of_not_lt hg)]
     have : P.funcs.size ≤ g := by
      have : P.funcs.size = N := by rw [← hlen, ← hA]; simp
      exact this ▸ Nat.le_of_not_lt hg
     rw [Array.getElem?_eq_none this]
     rfl
 · have : (P.funcs.toList.map fun g => (P.leadsTo g).length + 1) = A.map fun l => l.length + 1 := by
    rw [← hA, List.map_map]; rfl
   rw [this]
   simpa using hn
def okAt {α : Type} (v : Option α) (b n : Nat) : Bool := match v with | none => true | some _ => Nat.blt b n
def T.below {α : Type} (t : T α) : Nat → Nat → Nat → Bool := T.rec (motive := fun _ => Nat → Nat → Nat → Bool) (fun _ _ _ => true)
 (fun _ v _ ihl ihr a b n => okAt v b n && (ihl (2 * a) (a + b) n && ihr (2 * a) (2 * a + b) n)) t
theorem below_ok {α : Type} : ∀ (t : T α) (a b n : Nat), T.below t a b n = true → ∀ i, n ≤ a * i + b → t.get i = none
 | .leaf, a, b, n, _, i, _ => T.get_leaf i
 | .node l v r, a, b, n, h, i, hi => by
   have h : (okAt v b n && (T.below l (2 * a) (a + b) n && T.below r (2 * a) (2 * a + b) n)) = true := h
   simp only [Bool.and_eq_true] at h
   rw [T.get_node]
   by_cases h0 : i = 0
   · subst h0
     rw [if_pos rfl]
     cases v with
     | none => rfl
     | some x =>
       have := h.1
       simp only [okAt, blt_dec, decide_eq_true_eq] at this
       omega
   · rw [if_neg h0]
     by_cases h1 : i % 2 = 1
     · rw [if_pos h1]
       refine below_ok l (2 * a) (a + b) n h.2.1 _ ?_
       have e : i = 2 * (i / 2) + 1 := by omega
       have : a * i = 2 * a * (i / 2) + a := by
        calc a * i = a * (2 * (i / 2) + 1) := by rw [← e]
         _ = 2 * a * (i / 2) + a := by rw [Nat.mul_add, Nat.mul_one, ← Nat.mul_assoc, Nat.mul_comm a 2]
       omega
     · rw [if_neg h1]
       refine below_ok r (2 * a) (2 * a + b) n h.2.2 _ ?_
       have e : i = 2 * (i / 2 - 1) + 2 := by omega
       have : a * i = 2 * a * (i / 2 - 1) + 2 * a := by
        calc a * i = a * (2 * (i / 2 - 1) + 2) := by rw [← e]
         _ = 2 * a * (i / 2 - 1) + 2 * a := by rw [Nat.mul_add, ← Nat.mul_assoc, Nat.mul_comm a 2]
       omega
theorem out_of {α : Type} {t : T α} {n : Nat} (h : T.below t 1 0 n = true) (i : Nat) (hi : n ≤ i) : t.get i = none := below_ok t 1 0 n h i (by omega)
theorem recurses_of {P : Program} {f : FuncId} (h : P.unfollowed f = true) : P.recurses f = true := by
 unfold Program.recurses
 rw [h]; rfl
theorem looks_of {P : Program} (g : Nat) {fn : Func} {c : Code} (hg : P.funcs[g]? = some fn) (hb : fn.body = some c) (h : c.looks P = true) : P.looks [] = true := by
 unfold Program.looks
 rw [List.any_eq_true]
 refine ⟨g, List.mem_range.2 ?_, ?_⟩
 · exact (Array.getElem?_eq_some_iff.1 hg).1
 · simp [hg, hb, h]
theorem goes_of {P : Program} {f : FuncId} {func : String} (hn : P.funcNamed func = some f) (h : (P.funcs.toList.all fun fn => !fn.goes) = true) : P.goesAt .entering func = false := by
 have hall : ∀ fn ∈ P.funcs.toList, fn.goes = false := fun fn hm => by simpa using List.all_eq_true.1 h fn hm
 unfold Program.goesAt Program.goesFrom
 rw [hn]
 simp only [Option.any_some, Bool.or_false]
 unfold Program.goes
 have h1 : P.funcs.any Func.goes = false := by
  rw [← Array.any_toList, List.any_eq_false]
  exact fun fn hm => by simp [hall fn hm]
 have h2 : ((P.closure f).any fun g => (P.funcs[g]?).any Func.goes) = false := by
  rw [List.any_eq_false]
  intro g _
  cases hg : P.funcs[g]? with
  | none => simp
  | some fn => simp [hall fn (by rw [Array.mem_toList_iff]; exact Array.mem_of_getElem? hg)]
 rw [h1, h2]
 simp
def lookB : List (Nat × Nat × List TypeId) → Nat → Option (List TypeId)
 | [], _ => none
 | x :: l, t => bif Nat.beq t x.1 then some x.2.2 else lookB l t
def bookF (P : Program) (bl : List (Nat × Nat × List TypeId)) (t : TypeId) : List TypeId := match lookB bl t with | some L => L | none => P.book t
theorem lookB_mem : ∀ {bl : List (Nat × Nat × List TypeId)} {t : Nat} {L : List TypeId}, lookB bl t = some L → ∃ k, (t, k, L) ∈ bl
 | x :: l, t, L, h => by
   simp only [lookB] at h
   cases e : Nat.beq t x.1 with
   | true =>
     rw [e] at h
     simp only [cond_true, Option.some.injEq] at h
     obtain rfl := Nat.eq_of_beq_eq_true e
     exact ⟨x.2.1, by simp [← h]⟩
   | false =>
     rw [e] at h
     obtain ⟨k, hk⟩ := lookB_mem h
     exact ⟨k, List.mem_cons_of_mem _ hk⟩
theorem book_fun {P : Program} {n : Nat} (hn : P.types.size = n) (bl : List (Nat × Nat × List TypeId))
 (h : (bl.all fun x => Nat.ble x.2.1 n && ((P.grown x.2.1 [x.1] == x.2.2) && (P.grow x.2.2 == x.2.2))) = true) : P.book = bookF P bl := by
 funext t
 unfold bookF
 cases hl : lookB bl t with
 | none => rfl
 | some L =>
   obtain ⟨k, hk⟩ := lookB_mem hl
   have := List.all_eq_true.1 h _ hk
   simp only [Bool.and_eq_true, beq_iff_eq] at this
   exact book_of hn k this.1 this.2.1 this.2.2
def grownF (g : List TypeId → List TypeId) : Nat → List TypeId → List TypeId
 | 0, s => s
 | d + 1, s => grownF g d (g s)
theorem grown_fun (P : Program) : P.grown = grownF P.grow := by
 funext d
 induction d with
 | zero => funext s; rfl
 | succ d ih => funext s; show P.grown d (P.grow s) = grownF P.grow d (P.grow s); rw [ih]
def seenF : List MemPlace → T Unit → Bool
 | [], _ => true
 | .map _ :: _, _ => false
 | .cell b off :: l, s => bif Nat.blt off 65536 then (match s.get (b * 65536 + off) with
  | some _ => false
  | none => match T.set 64 s (b * 65536 + off) () with
    | some s' => seenF l s'
    | none => false) else false
theorem seenF_ok : ∀ (l : List MemPlace) (s : T Unit), seenF l s = true → l.Nodup ∧ ∀ b off, MemPlace.cell b off ∈ l → off < 65536 ∧ s.get (b * 65536 + off) = none
 | [], s, _ => ⟨.nil, fun b off h => by simp at h⟩
 | .map _ :: l, s, h => by simp [seenF] at h
 | .cell b off :: l, s, h => by
   simp only [seenF] at h
   rw [blt_dec] at h
   by_cases ho : off < 65536
   · simp only [ho, decide_true, cond_true] at h
     cases hg : s.get (b * 65536 + off) with
     | some u => simp [hg] at h
     | none =>
       rw [hg] at h
       cases ht : T.set 64 s (b * 65536 + off) () with
       | none => simp [ht] at h
       | some s' =>
         simp only [ht] at h
         obtain ⟨h1, h2⟩ := seenF_ok l s' h
         refine ⟨List.nodup_cons.2 ⟨fun hm => ?_, h1⟩, fun b' off' hm => ?_⟩
         · have := (h2 b off hm).2
           rw [T.get_set ht] at this
           simp at this
         · rcases List.mem_cons.1 hm with e | e
           · cases e; exact ⟨ho, hg⟩
           · obtain ⟨g1, g2⟩ := h2 b' off' e
             refine ⟨g1, ?_⟩
             rw [T.get_set ht] at g2
             split at g2
             · cases g2
             · exact g2
   · simp [ho] at h
theorem map_and {α : Type} {o : Option α} {f g : α → Bool} (h1 : o.map f = some true) (h2 : o.map g = some true) : o.map (fun x => f x && g x) = some true := by
 cases o with
 | none => cases h1
 | some x => simp_all
theorem map_nodup {o : Option (List (String × DataW Unit) × List MemPlace)} (h : o.map (fun x => seenF x.2 .leaf) = some true) : o.map (fun x => decide x.2.Nodup) = some true := by
 cases o with
 | none => cases h
 | some x =>
   simp only [Option.map_some, Option.some.injEq] at h ⊢
   exact decide_eq_true (seenF_ok x.2 .leaf h).1
end
end Go.FA
namespace Go.FA
open Go.AM
def findN (P : Program) (name : String) : Option TypeId := (List.range P.types.size).find? fun u => P.typeName? 3 u == some name
theorem layList_append (P : Program) : ∀ (a b : List (String × DataW Unit)) (n : Nat), Lay.layList P n (a ++ b) = (Lay.layList P n a).bind fun y => (Lay.layList P (n + y.2.length) b).map fun z => (y.1 ++ z.1, y.2 ++ z.2)
 | [], b, n => by
   rw [List.nil_append]
   have : Lay.layList P n [] = some ([], []) := by simp only [Lay.layList]
   rw [this]
   simp
 | x :: a, b, n => by
   rw [List.cons_append]
   simp only [Lay.layList]
   cases P.globalNamed x.1 with
   | none => rfl
   | some g =>
     simp only
     cases P.globals[g]? with
     | none => rfl
     | some gl =>
       simp only
       cases DataW.lay P gl.type n x.2 with
       | none => rfl
       | some y =>
         simp only
         rw [layList_append P a b]
         cases Lay.layList P (n + y.2.length) a with
         | none => rfl
         | some z =>
           simp only [Option.bind_some, List.length_append, Nat.add_assoc]
           cases Lay.layList P (n + (y.2.length + z.2.length)) b with
           | none => rfl
           | some u => simp [List.append_assoc]
def mayBe (I : TypeId → Option TypeInfo) (name base : String) (u : TypeId) : Bool :=
 match I u with
 | none => false
 | some i => match i.desc with
   | .named n _ => n == name
   | .pointer e => (match I e with
     | none => false
     | some j => match j.desc with
       | .named n _ => n == base
       | .bool | .int _ | .float _ | .string => j.str == base
       | .pointer _ => true
       | _ => false)
   | .bool | .int _ | .float _ | .string => i.str == name
   | _ => false
theorem star_inj {a b : String} (h : "*" ++ a = "*" ++ b) : a = b := by
 have h2 : ("*" ++ a).toList = ("*" ++ b).toList := by rw [h]
 simp only [String.toList_append] at h2
 have := List.append_cancel_left h2
 exact String.toList_injective this
theorem mayBe_ok {P : Program} {I : TypeId → Option TypeInfo} (hI : P.info? = I) {base : String} {u : TypeId} (h : mayBe I ("*" ++ base) base u = false) : (P.typeName? 3 u == some ("*" ++ base)) = false := by
 subst hI
 unfold mayBe at h
 rw [beq_eq_false_iff_ne]
 intro e
 unfold Program.typeName? at e
 cases hi : P.info? u with
 | none => rw [hi] at e; cases e
 | some i =>
   rw [hi] at e h
   simp only at e h
   cases hd : i.desc <;> rw [hd] at e h <;> simp only at e h <;> try (cases e; done)
   case named n r =>
    split at e
    · cases e; simp at h
    · cases e
   case pointer el =>
    unfold Program.typeName? at e
    cases hj : P.info? el with
    | none => rw [hj] at e; simp at e
    | some j =>
      rw [hj] at e h
      simp only at e h
      cases hd2 : j.desc <;> rw [hd2] at e h <;> simp only at e h <;> try (simp at e; done)
      case named n r =>
       split at e
       · simp only [Option.map_some, Option.some.injEq] at e
         have := star_inj e
         subst this
         simp at h
       · simp at e
      case pointer => cases h
      all_goals
       split at e
       · simp at e
       · simp only [Option.map_some, Option.some.injEq] at e
         have := star_inj e
         rw [this] at h
         simp at h
   all_goals
    split at e
    · cases e
    · simp only [Option.some.injEq] at e
      rw [e] at h
      simp at h
theorem find_of {P : Program} {I : TypeId → Option TypeInfo} {n : Nat} (hI : P.info? = I) (hn : P.types.size = n) {base : String} (K : Nat) (hK : Nat.blt K n = true) (h1 : ((List.range K).all fun u => !mayBe I ("*" ++ base) base u) = true) (h2 : (P.typeName? 3 K == some ("*" ++ base)) = true) : findN P ("*" ++ base) = some K := by
 unfold findN
 rw [hn, List.find?_range_eq_some]
 refine ⟨h2, ?_, fun j hj => ?_⟩
 · rw [blt_dec] at hK; simpa using hK
 · have := List.all_eq_true.1 h1 j (List.mem_range.2 hj)
   simp only [Bool.not_eq_true'] at this
   simpa using mayBe_ok hI this
theorem lay_iface {P : Program} {t u : TypeId} {n : Nat} {name : String} {d : DataW Unit} {x : List Value × List Obj} {v : Value} (ht : (match P.underlying t with | some (.interface _) => true | _ => false) = true) (hf : findN P name = some u) (hd : DataW.lay P u n d = some x) (hp : Lay.pack P u x.1 = some v) :
 DataW.lay P t n (.iface name d) = some ([.iface u v], x.2) := by
 unfold findN at hf
 simp only [DataW.lay]
 rw [hf]
 split at ht
 · rename_i h; rw [h]; simp only [hd, hp]
 · cases ht
theorem layList_one {P : Program} {n g : Nat} {gl : Global} {x : String × DataW Unit} {y : List Value × List Obj} {r : List (String × DataW Unit)} {z : List (Nat × List Value) × List Obj} (hn : P.globalNamed x.1 = some g) (hg : P.globals[g]? = some gl) (hl : DataW.lay P gl.type n x.2 = some y) (hr : Lay.layList P (n + y.2.length) r = some z) :
 Lay.layList P n (x :: r) = some ((g, y.1) :: z.1, y.2 ++ z.2) := by
 simp only [Lay.layList, hn, hg, hl, hr]
def layV (w : World) (o : Option (List (Nat × List Value) × List Obj)) : World := match o with
 | some y => { w with heap := ⟨Lay.setRows w.heap.toList y.1 ++ y.2⟩ }
 | none => w
theorem laidAll_eq {P : Program} {os : Os} {laid : List (String × DataW Unit)} {Y : Option (List (Nat × List Value) × List Obj)} {n : Nat} (hs : (World.holding P os ⟨#[], #[], []⟩).heap.size = n) (hY : Lay.layList P n laid = Y) :
 World.laidAll P os laid = layV (World.holding P os ⟨#[], #[], []⟩) Y := by
 subst hs hY
 rfl
theorem layFits_of {P : Program} {w : World} {l : List (String × DataW Unit)} {Y : Option (List (Nat × List Value) × List Obj)} {n : Nat} (hs : w.heap.size = n) (hY : Lay.layList P n l = Y)
 (h : (Y.any fun y => decide (y.1.map (·.1)).Nodup && y.1.all fun r => Lay.isRow w.heap.toList[r.1]?) = true) : w.layFits P l [] = true := by
 subst hs
 unfold World.layFits
 rw [hY]
 cases Y with
 | none => simp at h
 | some y => simpa using h
theorem layIfaces_of {P : Program} {w w' w2 : World} {l : List (String × DataW Unit)} {Y : Option (List (Nat × List Value) × List Obj)} {n : Nat} (hs : w.heap.size = n) (hY : Lay.layList P n l = Y) (hw : w' = w2)
 (h : (Y.any fun y => (y.1.all fun r => r.2.all (Lay.okV P w2)) && y.2.all (Lay.okO P w2)) = true) : w.layIfaces P l w' = true := by
 subst hs hw
 unfold World.layIfaces
 rw [hY]
 cases Y with
 | none => simp at h
 | some y => simpa using h
theorem zip_of {P : Program} {w w2 : World} {t : Tape} {i : Input} (hw : w = w2) (h : (w2.forCall t i).variablesZipB P = true) : (w.forCall t i).variablesZipB P = true := by
 subst hw; exact h
theorem rest_of {w w2 : World} {t : Tape} {i : Input} {L : List Obj} {k m : Nat} (hw : w = w2) (h : ((w2.forCall t i).heap.toList.drop k).take m = L) : ((w.forCall t i).heap.toList.drop k).take m = L := by
 subst hw; exact h
end Go.FA

/- A part of the proof. -/
import Derived.Test.YtdgjjfkjhikbaaaDoorV6
import Derived.Test.YtdgjjfkjhikbaaaDoorC
import Derived.Test.YtdgjjfkjhikbaaaDoorF
set_option linter.unusedVariables false
set_option linter.unusedSimpArgs false
set_option maxRecDepth 1000000
namespace Go.T9
open Go Go.AM Go.MK
noncomputable section
theorem jSt_eq (Q : Value → Prop) (QA : KV) : jSt (leafK Q QA) = (([Value.string (mkBytes [97, 42, 98])] = [Value.string (mkBytes [97, 42, 98])] ∧ ([] : List AObj) = []) ∧ ([exB] = [exB] ∧ exO = exO) ∧ Q (.bool true)) := by kernel_rfl
theorem st_walk : Walk env Proofs.Tryd.f8 [] (.bool true) :=
 plainF XSt_ok (d := 1) (HFb _) ((jSt_eq _ _).mpr ⟨⟨Eq.refl _, Eq.refl _⟩, ⟨Eq.refl _, Eq.refl _⟩, Eq.refl _⟩)
def stX : List Value → Option Value
 | [] => some (.bool true)
 | _ => none
theorem st_tab : ∀ args A p v A', pureR (fun _ => none) stX args A = some (p, v, A') → PH p → CallAt env 8 args A v A' := walk_tab env_ok env_gl (fn := Proofs.Tryd.f8) rfl fun args v h hp => by
 unfold stX at h
 split at h
 · simp only [Option.some.injEq] at h
   subst h
   exact ⟨HF.nil, st_walk⟩
 · cases h
def acXG (f : AU → ByteArray → Bool × Int) : List Value → Option Value
 | [v, .string t] => (match auQ v with | some a => some (acV (f a t)) | none => none)
 | _ => none
def XLwG (co : AU → AU → LB × Bool × Int) (em : AU → Bool × Int) (ac : AU → ByteArray → Bool × Int) : SX := ⟨env, [(11, pureR cvP (coXG co)), (12, pureR cvP (coXG co)), (9, pureR acP (acXG ac)), (13, pureR acP (acXG ac)), (14, pureR caP (emXG em)), (15, pureR caP (emXG em)), (8, pureR (fun _ => none) stX)], noEl, fun _ => .unroll 0⟩
def jLw (K : KV) (co : AU → AU → LB × Bool × Int) (em : AU → Bool × Int) (ac : AU → ByteArray → Bool × Int) (s : Int) (acc : List Bool) (nx : List (List Int)) (s2 : Int) (acc2 : List Bool) (nx2 : List (List Int)) (t : ByteArray) : Prop := sxFnF (XLwG co em ac) 1 Proofs.Tryd.f4 [.agg ⟨[.int .i64 s, dat 1 (blV acc), dat 1 (roV nx)]⟩, .agg ⟨[.int .i64 s2, dat 1 (blV acc2), dat 1 (roV nx2)]⟩, .string t] ⟨.leaf, 0⟩ K
theorem jLw_nf (K : KV) (co : AU → AU → LB × Bool × Int) (em : AU → Bool × Int) (ac : AU → ByteArray → Bool × Int) (s : Int) (acc : List Bool) (nx : List (List Int)) (s2 : Int) (acc2 : List Bool) (nx2 : List (List Int)) (t : ByteArray) : jLw K co em ac s acc nx s2 acc2 nx2 t = ((WfV (Value.agg (Array.mk [Vi s, Vd 1 (blV acc), Vd 1 (roV nx)])) ∧ WfV (Value.agg (Array.mk [Vi s2, Vd 1 (blV acc2), Vd 1 (roV nx2)]))) ∧ (WfV (Value.agg (Array.mk [Vi s, Vd 1 (blV acc), Vd 1 (roV nx)])) ∧ WfV (Value.agg (Array.mk [Vi s2, Vd 1 (blV acc2), Vd 1 (roV nx2)]))) ∧ Sp (!eqL (Array.toList (ByteArray.data (mkBytes (Prod.fst (co (s, List.map deB (blV acc), List.map deR (roV nx)) (s2, List.map deB (blV acc2), List.map deR (roV nx2))))))) (Array.toList (ByteArray.data (mkBytes (Prod.fst (co (s, List.map deB (blV acc), List.map deR (roV nx)) (s2, List.map deB (blV acc2), List.map deR (roV nx2)))))))) (K (Value.bool false) (AH.mk (Nd (Nd Lf (some (AObj.cells [Vi s2, Vd 1 (blV acc2), Vd 1 (roV nx2)] 29)) Lf) (some (AObj.cells [Vi s, Vd 1 (blV acc), Vd 1 (roV nx)] 29)) Lf) 2)) (Sp (!Prod.fst (Prod.snd (co (s, List.map deB (blV acc), List.map deR (roV nx)) (s2, List.map deB (blV acc2), List.map deR (roV nx2)))) == Prod.fst (Prod.snd (co (s, List.map deB (blV acc), List.map deR (roV nx)) (s2, List.map deB (blV acc2), List.map deR (roV nx2))))) (K (Value.bool false) (AH.mk (Nd (Nd Lf (some (AObj.cells [Vi s2, Vd 1 (blV acc2), Vd 1 (roV nx2)] 29)) Lf) (some (AObj.cells [Vi s, Vd 1 (blV acc), Vd 1 (roV nx)] 29)) Lf) 2)) (Sp (!decide (Prod.snd (Prod.snd (co (s, List.map deB (blV acc), List.map deR (roV nx)) (s2, List.map deB (blV acc2), List.map deR (roV nx2)))) = Prod.snd (Prod.snd (co (s, List.map deB (blV acc), List.map deR (roV nx)) (s2, List.map deB (blV acc2), List.map deR (roV nx2)))))) (K (Value.bool false) (AH.mk (Nd (Nd Lf (some (AObj.cells [Vi s2, Vd 1 (blV acc2), Vd 1 (roV nx2)] 29)) Lf) (some (AObj.cells [Vi s, Vd 1 (blV acc), Vd 1 (roV nx)] 29)) Lf) 2)) ((WfV (Value.agg (Array.mk [Vi s, Vd 1 (blV acc), Vd 1 (roV nx)])) ∧ ByteArray.size t < 9223372036854775808) ∧ (WfV (Value.agg (Array.mk [Vi s, Vd 1 (blV acc), Vd 1 (roV nx)])) ∧ ByteArray.size t < 9223372036854775808) ∧ Sp (!Prod.fst (ac (s, List.map deB (blV acc), List.map deR (roV nx)) t) == Prod.fst (ac (s, List.map deB (blV acc), List.map deR (roV nx)) t)) (K (Value.bool false) (AH.mk (Nd (Nd Lf (some (AObj.cells [Vi s2, Vd 1 (blV acc2), Vd 1 (roV nx2)] 29)) Lf) (some (AObj.cells [Vi s, Vd 1 (blV acc), Vd 1 (roV nx)] 29)) Lf) 2)) (Sp (!decide (Prod.snd (ac (s, List.map deB (blV acc), List.map deR (roV nx)) t) = Prod.snd (ac (s, List.map deB (blV acc), List.map deR (roV nx)) t))) (K (Value.bool false) (AH.mk (Nd (Nd Lf (some (AObj.cells [Vi s2, Vd 1 (blV acc2), Vd 1 (roV nx2)] 29)) Lf) (some (AObj.cells [Vi s, Vd 1 (blV acc), Vd 1 (roV nx)] 29)) Lf) 2)) (WfV (Value.agg (Array.mk [Vi s, Vd 1 (blV acc), Vd 1 (roV nx)])) ∧ WfV (Value.agg (Array.mk [Vi s, Vd 1 (blV acc), Vd 1 (roV nx)])) ∧ Sp (Prod.fst (em (s, List.map deB (blV acc), List.map deR (roV nx))) == Prod.fst (em (s, List.map deB (blV acc), List.map deR (roV nx)))) (Sp (decide (Prod.snd (em (s, List.map deB (blV acc), List.map deR (roV nx))) = Prod.snd (em (s, List.map deB (blV acc), List.map deR (roV nx))))) (K (Value.bool true) (AH.mk (Nd (Nd Lf (some (AObj.cells [Vi s2, Vd 1 (blV acc2), Vd 1 (roV nx2)] 29)) Lf) (some (AObj.cells [Vi s, Vd 1 (blV acc), Vd 1 (roV nx)] 29)) Lf) 2)) (K (Value.bool false) (AH.mk (Nd (Nd Lf (some (AObj.cells [Vi s2, Vd 1 (blV acc2), Vd 1 (roV nx2)] 29)) Lf) (some (AObj.cells [Vi s, Vd 1 (blV acc), Vd 1 (roV nx)] 29)) Lf) 2))) (K (Value.bool false) (AH.mk (Nd (Nd Lf (some (AObj.cells [Vi s2, Vd 1 (blV acc2), Vd 1 (roV nx2)] 29)) Lf) (some (AObj.cells [Vi s, Vd 1 (blV acc), Vd 1 (roV nx)] 29)) Lf) 2)))))))) := by kernel_rfl
theorem XLw_ok : (XLwG coI emI accI).Ok := ⟨env_ok, env_sym, env_gl, .cons pc_tab (.cons rc_tab (.cons ac_tab (.cons ar_tab (.cons pe_tab (.cons re_tab (.cons st_tab .nil))))))⟩
theorem lw_walk {a b : AU} (ha : WfA a) (hb : WfA b) (t : ByteArray) (ht : t.size < 9223372036854775808) : Walk env Proofs.Tryd.f4 [auV a, auV b, .string t] (.bool true) := by
 have ea := wfV_au ha
 have eb := wfV_au hb
 obtain ⟨s, acc, nx⟩ := a
 obtain ⟨s2, acc2, nx2⟩ := b
 refine plainF XLw_ok (d := 1) (HFb _) ((jLw_nf _ coI emI accI s acc nx s2 acc2 nx2 t).mpr ?_)
 generalize coI _ _ = c
 generalize emI _ = e
 generalize accI _ _ = q
 refine ⟨⟨ea, eb⟩, ⟨ea, eb⟩, Sp.intro (fun h => ?_) (fun _ => Sp.intro (fun h => ?_) (fun _ => Sp.intro (fun h => ?_) (fun _ => ⟨⟨ea, ht⟩, ⟨ea, ht⟩, Sp.intro (fun h => ?_) (fun _ => Sp.intro (fun h => ?_) (fun _ => ⟨ea, ea, Sp.intro (fun _ => Sp.intro (fun _ => rfl) (fun h => ?_)) (fun h => ?_)⟩))⟩)))⟩
 · rw [eqL_dec] at h; simp at h
 · simp at h
 · simp at h
 · simp at h
 · simp at h
 · simp at h
 · simp at h
theorem covers_law (a b : AU) (t : ByteArray) (ha : WfA a) (hb : WfA b) (ht : t.size < 9223372036854775808) (w : World) (hgl : Glob env (sig0 w)) {v1 v2 : Value} (h1 : VR (sig0 w) (auV a) v1) (h2 : VR (sig0 w) (auV b) v2) :
 Calls Proofs.Tryd.prog 4 #[v1, v2, .string t] w fun e w' => e = .returned (.bool true) ∧ RowKit.Below w.heap.size w w' :=
 calls_flat (con_one env_ok env_gl (fn := Proofs.Tryd.f4) rfl (HF.cons (HF_au _) (HF.cons (HF_au _) (HF.cons (.scal rfl) HF.nil))) (lw_walk ha hb t ht)) (one_self _ _) rfl w hgl (.cons h1 (.cons h2 (.cons (scal_refl rfl _) .nil)))
theorem le_max {n : Nat} (h : n ≤ maxLen) : n < 9223372036854775808 := by unfold maxLen at h; omega
abbrev RZ := {l : List Int // l.length < 9223372036854775808}
theorem opens_in : Opens Proofs.Tryd.prog 3 (fun acs => ∃ x : Int, acs = (Value.int .i64 x).cells.toList) := by
 intro H enc w base sp held fuel cs x hx
 obtain ⟨acs, ⟨n, rfl, _⟩, hv⟩ := opens_int Proofs.Tryd.underlying3 enc w base sp held fuel cs x hx
 exact ⟨_, ⟨n, rfl⟩, hv⟩
theorem opens_bo : Opens Proofs.Tryd.prog 4 (fun acs => ∃ x : Bool, acs = (Value.bool x).cells.toList) := by
 intro H enc w base sp held fuel cs x hx
 obtain ⟨acs, ⟨n, rfl⟩, hv⟩ := opens_bool Proofs.Tryd.underlying4 enc w base sp held fuel cs x hx
 exact ⟨_, ⟨n, rfl⟩, hv⟩
theorem opens_ac : Opens Proofs.Tryd.prog 26 (fun acs => ∃ xs : List Bool, acs = [.func (.yield 1) ⟨xs.map Value.bool⟩ ⟨[]⟩] ∧ xs.length ≤ maxLen) :=
 opens_slice (sz := 1) (ev := Value.bool) Proofs.Tryd.underlying26 (by kernel_rfl) (by decide) (fun _ => rfl) opens_bo (fun _ h => h)
theorem opens_ri : Opens Proofs.Tryd.prog 50 (fun acs => ∃ xs : List Int, acs = [.func (.yield 1) ⟨xs.map (Value.int .i64)⟩ ⟨[]⟩] ∧ xs.length ≤ maxLen) :=
 opens_slice (sz := 1) (ev := Value.int .i64) Proofs.Tryd.underlying50 (by kernel_rfl) (by decide) (fun _ => rfl) opens_in (fun _ h => h)
theorem opens_rz : Opens Proofs.Tryd.prog 50 (fun acs => ∃ x : RZ, acs = (dat 1 (inV x.1)).cells.toList) := by
 intro H enc w base sp held fuel cs x hx
 obtain ⟨acs, ⟨l, rfl, hl⟩, hv⟩ := opens_ri enc w base sp held fuel cs x hx
 exact ⟨_, ⟨⟨l, le_max hl⟩, rfl⟩, hv⟩
theorem opens_nx : Opens Proofs.Tryd.prog 27 (fun acs => ∃ xs : List RZ, acs = [.func (.yield 1) ⟨xs.map fun r => dat 1 (inV r.1)⟩ ⟨[]⟩] ∧ xs.length ≤ maxLen) :=
 opens_slice (sz := 1) (ev := fun r : RZ => dat 1 (inV r.1)) Proofs.Tryd.underlying27 (by kernel_rfl) (by decide) (fun _ => rfl) opens_rz (fun _ h => h)
theorem opens_au : Opens Proofs.Tryd.prog 29 (fun acs => ∃ a : AU, WfA a ∧ Value.agg ⟨acs⟩ = auV a) := by
 intro H enc w base sp held fuel cs x hx
 obtain ⟨acs, hR, hv⟩ := opens_struct Proofs.Tryd.underlying29 (by kernel_rfl) (.cons (by kernel_rfl) opens_in (.cons (by kernel_rfl) opens_ac (.cons (by kernel_rfl) opens_nx .nil))) enc w base sp held fuel cs x hx
 obtain ⟨_, _, ⟨s, rfl⟩, ⟨_, _, ⟨c, rfl, hc⟩, ⟨_, _, ⟨r, rfl, hr⟩, rfl, rfl⟩, rfl⟩, rfl⟩ := hR
 refine ⟨_, ⟨(s, c, r.map (·.1)), ⟨?_, ?_, fun l hl => ?_⟩, ?_⟩, hv⟩
 · exact le_max hc
 · dsimp only; rw [List.length_map]; exact le_max hr
 · obtain ⟨x, _, rfl⟩ := List.mem_map.1 hl; exact x.2
 · show _ = Value.agg ⟨[.int .i64 s, dat 1 (blV c), dat 1 (roV (r.map (·.1)))]⟩
   unfold roV
   rw [List.map_map]; rfl
theorem arg_au {H : Type} {enc : TypeId × Value → H} {w : World} {r : Reach} {b0 base : Nat} {sp : Nat → Bool} {held : Bool} {v : Value} {d : DataW H} {ps : List MemPlace} (hv : Value.okWide Proofs.Tryd.prog w r b0 29 v) (hT : DataW.Trod enc Proofs.Tryd.prog w base sp held 29 v d ps) :
 ∃ a : AU, WfA a ∧ VR (sig0 w) (auV a) v := by
 obtain ⟨acs, ⟨a, ha, hp⟩, h⟩ := arg_struct Proofs.Tryd.underlying29 opens_au hv hT
 exact ⟨a, ha, hp ▸ h⟩
def bruL : List Int := [0, 1, 56, 2, 57, 49, 28, 3, 61, 58, 42, 50, 38, 29, 17, 4, 62, 47, 59, 36, 45, 43, 51, 22, 53, 39, 33, 30, 24, 18, 12, 5, 63, 55, 48, 27, 60, 41, 37, 16, 46, 35, 44, 21, 52, 32, 23, 11, 54, 26, 40, 15, 34, 20, 31, 10, 25, 14, 19, 9, 13, 8, 7, 6]
def bruD : DataW Unit := .agg (bruL.map fun x => .lit (.int .u8 x))
theorem bru_gl (j : Nat) (cs : List Value) (h : env.gl j = some cs) : j = 0 ∧ cs = bruL.map (Value.int .u8) := by
 have h : (bif Nat.beq j 0 then some bruijn else none) = some cs := h
 cases hb : Nat.beq j 0 with
 | false => rw [hb] at h; cases h
 | true =>
   rw [hb] at h
   simp only [cond_true, Option.some.injEq] at h
   subst h
   exact ⟨Nat.eq_of_beq_eq_true hb, rfl⟩
theorem bru_named : Proofs.Tryd.prog.globalNamed "math/bits.deBruijn64tab" = some 0 := by kernel_rfl
theorem bru_type : (Proofs.Tryd.prog.globals[0]?).map (·.type) = some 156 := by kernel_rfl
theorem bru_und : Proofs.Tryd.prog.underlying 156 = some (.array 64 5) := Proofs.Tryd.underlying156
theorem glob_laid {laid : List (String × DataW Unit)} {w : World} (hm : ("math/bits.deBruijn64tab", bruD) ∈ laid) (hp : (laid.all fun x => x.2.handleName?.isNone) = true) (h : laidMetH Proofs.Tryd.prog laid w) : Glob env (sig0 w) := by
 rw [MakeChecks.laidMetH_plain _ _ _ hp] at h
 exact glob_of (E := env) (ls := bruL) (k := .u8) (len := 64) (e := 5) (t := 156) (g := 0) bru_gl hm h bru_named bru_type bru_und Proofs.Tryd.underlying5 (by kernel_rfl) rfl (by decide)
end
end Go.T9

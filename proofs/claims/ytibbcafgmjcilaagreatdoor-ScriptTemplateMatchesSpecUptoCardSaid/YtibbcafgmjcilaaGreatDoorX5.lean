/- A part of the proof. -/
import Derived.Test.YtibbcafgmjcilaaGreatDoorX4
import Derived.KernelRfl
set_option maxRecDepth 1000000
set_option linter.unusedVariables false
set_option linter.unusedSimpArgs false
set_option maxHeartbeats 4000000
namespace Go.T9
open Go Go.AM Go.MK
noncomputable section
abbrev LB := List (List UInt8)
def stv (ks : LB) : List Value := ks.map fun k => Value.string (mkBytes k)
theorem HF_st (ks : LB) : ∀ x ∈ stv ks, HF x := fun x hx => by obtain ⟨p, _, rfl⟩ := List.mem_map.1 hx; exact .scal rfl
theorem st_len (ks : LB) : (stv ks).length = ks.length := by simp [stv]
def nmL (l : List (SB × SB)) : LB := (l.filter fun p => !eqL p.2.data.toList []).map fun p => p.2.data.toList
theorem nmL_succ {l : List (SB × SB)} {i : Nat} (h : i < l.length) : nmL (l.take (i + 1)) = bif eqL l[i].2.data.toList [] then nmL (l.take i) else nmL (l.take i) ++ [l[i].2.data.toList] := by
  unfold nmL
  rw [List.take_succ_eq_append_getElem h, List.filter_append, List.map_append]
  cases hb : eqL l[i].2.data.toList [] with
  | true => simp [hb]
  | false => simp [hb]
def elK : El := { El.of (fun sz t els i => some (.agg ⟨[.string (paAt els i), .string (pbAt els i)]⟩)) with app := true }
def tabN : Tab := [(34, pureR pcPre pcX)]
theorem tabN_ok : TabOk envX tabN := .cons pc_tab .nil
def XN : SX := ⟨envX, tabN, elK, fun _ => .autoN [(.slot 3, 9, 1)] [] [] [3, 13, 14, 15]⟩
theorem XN_ok : XN.Ok := ⟨envX_ok, envX_sym, envX_gl, tabN_ok⟩
def frN (ps : List Value) (i n : Nat) : T Value := (.node (.node (.node (.node (.node .leaf (some (.int .i64 i)) .leaf) none .leaf) (some (.slice (some ⟨0, 0, none⟩) n (unk + 3 + 1))) .leaf) none (.node .leaf none (.node .leaf (some (dat 2 ps)) .leaf))) none (.node .leaf none (.node .leaf none (.node .leaf (some (.int .i64 ps.length)) .leaf))))
def hN (els : List Value) : AH := ⟨.node .leaf (some (.gro els [] 9)) .leaf, 1⟩
def ntN : Nat := Func.ntmps Proofs.Tryz.f37
def bdN : Code := bodyOf Proofs.Tryz.f37
def kFinN (K : KV) : KX := finK XN.E (Proofs.Tryz.f37.results).toList K
def jNo (K : KV) (s : SB) : Prop := sxFnZ XN 1 Proofs.Tryz.f37 [.string s] ⟨.leaf, 0⟩ K
def jNo1 (K : KV) (again : KF) (ps : List Value) (i n : Nat) (els : List Value) : Prop := sxStepZ XN 1 ntN ⟨.leaf, 0⟩ bdN [1, 1, 1, 0, 1, 0] (kFinN K) [(.slot 3, 9, 1)] [] [] [3, 13, 14, 15] again (frN ps i n) (hN els)
end
end Go.T9
set_option maxRecDepth 1000000
set_option linter.unusedVariables false
set_option linter.unusedSimpArgs false
set_option maxHeartbeats 4000000
namespace Go.T9
open Go Go.AM Go.MK
noncomputable section
theorem jNo_nf (K : KV) (s : SB) : jNo K s = (ByteArray.size s ≤ (1000000 : Nat) ∧ HF (Value.func (Go.Fn.yield (2 : Nat)) (Array.mk (pv (Prod.fst (pcs s (0 : Nat) [] [])))) (Array.mk [])) ∧ HF (Value.agg (Array.mk [])) ∧ LAtZ XN (1 : Nat) (Go.Func.ntmps Go.Proofs.Tryz.f37) (AH.mk (AH.t (AH.mk T.leaf (0 : Nat))) (0 : Nat)) (bodyOf Go.Proofs.Tryz.f37) [(1 : Nat), (1 : Nat), (1 : Nat), (0 : Nat), (1 : Nat), (0 : Nat)] (finK (SX.E XN) (Array.toList (Go.Func.results Go.Proofs.Tryz.f37)) K) (T.node (T.node (T.node (T.node (T.node T.leaf (Option.some (Value.int IntKind.i64 (0 : Int))) T.leaf) Option.none T.leaf) (Option.some (Value.slice (Option.some (Go.Addr.mk (0 : Nat) (0 : Nat) Option.none)) (0 : Nat) (18446744073709551620 : Nat))) T.leaf) Option.none (T.node T.leaf Option.none (T.node T.leaf (Option.some (Value.func (Go.Fn.yield (2 : Nat)) (Array.mk (pv (Prod.fst (pcs s (0 : Nat) [] [])))) (Array.mk []))) T.leaf))) Option.none (T.node T.leaf Option.none (T.node T.leaf Option.none (T.node T.leaf (Option.some (Value.int IntKind.i64 (↑(List.length (pv (Prod.fst (pcs s (0 : Nat) [] [])))) : Int))) T.leaf)))) (AH.mk (T.node T.leaf (Option.some (AObj.gro [] [] (9 : Nat))) T.leaf) (1 : Nat))) := by kernel_rfl
theorem jNo1_nf (K : KV) (again : KF) (ps : List Go.Value) (i : Nat) (n : Nat) (els : List Go.Value) : jNo1 K again ps i n els = (Sp (decide ((↑i : Int) < (↑(List.length ps) : Int))) (((0 : Int) ≤ (↑i : Int) ∧ (↑i : Int) < (↑(List.length ps) : Int)) ∧ nth ps (Int.toNat (↑(Int.toNat (↑i : Int)) : Int)) = Option.some (Value.agg (Array.mk [Value.string (paAt ps (↑(Int.toNat (↑i : Int)) : Int)), Value.string (pbAt ps (↑(Int.toNat (↑i : Int)) : Int))])) ∧ Sp (!eqL (Array.toList (ByteArray.data (pbAt ps (↑(Int.toNat (↑i : Int)) : Int)))) (Array.toList (ByteArray.data (ByteArray.mk #[])))) ((List.all [Value.string (pbAt ps (↑(Int.toNat (↑i : Int)) : Int))] cellv = Bool.true ∧ n + (0 : Nat) = List.length els ∧ n + (1 : Nat) ≤ (70368744177664 : Nat) ∧ (n + (1 : Nat)) * (16 : Nat) ≤ (140737488355328 : Nat)) ∧ HF (Value.func (Go.Fn.yield (2 : Nat)) (Array.mk ps) (Array.mk [])) ∧ HF (Value.agg (Array.mk (els ++ [Value.string (pbAt ps (↑(Int.toNat (↑i : Int)) : Int))]))) ∧ again (T.node (T.node (T.node (T.node (T.node T.leaf (Option.some (Value.int IntKind.i64 (IntKind.wrap IntKind.i64 ((↑i : Int) + (1 : Int))))) T.leaf) Option.none T.leaf) (Option.some (Value.slice (Option.some (Go.Addr.mk (0 : Nat) (0 : Nat) Option.none)) (n + (1 : Nat)) (18446744073709551620 : Nat))) T.leaf) Option.none (T.node T.leaf Option.none (T.node T.leaf (Option.some (Value.func (Go.Fn.yield (2 : Nat)) (Array.mk ps) (Array.mk []))) T.leaf))) Option.none (T.node T.leaf Option.none (T.node T.leaf Option.none (T.node T.leaf (Option.some (Value.int IntKind.i64 (↑(List.length ps) : Int))) T.leaf)))) (AH.mk (T.node T.leaf (Option.some (AObj.gro (els ++ [Value.string (pbAt ps (↑(Int.toNat (↑i : Int)) : Int))]) [] (9 : Nat))) T.leaf) (1 : Nat))) (HF (Value.func (Go.Fn.yield (2 : Nat)) (Array.mk ps) (Array.mk [])) ∧ HF (Value.agg (Array.mk els)) ∧ again (T.node (T.node (T.node (T.node (T.node T.leaf (Option.some (Value.int IntKind.i64 (IntKind.wrap IntKind.i64 ((↑i : Int) + (1 : Int))))) T.leaf) Option.none T.leaf) (Option.some (Value.slice (Option.some (Go.Addr.mk (0 : Nat) (0 : Nat) Option.none)) n (18446744073709551620 : Nat))) T.leaf) Option.none (T.node T.leaf Option.none (T.node T.leaf (Option.some (Value.func (Go.Fn.yield (2 : Nat)) (Array.mk ps) (Array.mk []))) T.leaf))) Option.none (T.node T.leaf Option.none (T.node T.leaf Option.none (T.node T.leaf (Option.some (Value.int IntKind.i64 (↑(List.length ps) : Int))) T.leaf)))) (AH.mk (T.node T.leaf (Option.some (AObj.gro els [] (9 : Nat))) T.leaf) (1 : Nat)))) (K (Value.slice (Option.some (Go.Addr.mk (0 : Nat) (0 : Nat) Option.none)) n (18446744073709551620 : Nat)) (AH.mk (T.node T.leaf (Option.some (AObj.gro els [] (9 : Nat))) T.leaf) (1 : Nat)))) := by kernel_rfl
theorem nmL_len (l : List (SB × SB)) : (nmL l).length ≤ l.length := by
  unfold nmL; rw [List.length_map]; exact List.length_filter_le _ _
theorem st_app (a : LB) (s : SB) : stv a ++ [Value.string s] = stv (a ++ [s.data.toList]) := by
  unfold stv; rw [List.map_append]
  show _ = _ ++ [Value.string (mkBytes s.data.toList)]
  rw [mkB_eta]
theorem No_loop {K : KV} (l : List (SB × SB)) (hl : l.length ≤ 3000000) (hK : K (.slice (some ⟨0, 0, none⟩) (nmL l).length (unk + 3 + 1)) (hN (stv (nmL l)))) :
    LAtZ XN 1 ntN ⟨.leaf, 0⟩ bdN [1, 1, 1, 0, 1, 0] (kFinN K) (frN (pv l) 0 0) (hN []) := by
  refine LAtZ.step XN_ok rfl [(.slot 3, 9, 1)] [] [] [3, 13, 14, 15] (by kernel_rfl) (fun k F A => ∃ i : Nat, F = frN (pv l) i (nmL (l.take i)).length ∧ A = hN (stv (nmL (l.take i))) ∧ i + k = l.length) ?_ (k := l.length) ⟨0, rfl, rfl, by simp⟩
  rintro k F A ⟨i, rfl, rfl, hk⟩
  refine (jNo1_nf K _ _ i _ _).mpr ?_
  refine Sp.intro (fun c => ?_) (fun c => ?_)
  · have hlt : i < l.length := by simpa [pv_len] using c
    have hw : IntKind.i64.wrap ((i : Int) + 1) = ((i + 1 : Nat) : Int) := by rw [i64_in (by omega) (by omega)]; rfl
    have hnl := nmL_len (l.take i)
    have htl : (l.take i).length ≤ 3000000 := by rw [List.length_take]; omega
    have hsu := nmL_succ hlt
    simp only [Int.toNat_natCast, pa_at hlt, pb_at hlt, hw]
    refine ⟨by rw [pv_len]; omega, pv_nth hlt, Sp.intro (fun c1 => ?_) (fun c1 => ?_)⟩
    · have c1 : eqL l[i].2.data.toList [] = false := by
        cases h : eqL l[i].2.data.toList [] with
        | false => rfl
        | true =>
          have : (!eqL l[i].2.data.toList (ByteArray.mk #[]).data.toList) = (!eqL l[i].2.data.toList []) := rfl
          rw [this, h] at c1; cases c1
      rw [c1] at hsu
      have hsu : nmL (l.take (i + 1)) = nmL (l.take i) ++ [l[i].2.data.toList] := hsu
      rw [st_app, ← hsu]
      have hn1 : (nmL (l.take i)).length + 1 = (nmL (l.take (i + 1))).length := by rw [hsu, List.length_append]; rfl
      rw [hn1]
      exact ⟨⟨by rfl, by rw [st_len]; rfl, by omega, by omega⟩, HF_dpv l, .agg (HF_st _), k - 1, by omega, i + 1, rfl, rfl, by omega⟩
    · have c1 : eqL l[i].2.data.toList [] = true := by
        cases h : eqL l[i].2.data.toList [] with
        | true => rfl
        | false =>
          have : (!eqL l[i].2.data.toList (ByteArray.mk #[]).data.toList) = (!eqL l[i].2.data.toList []) := rfl
          rw [this, h] at c1; cases c1
      rw [c1] at hsu
      have hsu : nmL (l.take (i + 1)) = nmL (l.take i) := hsu
      rw [← hsu]
      exact ⟨HF_dpv l, .agg (HF_st _), k - 1, by omega, i + 1, rfl, rfl, by omega⟩
  · have hge : l.length ≤ i := by simp [pv_len] at c; omega
    rw [List.take_of_length_le hge]
    exact hK
def nmS (s : SB) : LB := nmL (pcL s)
theorem nmS_len {s : SB} (h : s.size ≤ 1000000) : (nmS s).length ≤ 3000000 := by
  have := nmL_len (pcL s)
  have := pcL_len s
  unfold nmS; omega
theorem no_made (N : Nat) (s : SB) (hs : s.size ≤ 1000000) : WalkM envX Proofs.Tryz.f37 [.string s] (MadeK N (.slice (some ⟨N, 0, none⟩) (nmS s).length (unk + 3 + 1)) (.gro (stv (nmS s)) [] 9)) := by
  refine sxFnZ_made XN_ok (d := 1) ((jNo_nf _ s).mpr ⟨hs, HF_dpv _, .agg HF.nil, ?_⟩)
  refine No_loop (pcL s) (by have := pcL_len s; omega) ?_
  have hbk : back [(N, 0)] N = some 0 := by simp [back, beq_eq]
  refine ⟨0, _, rfl, ?_, rfl, .slice hbk⟩
  have hc : ∀ x ∈ cellsL (stv (nmS s) ++ []), HF x := fun x hx => by
    rw [List.append_nil] at hx
    obtain ⟨y, hy, hxy⟩ := List.mem_flatMap.1 hx
    obtain ⟨p, _, rfl⟩ := List.mem_map.1 hy
    have : x = .string (mkBytes p) := by simpa [Value.cells] using hxy
    rw [this]; exact .scal rfl
  have := RO.gro (ρ := back [(N, 0)]) (e := 9) hc
  exact this
def noR : RunF := fun args A => match args with
  | [.string s] => (match T.set FU A.t A.next (.gro (stv (nmS s)) [] 9) with
    | some t => some (some (s.size ≤ 1000000), .slice (some ⟨A.next, 0, none⟩) (nmS s).length (unk + 3 + 1), ⟨t, A.next + 1⟩)
    | none => none)
  | _ => none
theorem no_tab : ∀ args A p v A', noR args A = some (p, v, A') → PH p → CallAt envX 37 args A v A' := by
  intro args A p v A' hr hp
  unfold noR at hr
  split at hr
  · rename_i s
    split at hr
    · rename_i t ht
      simp only [Option.some.injEq, Prod.mk.injEq] at hr
      obtain ⟨rfl, rfl, rfl⟩ := hr
      exact callAt_made envX_ok (fn := Proofs.Tryz.f37) rfl (HF.cons (.scal rfl) HF.nil) (no_made A.next s hp) ht
    · cases hr
  · cases hr
end
end Go.T9
set_option maxRecDepth 1000000
set_option linter.unusedVariables false
set_option linter.unusedSimpArgs false
set_option maxHeartbeats 4000000
namespace Go.T9
open Go Go.AM Go.MK
noncomputable section
def elI : El := { El.of (fun sz t els i => some (.string (strAt els i))) with app := true }
def XI : SX := ⟨envX, [], elI, fun _ => .autoN [] [] [] [0, 1, 5]⟩
theorem XI_ok : XI.Ok := ⟨envX_ok, envX_sym, envX_gl, .nil⟩
def frI (n : Nat) (s : SB) (k : Nat) : T Value := (.node (.node .leaf (some (.string s)) (.node .leaf (some (.int .i64 k)) .leaf)) (some (.slice (some ⟨0, 0, none⟩) n (unk + 3 + 1))) .leaf)
def ntI : Nat := Func.ntmps Proofs.Tryz.f41
def bdI : Code := bodyOf Proofs.Tryz.f41
def kFinI (K : KV) : KX := finK XI.E (Proofs.Tryz.f41.results).toList K
def jIs8 (K : KV) (n : Nat) (s : SB) (els : List Value) : Prop := sxFnZ XI 1 Proofs.Tryz.f41 [.slice (some ⟨0, 0, none⟩) n (unk + 3 + 1), .string s] (hN els) K
def jIs9 (K : KV) (els0 : List Value) (again : KF) (n : Nat) (s : SB) (k : Nat) (els : List Value) : Prop := sxStepZ XI 1 ntI ⟨(hN els0).t, 0⟩ bdI [1, 1, 0, 0] (kFinI K) [] [] [] [0, 1, 5] again (frI n s k) (hN els)
end
end Go.T9
set_option maxRecDepth 1000000
set_option linter.unusedVariables false
set_option linter.unusedSimpArgs false
set_option maxHeartbeats 4000000
namespace Go.T9
open Go Go.AM Go.MK
noncomputable section
theorem jIs8_nf (K : KV) (n : Nat) (s : SB) (els : List Go.Value) : jIs8 K n s els = (HF (Value.agg (Array.mk els)) ∧ LAtZ XI (1 : Nat) (Go.Func.ntmps Go.Proofs.Tryz.f41) (AH.mk (AH.t (hN els)) (0 : Nat)) (bodyOf Go.Proofs.Tryz.f41) [(1 : Nat), (1 : Nat), (0 : Nat), (0 : Nat)] (finK (SX.E XI) (Array.toList (Go.Func.results Go.Proofs.Tryz.f41)) K) (T.node (T.node T.leaf (Option.some (Value.string s)) (T.node T.leaf (Option.some (Value.int IntKind.i64 (0 : Int))) T.leaf)) (Option.some (Value.slice (Option.some (Go.Addr.mk (0 : Nat) (0 : Nat) Option.none)) n (18446744073709551620 : Nat))) T.leaf) (AH.mk (T.node T.leaf (Option.some (AObj.gro els [] (9 : Nat))) T.leaf) (1 : Nat))) := by kernel_rfl
theorem jIs9_nf (K : KV) (els0 : List Go.Value) (again : KF) (n : Nat) (s : SB) (k : Nat) (els : List Go.Value) : jIs9 K els0 again n s k els = (Sp (decide ((↑k : Int) < (↑n : Int)))
  (((0 : Int) ≤ (↑k : Int) ∧ (↑k : Int) < (↑n : Int)) ∧
    nth els (Int.toNat (↑(Int.toNat (↑k : Int) + (0 : Nat)) : Int)) =
        Option.some
          (Value.string
            (match nth (glue els []) (Int.toNat (↑(gIdx (gsz (unk + (3 : Nat) + (1 : Nat))) (0 : Nat) (Int.toNat (↑k : Int))) : Int)) with
            | Option.some (Value.string s) => s
            | x => ByteArray.empty)) ∧
      Sp (ltL (Array.toList (ByteArray.data (strAt (glue els []) (↑(gIdx (gsz (unk + (3 : Nat) + (1 : Nat))) (0 : Nat) (Int.toNat (↑k : Int))) : Int)))) (Array.toList (ByteArray.data s))) (HF (Value.agg (Array.mk els)) ∧ again (T.node (T.node T.leaf (Option.some (Value.string s)) (T.node T.leaf (Option.some (Value.int IntKind.i64 (IntKind.wrap IntKind.i64 ((↑k : Int) + (1 : Int))))) T.leaf)) (Option.some (Value.slice (Option.some (Go.Addr.mk (0 : Nat) (0 : Nat) Option.none)) n (18446744073709551620 : Nat))) T.leaf) (AH.mk (T.node T.leaf (Option.some (AObj.gro els [] (9 : Nat))) T.leaf) (1 : Nat)))
        (Sp (decide ((↑k : Int) < (↑n : Int)))
          (((0 : Int) ≤ (↑k : Int) ∧ (↑k : Int) < (↑n : Int)) ∧
            nth els (Int.toNat (↑(Int.toNat (↑k : Int) + (0 : Nat)) : Int)) =
                Option.some
                  (Value.string
                    (match nth (glue els []) (Int.toNat (↑(gIdx (gsz (unk + (3 : Nat) + (1 : Nat))) (0 : Nat) (Int.toNat (↑k : Int))) : Int)) with
                    | Option.some (Value.string s) => s
                    | x => ByteArray.empty)) ∧
              Sp (eqL (Array.toList (ByteArray.data (strAt (glue els []) (↑(gIdx (gsz (unk + (3 : Nat) + (1 : Nat))) (0 : Nat) (Int.toNat (↑k : Int))) : Int)))) (Array.toList (ByteArray.data s))) (K (Value.slice (Option.some (Go.Addr.mk (0 : Nat) (0 : Nat) Option.none)) n (18446744073709551620 : Nat)) (AH.mk (T.node T.leaf (Option.some (AObj.gro els [] (9 : Nat))) T.leaf) (1 : Nat))) ((List.all [Value.string (ByteArray.mk (Array.mk []))] cellv = Bool.true ∧ n + (0 : Nat) = List.length els ∧ n + (1 : Nat) ≤ (70368744177664 : Nat) ∧ (n + (1 : Nat)) * (16 : Nat) ≤ (140737488355328 : Nat)) ∧ ((0 : Int) ≤ IntKind.wrap IntKind.i64 ((↑k : Int) + (1 : Int)) ∧ IntKind.wrap IntKind.i64 ((↑k : Int) + (1 : Int)) ≤ (↑(n + (1 : Nat)) : Int)) ∧ ((0 : Int) ≤ (↑k : Int) ∧ (↑k : Int) ≤ (↑(n + (1 : Nat)) : Int)) ∧ (List.all (List.flatMap (fun (x : Go.Value) => Array.toList (Value.cells x)) (List.take (Nat.min (n + (1 : Nat) - Int.toNat (↑k : Int)) (n + (1 : Nat) - Int.toNat (IntKind.wrap IntKind.i64 ((↑k : Int) + (1 : Int))))) (List.drop (Int.toNat (↑k : Int) + (0 : Nat)) (els ++ [Value.string (ByteArray.mk (Array.mk []))])))) cellv = Bool.true ∧ Int.toNat (IntKind.wrap IntKind.i64 ((↑k : Int) + (1 : Int))) + (0 : Nat) + (n + (1 : Nat) - Int.toNat (IntKind.wrap IntKind.i64 ((↑k : Int) + (1 : Int)))) ≤ List.length (els ++ [Value.string (ByteArray.mk (Array.mk []))]) ∧ Int.toNat (↑k : Int) + (0 : Nat) + (n + (1 : Nat) - Int.toNat (↑k : Int)) ≤ List.length (els ++ [Value.string (ByteArray.mk (Array.mk []))])) ∧ ((0 : Int) ≤ (↑k : Int) ∧ (↑k : Int) < (↑(n + (1 : Nat)) : Int)) ∧ Int.toNat (↑(Int.toNat (↑k : Int) + (0 : Nat)) : Int) < List.length (List.take (Int.toNat (IntKind.wrap IntKind.i64 ((↑k : Int) + (1 : Int))) + (0 : Nat)) (els ++ [Value.string (ByteArray.mk (Array.mk []))]) ++ (List.take (Nat.min (n + (1 : Nat) - Int.toNat (↑k : Int)) (n + (1 : Nat) - Int.toNat (IntKind.wrap IntKind.i64 ((↑k : Int) + (1 : Int))))) (List.drop (Int.toNat (↑k : Int) + (0 : Nat)) (els ++ [Value.string (ByteArray.mk (Array.mk []))])) ++ List.drop (Int.toNat (IntKind.wrap IntKind.i64 ((↑k : Int) + (1 : Int))) + (0 : Nat) + List.length (List.take (Nat.min (n + (1 : Nat) - Int.toNat (↑k : Int)) (n + (1 : Nat) - Int.toNat (IntKind.wrap IntKind.i64 ((↑k : Int) + (1 : Int))))) (List.drop (Int.toNat (↑k : Int) + (0 : Nat)) (els ++ [Value.string (ByteArray.mk (Array.mk []))])))) (els ++ [Value.string (ByteArray.mk (Array.mk []))]))) ∧ K (Value.slice (Option.some (Go.Addr.mk (2 : Nat) (0 : Nat) Option.none)) (n + (1 : Nat)) (18446744073709551620 : Nat)) (AH.mk (T.node (T.node T.leaf (Option.some (AObj.cells [Value.string (ByteArray.mk (Array.mk []))] (9 : Nat))) T.leaf) (Option.some AObj.dead) (T.node T.leaf (Option.some (AObj.gro (List.set (List.take (Int.toNat (IntKind.wrap IntKind.i64 ((↑k : Int) + (1 : Int))) + (0 : Nat)) (els ++ [Value.string (ByteArray.mk (Array.mk []))]) ++ (List.take (Nat.min (n + (1 : Nat) - Int.toNat (↑k : Int)) (n + (1 : Nat) - Int.toNat (IntKind.wrap IntKind.i64 ((↑k : Int) + (1 : Int))))) (List.drop (Int.toNat (↑k : Int) + (0 : Nat)) (els ++ [Value.string (ByteArray.mk (Array.mk []))])) ++ List.drop (Int.toNat (IntKind.wrap IntKind.i64 ((↑k : Int) + (1 : Int))) + (0 : Nat) + List.length (List.take (Nat.min (n + (1 : Nat) - Int.toNat (↑k : Int)) (n + (1 : Nat) - Int.toNat (IntKind.wrap IntKind.i64 ((↑k : Int) + (1 : Int))))) (List.drop (Int.toNat (↑k : Int) + (0 : Nat)) (els ++ [Value.string (ByteArray.mk (Array.mk []))])))) (els ++ [Value.string (ByteArray.mk (Array.mk []))]))) (Int.toNat (↑(Int.toNat (↑k : Int) + (0 : Nat)) : Int)) (Value.string s)) [] (9 : Nat))) T.leaf)) (11 : Nat))))
          ((List.all [Value.string (ByteArray.mk (Array.mk []))] cellv = Bool.true ∧ n + (0 : Nat) = List.length els ∧ n + (1 : Nat) ≤ (70368744177664 : Nat) ∧ (n + (1 : Nat)) * (16 : Nat) ≤ (140737488355328 : Nat)) ∧ ((0 : Int) ≤ IntKind.wrap IntKind.i64 ((↑k : Int) + (1 : Int)) ∧ IntKind.wrap IntKind.i64 ((↑k : Int) + (1 : Int)) ≤ (↑(n + (1 : Nat)) : Int)) ∧ ((0 : Int) ≤ (↑k : Int) ∧ (↑k : Int) ≤ (↑(n + (1 : Nat)) : Int)) ∧ (List.all (List.flatMap (fun (x : Go.Value) => Array.toList (Value.cells x)) (List.take (Nat.min (n + (1 : Nat) - Int.toNat (↑k : Int)) (n + (1 : Nat) - Int.toNat (IntKind.wrap IntKind.i64 ((↑k : Int) + (1 : Int))))) (List.drop (Int.toNat (↑k : Int) + (0 : Nat)) (els ++ [Value.string (ByteArray.mk (Array.mk []))])))) cellv = Bool.true ∧ Int.toNat (IntKind.wrap IntKind.i64 ((↑k : Int) + (1 : Int))) + (0 : Nat) + (n + (1 : Nat) - Int.toNat (IntKind.wrap IntKind.i64 ((↑k : Int) + (1 : Int)))) ≤ List.length (els ++ [Value.string (ByteArray.mk (Array.mk []))]) ∧ Int.toNat (↑k : Int) + (0 : Nat) + (n + (1 : Nat) - Int.toNat (↑k : Int)) ≤ List.length (els ++ [Value.string (ByteArray.mk (Array.mk []))])) ∧ ((0 : Int) ≤ (↑k : Int) ∧ (↑k : Int) < (↑(n + (1 : Nat)) : Int)) ∧ Int.toNat (↑(Int.toNat (↑k : Int) + (0 : Nat)) : Int) < List.length (List.take (Int.toNat (IntKind.wrap IntKind.i64 ((↑k : Int) + (1 : Int))) + (0 : Nat)) (els ++ [Value.string (ByteArray.mk (Array.mk []))]) ++ (List.take (Nat.min (n + (1 : Nat) - Int.toNat (↑k : Int)) (n + (1 : Nat) - Int.toNat (IntKind.wrap IntKind.i64 ((↑k : Int) + (1 : Int))))) (List.drop (Int.toNat (↑k : Int) + (0 : Nat)) (els ++ [Value.string (ByteArray.mk (Array.mk []))])) ++ List.drop (Int.toNat (IntKind.wrap IntKind.i64 ((↑k : Int) + (1 : Int))) + (0 : Nat) + List.length (List.take (Nat.min (n + (1 : Nat) - Int.toNat (↑k : Int)) (n + (1 : Nat) - Int.toNat (IntKind.wrap IntKind.i64 ((↑k : Int) + (1 : Int))))) (List.drop (Int.toNat (↑k : Int) + (0 : Nat)) (els ++ [Value.string (ByteArray.mk (Array.mk []))])))) (els ++ [Value.string (ByteArray.mk (Array.mk []))]))) ∧ K (Value.slice (Option.some (Go.Addr.mk (2 : Nat) (0 : Nat) Option.none)) (n + (1 : Nat)) (18446744073709551620 : Nat)) (AH.mk (T.node (T.node T.leaf (Option.some (AObj.cells [Value.string (ByteArray.mk (Array.mk []))] (9 : Nat))) T.leaf) (Option.some AObj.dead) (T.node T.leaf (Option.some (AObj.gro (List.set (List.take (Int.toNat (IntKind.wrap IntKind.i64 ((↑k : Int) + (1 : Int))) + (0 : Nat)) (els ++ [Value.string (ByteArray.mk (Array.mk []))]) ++ (List.take (Nat.min (n + (1 : Nat) - Int.toNat (↑k : Int)) (n + (1 : Nat) - Int.toNat (IntKind.wrap IntKind.i64 ((↑k : Int) + (1 : Int))))) (List.drop (Int.toNat (↑k : Int) + (0 : Nat)) (els ++ [Value.string (ByteArray.mk (Array.mk []))])) ++ List.drop (Int.toNat (IntKind.wrap IntKind.i64 ((↑k : Int) + (1 : Int))) + (0 : Nat) + List.length (List.take (Nat.min (n + (1 : Nat) - Int.toNat (↑k : Int)) (n + (1 : Nat) - Int.toNat (IntKind.wrap IntKind.i64 ((↑k : Int) + (1 : Int))))) (List.drop (Int.toNat (↑k : Int) + (0 : Nat)) (els ++ [Value.string (ByteArray.mk (Array.mk []))])))) (els ++ [Value.string (ByteArray.mk (Array.mk []))]))) (Int.toNat (↑(Int.toNat (↑k : Int) + (0 : Nat)) : Int)) (Value.string s)) [] (9 : Nat))) T.leaf)) (11 : Nat)))))
  (Sp (decide ((↑k : Int) < (↑n : Int)))
    (((0 : Int) ≤ (↑k : Int) ∧ (↑k : Int) < (↑n : Int)) ∧
      nth els (Int.toNat (↑(Int.toNat (↑k : Int) + (0 : Nat)) : Int)) =
          Option.some
            (Value.string
              (match nth (glue els []) (Int.toNat (↑(gIdx (gsz (unk + (3 : Nat) + (1 : Nat))) (0 : Nat) (Int.toNat (↑k : Int))) : Int)) with
              | Option.some (Value.string s) => s
              | x => ByteArray.empty)) ∧
        Sp (eqL (Array.toList (ByteArray.data (strAt (glue els []) (↑(gIdx (gsz (unk + (3 : Nat) + (1 : Nat))) (0 : Nat) (Int.toNat (↑k : Int))) : Int)))) (Array.toList (ByteArray.data s))) (K (Value.slice (Option.some (Go.Addr.mk (0 : Nat) (0 : Nat) Option.none)) n (18446744073709551620 : Nat)) (AH.mk (T.node T.leaf (Option.some (AObj.gro els [] (9 : Nat))) T.leaf) (1 : Nat))) ((List.all [Value.string (ByteArray.mk (Array.mk []))] cellv = Bool.true ∧ n + (0 : Nat) = List.length els ∧ n + (1 : Nat) ≤ (70368744177664 : Nat) ∧ (n + (1 : Nat)) * (16 : Nat) ≤ (140737488355328 : Nat)) ∧ ((0 : Int) ≤ IntKind.wrap IntKind.i64 ((↑k : Int) + (1 : Int)) ∧ IntKind.wrap IntKind.i64 ((↑k : Int) + (1 : Int)) ≤ (↑(n + (1 : Nat)) : Int)) ∧ ((0 : Int) ≤ (↑k : Int) ∧ (↑k : Int) ≤ (↑(n + (1 : Nat)) : Int)) ∧ (List.all (List.flatMap (fun (x : Go.Value) => Array.toList (Value.cells x)) (List.take (Nat.min (n + (1 : Nat) - Int.toNat (↑k : Int)) (n + (1 : Nat) - Int.toNat (IntKind.wrap IntKind.i64 ((↑k : Int) + (1 : Int))))) (List.drop (Int.toNat (↑k : Int) + (0 : Nat)) (els ++ [Value.string (ByteArray.mk (Array.mk []))])))) cellv = Bool.true ∧ Int.toNat (IntKind.wrap IntKind.i64 ((↑k : Int) + (1 : Int))) + (0 : Nat) + (n + (1 : Nat) - Int.toNat (IntKind.wrap IntKind.i64 ((↑k : Int) + (1 : Int)))) ≤ List.length (els ++ [Value.string (ByteArray.mk (Array.mk []))]) ∧ Int.toNat (↑k : Int) + (0 : Nat) + (n + (1 : Nat) - Int.toNat (↑k : Int)) ≤ List.length (els ++ [Value.string (ByteArray.mk (Array.mk []))])) ∧ ((0 : Int) ≤ (↑k : Int) ∧ (↑k : Int) < (↑(n + (1 : Nat)) : Int)) ∧ Int.toNat (↑(Int.toNat (↑k : Int) + (0 : Nat)) : Int) < List.length (List.take (Int.toNat (IntKind.wrap IntKind.i64 ((↑k : Int) + (1 : Int))) + (0 : Nat)) (els ++ [Value.string (ByteArray.mk (Array.mk []))]) ++ (List.take (Nat.min (n + (1 : Nat) - Int.toNat (↑k : Int)) (n + (1 : Nat) - Int.toNat (IntKind.wrap IntKind.i64 ((↑k : Int) + (1 : Int))))) (List.drop (Int.toNat (↑k : Int) + (0 : Nat)) (els ++ [Value.string (ByteArray.mk (Array.mk []))])) ++ List.drop (Int.toNat (IntKind.wrap IntKind.i64 ((↑k : Int) + (1 : Int))) + (0 : Nat) + List.length (List.take (Nat.min (n + (1 : Nat) - Int.toNat (↑k : Int)) (n + (1 : Nat) - Int.toNat (IntKind.wrap IntKind.i64 ((↑k : Int) + (1 : Int))))) (List.drop (Int.toNat (↑k : Int) + (0 : Nat)) (els ++ [Value.string (ByteArray.mk (Array.mk []))])))) (els ++ [Value.string (ByteArray.mk (Array.mk []))]))) ∧ K (Value.slice (Option.some (Go.Addr.mk (2 : Nat) (0 : Nat) Option.none)) (n + (1 : Nat)) (18446744073709551620 : Nat)) (AH.mk (T.node (T.node T.leaf (Option.some (AObj.cells [Value.string (ByteArray.mk (Array.mk []))] (9 : Nat))) T.leaf) (Option.some AObj.dead) (T.node T.leaf (Option.some (AObj.gro (List.set (List.take (Int.toNat (IntKind.wrap IntKind.i64 ((↑k : Int) + (1 : Int))) + (0 : Nat)) (els ++ [Value.string (ByteArray.mk (Array.mk []))]) ++ (List.take (Nat.min (n + (1 : Nat) - Int.toNat (↑k : Int)) (n + (1 : Nat) - Int.toNat (IntKind.wrap IntKind.i64 ((↑k : Int) + (1 : Int))))) (List.drop (Int.toNat (↑k : Int) + (0 : Nat)) (els ++ [Value.string (ByteArray.mk (Array.mk []))])) ++ List.drop (Int.toNat (IntKind.wrap IntKind.i64 ((↑k : Int) + (1 : Int))) + (0 : Nat) + List.length (List.take (Nat.min (n + (1 : Nat) - Int.toNat (↑k : Int)) (n + (1 : Nat) - Int.toNat (IntKind.wrap IntKind.i64 ((↑k : Int) + (1 : Int))))) (List.drop (Int.toNat (↑k : Int) + (0 : Nat)) (els ++ [Value.string (ByteArray.mk (Array.mk []))])))) (els ++ [Value.string (ByteArray.mk (Array.mk []))]))) (Int.toNat (↑(Int.toNat (↑k : Int) + (0 : Nat)) : Int)) (Value.string s)) [] (9 : Nat))) T.leaf)) (11 : Nat))))
    ((List.all [Value.string (ByteArray.mk (Array.mk []))] cellv = Bool.true ∧ n + (0 : Nat) = List.length els ∧ n + (1 : Nat) ≤ (70368744177664 : Nat) ∧ (n + (1 : Nat)) * (16 : Nat) ≤ (140737488355328 : Nat)) ∧ ((0 : Int) ≤ IntKind.wrap IntKind.i64 ((↑k : Int) + (1 : Int)) ∧ IntKind.wrap IntKind.i64 ((↑k : Int) + (1 : Int)) ≤ (↑(n + (1 : Nat)) : Int)) ∧ ((0 : Int) ≤ (↑k : Int) ∧ (↑k : Int) ≤ (↑(n + (1 : Nat)) : Int)) ∧ (List.all (List.flatMap (fun (x : Go.Value) => Array.toList (Value.cells x)) (List.take (Nat.min (n + (1 : Nat) - Int.toNat (↑k : Int)) (n + (1 : Nat) - Int.toNat (IntKind.wrap IntKind.i64 ((↑k : Int) + (1 : Int))))) (List.drop (Int.toNat (↑k : Int) + (0 : Nat)) (els ++ [Value.string (ByteArray.mk (Array.mk []))])))) cellv = Bool.true ∧ Int.toNat (IntKind.wrap IntKind.i64 ((↑k : Int) + (1 : Int))) + (0 : Nat) + (n + (1 : Nat) - Int.toNat (IntKind.wrap IntKind.i64 ((↑k : Int) + (1 : Int)))) ≤ List.length (els ++ [Value.string (ByteArray.mk (Array.mk []))]) ∧ Int.toNat (↑k : Int) + (0 : Nat) + (n + (1 : Nat) - Int.toNat (↑k : Int)) ≤ List.length (els ++ [Value.string (ByteArray.mk (Array.mk []))])) ∧ ((0 : Int) ≤ (↑k : Int) ∧ (↑k : Int) < (↑(n + (1 : Nat)) : Int)) ∧ Int.toNat (↑(Int.toNat (↑k : Int) + (0 : Nat)) : Int) < List.length (List.take (Int.toNat (IntKind.wrap IntKind.i64 ((↑k : Int) + (1 : Int))) + (0 : Nat)) (els ++ [Value.string (ByteArray.mk (Array.mk []))]) ++ (List.take (Nat.min (n + (1 : Nat) - Int.toNat (↑k : Int)) (n + (1 : Nat) - Int.toNat (IntKind.wrap IntKind.i64 ((↑k : Int) + (1 : Int))))) (List.drop (Int.toNat (↑k : Int) + (0 : Nat)) (els ++ [Value.string (ByteArray.mk (Array.mk []))])) ++ List.drop (Int.toNat (IntKind.wrap IntKind.i64 ((↑k : Int) + (1 : Int))) + (0 : Nat) + List.length (List.take (Nat.min (n + (1 : Nat) - Int.toNat (↑k : Int)) (n + (1 : Nat) - Int.toNat (IntKind.wrap IntKind.i64 ((↑k : Int) + (1 : Int))))) (List.drop (Int.toNat (↑k : Int) + (0 : Nat)) (els ++ [Value.string (ByteArray.mk (Array.mk []))])))) (els ++ [Value.string (ByteArray.mk (Array.mk []))]))) ∧ K (Value.slice (Option.some (Go.Addr.mk (2 : Nat) (0 : Nat) Option.none)) (n + (1 : Nat)) (18446744073709551620 : Nat)) (AH.mk (T.node (T.node T.leaf (Option.some (AObj.cells [Value.string (ByteArray.mk (Array.mk []))] (9 : Nat))) T.leaf) (Option.some AObj.dead) (T.node T.leaf (Option.some (AObj.gro (List.set (List.take (Int.toNat (IntKind.wrap IntKind.i64 ((↑k : Int) + (1 : Int))) + (0 : Nat)) (els ++ [Value.string (ByteArray.mk (Array.mk []))]) ++ (List.take (Nat.min (n + (1 : Nat) - Int.toNat (↑k : Int)) (n + (1 : Nat) - Int.toNat (IntKind.wrap IntKind.i64 ((↑k : Int) + (1 : Int))))) (List.drop (Int.toNat (↑k : Int) + (0 : Nat)) (els ++ [Value.string (ByteArray.mk (Array.mk []))])) ++ List.drop (Int.toNat (IntKind.wrap IntKind.i64 ((↑k : Int) + (1 : Int))) + (0 : Nat) + List.length (List.take (Nat.min (n + (1 : Nat) - Int.toNat (↑k : Int)) (n + (1 : Nat) - Int.toNat (IntKind.wrap IntKind.i64 ((↑k : Int) + (1 : Int))))) (List.drop (Int.toNat (↑k : Int) + (0 : Nat)) (els ++ [Value.string (ByteArray.mk (Array.mk []))])))) (els ++ [Value.string (ByteArray.mk (Array.mk []))]))) (Int.toNat (↑(Int.toNat (↑k : Int) + (0 : Nat)) : Int)) (Value.string s)) [] (9 : Nat))) T.leaf)) (11 : Nat))))) := by kernel_rfl
def insL : LB → List UInt8 → LB
  | [], x => [x]
  | y :: l, x => bif ltL y x then y :: insL l x else bif eqL y x then y :: l else x :: y :: l
theorem insL_len (l : LB) (x : List UInt8) : (insL l x).length ≤ l.length + 1 := by
  induction l with
  | nil => simp [insL]
  | cons y l ih =>
    unfold insL
    cases ltL y x with
    | true => simp only [cond_true, List.length_cons]; omega
    | false =>
      cases eqL y x with
      | true => simp
      | false => simp
theorem insL_drop {l : LB} {k : Nat} (h : k < l.length) (x : List UInt8) : insL (l.drop k) x = bif ltL l[k] x then l[k] :: insL (l.drop (k + 1)) x else bif eqL l[k] x then l.drop k else x :: l.drop k := by
  rw [List.drop_eq_getElem_cons h]; rfl
theorem ins_list (els : List Value) (a s : Value) {k : Nat} (h : k ≤ els.length) :
    List.set (List.take (k + 1) (els ++ [a]) ++ (List.take (Nat.min (els.length + 1 - k) (els.length + 1 - (k + 1))) (List.drop k (els ++ [a])) ++ List.drop (k + 1 + (List.take (Nat.min (els.length + 1 - k) (els.length + 1 - (k + 1))) (List.drop k (els ++ [a]))).length) (els ++ [a]))) k s = els.take k ++ s :: els.drop k := by
  have hm : Nat.min (els.length + 1 - k) (els.length + 1 - (k + 1)) = els.length - k := by
    show min _ _ = _; omega
  have hd : List.take (els.length - k) (List.drop k (els ++ [a])) = els.drop k := by
    rw [List.drop_append_of_le_length h, List.take_append_of_le_length (by simp)]
    exact List.take_of_length_le (by simp)
  have hz : List.drop (k + 1 + (els.drop k).length) (els ++ [a]) = [] := List.drop_eq_nil_of_le (by simp; omega)
  rw [hm, hd, hz, List.append_nil]
  have hlt : k < (els ++ [a]).length := by simp; omega
  rw [List.take_succ_eq_append_getElem hlt, List.take_append_of_le_length h]
  have hl : (els.take k).length = k := by rw [List.length_take]; omega
  rw [List.append_assoc, List.set_append_right _ _ (by omega), hl, Nat.sub_self]
  rfl
theorem stv_nth {ks : LB} {k : Nat} (h : k < ks.length) : nth (stv ks) k = some (.string (mkBytes ks[k])) := by
  rw [nth_eq]; simp [stv, List.getElem?_eq_getElem h]
theorem stv_at {ks : LB} {k : Nat} (h : k < ks.length) : strAt (stv ks) (k : Int) = mkBytes ks[k] := by simp only [strAt, Int.toNat_natCast, stv_nth h]
theorem mkB_list (l : List UInt8) : (mkBytes l).data.toList = l := by simp [mkBytes]
theorem st_cells (ks : LB) : ∀ x ∈ cellsL (stv ks ++ []), HF x := fun x hx => by
  rw [List.append_nil] at hx
  obtain ⟨y, hy, hxy⟩ := List.mem_flatMap.1 hx
  obtain ⟨p, _, rfl⟩ := List.mem_map.1 hy
  have : x = .string (mkBytes p) := by simpa [Value.cells] using hxy
  rw [this]; exact .scal rfl
theorem st_cellv (l : List Value) (h : ∀ x ∈ l, ∃ s, x = Value.string s) : (l.flatMap fun x => x.cells.toList).all cellv = true := by
  rw [List.all_eq_true]
  intro x hx
  obtain ⟨y, hy, hxy⟩ := List.mem_flatMap.1 hx
  obtain ⟨s, rfl⟩ := h y hy
  have : x = .string s := by simpa [Value.cells] using hxy
  rw [this]; rfl
theorem I_loop {K : KV} (ks : LB) (hl : ks.length ≤ 3000000) (s : SB)
    (hK0 : insL ks s.data.toList = ks → K (.slice (some ⟨0, 0, none⟩) ks.length (unk + 3 + 1)) (hN (stv ks)))
    (hK1 : ∀ A : AH, A.t.get 2 = some (.gro (stv (insL ks s.data.toList)) [] 9) → K (.slice (some ⟨2, 0, none⟩) (insL ks s.data.toList).length (unk + 3 + 1)) A) :
    LAtZ XI 1 ntI ⟨(hN (stv ks)).t, 0⟩ bdI [1, 1, 0, 0] (kFinI K) (frI ks.length s 0) (hN (stv ks)) := by
  refine LAtZ.step XI_ok rfl [] [] [] [0, 1, 5] (by kernel_rfl) (fun j F A => ∃ k : Nat, F = frI ks.length s k ∧ A = hN (stv ks) ∧ k + j = ks.length ∧ insL ks s.data.toList = ks.take k ++ insL (ks.drop k) s.data.toList) ?_ (k := ks.length) ⟨0, rfl, rfl, by simp, by simp⟩
  rintro j F A ⟨k, rfl, rfl, hk, hx⟩
  refine (jIs9_nf K _ _ _ s k _).mpr ?_
  have hw : IntKind.i64.wrap ((k : Int) + 1) = ((k + 1 : Nat) : Int) := by rw [i64_in (by omega) (by omega)]; rfl
  have hgl : glue (stv ks) [] = stv ks := rfl
  have hgi : gIdx (gsz (unk + 3 + 1)) 0 k = k := by
    have : gsz (unk + 3 + 1) = 1 := by kernel_rfl
    rw [this]; unfold gIdx; simp
  have hsl := st_len ks
  simp only [hw, hgl, Int.toNat_natCast, hgi, Nat.add_zero]
  have hnew : k ≤ ks.length → insL (ks.drop k) s.data.toList = s.data.toList :: ks.drop k → stv (insL ks s.data.toList) = (stv ks).take k ++ Value.string s :: (stv ks).drop k := fun h1 h2 => by
    rw [hx, h2]; unfold stv; rw [List.map_append, List.map_cons, mkB_eta, List.map_take, List.map_drop]
  have hnl : k ≤ ks.length → insL (ks.drop k) s.data.toList = s.data.toList :: ks.drop k → (insL ks s.data.toList).length = ks.length + 1 := fun h1 h2 => by
    rw [hx, h2, List.length_append, List.length_cons, List.length_take, List.length_drop]; omega
  have hall : ∀ n, ((List.take n (List.drop k (stv ks ++ [Value.string (ByteArray.mk (Array.mk []))]))).flatMap fun x => x.cells.toList).all cellv = true := fun n => st_cellv _ fun x hx => by
    have := List.mem_of_mem_drop (List.mem_of_mem_take hx)
    rcases List.mem_append.1 this with h | h
    · obtain ⟨p, _, rfl⟩ := List.mem_map.1 h; exact ⟨_, rfl⟩
    · exact ⟨_, List.mem_singleton.1 h⟩
  refine Sp.intro (fun c => ?_) (fun c => ?_)
  · have hlt : k < ks.length := by simpa using c
    rw [insL_drop hlt] at hx
    simp only [stv_nth hlt, stv_at hlt, mkB_list]
    refine ⟨⟨by omega, by omega⟩, by first | trivial | rfl, Sp.intro (fun c1 => ?_) (fun c1 => ?_)⟩
    · refine ⟨.agg (HF_st ks), j - 1, by omega, k + 1, rfl, by first | trivial | rfl, by omega, ?_⟩
      rw [c1] at hx
      rw [hx, List.take_succ_eq_append_getElem hlt, List.append_assoc]; rfl
    · refine Sp.intro (fun _ => ⟨⟨by omega, by omega⟩, by first | trivial | rfl, Sp.intro (fun c3 => hK0 ?_) (fun c3 => ?_)⟩) (fun h => by rw [c] at h; cases h)
      · rw [c1, c3] at hx
        rw [hx]; exact List.take_append_drop k ks
      · have h1 : k ≤ ks.length := Nat.le_of_lt hlt
        have h2 : insL (ks.drop k) s.data.toList = s.data.toList :: ks.drop k := by rw [insL_drop hlt, c1, c3]; rfl
        rw [c1, c3] at hx
        have hx : insL ks s.data.toList = ks.take k ++ insL (ks.drop k) s.data.toList := by rw [h2]; exact hx
        have e := ins_list (stv ks) (.string (ByteArray.mk (Array.mk []))) (.string s) (k := k) (by omega)
        rw [hsl] at e
        have h3 := hnew h1 h2
        have h4 := hnl h1 h2
        have hsx : (stv ks ++ [Value.string (ByteArray.mk (Array.mk []))]).length = ks.length + 1 := by rw [List.length_append, hsl]; rfl
        refine ⟨⟨by rfl, by omega, by omega, by omega⟩, ⟨by omega, by omega⟩, ⟨by omega, by omega⟩, ⟨hall _, by omega, by omega⟩, ⟨by omega, by omega⟩, ?_, ?_⟩
        · have := congrArg List.length e
          rw [List.length_set] at this
          rw [this, ← h3, st_len, h4]; omega
        · rw [e, ← h3, ← h4]
          exact hK1 _ rfl
  · have hge : k = ks.length := by simp at c; omega
    have hd : ks.drop k = [] := List.drop_eq_nil_of_le (by omega)
    refine Sp.intro (fun h => by rw [c] at h; cases h) (fun _ => ?_)
    have h1 : k ≤ ks.length := by omega
    have h2 : insL (ks.drop k) s.data.toList = s.data.toList :: ks.drop k := by rw [hd]; rfl
    have e := ins_list (stv ks) (.string (ByteArray.mk (Array.mk []))) (.string s) (k := k) (by omega)
    rw [hsl] at e
    have h3 := hnew h1 h2
    have h4 := hnl h1 h2
    have hsx : (stv ks ++ [Value.string (ByteArray.mk (Array.mk []))]).length = ks.length + 1 := by rw [List.length_append, hsl]; rfl
    refine ⟨⟨by rfl, by omega, by omega, by omega⟩, ⟨by omega, by omega⟩, ⟨by omega, by omega⟩, ⟨hall _, by omega, by omega⟩, ⟨by omega, by omega⟩, ?_, ?_⟩
    · have := congrArg List.length e
      rw [List.length_set] at this
      rw [this, ← h3, st_len, h4]; omega
    · rw [e, ← h3, ← h4]
      exact hK1 _ rfl
end
end Go.T9
set_option maxRecDepth 1000000
set_option linter.unusedVariables false
set_option linter.unusedSimpArgs false
set_option maxHeartbeats 4000000
namespace Go.T9
open Go Go.AM Go.MK
noncomputable section
def unL (els : List Value) : LB := els.map fun v => match v with | .string s => s.data.toList | _ => []
theorem unL_st (ks : LB) : unL (stv ks) = ks := by
  unfold unL stv
  rw [List.map_map]
  exact (List.map_congr_left fun x _ => mkB_list x).trans (List.map_id _)
theorem RO_st {ρ : Nat → Option Nat} (ks : LB) (e : TypeId) : RO ρ (.gro (stv ks) [] e) (.gro (stv ks) [] e) := RO.gro (st_cells ks)
theorem in_turn (N : Nat) (ks : LB) (hl : ks.length ≤ 3000000) (s : SB) : WalkT envX Proofs.Tryz.f41 [.slice (some ⟨0, 0, none⟩) ks.length (unk + 3 + 1), .string s] (hN (stv ks))
    (MadeK N (.slice (some ⟨N, 0, none⟩) (insL ks s.data.toList).length (unk + 3 + 1)) (.gro (stv (insL ks s.data.toList)) [] 9)) := by
  refine sxFnZ_turn XI_ok (d := 1) ((jIs8_nf _ _ s _).mpr ⟨.agg (HF_st ks), ?_⟩)
  have hbk : ∀ B, back [(N, B)] N = some B := fun B => by simp [back, beq_eq]
  refine I_loop ks hl s (fun h => ?_) (fun A hA => ?_)
  · exact ⟨0, _, rfl, by rw [h]; exact RO_st ks _, rfl, by rw [h]; exact .slice (hbk 0)⟩
  · exact ⟨2, _, hA, RO_st _ _, rfl, .slice (hbk 2)⟩
def inR : RunF := fun args A => match args with
  | [.slice (some ⟨B, 0, none⟩) n k, .string s] => (match A.t.get B with
    | some (.gro els tl e) => bif Nat.beq k (unk + 3 + 1) && Nat.beq e 9 then (match T.set FU A.t B .dead with
      | some tD => (match T.set FU tD A.next (.gro (stv (insL (unL (glue els tl)) s.data.toList)) [] 9) with
        | some tA => some (some (∃ ks, glue els tl = stv ks ∧ n = ks.length ∧ ks.length ≤ 3000000), .slice (some ⟨A.next, 0, none⟩) (insL (unL (glue els tl)) s.data.toList).length (unk + 3 + 1), ⟨tA, A.next + 1⟩)
        | none => none)
      | none => none) else none
    | _ => none)
  | _ => none
theorem in_tab2 : ∀ args A p v A', inR args A = some (p, v, A') → PH p → CallAt envX 41 args A v A' := by
  intro args A p v A' hr hp
  unfold inR at hr
  split at hr
  · rename_i B n k s
    split at hr
    · rename_i els tl e hB
      cases hb : Nat.beq k (unk + 3 + 1) && Nat.beq e 9 with
      | false => rw [hb] at hr; cases hr
      | true =>
        rw [hb] at hr
        simp only [Bool.and_eq_true, Nat.beq_eq] at hb
        obtain ⟨rfl, rfl⟩ := hb
        simp only [cond_true] at hr
        split at hr
        · rename_i tD hD
          split at hr
          · rename_i tA hA
            simp only [Option.some.injEq, Prod.mk.injEq] at hr
            obtain ⟨rfl, rfl, rfl⟩ := hr
            obtain ⟨ks, hk, rfl, hl⟩ := hp
            rw [hk, unL_st] at hA ⊢
            have hget := T.get_set hD
            have hbk : back [(0, B)] 0 = some B := rfl
            have hro : RO (back [(0, B)]) (.gro els tl 9) (.gro (stv ks) [] 9) := by
              rw [← hk]
              refine RO.gro fun x hx => ?_
              rw [← glue_eq, hk] at hx
              exact st_cells ks x (by rw [List.append_nil]; exact hx)
            refine callAt_turn envX_ok (fn := Proofs.Tryz.f41) rfl (m := [(0, B)]) (lh := [(0, .gro (stv ks) [] 9)]) (nx := 1) (t1 := (hN (stv ks)).t) (args1 := [.slice (some ⟨0, 0, none⟩) ks.length (unk + 3 + 1), .string s]) rfl rfl
              (.cons hbk hB hro .nil) (.cons (.slice hbk) (.cons (.hf (.scal rfl)) .nil)) (in_turn A.next ks hl s) (fun x hx => ?_) (fun x hx => ?_) (fun B' h => ?_) hA
            · obtain rfl := List.mem_singleton.1 hx; exact ⟨_, hB, rfl⟩
            · obtain rfl := List.mem_singleton.1 hx; rw [hget, if_pos rfl]
            · rw [hget, if_neg (fun e => h (0, B) (by simp) e.symm)]
          · cases hr
        · cases hr
    · cases hr
  · cases hr
def tabM : Tab := [(35, pureR (fun _ => none) qcX), (41, inR)]
theorem tabM_ok : TabOk envX tabM := .cons qc_tab (.cons in_tab2 .nil)
def XM : SX := ⟨envX, tabM, elK, fun _ => .autoN [(.slot 7, 9, 1)] [] [] [7, 19, 20, 21]⟩
theorem XM_ok : XM.Ok := ⟨envX_ok, envX_sym, envX_gl, tabM_ok⟩
def frM (ps : List Value) (i n : Nat) : T Value := (.node (.node (.node (.node .leaf (some (.slice (some ⟨0, 0, none⟩) n (unk + 3 + 1))) .leaf) none (.node (.node .leaf (some (dat 2 ps)) .leaf) none .leaf)) none (.node .leaf none (.node (.node .leaf (some (.int .i64 i)) .leaf) none .leaf))) none (.node (.node .leaf none (.node (.node .leaf (some (.int .i64 ps.length)) .leaf) none .leaf)) none .leaf))
def ntM : Nat := Func.ntmps Proofs.Tryz.f16
def bdM : Code := bodyOf Proofs.Tryz.f16
def kFinM (K : KV) : KX := finK XM.E (Proofs.Tryz.f16.results).toList K
def jRn (K : KV) (s : SB) : Prop := sxFnZ XM 1 Proofs.Tryz.f16 [.string s] ⟨.leaf, 0⟩ K
def jRn1 (K : KV) (again : KF) (ps : List Value) (i n : Nat) (els : List Value) : Prop := sxStepZ XM 1 ntM ⟨.leaf, 0⟩ bdM [1, 1, 1, 1, 0, 1, 0] (kFinM K) [(.slot 7, 9, 1)] [] [] [7, 19, 20, 21] again (frM ps i n) (hN els)
end
end Go.T9
set_option maxRecDepth 1000000
set_option linter.unusedVariables false
set_option linter.unusedSimpArgs false
set_option maxHeartbeats 4000000
namespace Go.T9
open Go Go.AM Go.MK
noncomputable section
theorem jRn_nf (K : KV) (s : SB) : jRn K s = (Sp (!decide (qE s = (0 : Int))) (K (Value.tuple (Array.mk [Value.slice Option.none (0 : Nat) (0 : Nat), Value.int IntKind.i64 (qE s)])) (AH.mk T.leaf (0 : Nat))) (HF (Value.func (Go.Fn.yield (2 : Nat)) (Array.mk (pv (qL s))) (Array.mk [])) ∧ HF (Value.agg (Array.mk [])) ∧ LAtZ XM (1 : Nat) (Go.Func.ntmps Go.Proofs.Tryz.f16) (AH.mk (AH.t (AH.mk T.leaf (0 : Nat))) (0 : Nat)) (bodyOf Go.Proofs.Tryz.f16) [(1 : Nat), (1 : Nat), (1 : Nat), (1 : Nat), (0 : Nat), (1 : Nat), (0 : Nat)] (finK (SX.E XM) (Array.toList (Go.Func.results Go.Proofs.Tryz.f16)) K) (T.node (T.node (T.node (T.node T.leaf (Option.some (Value.slice (Option.some (Go.Addr.mk (0 : Nat) (0 : Nat) Option.none)) (0 : Nat) (18446744073709551620 : Nat))) T.leaf) Option.none (T.node (T.node T.leaf (Option.some (Value.func (Go.Fn.yield (2 : Nat)) (Array.mk (pv (qL s))) (Array.mk []))) T.leaf) Option.none T.leaf)) Option.none (T.node T.leaf Option.none (T.node (T.node T.leaf (Option.some (Value.int IntKind.i64 (0 : Int))) T.leaf) Option.none T.leaf))) Option.none (T.node (T.node T.leaf Option.none (T.node (T.node T.leaf (Option.some (Value.int IntKind.i64 (↑(List.length (pv (qL s))) : Int))) T.leaf) Option.none T.leaf)) Option.none T.leaf)) (AH.mk (T.node T.leaf (Option.some (AObj.gro [] [] (9 : Nat))) T.leaf) (1 : Nat)))) := by kernel_rfl
theorem jRn1_nf (K : KV) (again : KF) (ps : List Go.Value) (i : Nat) (n : Nat) (els : List Go.Value) : jRn1 K again ps i n els = (Sp (decide ((↑i : Int) < (↑(List.length ps) : Int))) (((0 : Int) ≤ (↑i : Int) ∧ (↑i : Int) < (↑(List.length ps) : Int)) ∧ nth ps (Int.toNat (↑(Int.toNat (↑i : Int)) : Int)) = Option.some (Value.agg (Array.mk [Value.string (paAt ps (↑(Int.toNat (↑i : Int)) : Int)), Value.string (pbAt ps (↑(Int.toNat (↑i : Int)) : Int))])) ∧ Sp (!eqL (Array.toList (ByteArray.data (pbAt ps (↑(Int.toNat (↑i : Int)) : Int)))) (Array.toList (ByteArray.data (ByteArray.mk #[])))) ((∃ (ks : LB), els = stv ks ∧ n = List.length ks ∧ List.length ks ≤ (3000000 : Nat)) ∧ HF (Value.func (Go.Fn.yield (2 : Nat)) (Array.mk ps) (Array.mk [])) ∧ HF (Value.agg (Array.mk (stv (insL (unL els) (Array.toList (ByteArray.data (pbAt ps (↑(Int.toNat (↑i : Int)) : Int)))))))) ∧ again (T.node (T.node (T.node (T.node T.leaf (Option.some (Value.slice (Option.some (Go.Addr.mk (0 : Nat) (0 : Nat) Option.none)) (List.length (insL (unL els) (Array.toList (ByteArray.data (pbAt ps (↑(Int.toNat (↑i : Int)) : Int)))))) (18446744073709551620 : Nat))) T.leaf) Option.none (T.node (T.node T.leaf (Option.some (Value.func (Go.Fn.yield (2 : Nat)) (Array.mk ps) (Array.mk []))) T.leaf) Option.none T.leaf)) Option.none (T.node T.leaf Option.none (T.node (T.node T.leaf (Option.some (Value.int IntKind.i64 (IntKind.wrap IntKind.i64 ((↑i : Int) + (1 : Int))))) T.leaf) Option.none T.leaf))) Option.none (T.node (T.node T.leaf Option.none (T.node (T.node T.leaf (Option.some (Value.int IntKind.i64 (↑(List.length ps) : Int))) T.leaf) Option.none T.leaf)) Option.none T.leaf)) (AH.mk (T.node T.leaf (Option.some (AObj.gro (stv (insL (unL els) (Array.toList (ByteArray.data (pbAt ps (↑(Int.toNat (↑i : Int)) : Int)))))) [] (9 : Nat))) T.leaf) (1 : Nat))) (HF (Value.func (Go.Fn.yield (2 : Nat)) (Array.mk ps) (Array.mk [])) ∧ HF (Value.agg (Array.mk els)) ∧ again (T.node (T.node (T.node (T.node T.leaf (Option.some (Value.slice (Option.some (Go.Addr.mk (0 : Nat) (0 : Nat) Option.none)) n (18446744073709551620 : Nat))) T.leaf) Option.none (T.node (T.node T.leaf (Option.some (Value.func (Go.Fn.yield (2 : Nat)) (Array.mk ps) (Array.mk []))) T.leaf) Option.none T.leaf)) Option.none (T.node T.leaf Option.none (T.node (T.node T.leaf (Option.some (Value.int IntKind.i64 (IntKind.wrap IntKind.i64 ((↑i : Int) + (1 : Int))))) T.leaf) Option.none T.leaf))) Option.none (T.node (T.node T.leaf Option.none (T.node (T.node T.leaf (Option.some (Value.int IntKind.i64 (↑(List.length ps) : Int))) T.leaf) Option.none T.leaf)) Option.none T.leaf)) (AH.mk (T.node T.leaf (Option.some (AObj.gro els [] (9 : Nat))) T.leaf) (1 : Nat)))) (K (Value.tuple (Array.mk [Value.slice (Option.some (Go.Addr.mk (0 : Nat) (0 : Nat) Option.none)) n (18446744073709551620 : Nat), Value.int IntKind.i64 (0 : Int)])) (AH.mk (T.node T.leaf (Option.some (AObj.gro els [] (9 : Nat))) T.leaf) (1 : Nat)))) := by kernel_rfl
def rn (l : List (SB × SB)) : LB := (nmL l).foldl insL []
theorem rn_succ {l : List (SB × SB)} {i : Nat} (h : i < l.length) : rn (l.take (i + 1)) = bif eqL l[i].2.data.toList [] then rn (l.take i) else insL (rn (l.take i)) l[i].2.data.toList := by
  unfold rn
  rw [nmL_succ h]
  cases eqL l[i].2.data.toList [] with
  | true => rfl
  | false => simp only [cond_false, List.foldl_append]; rfl
theorem fold_len : ∀ (ns acc : LB), (ns.foldl insL acc).length ≤ acc.length + ns.length
  | [], acc => by simp
  | x :: ns, acc => by
    have h1 := fold_len ns (insL acc x)
    have h2 := insL_len acc x
    simp only [List.foldl_cons, List.length_cons]; omega
theorem rn_len (l : List (SB × SB)) : (rn l).length ≤ l.length := by
  have h1 := fold_len (nmL l) []
  have h2 := nmL_len l
  unfold rn; simp at h1; omega
theorem frz_st {A : AH} {B n : Nat} {els tl : List Value} {e : TypeId} {l : LB} (hg : A.t.get B = some (.gro els tl e)) (h0 : els ++ tl = stv l) (hn : n ≤ l.length) : Frz A (.slice (some ⟨B, 0, none⟩) n (unk + 3 + 1)) (.func (.yield 1) ⟨stv (l.take n)⟩ ⟨[]⟩) := by
  have hsz : ∀ x ∈ stv l, x.cells.size = 1 := fun x hx => by obtain ⟨p, _, rfl⟩ := List.mem_map.1 hx; rfl
  have ht : ((stv l).drop 0).take n = stv (l.take n) := by rw [List.drop_zero]; unfold stv; rw [List.map_take]
  refine .gsl (lo := 0) (els0 := stv l) (c2 := cellsL (stv (l.take n))) hg h0 (by kernel_rfl) (by kernel_rfl) (by decide) rfl hsz (by rw [st_len]; omega) ?_ rfl (fun x hx => by obtain ⟨p, _, rfl⟩ := List.mem_map.1 hx; rfl) (by rw [st_len, List.length_take]; omega)
  rw [ht]
  exact FrzL.same fun x hx => st_cells (l.take n) x (by rw [List.append_nil]; exact hx)
def rnS (s : SB) : LB := bif decide (qE s = 0) then rn (pcL s) else []
def rnR (s : SB) : Value := .tuple ⟨[dat 1 (stv (rnS s)), .int .i64 (qE s)]⟩
theorem M_loop {K : KV} (l : List (SB × SB)) (hl : l.length ≤ 3000000) (hK : K (.tuple ⟨[.slice (some ⟨0, 0, none⟩) (rn l).length (unk + 3 + 1), .int .i64 0]⟩) (hN (stv (rn l)))) :
    LAtZ XM 1 ntM ⟨.leaf, 0⟩ bdM [1, 1, 1, 1, 0, 1, 0] (kFinM K) (frM (pv l) 0 0) (hN []) := by
  refine LAtZ.step XM_ok rfl [(.slot 7, 9, 1)] [] [] [7, 19, 20, 21] (by kernel_rfl) (fun k F A => ∃ i : Nat, F = frM (pv l) i (rn (l.take i)).length ∧ A = hN (stv (rn (l.take i))) ∧ i + k = l.length) ?_ (k := l.length) ⟨0, rfl, rfl, by simp⟩
  rintro k F A ⟨i, rfl, rfl, hk⟩
  refine (jRn1_nf K _ _ i _ _).mpr ?_
  refine Sp.intro (fun c => ?_) (fun c => ?_)
  · have hlt : i < l.length := by simpa [pv_len] using c
    have hw : IntKind.i64.wrap ((i : Int) + 1) = ((i + 1 : Nat) : Int) := by rw [i64_in (by omega) (by omega)]; rfl
    have hnl := rn_len (l.take i)
    have htl : (l.take i).length ≤ 3000000 := by rw [List.length_take]; omega
    have hsu := rn_succ hlt
    simp only [Int.toNat_natCast, pa_at hlt, pb_at hlt, hw, unL_st]
    refine ⟨by rw [pv_len]; omega, pv_nth hlt, Sp.intro (fun c1 => ?_) (fun c1 => ?_)⟩
    · have c1 : eqL l[i].2.data.toList [] = false := by
        cases h : eqL l[i].2.data.toList [] with
        | false => rfl
        | true =>
          have : (!eqL l[i].2.data.toList (ByteArray.mk #[]).data.toList) = (!eqL l[i].2.data.toList []) := rfl
          rw [this, h] at c1; cases c1
      rw [c1] at hsu
      have hsu : rn (l.take (i + 1)) = insL (rn (l.take i)) l[i].2.data.toList := hsu
      rw [← hsu]
      exact ⟨⟨_, rfl, rfl, by omega⟩, HF_dpv l, .agg (HF_st _), k - 1, by omega, i + 1, rfl, rfl, by omega⟩
    · have c1 : eqL l[i].2.data.toList [] = true := by
        cases h : eqL l[i].2.data.toList [] with
        | true => rfl
        | false =>
          have : (!eqL l[i].2.data.toList (ByteArray.mk #[]).data.toList) = (!eqL l[i].2.data.toList []) := rfl
          rw [this, h] at c1; cases c1
      rw [c1] at hsu
      have hsu : rn (l.take (i + 1)) = rn (l.take i) := hsu
      rw [← hsu]
      exact ⟨HF_dpv l, .agg (HF_st _), k - 1, by omega, i + 1, rfl, rfl, by omega⟩
  · have hge : l.length ≤ i := by simp [pv_len] at c; omega
    rw [List.take_of_length_le hge]
    exact hK
theorem rn_walk (s : SB) : WalkZ envX Proofs.Tryz.f16 [.string s] ⟨.leaf, 0⟩ (rnR s) := by
  refine sxFnZ_walk XM_ok (d := 1) ((jRn_nf _ s).mpr ?_)
  refine Sp.intro (fun c => ?_) (fun c => ⟨HF_dpv _, .agg HF.nil, ?_⟩)
  · have c : decide (qE s = 0) = false := by simpa using c
    have e : rnR s = .tuple ⟨[dat 1 [], .int .i64 (qE s)]⟩ := by unfold rnR rnS; rw [c]; rfl
    rw [e]; exact .tuple (.cons (.nils 1) (.cons (.same (HFi _ _)) .nil))
  · have h : qE s = 0 := by simpa using c
    have hs := qE_size h
    rw [qL_pcL h]
    refine M_loop (pcL s) (by have := pcL_len s; omega) ?_
    have e : rnR s = .tuple ⟨[dat 1 (stv ((rn (pcL s)).take (rn (pcL s)).length)), .int .i64 0]⟩ := by unfold rnR rnS; rw [decide_eq_true h, h, List.take_length]; rfl
    rw [e]
    exact .tuple (.cons (frz_st rfl (List.append_nil _) (Nat.le_refl _)) (.cons (.same (HFi _ _)) .nil))
def rnX : List Value → Option Value
  | [.string s] => some (.tuple ⟨[.func (.yield 1) ⟨stv (rnS s)⟩ ⟨[]⟩, .int .i64 (qE s)]⟩)
  | _ => none
theorem rn_tab : ∀ args A p v A', pureR (fun _ => none) rnX args A = some (p, v, A') → PH p → CallAt envX 16 args A v A' := walk_tab envX_ok envX_gl (fn := Proofs.Tryz.f16) rfl fun args v h hp => by
  unfold rnX at h
  split at h
  · simp only [Option.some.injEq] at h
    subst h
    exact ⟨HF.cons (.scal rfl) HF.nil, rn_walk _⟩
  · cases h
end
end Go.T9

/- A part of the proof. -/
import Derived.Test.YtgbjgffiejlooaaGreatDoorX8
import Derived.KernelRfl
set_option linter.unusedVariables false
set_option linter.unusedSimpArgs false
set_option maxRecDepth 1000000
set_option maxHeartbeats 1000000
namespace Go.T9
open Go Go.AM Go.MK Go.Proofs.Tryz
noncomputable section
theorem jAk_nf (m : Int) (Q : Value → Prop) (QA : KV) (r : SR) : jAk m Q QA r = (ByteArray.size r.meth < 9223372036854775808 ∧ Sp (!cG r.meth) (Q (Vi 8)) (Sp (!decide (qE r.whr = 0)) (Sp (!decide (qE r.whr = 0)) (Q (Vi (qE r.whr))) (Sp (decide (50 < (r.heads.length : Int))) (Q (Vi 3)) (Sp (decide (50 < (r.takes.length : Int))) (Q (Vi 3)) (Sp (decide (50 < (r.tests.length : Int))) (Q (Vi 3)) (HF (Vd 2 r.heads) ∧ HF (stpV r) ∧ LAtZ (XAk m) 3 f65.ntmps (AH.mk Lf 0) (ae f65) [1, 1, 1, 1, 0, 1, 0] (finK (SX.E (XAk m)) f65.results.toList (au Q QA)) (No (Ns (No Lf (No Lf (No (Sg (Vi r.heads.length)) Lf))) (Value.pointer (some ⟨0, 0, none⟩)) Lf) (No (No Lf (No Lf (No (Sg (Vi 0)) Lf))) (No (No Lf (No (Sg (Vd 2 r.heads)) Lf)) Lf))) (AH.mk (Sg (AObj.cells (stcL r) 88)) 1)))))) (Sp (decide (50 < (r.heads.length : Int))) (Q (Vi 3)) (Sp (decide (50 < (r.takes.length : Int))) (Q (Vi 3)) (Sp (decide (50 < (r.tests.length : Int))) (Q (Vi 3)) (HF (Vd 2 r.heads) ∧ HF (stpV r) ∧ LAtZ (XAk m) 3 f65.ntmps (AH.mk Lf 0) (ae f65) [1, 1, 1, 1, 0, 1, 0] (finK (SX.E (XAk m)) f65.results.toList (au Q QA)) (No (Ns (No Lf (No Lf (No (Sg (Vi r.heads.length)) Lf))) (Value.pointer (some ⟨0, 0, none⟩)) Lf) (No (No Lf (No Lf (No (Sg (Vi 0)) Lf))) (No (No Lf (No (Sg (Vd 2 r.heads)) Lf)) Lf))) (AH.mk (Sg (AObj.cells (stcL r) 88)) 1))))))) := by kernel_rfl
theorem yI (m : Int) (Q : Value → Prop) (QA : KV) (again : KF) (i : Nat) (r : SR) : jAk1 m Q QA again i r = (Sp (decide ((i : Int) < (r.heads.length : Int))) ((0 ≤ (i : Int) ∧ (i : Int) < (r.heads.length : Int)) ∧ nth r.heads (i) = some (Va [Vs (paAt r.heads i), Vs (pbAt r.heads i)]) ∧ ByteArray.size (paAt r.heads i) < 9223372036854775808 ∧ Sp (!tokS (paAt r.heads i)) (Q (Vi 8)) ((ByteArray.size (paAt r.heads i) < 4294967281 ∧ ∀ (b : UInt8), b ∈ (paAt r.heads i).data.toList → UInt8.toNat b < 128) ∧ Sp (frmB (paAt r.heads i)) (Q (Vi 8)) (Sp (!decide (qE (pbAt r.heads i) = 0)) (Sp (!decide (qE (pbAt r.heads i) = 0)) (Q (Vi (qE (pbAt r.heads i)))) (HF (Vd 2 r.heads) ∧ HF (stpV r) ∧ again (No (Ns (No Lf (No Lf (No (Sg (Vi r.heads.length)) Lf))) (Value.pointer (some ⟨0, 0, none⟩)) Lf) (No (No Lf (No Lf (No (Sg (Vi (Wi ((i : Int) + 1)))) Lf))) (No (No Lf (No (Sg (Vd 2 r.heads)) Lf)) Lf))) (AH.mk (Sg (AObj.cells (stcL r) 88)) 1))) (HF (Vd 2 r.heads) ∧ HF (stpV r) ∧ again (No (Ns (No Lf (No Lf (No (Sg (Vi r.heads.length)) Lf))) (Value.pointer (some ⟨0, 0, none⟩)) Lf) (No (No Lf (No Lf (No (Sg (Vi (Wi ((i : Int) + 1)))) Lf))) (No (No Lf (No (Sg (Vd 2 r.heads)) Lf)) Lf))) (AH.mk (Sg (AObj.cells (stcL r) 88)) 1))))) (Sp (!decide (qE r.body = 0)) (Sp (!decide (qE r.body = 0)) (Q (Vi (qE r.body))) (HF (Vd 4 r.takes) ∧ HF (stpV r) ∧ LAtZ (XAk m) 3 f65.ntmps (AH.mk Lf 0) (ae f65) [1, 1, 1, 1, 1, 1, 0, 1, 0] (finK (SX.E (XAk m)) f65.results.toList (au Q QA)) (No (Ns (No Lf (No Lf (No (No (Sg (Vi 0)) Lf) Lf))) (Value.pointer (some ⟨0, 0, none⟩)) (No (No Lf (No (No (Sg (Vd 4 r.takes)) Lf) Lf)) Lf)) (No Lf (No (No Lf (No (No (Sg (Vi r.takes.length)) Lf) Lf)) Lf))) (AH.mk (Sg (AObj.cells (stcL r) 88)) 1))) (HF (Vd 4 r.takes) ∧ HF (stpV r) ∧ LAtZ (XAk m) 3 f65.ntmps (AH.mk Lf 0) (ae f65) [1, 1, 1, 1, 1, 1, 0, 1, 0] (finK (SX.E (XAk m)) f65.results.toList (au Q QA)) (No (Ns (No Lf (No Lf (No (No (Sg (Vi 0)) Lf) Lf))) (Value.pointer (some ⟨0, 0, none⟩)) (No (No Lf (No (No (Sg (Vd 4 r.takes)) Lf) Lf)) Lf)) (No Lf (No (No Lf (No (No (Sg (Vi r.takes.length)) Lf) Lf)) Lf))) (AH.mk (Sg (AObj.cells (stcL r) 88)) 1)))) := by kernel_rfl
theorem yH (m : Int) (Q : Value → Prop) (QA : KV) (again : KF) (i : Nat) (r : SR) : jAk2 m Q QA again i r = (Sp (decide ((i : Int) < (r.takes.length : Int))) ((0 ≤ (i : Int) ∧ (i : Int) < (r.takes.length : Int)) ∧ nth r.takes (i) = some (Va [Vi (tk0 r.takes i), Vs (tk1 r.takes i), Vs (tk2 r.takes i), Vs (tk3 r.takes i)]) ∧ (ByteArray.size (tk1 r.takes i) ≤ 1048576 ∧ ByteArray.size (tk2 r.takes i) ≤ 1048576) ∧ Sp (!decide (tkE (tk0 r.takes i) (tk1 r.takes i) (tk2 r.takes i) (tk3 r.takes i) = 0)) (Q (Vi (tkE (tk0 r.takes i) (tk1 r.takes i) (tk2 r.takes i) (tk3 r.takes i)))) (HF (Vd 4 r.takes) ∧ HF (stpV r) ∧ again (No (Ns (No Lf (No Lf (No (No (Sg (Vi (Wi ((i : Int) + 1)))) Lf) Lf))) (Value.pointer (some ⟨0, 0, none⟩)) (No (No Lf (No (No (Sg (Vd 4 r.takes)) Lf) Lf)) Lf)) (No Lf (No (No Lf (No (No (Sg (Vi r.takes.length)) Lf) Lf)) Lf))) (AH.mk (Sg (AObj.cells (stcL r) 88)) 1))) (HF (Vd 5 r.tests) ∧ LAtZ (XAk m) 3 f65.ntmps (AH.mk Lf 0) (ae f65) [1, 1, 1, 1, 1, 1, 1, 0, 1, 0] (finK (SX.E (XAk m)) f65.results.toList (au Q QA)) (No (No (No (No Lf (No Lf (No (Sg (Vi r.tests.length)) Lf))) Lf) Lf) (No (No (No Lf (No Lf (No (Sg (Vi 0)) Lf))) Lf) (No Lf (No (No Lf (No (Sg (Vd 5 r.tests)) Lf)) Lf)))) (AH.mk Lf 0))) := by kernel_rfl
theorem yG (m : Int) (Q : Value → Prop) (QA : KV) (again : KF) (i : Nat) (tests : List Value) : jAk3 m Q QA again i tests = (Sp (decide ((i : Int) < (tests.length : Int))) ((0 ≤ (i : Int) ∧ (i : Int) < (tests.length : Int)) ∧ nth tests (i) = some (Va [Vi (ts0 tests i), Vs (ts1 tests i), Vs (ts2 tests i), Vi (ts3 tests i), Vi (ts4 tests i)]) ∧ Sp (!decide (tsE (ts0 tests i) (ts1 tests i) (ts2 tests i) (ts3 tests i) (ts4 tests i) = 0)) (Q (Vi (tsE (ts0 tests i) (ts1 tests i) (ts2 tests i) (ts3 tests i) (ts4 tests i)))) (HF (Vd 5 tests) ∧ again (No (No (No (No Lf (No Lf (No (Sg (Vi tests.length)) Lf))) Lf) Lf) (No (No (No Lf (No Lf (No (Sg (Vi (Wi ((i : Int) + 1)))) Lf))) Lf) (No Lf (No (No Lf (No (Sg (Vd 5 tests)) Lf)) Lf)))) (AH.mk Lf 0))) (Q (Vi 0))) := by kernel_rfl
abbrev TK := Int × SB × SB × SB
abbrev TS := Int × SB × SB × Int × Int
def tkv1 (t : TK) : Value := tkv t.1 t.2.1 t.2.2.1 t.2.2.2
def tsv1 (t : TS) : Value := tsv t.1 t.2.1 t.2.2.1 t.2.2.2.1 t.2.2.2.2
def tkvs (l : List TK) : List Value := l.map tkv1
def tsvs (l : List TS) : List Value := l.map tsv1
theorem c8 (l : List TK) : (tkvs l).length = l.length := by simp [tkvs]
theorem c7 (l : List TS) : (tsvs l).length = l.length := by simp [tsvs]
theorem gD {l : List TK} {i : Nat} (h : i < l.length) : nth (tkvs l) i = some (.agg ⟨[.int .i64 l[i].1, .string l[i].2.1, .string l[i].2.2.1, .string l[i].2.2.2]⟩) := by
 rw [aI]; simp [tkvs, tkv1, tkv, List.getElem?_eq_getElem h]
theorem fD {l : List TS} {i : Nat} (h : i < l.length) : nth (tsvs l) i = some (.agg ⟨[.int .i64 l[i].1, .string l[i].2.1, .string l[i].2.2.1, .int .i64 l[i].2.2.2.1, .int .i64 l[i].2.2.2.2]⟩) := by
 rw [aI]; simp [tsvs, tsv1, tsv, List.getElem?_eq_getElem h]
theorem sY {l : List TK} {i : Nat} (h : i < l.length) : tk0 (tkvs l) (i : Int) = l[i].1 := by simp only [tk0, Int.toNat_natCast, gD h]
theorem sX {l : List TK} {i : Nat} (h : i < l.length) : tk1 (tkvs l) (i : Int) = l[i].2.1 := by simp only [tk1, Int.toNat_natCast, gD h]
theorem sW {l : List TK} {i : Nat} (h : i < l.length) : tk2 (tkvs l) (i : Int) = l[i].2.2.1 := by simp only [tk2, Int.toNat_natCast, gD h]
theorem sV {l : List TK} {i : Nat} (h : i < l.length) : tk3 (tkvs l) (i : Int) = l[i].2.2.2 := by simp only [tk3, Int.toNat_natCast, gD h]
theorem sS {l : List TS} {i : Nat} (h : i < l.length) : ts0 (tsvs l) (i : Int) = l[i].1 := by simp only [ts0, Int.toNat_natCast, fD h]
theorem sR {l : List TS} {i : Nat} (h : i < l.length) : ts1 (tsvs l) (i : Int) = l[i].2.1 := by simp only [ts1, Int.toNat_natCast, fD h]
theorem sQ {l : List TS} {i : Nat} (h : i < l.length) : ts2 (tsvs l) (i : Int) = l[i].2.2.1 := by simp only [ts2, Int.toNat_natCast, fD h]
theorem sP {l : List TS} {i : Nat} (h : i < l.length) : ts3 (tsvs l) (i : Int) = l[i].2.2.2.1 := by simp only [ts3, Int.toNat_natCast, fD h]
theorem sO {l : List TS} {i : Nat} (h : i < l.length) : ts4 (tsvs l) (i : Int) = l[i].2.2.2.2 := by simp only [ts4, Int.toNat_natCast, fD h]
theorem gw (l : List TK) : ∀ x ∈ tkvs l, HF x := fun x hx => by obtain ⟨p, _, rfl⟩ := List.mem_map.1 hx; exact AP _ _ _ _
theorem gv (l : List TS) : ∀ x ∈ tsvs l, HF x := fun x hx => by obtain ⟨p, _, rfl⟩ := List.mem_map.1 hx; exact AO _ _ _ _ _
def heE : List (SB × SB) → Int
 | [] => 0
 | p :: l => bif !tokS p.1 then 8 else bif frmB p.1 then 8 else bif !decide (qE p.2 = 0) then qE p.2 else heE l
def tkEs : List TK → Int
 | [] => 0
 | t :: l => bif !decide (tkE t.1 t.2.1 t.2.2.1 t.2.2.2 = 0) then tkE t.1 t.2.1 t.2.2.1 t.2.2.2 else tkEs l
def tsEs : List TS → Int
 | [] => 0
 | t :: l => bif !decide (tsE t.1 t.2.1 t.2.2.1 t.2.2.2.1 t.2.2.2.2 = 0) then tsE t.1 t.2.1 t.2.2.1 t.2.2.2.1 t.2.2.2.2 else tsEs l
def akE (meth whr body : SB) (ps : List (SB × SB)) (ts : List TK) (cs : List TS) : Int :=
 bif !cG meth then 8 else bif !decide (qE whr = 0) then qE whr else bif decide (50 < (ps.length : Int)) then 3 else bif decide (50 < (ts.length : Int)) then 3 else bif decide (50 < (cs.length : Int)) then 3 else
 bif !decide (heE ps = 0) then heE ps else bif !decide (qE body = 0) then qE body else bif !decide (tkEs ts = 0) then tkEs ts else tsEs cs
theorem lz (p : SB × SB) (l : List (SB × SB)) : heE (p :: l) = bif !tokS p.1 then 8 else bif frmB p.1 then 8 else bif !decide (qE p.2 = 0) then qE p.2 else heE l := rfl
theorem iV (t : TK) (l : List TK) : tkEs (t :: l) = bif !decide (tkE t.1 t.2.1 t.2.2.1 t.2.2.2 = 0) then tkE t.1 t.2.1 t.2.2.1 t.2.2.2 else tkEs l := rfl
theorem iU (t : TS) (l : List TS) : tsEs (t :: l) = bif !decide (tsE t.1 t.2.1 t.2.2.1 t.2.2.2.1 t.2.2.2.2 = 0) then tsE t.1 t.2.1 t.2.2.1 t.2.2.2.1 t.2.2.2.2 else tsEs l := rfl
def PsP (ps : List (SB × SB)) : Prop := ∀ p ∈ ps, p.1.size ≤ 1048576
def TsP (ts : List TK) : Prop := ∀ t ∈ ts, t.2.1.size ≤ 1048576 ∧ t.2.2.1.size ≤ 1048576
theorem sy (m : Int) (Q : Value → Prop) (QA : KV) (l : List TS) (hl : l.length ≤ 50) (hQ : Q (.int .i64 (tsEs l))) : LAtZ (XAk m) 3 (Func.ntmps f65) ⟨.leaf, 0⟩ (ae f65) [1, 1, 1, 1, 1, 1, 1, 0, 1, 0] (finK (XAk m).E (f65.results).toList (au Q QA)) (o8 (tsvs l) 0) ⟨.leaf, 0⟩ := by
 have hlen := c7 l
 refine LAtZ.step (lW m) rfl [] [] [] [86, 87, 88] (by kernel_rfl) (fun k F A => ∃ i : Nat, F = o8 (tsvs l) i ∧ A = ⟨.leaf, 0⟩ ∧ i + k = l.length ∧ tsEs l = tsEs (l.drop i)) ?_ (k := l.length) ⟨0, rfl, rfl, by omega, rfl⟩
 rintro k F A ⟨i, rfl, rfl, hk, he⟩
 refine (yG m _ _ _ i _).mpr ?_
 rw [hlen]
 refine Sp.intro (fun c => ?_) (fun c => ?_)
 · have hi : i < l.length := by have := odt c; omega
   have hw := i64s i (by omega)
   rw [List.drop_eq_getElem_cons hi, iU] at he
   simp only [Int.toNat_natCast, sS hi, sR hi, sQ hi, sP hi, sO hi, fD hi, hw]
   refine ⟨by omega, by first | trivial | rfl, Sp.intro (fun h => ?_) (fun h => ⟨.dat (gv l), k - 1, by omega, i + 1, by rw [← hlen]; rfl, by first | trivial | rfl, by omega, ?_⟩)⟩
   · rw [h] at he
     rw [he] at hQ; exact hQ
   · rw [h] at he; exact he
 · have hn : l.drop i = [] := List.drop_eq_nil_of_le (by have := odf c; omega)
   rw [hn] at he
   rw [he] at hQ; exact hQ
theorem sA (m : Int) (Q : Value → Prop) (QA : KV) (r : SR) (ps : List (SB × SB)) (ts : List TK) (cs : List TS) (hh : r.heads = pv ps) (ht : r.takes = tkvs ts) (hc : r.tests = tsvs cs) (hr : HF (stpV r)) (hT : TsP ts) (hl : ts.length ≤ 50) (hl2 : cs.length ≤ 50) (hQ : Q (.int .i64 (bif !decide (tkEs ts = 0) then tkEs ts else tsEs cs))) :
 LAtZ (XAk m) 3 (Func.ntmps f65) ⟨.leaf, 0⟩ (ae f65) [1, 1, 1, 1, 1, 1, 0, 1, 0] (finK (XAk m).E (f65.results).toList (au Q QA)) (mK r.takes 0) (hSt r) := by
 have hlen := c8 ts
 have hlen2 := c7 cs
 refine LAtZ.step (lW m) rfl [] [] [88] [1, 73, 74, 75] (by kernel_rfl) (fun k F A => ∃ i : Nat, F = mK r.takes i ∧ A = hSt r ∧ i + k = ts.length ∧ tkEs ts = tkEs (ts.drop i)) ?_ (k := ts.length) ⟨0, rfl, rfl, by omega, rfl⟩
 rintro k F A ⟨i, rfl, rfl, hk, he⟩
 refine (yH m _ _ _ i r).mpr ?_
 rw [ht, hlen]
 refine Sp.intro (fun c => ?_) (fun c => ?_)
 · have hi : i < ts.length := by have := odt c; omega
   have hw := i64s i (by omega)
   rw [List.drop_eq_getElem_cons hi, iV] at he
   simp only [Int.toNat_natCast, sY hi, sX hi, sW hi, sV hi, gD hi, hw]
   refine ⟨by omega, by first | trivial | rfl, hT _ (List.getElem_mem hi), Sp.intro (fun h => ?_) (fun h => ⟨.dat (gw ts), hr, k - 1, by omega, i + 1, by rw [← hlen]; rfl, by first | trivial | rfl, by omega, ?_⟩)⟩
   · rw [h] at he
     rw [he] at hQ
     have h' : (!decide (tkE ts[i].1 ts[i].2.1 ts[i].2.2.1 ts[i].2.2.2 = 0)) = true := h
     simp only [cond_true, h'] at hQ; exact hQ
   · rw [h] at he; exact he
 · have hn : ts.drop i = [] := List.drop_eq_nil_of_le (by have := odf c; omega)
   rw [hn] at he
   rw [he] at hQ
   rw [hc, hlen2]
   have e := sy m Q QA cs hl2 hQ
   rw [show o8 (tsvs cs) 0 = (.node (.node (.node (.node .leaf none (.node .leaf none (.node (.node .leaf (some (.int .i64 cs.length)) .leaf) none .leaf))) none .leaf) none .leaf) none (.node (.node (.node .leaf none (.node .leaf none (.node (.node .leaf (some (.int .i64 (0 : Nat))) .leaf) none .leaf))) none .leaf) none (.node .leaf none (.node (.node .leaf none (.node (.node .leaf (some (dat 5 (tsvs cs))) .leaf) none .leaf)) none .leaf)))) by unfold o8; rw [hlen2]] at e
   exact ⟨.dat (gv cs), e⟩
theorem sB (m : Int) (Q : Value → Prop) (QA : KV) (r : SR) (ps : List (SB × SB)) (ts : List TK) (cs : List TS) (hh : r.heads = pv ps) (ht : r.takes = tkvs ts) (hc : r.tests = tsvs cs) (hr : HF (stpV r)) (hP : PsP ps) (hT : TsP ts) (hl0 : ps.length ≤ 50) (hl : ts.length ≤ 50) (hl2 : cs.length ≤ 50) (hQ : Q (.int .i64 (bif !decide (heE ps = 0) then heE ps else bif !decide (qE r.body = 0) then qE r.body else bif !decide (tkEs ts = 0) then tkEs ts else tsEs cs))) :
 LAtZ (XAk m) 3 (Func.ntmps f65) ⟨.leaf, 0⟩ (ae f65) [1, 1, 1, 1, 0, 1, 0] (finK (XAk m).E (f65.results).toList (au Q QA)) (o9 r.heads 0) (hSt r) := by
 have hlen := bE ps
 have hlen2 := c8 ts
 refine LAtZ.step (lW m) rfl [] [] [88] [1, 42, 43, 44] (by kernel_rfl) (fun k F A => ∃ i : Nat, F = o9 r.heads i ∧ A = hSt r ∧ i + k = ps.length ∧ heE ps = heE (ps.drop i)) ?_ (k := ps.length) ⟨0, rfl, rfl, by omega, rfl⟩
 rintro k F A ⟨i, rfl, rfl, hk, he⟩
 refine (yI m _ _ _ i r).mpr ?_
 rw [hh, hlen]
 refine Sp.intro (fun c => ?_) (fun c => ?_)
 · have hi : i < ps.length := by have := odt c; omega
   have hw := i64s i (by omega)
   rw [List.drop_eq_getElem_cons hi, lz] at he
   have hsz := hP _ (List.getElem_mem hi)
   have hag : HF (dat 2 (pv ps)) := .dat (eK ps)
   simp only [Int.toNat_natCast, pa_at hi, pb_at hi, k7 hi, hw]
   have hgo : tokS ps[i].1 = true → frmB ps[i].1 = false → (!decide (qE ps[i].2 = 0)) = false → heE ps = heE (ps.drop (i + 1)) := fun a b d => by rw [a, b, d] at he; exact he
   refine ⟨by omega, by first | trivial | rfl, by omega, Sp.intro (fun h => ?_) (fun h => ?_)⟩
   · rw [h] at he
     rw [he] at hQ; exact hQ
   have htk : tokS ps[i].1 = true := by simpa using h
   refine ⟨⟨by omega, nh htk⟩, Sp.intro (fun h1 => ?_) (fun h1 => Sp.intro (fun h2 => Sp.intro (fun h3 => ?_) (fun h3 => ?_)) (fun h2 => ?_))⟩
   · rw [htk, h1] at he
     rw [he] at hQ; exact hQ
   · have h2' : decide (qE ps[i].2 = 0) = false := by simpa using h2
     rw [htk, h1, h2] at he
     rw [he] at hQ
     simp only [Bool.not_true, cond_false, cond_true, h2', Bool.not_false] at hQ; exact hQ
   · rw [h2] at h3; cases h3
   · exact ⟨hag, hr, k - 1, by omega, i + 1, by rw [← hlen]; rfl, by first | trivial | rfl, by omega, hgo htk h1 h2⟩
 · have hn : ps.drop i = [] := List.drop_eq_nil_of_le (by have := odf c; omega)
   rw [hn] at he
   rw [he] at hQ
   rw [ht, hlen2]
   have e : (!decide (qE r.body = 0)) = false → LAtZ (XAk m) 3 (Func.ntmps f65) ⟨.leaf, 0⟩ (ae f65) [1, 1, 1, 1, 1, 1, 0, 1, 0] (finK (XAk m).E (f65.results).toList (au Q QA)) (mK r.takes 0) (hSt r) := fun hb => sA m Q QA r ps ts cs hh ht hc hr hT hl hl2 (by
    simp only [heE, decide_true, Bool.not_true, cond_false, hb] at hQ; exact hQ)
   rw [show mK r.takes 0 = (.node (.node (.node .leaf none (.node .leaf none (.node (.node (.node .leaf (some (.int .i64 (0 : Nat))) .leaf) none .leaf) none .leaf))) (some (.pointer (some ⟨0, 0, none⟩))) (.node (.node .leaf none (.node (.node (.node .leaf (some (dat 4 (tkvs ts))) .leaf) none .leaf) none .leaf)) none .leaf)) none (.node .leaf none (.node (.node .leaf none (.node (.node (.node .leaf (some (.int .i64 ts.length)) .leaf) none .leaf) none .leaf)) none .leaf))) by unfold mK; rw [ht, hlen2]] at e
   have hb1 : ∀ h : (!decide (qE r.body = 0)) = true, Q (.int .i64 (qE r.body)) := fun h => by
    simp only [heE, decide_true, Bool.not_true, cond_false, h, cond_true] at hQ; exact hQ
   refine Sp.intro (fun h1 => Sp.intro (fun h2 => hb1 h1) (fun h2 => ?_)) (fun h1 => ⟨.dat (gw ts), hr, e h1⟩)
   rw [h1] at h2; cases h2
theorem zU (m : Int) (r : SR) (ps : List (SB × SB)) (ts : List TK) (cs : List TS) (hh : r.heads = pv ps) (ht : r.takes = tkvs ts) (hc : r.tests = tsvs cs) (hr : HF (stpV r)) (hm : r.meth.size ≤ 1048576) (hP : PsP ps) (hT : TsP ts) :
 bt (envM m) f65 [stpV r] ⟨.leaf, 0⟩ (.int .i64 (akE r.meth r.whr r.body ps ts cs)) := by
 refine ar (lW m) (d := 3) (HFi _ _) ((jAk_nf m _ _ r).mpr ?_)
 have e1 : o9 r.heads 0 = (.node (.node (.node .leaf none (.node .leaf none (.node (.node .leaf (some (.int .i64 ps.length)) .leaf) none .leaf))) (some (.pointer (some ⟨0, 0, none⟩))) .leaf) none (.node (.node .leaf none (.node .leaf none (.node (.node .leaf (some (.int .i64 (0 : Nat))) .leaf) none .leaf))) none (.node (.node .leaf none (.node (.node .leaf (some (dat 2 (pv ps))) .leaf) none .leaf)) none .leaf))) := by unfold o9; rw [hh, bE]
 rw [hh, ht, hc, bE, c8, c7]
 have hrest : cG r.meth = true → decide (qE r.whr = 0) = true → (decide (50 < (ps.length : Int))) = false → (decide (50 < (ts.length : Int))) = false → (decide (50 < (cs.length : Int))) = false → _ := fun a b c d e => sB m (fun v2 => v2 = Value.int .i64 (akE r.meth r.whr r.body ps ts cs)) (fun v2 A2 => Frz A2 v2 (Value.int .i64 (akE r.meth r.whr r.body ps ts cs))) r ps ts cs hh ht hc hr hP hT (by have := odf c; omega) (by have := odf d; omega) (by have := odf e; omega) (by
  unfold akE; rw [a, b, c, d, e]; rfl)
 rw [e1] at hrest
 refine ⟨by omega, Sp.intro (fun h1 => ?_) (fun h1 => ?_)⟩
 · show Value.int .i64 8 = _
   unfold akE; rw [h1]; rfl
 have h1' : cG r.meth = true := by simpa using h1
 refine Sp.intro (fun h2 => Sp.intro (fun h3 => ?_) (fun h3 => ?_)) (fun h2 => ?_)
 · show Value.int .i64 (qE r.whr) = _
   unfold akE; rw [h1', h2]; rfl
 · rw [h2] at h3; cases h3
 have h2' : decide (qE r.whr = 0) = true := by simpa using h2
 refine Sp.intro (fun h3 => ?_) (fun h3 => Sp.intro (fun h4 => ?_) (fun h4 => Sp.intro (fun h5 => ?_) (fun h5 => ?_)))
 · show Value.int .i64 3 = _
   unfold akE; rw [h1', h2', h3]; rfl
 · show Value.int .i64 3 = _
   unfold akE; rw [h1', h2', h3, h4]; rfl
 · show Value.int .i64 3 = _
   unfold akE; rw [h1', h2', h3, h4, h5]; rfl
 · exact ⟨.dat (eK ps), hr, hrest h1' h2' h3 h4 h5⟩
def tabAf : Tab := [(120, aj bg mfX), (71, aj (fun _ => none) ctX), (121, aj bg trX), (122, aj bg fmX), (123, aj qG taX), (72, aj (fun _ => none) tsX)]
theorem qF (m : Int) : TabOk (envM m) tabAf := .cons (toM mr_tab) (.cons (toM nI) (.cons (toM tK) (.cons (toM fr_tab) (.cons (uP m) (.cons (toM sU) .nil)))))
def XAf (m : Int) : SX := ⟨envM m, tabAf, elAk, fun k => bif Nat.beq k 9 then .auto [88] [1, 47, 48, 49] else bif Nat.beq k 21 then .auto [88] [1, 82, 83, 84] else bif Nat.beq k 28 then .auto [] [95, 96, 97] else .unroll 3⟩
theorem lX (m : Int) : (XAf m).Ok := ⟨aE m, rfl, aF m, qF m⟩
def pb (heads : List Value) (i : Nat) : T Value := (Nd (Nd (Nd (Nd (Nd Lf none (Nd Lf (some (dat 2 heads)) Lf)) none Lf) none Lf) (some (.pointer (some ⟨0, 0, none⟩))) (Nd (Nd (Nd Lf none (Nd Lf (some (.int .i64 i)) Lf)) none Lf) none Lf)) none (Nd (Nd (Nd (Nd Lf none (Nd Lf (some (.int .i64 heads.length)) Lf)) none Lf) none Lf) none Lf))
def mL (takes : List Value) (i : Nat) : T Value := (Nd (Nd (Nd Lf none (Nd (Nd Lf none (Nd (Nd Lf (some (.int .i64 takes.length)) Lf) none Lf)) none Lf)) (some (.pointer (some ⟨0, 0, none⟩))) Lf) none (Nd (Nd Lf none (Nd (Nd Lf none (Nd (Nd Lf (some (.int .i64 i)) Lf) none Lf)) none Lf)) none (Nd (Nd (Nd Lf none (Nd (Nd Lf (some (dat 4 takes)) Lf) none Lf)) none Lf) none Lf)))
def pa (tests : List Value) (i : Nat) : T Value := (Nd (Nd (Nd (Nd (Nd (Nd Lf none (Nd Lf (some (dat 5 tests)) Lf)) none Lf) none Lf) none Lf) none (Nd (Nd (Nd (Nd Lf none (Nd Lf (some (.int .i64 i)) Lf)) none Lf) none Lf) none Lf)) none (Nd (Nd (Nd (Nd (Nd Lf none (Nd Lf (some (.int .i64 tests.length)) Lf)) none Lf) none Lf) none Lf) none Lf))
def jAf (m : Int) (Q : Value → Prop) (QA : KV) (r : SR) : Prop := ay (XAf m) 3 f70 [stpV r] ⟨.leaf, 0⟩ (au Q QA)
def jAf1 (m : Int) (Q : Value → Prop) (QA : KV) (again : KF) (i : Nat) (r : SR) : Prop := ax (XAf m) 3 (Func.ntmps f70) ⟨.leaf, 0⟩ (ae f70) [1, 1, 1, 1, 0, 1, 0] (finK (XAf m).E (f70.results).toList (au Q QA)) [] [] [88] [1, 47, 48, 49] again (pb r.heads i) (hSt r)
def jAf2 (m : Int) (Q : Value → Prop) (QA : KV) (again : KF) (i : Nat) (r : SR) : Prop := ax (XAf m) 3 (Func.ntmps f70) ⟨.leaf, 0⟩ (ae f70) [1, 1, 1, 1, 1, 1, 0, 1, 0] (finK (XAf m).E (f70.results).toList (au Q QA)) [] [] [88] [1, 82, 83, 84] again (mL r.takes i) (hSt r)
def jAf3 (m : Int) (Q : Value → Prop) (QA : KV) (again : KF) (i : Nat) (tests : List Value) : Prop := ax (XAf m) 3 (Func.ntmps f70) ⟨.leaf, 0⟩ (ae f70) [1, 1, 1, 1, 1, 1, 1, 0, 1, 0] (finK (XAf m).E (f70.results).toList (au Q QA)) [] [] [] [95, 96, 97] again (pa tests i) ⟨.leaf, 0⟩
theorem jAf_nf (m : Int) (Q : Value → Prop) (QA : KV) (r : SR) : jAf m Q QA r = (ByteArray.size r.meth < 9223372036854775808 ∧ Sp (!cG r.meth) (Q (Vi 8)) (Sp (!decide (qE r.whr = 0)) (Q (Vi (qE r.whr))) (Sp (decide (50 < (r.heads.length : Int))) (Q (Vi 3)) (Sp (decide (50 < (r.takes.length : Int))) (Q (Vi 3)) (Sp (decide (50 < (r.tests.length : Int))) (Q (Vi 3)) (HF (Vd 2 r.heads) ∧ HF (stpV r) ∧ LAtZ (XAf m) 3 f70.ntmps (AH.mk Lf 0) (ae f70) [1, 1, 1, 1, 0, 1, 0] (finK (SX.E (XAf m)) f70.results.toList (au Q QA)) (No (Ns (No (No (No Lf (Sg (Vd 2 r.heads))) Lf) Lf) (Value.pointer (some ⟨0, 0, none⟩)) (No (No (No Lf (Sg (Vi 0))) Lf) Lf)) (No (No (No (No Lf (Sg (Vi r.heads.length))) Lf) Lf) Lf)) (AH.mk (Sg (AObj.cells (stcL r) 88)) 1))))))) := by kernel_rfl
theorem yL (m : Int) (Q : Value → Prop) (QA : KV) (again : KF) (i : Nat) (r : SR) : jAf1 m Q QA again i r = (Sp (decide ((i : Int) < (r.heads.length : Int))) ((0 ≤ (i : Int) ∧ (i : Int) < (r.heads.length : Int)) ∧ nth r.heads (i) = some (Va [Vs (paAt r.heads i), Vs (pbAt r.heads i)]) ∧ ByteArray.size (paAt r.heads i) < 9223372036854775808 ∧ Sp (!tokS (paAt r.heads i)) (Q (Vi 8)) (ByteArray.size (paAt r.heads i) < 9223372036854775808 ∧ Sp (frmB (paAt r.heads i)) (Q (Vi 8)) (Sp (!decide (qE (pbAt r.heads i) = 0)) (Q (Vi (qE (pbAt r.heads i)))) (HF (Vd 2 r.heads) ∧ HF (stpV r) ∧ again (No (Ns (No (No (No Lf (Sg (Vd 2 r.heads))) Lf) Lf) (Value.pointer (some ⟨0, 0, none⟩)) (No (No (No Lf (Sg (Vi (Wi ((i : Int) + 1))))) Lf) Lf)) (No (No (No (No Lf (Sg (Vi r.heads.length))) Lf) Lf) Lf)) (AH.mk (Sg (AObj.cells (stcL r) 88)) 1))))) (Sp (!decide (qE r.body = 0)) (Q (Vi (qE r.body))) (HF (Vd 4 r.takes) ∧ HF (stpV r) ∧ LAtZ (XAf m) 3 f70.ntmps (AH.mk Lf 0) (ae f70) [1, 1, 1, 1, 1, 1, 0, 1, 0] (finK (SX.E (XAf m)) f70.results.toList (au Q QA)) (No (Ns (No Lf (No (No Lf (No (Sg (Vi r.takes.length)) Lf)) Lf)) (Value.pointer (some ⟨0, 0, none⟩)) Lf) (No (No Lf (No (No Lf (No (Sg (Vi 0)) Lf)) Lf)) (No (No (No Lf (No (Sg (Vd 4 r.takes)) Lf)) Lf) Lf))) (AH.mk (Sg (AObj.cells (stcL r) 88)) 1)))) := by kernel_rfl
theorem yK (m : Int) (Q : Value → Prop) (QA : KV) (again : KF) (i : Nat) (r : SR) : jAf2 m Q QA again i r = (Sp (decide ((i : Int) < (r.takes.length : Int))) ((0 ≤ (i : Int) ∧ (i : Int) < (r.takes.length : Int)) ∧ nth r.takes (i) = some (Va [Vi (tk0 r.takes i), Vs (tk1 r.takes i), Vs (tk2 r.takes i), Vs (tk3 r.takes i)]) ∧ (ByteArray.size (tk1 r.takes i) ≤ 1048576 ∧ ByteArray.size (tk2 r.takes i) ≤ 1048576) ∧ Sp (!decide (tkE (tk0 r.takes i) (tk1 r.takes i) (tk2 r.takes i) (tk3 r.takes i) = 0)) (Q (Vi (tkE (tk0 r.takes i) (tk1 r.takes i) (tk2 r.takes i) (tk3 r.takes i)))) (HF (Vd 4 r.takes) ∧ HF (stpV r) ∧ again (No (Ns (No Lf (No (No Lf (No (Sg (Vi r.takes.length)) Lf)) Lf)) (Value.pointer (some ⟨0, 0, none⟩)) Lf) (No (No Lf (No (No Lf (No (Sg (Vi (Wi ((i : Int) + 1)))) Lf)) Lf)) (No (No (No Lf (No (Sg (Vd 4 r.takes)) Lf)) Lf) Lf))) (AH.mk (Sg (AObj.cells (stcL r) 88)) 1))) (HF (Vd 5 r.tests) ∧ LAtZ (XAf m) 3 f70.ntmps (AH.mk Lf 0) (ae f70) [1, 1, 1, 1, 1, 1, 1, 0, 1, 0] (finK (SX.E (XAf m)) f70.results.toList (au Q QA)) (No (No (No (No (No (No Lf (Sg (Vd 5 r.tests))) Lf) Lf) Lf) (No (No (No (No Lf (Sg (Vi 0))) Lf) Lf) Lf)) (No (No (No (No (No Lf (Sg (Vi r.tests.length))) Lf) Lf) Lf) Lf)) (AH.mk Lf 0))) := by kernel_rfl
theorem yJ (m : Int) (Q : Value → Prop) (QA : KV) (again : KF) (i : Nat) (tests : List Value) : jAf3 m Q QA again i tests = (Sp (decide ((i : Int) < (tests.length : Int))) ((0 ≤ (i : Int) ∧ (i : Int) < (tests.length : Int)) ∧ nth tests (i) = some (Va [Vi (ts0 tests i), Vs (ts1 tests i), Vs (ts2 tests i), Vi (ts3 tests i), Vi (ts4 tests i)]) ∧ Sp (!decide (tsE (ts0 tests i) (ts1 tests i) (ts2 tests i) (ts3 tests i) (ts4 tests i) = 0)) (Q (Vi (tsE (ts0 tests i) (ts1 tests i) (ts2 tests i) (ts3 tests i) (ts4 tests i)))) (HF (Vd 5 tests) ∧ again (No (No (No (No (No (No Lf (Sg (Vd 5 tests))) Lf) Lf) Lf) (No (No (No (No Lf (Sg (Vi (Wi ((i : Int) + 1))))) Lf) Lf) Lf)) (No (No (No (No (No Lf (Sg (Vi tests.length))) Lf) Lf) Lf) Lf)) (AH.mk Lf 0))) (Q (Vi 0))) := by kernel_rfl
theorem sC (m : Int) (Q : Value → Prop) (QA : KV) (l : List TS) (hl : l.length ≤ 50) (hQ : Q (.int .i64 (tsEs l))) : LAtZ (XAf m) 3 (Func.ntmps f70) ⟨.leaf, 0⟩ (ae f70) [1, 1, 1, 1, 1, 1, 1, 0, 1, 0] (finK (XAf m).E (f70.results).toList (au Q QA)) (pa (tsvs l) 0) ⟨.leaf, 0⟩ := by
 have hlen := c7 l
 refine LAtZ.step (lX m) rfl [] [] [] [95, 96, 97] (by kernel_rfl) (fun k F A => ∃ i : Nat, F = pa (tsvs l) i ∧ A = ⟨.leaf, 0⟩ ∧ i + k = l.length ∧ tsEs l = tsEs (l.drop i)) ?_ (k := l.length) ⟨0, rfl, rfl, by omega, rfl⟩
 rintro k F A ⟨i, rfl, rfl, hk, he⟩
 refine (yJ m _ _ _ i _).mpr ?_
 rw [hlen]
 refine Sp.intro (fun c => ?_) (fun c => ?_)
 · have hi : i < l.length := by have := odt c; omega
   have hw := i64s i (by omega)
   rw [List.drop_eq_getElem_cons hi, iU] at he
   simp only [Int.toNat_natCast, sS hi, sR hi, sQ hi, sP hi, sO hi, fD hi, hw]
   refine ⟨by omega, by first | trivial | rfl, Sp.intro (fun h => ?_) (fun h => ⟨.dat (gv l), k - 1, by omega, i + 1, by rw [← hlen]; rfl, by first | trivial | rfl, by omega, ?_⟩)⟩
   · rw [h] at he
     rw [he] at hQ; exact hQ
   · rw [h] at he; exact he
 · have hn : l.drop i = [] := List.drop_eq_nil_of_le (by have := odf c; omega)
   rw [hn] at he
   rw [he] at hQ; exact hQ
theorem sD (m : Int) (Q : Value → Prop) (QA : KV) (r : SR) (ps : List (SB × SB)) (ts : List TK) (cs : List TS) (hh : r.heads = pv ps) (ht : r.takes = tkvs ts) (hc : r.tests = tsvs cs) (hr : HF (stpV r)) (hT : TsP ts) (hl : ts.length ≤ 50) (hl2 : cs.length ≤ 50) (hQ : Q (.int .i64 (bif !decide (tkEs ts = 0) then tkEs ts else tsEs cs))) :
 LAtZ (XAf m) 3 (Func.ntmps f70) ⟨.leaf, 0⟩ (ae f70) [1, 1, 1, 1, 1, 1, 0, 1, 0] (finK (XAf m).E (f70.results).toList (au Q QA)) (mL r.takes 0) (hSt r) := by
 have hlen := c8 ts
 have hlen2 := c7 cs
 refine LAtZ.step (lX m) rfl [] [] [88] [1, 82, 83, 84] (by kernel_rfl) (fun k F A => ∃ i : Nat, F = mL r.takes i ∧ A = hSt r ∧ i + k = ts.length ∧ tkEs ts = tkEs (ts.drop i)) ?_ (k := ts.length) ⟨0, rfl, rfl, by omega, rfl⟩
 rintro k F A ⟨i, rfl, rfl, hk, he⟩
 refine (yK m _ _ _ i r).mpr ?_
 rw [ht, hlen]
 refine Sp.intro (fun c => ?_) (fun c => ?_)
 · have hi : i < ts.length := by have := odt c; omega
   have hw := i64s i (by omega)
   rw [List.drop_eq_getElem_cons hi, iV] at he
   simp only [Int.toNat_natCast, sY hi, sX hi, sW hi, sV hi, gD hi, hw]
   refine ⟨by omega, by first | trivial | rfl, hT _ (List.getElem_mem hi), Sp.intro (fun h => ?_) (fun h => ⟨.dat (gw ts), hr, k - 1, by omega, i + 1, by rw [← hlen]; rfl, by first | trivial | rfl, by omega, ?_⟩)⟩
   · rw [h] at he
     rw [he] at hQ
     have h' : (!decide (tkE ts[i].1 ts[i].2.1 ts[i].2.2.1 ts[i].2.2.2 = 0)) = true := h
     simp only [cond_true, h'] at hQ; exact hQ
   · rw [h] at he; exact he
 · have hn : ts.drop i = [] := List.drop_eq_nil_of_le (by have := odf c; omega)
   rw [hn] at he
   rw [he] at hQ
   rw [hc, hlen2]
   have e := sC m Q QA cs hl2 hQ
   rw [show pa (tsvs cs) 0 = (.node (.node (.node (.node (.node (.node .leaf none (.node .leaf (some (dat 5 (tsvs cs))) .leaf)) none .leaf) none .leaf) none .leaf) none (.node (.node (.node (.node .leaf none (.node .leaf (some (.int .i64 (0 : Nat))) .leaf)) none .leaf) none .leaf) none .leaf)) none (.node (.node (.node (.node (.node .leaf none (.node .leaf (some (.int .i64 cs.length)) .leaf)) none .leaf) none .leaf) none .leaf) none .leaf)) by unfold pa; rw [hlen2]] at e
   exact ⟨.dat (gv cs), e⟩
theorem sE (m : Int) (Q : Value → Prop) (QA : KV) (r : SR) (ps : List (SB × SB)) (ts : List TK) (cs : List TS) (hh : r.heads = pv ps) (ht : r.takes = tkvs ts) (hc : r.tests = tsvs cs) (hr : HF (stpV r)) (hP : PsP ps) (hT : TsP ts) (hl0 : ps.length ≤ 50) (hl : ts.length ≤ 50) (hl2 : cs.length ≤ 50) (hQ : Q (.int .i64 (bif !decide (heE ps = 0) then heE ps else bif !decide (qE r.body = 0) then qE r.body else bif !decide (tkEs ts = 0) then tkEs ts else tsEs cs))) :
 LAtZ (XAf m) 3 (Func.ntmps f70) ⟨.leaf, 0⟩ (ae f70) [1, 1, 1, 1, 0, 1, 0] (finK (XAf m).E (f70.results).toList (au Q QA)) (pb r.heads 0) (hSt r) := by
 have hlen := bE ps
 have hlen2 := c8 ts
 refine LAtZ.step (lX m) rfl [] [] [88] [1, 47, 48, 49] (by kernel_rfl) (fun k F A => ∃ i : Nat, F = pb r.heads i ∧ A = hSt r ∧ i + k = ps.length ∧ heE ps = heE (ps.drop i)) ?_ (k := ps.length) ⟨0, rfl, rfl, by omega, rfl⟩
 rintro k F A ⟨i, rfl, rfl, hk, he⟩
 refine (yL m _ _ _ i r).mpr ?_
 rw [hh, hlen]
 refine Sp.intro (fun c => ?_) (fun c => ?_)
 · have hi : i < ps.length := by have := odt c; omega
   have hw := i64s i (by omega)
   rw [List.drop_eq_getElem_cons hi, lz] at he
   have hsz := hP _ (List.getElem_mem hi)
   have hag : HF (dat 2 (pv ps)) := .dat (eK ps)
   simp only [Int.toNat_natCast, pa_at hi, pb_at hi, k7 hi, hw]
   have hgo : tokS ps[i].1 = true → frmB ps[i].1 = false → (!decide (qE ps[i].2 = 0)) = false → heE ps = heE (ps.drop (i + 1)) := fun a b d => by rw [a, b, d] at he; exact he
   refine ⟨by omega, by first | trivial | rfl, by omega, Sp.intro (fun h => ?_) (fun h => ?_)⟩
   · rw [h] at he
     rw [he] at hQ; exact hQ
   have htk : tokS ps[i].1 = true := by simpa using h
   refine ⟨by omega, Sp.intro (fun h1 => ?_) (fun h1 => Sp.intro (fun h2 => ?_) (fun h2 => ?_))⟩
   · rw [htk, h1] at he
     rw [he] at hQ; exact hQ
   · have h2' : decide (qE ps[i].2 = 0) = false := by simpa using h2
     rw [htk, h1, h2] at he
     rw [he] at hQ
     simp only [Bool.not_true, cond_false, cond_true, h2', Bool.not_false] at hQ; exact hQ
   · exact ⟨hag, hr, k - 1, by omega, i + 1, by rw [← hlen]; rfl, by first | trivial | rfl, by omega, hgo htk h1 h2⟩
 · have hn : ps.drop i = [] := List.drop_eq_nil_of_le (by have := odf c; omega)
   rw [hn] at he
   rw [he] at hQ
   rw [ht, hlen2]
   have e : (!decide (qE r.body = 0)) = false → LAtZ (XAf m) 3 (Func.ntmps f70) ⟨.leaf, 0⟩ (ae f70) [1, 1, 1, 1, 1, 1, 0, 1, 0] (finK (XAf m).E (f70.results).toList (au Q QA)) (mL r.takes 0) (hSt r) := fun hb => sD m Q QA r ps ts cs hh ht hc hr hT hl hl2 (by
    simp only [heE, decide_true, Bool.not_true, cond_false, hb] at hQ; exact hQ)
   rw [show mL r.takes 0 = (.node (.node (.node .leaf none (.node (.node .leaf none (.node (.node .leaf (some (.int .i64 ts.length)) .leaf) none .leaf)) none .leaf)) (some (.pointer (some ⟨0, 0, none⟩))) .leaf) none (.node (.node .leaf none (.node (.node .leaf none (.node (.node .leaf (some (.int .i64 (0 : Nat))) .leaf) none .leaf)) none .leaf)) none (.node (.node (.node .leaf none (.node (.node .leaf (some (dat 4 (tkvs ts))) .leaf) none .leaf)) none .leaf) none .leaf))) by unfold mL; rw [ht, hlen2]] at e
   have hb1 : ∀ h : (!decide (qE r.body = 0)) = true, Q (.int .i64 (qE r.body)) := fun h => by
    simp only [heE, decide_true, Bool.not_true, cond_false, h, cond_true] at hQ; exact hQ
   exact Sp.intro (fun h1 => hb1 h1) (fun h1 => ⟨.dat (gw ts), hr, e h1⟩)
theorem zV (m : Int) (r : SR) (ps : List (SB × SB)) (ts : List TK) (cs : List TS) (hh : r.heads = pv ps) (ht : r.takes = tkvs ts) (hc : r.tests = tsvs cs) (hr : HF (stpV r)) (hm : r.meth.size ≤ 1048576) (hP : PsP ps) (hT : TsP ts) :
 bt (envM m) f70 [stpV r] ⟨.leaf, 0⟩ (.int .i64 (akE r.meth r.whr r.body ps ts cs)) := by
 refine ar (lX m) (d := 3) (HFi _ _) ((jAf_nf m _ _ r).mpr ?_)
 have e1 : pb r.heads 0 = (.node (.node (.node (.node (.node .leaf none (.node .leaf (some (dat 2 (pv ps))) .leaf)) none .leaf) none .leaf) (some (.pointer (some ⟨0, 0, none⟩))) (.node (.node (.node .leaf none (.node .leaf (some (.int .i64 (0 : Nat))) .leaf)) none .leaf) none .leaf)) none (.node (.node (.node (.node .leaf none (.node .leaf (some (.int .i64 ps.length)) .leaf)) none .leaf) none .leaf) none .leaf)) := by unfold pb; rw [hh, bE]
 rw [hh, ht, hc, bE, c8, c7]
 have hrest : cG r.meth = true → decide (qE r.whr = 0) = true → (decide (50 < (ps.length : Int))) = false → (decide (50 < (ts.length : Int))) = false → (decide (50 < (cs.length : Int))) = false → _ := fun a b c d e => sE m (fun v2 => v2 = Value.int .i64 (akE r.meth r.whr r.body ps ts cs)) (fun v2 A2 => Frz A2 v2 (Value.int .i64 (akE r.meth r.whr r.body ps ts cs))) r ps ts cs hh ht hc hr hP hT (by have := odf c; omega) (by have := odf d; omega) (by have := odf e; omega) (by
  unfold akE; rw [a, b, c, d, e]; rfl)
 rw [e1] at hrest
 refine ⟨by omega, Sp.intro (fun h1 => ?_) (fun h1 => ?_)⟩
 · show Value.int .i64 8 = _
   unfold akE; rw [h1]; rfl
 have h1' : cG r.meth = true := by simpa using h1
 refine Sp.intro (fun h2 => ?_) (fun h2 => ?_)
 · show Value.int .i64 (qE r.whr) = _
   unfold akE; rw [h1', h2]; rfl
 have h2' : decide (qE r.whr = 0) = true := by simpa using h2
 refine Sp.intro (fun h3 => ?_) (fun h3 => Sp.intro (fun h4 => ?_) (fun h4 => Sp.intro (fun h5 => ?_) (fun h5 => ?_)))
 · show Value.int .i64 3 = _
   unfold akE; rw [h1', h2', h3]; rfl
 · show Value.int .i64 3 = _
   unfold akE; rw [h1', h2', h3, h4]; rfl
 · show Value.int .i64 3 = _
   unfold akE; rw [h1', h2', h3, h4, h5]; rfl
 · exact ⟨.dat (eK ps), hr, hrest h1' h2' h3 h4 h5⟩
def wyW (els : List Value) (i : Int) : Int := match nth els i.toNat with | some (.agg ⟨[.int _ k, _]⟩) => k | _ => 0
def wyK (els : List Value) (i : Int) : List Value := match nth els i.toNat with | some (.agg ⟨[_, .func _ ⟨l⟩ _]⟩) => l | _ => []
def elWy : El := { El.of (fun sz t els i => bif Nat.beq sz 2 then some (.agg ⟨[.int .i64 (wyW els i), dat 19 (wyK els i)]⟩) else none) with app := true }
def XCw : SX := ⟨envX, [], elWy, fun _ => .auto [] [13, 14, 15]⟩
theorem uu : XCw.Ok := ⟨ag, aw, ah, .nil⟩
def XWf : SX := ⟨envX, [], elWy, fun _ => .auto [] [11, 12, 13]⟩
theorem tY : XWf.Ok := ⟨ag, aw, ah, .nil⟩
def frCw (ways : List Value) (i : Nat) : T Value := (Nd (Nd (Nd (Nd (Nd Lf (some (.int .i64 i)) Lf) none Lf) none Lf) none (Nd Lf none (Nd Lf (some (dat 2 ways)) Lf))) none (Nd Lf none (Nd Lf none (Nd Lf (some (.int .i64 ways.length)) Lf))))
def frWf (ways : List Value) (i : Nat) : T Value := (Nd (Nd (Nd Lf none (Nd Lf (some (dat 2 ways)) Lf)) none (Nd Lf none (Nd Lf (some (.int .i64 i)) Lf))) none (Nd (Nd Lf none (Nd Lf (some (.int .i64 ways.length)) Lf)) none Lf))
def jCw (Q : Value → Prop) (QA : KV) (ways : List Value) : Prop := sxFn XCw 1 f66 [dat 2 ways] (au Q QA)
def jCw1 (Q : Value → Prop) (QA : KV) (again : KF) (ways : List Value) (i : Nat) : Prop := bJ XCw 1 f66 [1, 1, 0, 1, 0] (au Q QA) [] [13, 14, 15] again (frCw ways i) ⟨.leaf, 0⟩
def jWf (Q : Value → Prop) (QA : KV) (ways : List Value) : Prop := sxFn XWf 1 f73 [dat 2 ways] (au Q QA)
def jWf1 (Q : Value → Prop) (QA : KV) (again : KF) (ways : List Value) (i : Nat) : Prop := bJ XWf 1 f73 [1, 1, 1, 0, 1, 0] (au Q QA) [] [11, 12, 13] again (frWf ways i) ⟨.leaf, 0⟩
def XKd : SX := ⟨envX, [], elWy, fun _ => .autoN [] [] [22] [3, 12, 13, 14]⟩
theorem lU : XKd.Ok := ⟨ag, aw, ah, .nil⟩
def jKd (K : KV) (r : SR) : Prop := ay XKd 2 f38 [stpV r] ⟨.leaf, 0⟩ K
def jIr (K : KV) (r : SR) : Prop := ay XKd 2 f40 [stpV r] ⟨.leaf, 0⟩ K
def hKd0 (thn els : List Value) : AH := ⟨Nd Lf (some (.cells [dat 19 thn, dat 19 els] 22)) Lf, 1⟩
def hKd (rs : List Value) : AH := ⟨Nd Lf (some (.cells rs 22)) Lf, 1⟩
def mJ (ways : List Value) (i : Nat) : T Value := (Nd (Nd (Nd Lf (some (.slice (some ⟨0, 0, none⟩) 2 2)) Lf) none (Nd Lf none (Nd Lf (some (.int .i64 ways.length)) Lf))) none (Nd (Nd Lf none (Nd Lf (some (dat 2 ways)) Lf)) none (Nd Lf none (Nd Lf (some (.int .i64 i)) Lf))))
def frKd (n : Nat) (ways : List Value) (i : Nat) : T Value := (Nd (Nd (Nd Lf (some (.slice (some ⟨0, 0, none⟩) n unk)) Lf) none (Nd Lf none (Nd Lf (some (.int .i64 ways.length)) Lf))) none (Nd (Nd Lf none (Nd Lf (some (dat 2 ways)) Lf)) none (Nd Lf none (Nd Lf (some (.int .i64 i)) Lf))))
def jKd0 (K : KV) (again : KF) (thn els ways : List Value) (i : Nat) : Prop := ax XKd 2 (Func.ntmps f38) ⟨.leaf, 0⟩ (ae f38) [1, 1, 0, 1, 0] (finK XKd.E (f38.results).toList K) [] [] [22] [3, 12, 13, 14] again (mJ ways i) (hKd0 thn els)
def jKd1 (K : KV) (again : KF) (n : Nat) (rs ways : List Value) (i : Nat) : Prop := ax XKd 2 (Func.ntmps f38) ⟨.leaf, 0⟩ (ae f38) [1, 1, 0, 1, 0] (finK XKd.E (f38.results).toList K) [] [] [22] [3, 12, 13, 14] again (frKd n ways i) (hKd rs)
def jIr0 (K : KV) (again : KF) (thn els ways : List Value) (i : Nat) : Prop := ax XKd 2 (Func.ntmps f40) ⟨.leaf, 0⟩ (ae f40) [1, 1, 0, 1, 0] (finK XKd.E (f40.results).toList K) [] [] [22] [3, 12, 13, 14] again (mJ ways i) (hKd0 thn els)
def jIr1 (K : KV) (again : KF) (n : Nat) (rs ways : List Value) (i : Nat) : Prop := ax XKd 2 (Func.ntmps f40) ⟨.leaf, 0⟩ (ae f40) [1, 1, 0, 1, 0] (finK XKd.E (f40.results).toList K) [] [] [22] [3, 12, 13, 14] again (frKd n ways i) (hKd rs)
theorem jCw_nf (Q : Value → Prop) (QA : KV) (ways : List Value) : jCw Q QA ways = (Sp (decide ((ways.length : Int) = 0)) (Q (Vi 13)) (Sp (decide (50 < (ways.length : Int))) (Q (Vi 3)) (HF (Vd 2 ways) ∧ LAt XCw 1 f66.ntmps (ae f66) [1, 1, 0, 1, 0] (finK (SX.E XCw) f66.results.toList (au Q QA)) (No (No (No (No (Sg (Vi 0)) Lf) Lf) (No Lf (Sg (Vd 2 ways)))) (No Lf (No Lf (Sg (Vi ways.length))))) (AH.mk Lf 0)))) := by kernel_rfl
theorem yp (Q : Value → Prop) (QA : KV) (again : KF) (ways : List Value) (i : Nat) : jCw1 Q QA again ways i = (Sp (decide ((i : Int) < (ways.length : Int))) ((0 ≤ (i : Int) ∧ (i : Int) < (ways.length : Int)) ∧ nth ways (i) = some (Va [Vi (wyW ways i), Vd 19 (wyK ways i)]) ∧ Sp (decide (wyW ways (i : Int) < 1)) (Q (Vi 9)) (Sp (decide (1000000 < wyW ways i)) (Q (Vi 9)) (HF (Vd 2 ways) ∧ again (No (No (No (No (Sg (Vi (Wi ((i : Int) + 1)))) Lf) Lf) (No Lf (Sg (Vd 2 ways)))) (No Lf (No Lf (Sg (Vi ways.length))))) (AH.mk Lf 0)))) (Q (Vi 0))) := by kernel_rfl
theorem jWf_nf (Q : Value → Prop) (QA : KV) (ways : List Value) : jWf Q QA ways = (Sp (decide ((ways.length : Int) = 0)) (Q (Vi 13)) (Sp (decide (50 < (ways.length : Int))) (Q (Vi 3)) (HF (Vd 2 ways) ∧ LAt XWf 1 f73.ntmps (ae f73) [1, 1, 1, 0, 1, 0] (finK (SX.E XWf) f73.results.toList (au Q QA)) (No (No (No Lf (Sg (Vd 2 ways))) (No Lf (Sg (Vi 0)))) (No (No Lf (Sg (Vi ways.length))) Lf)) (AH.mk Lf 0)))) := by kernel_rfl
theorem wU (Q : Value → Prop) (QA : KV) (again : KF) (ways : List Value) (i : Nat) : jWf1 Q QA again ways i = (Sp (decide ((i : Int) < (ways.length : Int))) ((0 ≤ (i : Int) ∧ (i : Int) < (ways.length : Int)) ∧ nth ways (i) = some (Va [Vi (wyW ways i), Vd 19 (wyK ways i)]) ∧ Sp (decide (wyW ways (i : Int) < 1)) (Q (Vi 9)) (Sp (decide (1000000 < wyW ways i)) (Q (Vi 9)) (HF (Vd 2 ways) ∧ again (No (No (No Lf (Sg (Vd 2 ways))) (No Lf (Sg (Vi (Wi ((i : Int) + 1)))))) (No (No Lf (Sg (Vi ways.length))) Lf)) (AH.mk Lf 0)))) (Q (Vi 0))) := by kernel_rfl
theorem jKd_nf (K : KV) (r : SR) : jKd K r = (HF (Vd 2 r.ways) ∧ HF (Va [Vd 19 r.thn, Vd 19 r.els]) ∧ LAtZ XKd 2 f38.ntmps (AH.mk Lf 0) (ae f38) [1, 1, 0, 1, 0] (finK (SX.E XKd) f38.results.toList K) (No (No (Sg (Value.slice (some ⟨0, 0, none⟩) 2 2)) (No Lf (Sg (Vi r.ways.length)))) (No (No Lf (Sg (Vd 2 r.ways))) (No Lf (Sg (Vi 0))))) (AH.mk (Sg (AObj.cells [Vd 19 r.thn, Vd 19 r.els] 22)) 1)) := by kernel_rfl
theorem jIr_nf (K : KV) (r : SR) : jIr K r = (HF (Vd 2 r.ways) ∧ HF (Va [Vd 19 r.thn, Vd 19 r.els]) ∧ LAtZ XKd 2 f40.ntmps (AH.mk Lf 0) (ae f40) [1, 1, 0, 1, 0] (finK (SX.E XKd) f40.results.toList K) (No (No (Sg (Value.slice (some ⟨0, 0, none⟩) 2 2)) (No Lf (Sg (Vi r.ways.length)))) (No (No Lf (Sg (Vd 2 r.ways))) (No Lf (Sg (Vi 0))))) (AH.mk (Sg (AObj.cells [Vd 19 r.thn, Vd 19 r.els] 22)) 1)) := by kernel_rfl
theorem x9 (K : KV) (again : KF) (thn els ways : List Value) (i : Nat) : jKd0 K again thn els ways i = (Sp (decide ((i : Int) < (ways.length : Int))) ((0 ≤ (i : Int) ∧ (i : Int) < (ways.length : Int)) ∧ nth ways (i) = some (Va [Vi (wyW ways i), Vd 19 (wyK ways i)]) ∧ HF (Vd 2 ways) ∧ HF (Va [Vd 19 thn, Vd 19 els, Vd 19 (wyK ways i)]) ∧ again (No (No (Sg (Value.slice (some ⟨0, 0, none⟩) 3 18446744073709551616)) (No Lf (Sg (Vi ways.length)))) (No (No Lf (Sg (Vd 2 ways))) (No Lf (Sg (Vi (Wi ((i : Int) + 1))))))) (AH.mk (Sg (AObj.cells [Vd 19 thn, Vd 19 els, Vd 19 (wyK ways i)] 22)) 1)) (K (Value.slice (some ⟨0, 0, none⟩) 2 2) (AH.mk (Sg (AObj.cells [Vd 19 thn, Vd 19 els] 22)) 1))) := by kernel_rfl
theorem x8 (K : KV) (again : KF) (n : Nat) (rs ways : List Value) (i : Nat) : jKd1 K again n rs ways i = (Sp (decide ((i : Int) < (ways.length : Int))) ((0 ≤ (i : Int) ∧ (i : Int) < (ways.length : Int)) ∧ nth ways (i) = some (Va [Vi (wyW ways i), Vd 19 (wyK ways i)]) ∧ (n + (1 : Nat) ≤ (70368744177664 : Nat) ∧ (n + 1) * (24 : Nat) ≤ (140737488355328 : Nat) ∧ n * 1 ≤ List.length rs) ∧ HF (Vd 2 ways) ∧ HF (Va (List.take (n * 1) rs ++ [Vd 19 (wyK ways i)])) ∧ again (No (No (Sg (Value.slice (some ⟨0, 0, none⟩) (n + 1) 18446744073709551616)) (No Lf (Sg (Vi ways.length)))) (No (No Lf (Sg (Vd 2 ways))) (No Lf (Sg (Vi (Wi ((i : Int) + 1))))))) (AH.mk (Sg (AObj.cells (List.take (n * 1) rs ++ [Vd 19 (wyK ways i)]) 22)) 1)) (K (Value.slice (some ⟨0, 0, none⟩) n 18446744073709551616) (AH.mk (Sg (AObj.cells rs 22)) 1))) := by kernel_rfl
theorem yd (K : KV) (again : KF) (thn els ways : List Value) (i : Nat) : jIr0 K again thn els ways i = (Sp (decide ((i : Int) < (ways.length : Int))) ((0 ≤ (i : Int) ∧ (i : Int) < (ways.length : Int)) ∧ nth ways (i) = some (Va [Vi (wyW ways i), Vd 19 (wyK ways i)]) ∧ HF (Vd 2 ways) ∧ HF (Va [Vd 19 thn, Vd 19 els, Vd 19 (wyK ways i)]) ∧ again (No (No (Sg (Value.slice (some ⟨0, 0, none⟩) 3 18446744073709551616)) (No Lf (Sg (Vi ways.length)))) (No (No Lf (Sg (Vd 2 ways))) (No Lf (Sg (Vi (Wi ((i : Int) + 1))))))) (AH.mk (Sg (AObj.cells [Vd 19 thn, Vd 19 els, Vd 19 (wyK ways i)] 22)) 1)) (K (Value.slice (some ⟨0, 0, none⟩) 2 2) (AH.mk (Sg (AObj.cells [Vd 19 thn, Vd 19 els] 22)) 1))) := by kernel_rfl
theorem yc (K : KV) (again : KF) (n : Nat) (rs ways : List Value) (i : Nat) : jIr1 K again n rs ways i = (Sp (decide ((i : Int) < (ways.length : Int))) ((0 ≤ (i : Int) ∧ (i : Int) < (ways.length : Int)) ∧ nth ways (i) = some (Va [Vi (wyW ways i), Vd 19 (wyK ways i)]) ∧ (n + (1 : Nat) ≤ (70368744177664 : Nat) ∧ (n + 1) * (24 : Nat) ≤ (140737488355328 : Nat) ∧ n * 1 ≤ List.length rs) ∧ HF (Vd 2 ways) ∧ HF (Va (List.take (n * 1) rs ++ [Vd 19 (wyK ways i)])) ∧ again (No (No (Sg (Value.slice (some ⟨0, 0, none⟩) (n + 1) 18446744073709551616)) (No Lf (Sg (Vi ways.length)))) (No (No Lf (Sg (Vd 2 ways))) (No Lf (Sg (Vi (Wi ((i : Int) + 1))))))) (AH.mk (Sg (AObj.cells (List.take (n * 1) rs ++ [Vd 19 (wyK ways i)]) 22)) 1)) (K (Value.slice (some ⟨0, 0, none⟩) n 18446744073709551616) (AH.mk (Sg (AObj.cells rs 22)) 1))) := by kernel_rfl
abbrev WY := Int × List Value
def wyv (w : WY) : Value := .agg ⟨[.int .i64 w.1, dat 19 w.2]⟩
def wyvs (ws : List WY) : List Value := ws.map wyv
theorem ce (ws : List WY) : (wyvs ws).length = ws.length := by simp [wyvs]
theorem di {l : List WY} {i : Nat} (h : i < l.length) : nth (wyvs l) i = some (.agg ⟨[.int .i64 l[i].1, .func (.yield 19) ⟨l[i].2⟩ ⟨[]⟩]⟩) := by
 rw [aI]; simp [wyvs, wyv, dat, List.getElem?_eq_getElem h]
theorem eL {l : List WY} {i : Nat} (h : i < l.length) : wyW (wyvs l) (i : Int) = l[i].1 := by simp only [wyW, Int.toNat_natCast, di h]
theorem eM {l : List WY} {i : Nat} (h : i < l.length) : wyK (wyvs l) (i : Int) = l[i].2 := by simp only [wyK, Int.toNat_natCast, di h]
def wyE : List WY → Int
 | [] => 0
 | w :: l => bif decide (w.1 < 1) then 9 else bif decide (1000000 < w.1) then 9 else wyE l
theorem kD (w : WY) (l : List WY) : wyE (w :: l) = bif decide (w.1 < 1) then 9 else bif decide (1000000 < w.1) then 9 else wyE l := rfl
def wsE (ws : List WY) : Int := bif decide ((ws.length : Int) = 0) then 13 else bif decide (50 < (ws.length : Int)) then 3 else wyE ws
theorem AS (Q : Value → Prop) (QA : KV) (ws : List WY) (hw : ∀ x ∈ wyvs ws, HF x) (hl : ws.length ≤ 50) (hQ : Q (.int .i64 (wyE ws))) :
 LAt XCw 1 (Func.ntmps f66) (ae f66) [1, 1, 0, 1, 0] (finK XCw.E (f66.results).toList (au Q QA)) (frCw (wyvs ws) 0) ⟨.leaf, 0⟩ := by
 have hlen := ce ws
 refine LAt.stepA uu [] [13, 14, 15] (by kernel_rfl) (fun k F A => ∃ i : Nat, F = frCw (wyvs ws) i ∧ A = ⟨.leaf, 0⟩ ∧ i + k = ws.length ∧ wyE ws = wyE (ws.drop i)) ?_ (k := ws.length) ⟨0, rfl, rfl, by omega, rfl⟩
 rintro k F A ⟨i, rfl, rfl, hk, he⟩
 refine (yp _ _ _ _ i).mpr ?_
 rw [hlen]
 refine Sp.intro (fun c => ?_) (fun c => ?_)
 · have hi : i < ws.length := by have := odt c; omega
   have hwr : IntKind.i64.wrap ((i : Int) + 1) = ((i + 1 : Nat) : Int) := by rw [aB (by omega) (by omega)]; rfl
   rw [List.drop_eq_getElem_cons hi, kD] at he
   simp only [Int.toNat_natCast, eL hi, eM hi, di hi, hwr]
   refine ⟨by omega, by first | trivial | rfl, Sp.intro (fun h1 => ?_) (fun h1 => Sp.intro (fun h2 => ?_) (fun h2 => ⟨.dat hw, k - 1, by omega, i + 1, by rw [← hlen]; rfl, by first | trivial | rfl, by omega, ?_⟩))⟩
   · rw [h1] at he
     rw [he] at hQ; exact hQ
   · rw [h1, h2] at he
     rw [he] at hQ; exact hQ
   · rw [h1, h2] at he; exact he
 · have hn : ws.drop i = [] := List.drop_eq_nil_of_le (by have := odf c; omega)
   rw [hn] at he
   rw [he] at hQ
   exact hQ
theorem AR (ws : List WY) (hw : ∀ x ∈ wyvs ws, HF x) : Walk envX f66 [dat 2 (wyvs ws)] (.int .i64 (wsE ws)) := by
 refine av uu (d := 1) (HFi _ _) ((jCw_nf _ _ _).mpr ?_)
 have hlen := ce ws
 have hrest : decide ((ws.length : Int) = 0) = false → decide (50 < (ws.length : Int)) = false → _ := fun a b => AS (fun v2 => v2 = Value.int .i64 (wsE ws)) (fun v2 A2 => Frz A2 v2 (Value.int .i64 (wsE ws))) ws hw (by have := odf b; omega) (by unfold wsE; rw [a, b]; rfl)
 unfold frCw at hrest
 rw [hlen] at hrest ⊢
 refine Sp.intro (fun h1 => ?_) (fun h1 => Sp.intro (fun h2 => ?_) (fun h2 => ?_))
 · show Value.int .i64 13 = _
   unfold wsE; rw [h1]; rfl
 · show Value.int .i64 3 = _
   unfold wsE; rw [h1, h2]; rfl
 · exact ⟨.dat hw, hrest h1 h2⟩
theorem Ag (Q : Value → Prop) (QA : KV) (ws : List WY) (hw : ∀ x ∈ wyvs ws, HF x) (hl : ws.length ≤ 50) (hQ : Q (.int .i64 (wyE ws))) :
 LAt XWf 1 (Func.ntmps f73) (ae f73) [1, 1, 1, 0, 1, 0] (finK XWf.E (f73.results).toList (au Q QA)) (frWf (wyvs ws) 0) ⟨.leaf, 0⟩ := by
 have hlen := ce ws
 refine LAt.stepA tY [] [11, 12, 13] (by kernel_rfl) (fun k F A => ∃ i : Nat, F = frWf (wyvs ws) i ∧ A = ⟨.leaf, 0⟩ ∧ i + k = ws.length ∧ wyE ws = wyE (ws.drop i)) ?_ (k := ws.length) ⟨0, rfl, rfl, by omega, rfl⟩
 rintro k F A ⟨i, rfl, rfl, hk, he⟩
 refine (wU _ _ _ _ i).mpr ?_
 rw [hlen]
 refine Sp.intro (fun c => ?_) (fun c => ?_)
 · have hi : i < ws.length := by have := odt c; omega
   have hwr : IntKind.i64.wrap ((i : Int) + 1) = ((i + 1 : Nat) : Int) := by rw [aB (by omega) (by omega)]; rfl
   rw [List.drop_eq_getElem_cons hi, kD] at he
   simp only [Int.toNat_natCast, eL hi, eM hi, di hi, hwr]
   refine ⟨by omega, by first | trivial | rfl, Sp.intro (fun h1 => ?_) (fun h1 => Sp.intro (fun h2 => ?_) (fun h2 => ⟨.dat hw, k - 1, by omega, i + 1, by rw [← hlen]; rfl, by first | trivial | rfl, by omega, ?_⟩))⟩
   · rw [h1] at he
     rw [he] at hQ; exact hQ
   · rw [h1, h2] at he
     rw [he] at hQ; exact hQ
   · rw [h1, h2] at he; exact he
 · have hn : ws.drop i = [] := List.drop_eq_nil_of_le (by have := odf c; omega)
   rw [hn] at he
   rw [he] at hQ
   exact hQ
theorem Af (ws : List WY) (hw : ∀ x ∈ wyvs ws, HF x) : Walk envX f73 [dat 2 (wyvs ws)] (.int .i64 (wsE ws)) := by
 refine av tY (d := 1) (HFi _ _) ((jWf_nf _ _ _).mpr ?_)
 have hlen := ce ws
 have hrest : decide ((ws.length : Int) = 0) = false → decide (50 < (ws.length : Int)) = false → _ := fun a b => Ag (fun v2 => v2 = Value.int .i64 (wsE ws)) (fun v2 A2 => Frz A2 v2 (Value.int .i64 (wsE ws))) ws hw (by have := odf b; omega) (by unfold wsE; rw [a, b]; rfl)
 unfold frWf at hrest
 rw [hlen] at hrest ⊢
 refine Sp.intro (fun h1 => ?_) (fun h1 => Sp.intro (fun h2 => ?_) (fun h2 => ?_))
 · show Value.int .i64 13 = _
   unfold wsE; rw [h1]; rfl
 · show Value.int .i64 3 = _
   unfold wsE; rw [h1, h2]; rfl
 · exact ⟨.dat hw, hrest h1 h2⟩
def unW (l : List Value) : List WY := l.map fun v => match v with | .agg ⟨[.int _ k, .func _ ⟨s⟩ _]⟩ => (k, s) | _ => (0, [])
theorem dj (ws : List WY) : unW (wyvs ws) = ws := by
 unfold unW wyvs
 rw [List.map_map]
 exact (List.map_congr_left fun x _ => rfl).trans (List.map_id _)
def cwX : List Value → Option Value
 | [.func (.yield 2) ⟨l⟩ ⟨[]⟩] => some (.int .i64 (wsE (unW l)))
 | _ => none
def r9 : List Value → Option Prop
 | [.func (.yield 2) ⟨l⟩ ⟨[]⟩] => some ((∃ ws, l = wyvs ws) ∧ ∀ x ∈ l, HF x)
 | _ => none
theorem cw_tab : ∀ args A p v A', aj r9 cwX args A = some (p, v, A') → PH p → an envX 66 args A v A' := ai ag ah (fn := f66) rfl fun args v h hp => by
 unfold cwX at h
 split at h
 · simp only [osI] at h
   subst h
   obtain ⟨⟨ws, rfl⟩, hw⟩ := hp
   rw [dj]
   exact ⟨HF.cons (.dat hw) HF.nil, AR ws hw⟩
 · cases h
theorem wf_tab : ∀ args A p v A', aj r9 cwX args A = some (p, v, A') → PH p → an envX 73 args A v A' := ai ag ah (fn := f73) rfl fun args v h hp => by
 unfold cwX at h
 split at h
 · simp only [osI] at h
   subst h
   obtain ⟨⟨ws, rfl⟩, hw⟩ := hp
   rw [dj]
   exact ⟨HF.cons (.dat hw) HF.nil, Af ws hw⟩
 · cases h
def kdL (thn els : List Value) (ws : List WY) : List (List Value) := thn :: els :: ws.map fun w => w.2
def dts (l : List (List Value)) : List Value := l.map (dat 19)
theorem cV (l : List (List Value)) : (dts l).length = l.length := by simp [dts]
theorem gX : ∀ l : List (List Value), ao (dts l) = dts l
 | [] => rfl
 | x :: l => by
   have : dts (x :: l) = dat 19 x :: dts l := rfl
   rw [this, aH, gX l]; rfl
theorem fp (thn els : List Value) (ws : List WY) (w : WY) : dts (kdL thn els (ws ++ [w])) = dts (kdL thn els ws) ++ [dat 19 w.2] := by simp [dts, kdL]
def DtP (l : List (List Value)) : Prop := ∀ x ∈ dts l, HF x
theorem tQ {A : AH} {l : List (List Value)} {n k : Nat} (h : Go.AM.look A 0 = some (dts l)) (hn : l.length = n) (hk : n ≤ k) (hf : DtP l) : Frz A (.slice (some ⟨0, 0, none⟩) n k) (dat 1 (dts l)) := by
 have hl := cV l
 refine Frz.slice (c := dts l) (c2 := dts l) h (by rw [List.drop_zero]; omega) hk ?_ (gX l) (fun x hx => by obtain ⟨p, _, rfl⟩ := List.mem_map.1 hx; rfl) (by omega)
 rw [List.drop_zero, List.take_of_length_le (by omega)]
 exact FrzL.same hf
theorem AK (thn els : List Value) (ws : List WY) (hw : ∀ x ∈ wyvs ws, HF x) (hd : DtP (kdL thn els ws)) (hl : ws.length ≤ 1048576) :
 LAtZ XKd 2 (Func.ntmps f38) ⟨.leaf, 0⟩ (ae f38) [1, 1, 0, 1, 0] (finK XKd.E (f38.results).toList (fun v A => Frz A v (dat 1 (dts (kdL thn els ws))))) (mJ (wyvs ws) 0) (hKd0 thn els) := by
 have hlen := ce ws
 have hdi : ∀ i, DtP (kdL thn els (ws.take i)) := fun i x hx => hd x (by
  unfold dts kdL at hx ⊢
  rw [List.map_cons, List.map_cons, List.map_take, List.map_take] at hx
  rw [List.map_cons, List.map_cons]
  rcases List.mem_cons.1 hx with q | q
  · exact List.mem_cons.2 (.inl q)
  rcases List.mem_cons.1 q with q | q
  · exact List.mem_cons.2 (.inr (List.mem_cons.2 (.inl q)))
  · exact List.mem_cons.2 (.inr (List.mem_cons.2 (.inr (List.mem_of_mem_take q)))))
 have hfin : ∀ i, i = ws.length → ∀ n kk, n = i + 2 → n ≤ kk → Frz (hKd (dts (kdL thn els (ws.take i)))) (.slice (some ⟨0, 0, none⟩) n kk) (dat 1 (dts (kdL thn els ws))) := fun i hi n kk hn hk => by
  have e : ws.take i = ws := List.take_of_length_le (by omega)
  rw [e]
  exact tQ rfl (by simp [kdL]; omega) hk hd
 refine LAtZ.step lU rfl [] [] [22] [3, 12, 13, 14] (by kernel_rfl) (fun k F A => (F = mJ (wyvs ws) 0 ∧ A = hKd0 thn els ∧ k = ws.length) ∨ ∃ i : Nat, 0 < i ∧ F = frKd (i + 2) (wyvs ws) i ∧ A = hKd (dts (kdL thn els (ws.take i))) ∧ i + k = ws.length) ?_ (k := ws.length) (.inl ⟨rfl, rfl, rfl⟩)
 rintro k F A (⟨rfl, rfl, hk⟩ | ⟨i, hi0, rfl, rfl, hk⟩)
 · refine (x9 _ _ thn els _ 0).mpr ?_
   rw [hlen]
   refine Sp.intro (fun c => ?_) (fun c => ?_)
   · have hi : 0 < ws.length := by have := odt c; omega
     have hwr : IntKind.i64.wrap (((0 : Nat) : Int) + 1) = ((0 + 1 : Nat) : Int) := by rw [aB (by omega) (by omega)]; rfl
     have e1 : dts (kdL thn els (ws.take (0 + 1))) = [dat 19 thn, dat 19 els, dat 19 ws[0].2] := by
      rw [List.take_succ_eq_append_getElem hi, fp]; rfl
     have hd1 := hdi (0 + 1)
     have hagg : HF (.agg ⟨dts (kdL thn els (ws.take (0 + 1)))⟩) := .agg hd1
     rw [e1] at hagg
     have hy := eM hi
     have hW := eL hi
     have hN := di hi
     simp only [Int.toNat_natCast, hy, hW, hN, hwr]
     refine ⟨by omega, by first | trivial | rfl, .dat hw, hagg, k - 1, by omega, .inr ⟨0 + 1, by omega, by rw [← hlen]; rfl, by rw [e1]; rfl, by omega⟩⟩
   · have hz : ws.length = 0 := by have := odf c; omega
     have e : ws = [] := List.eq_nil_of_length_eq_zero hz
     subst e
     exact hfin 0 rfl 2 2 rfl (by omega)
 · refine (x8 _ _ (i + 2) _ _ i).mpr ?_
   rw [hlen]
   refine Sp.intro (fun c => ?_) (fun c => ?_)
   · have hi : i < ws.length := by have := odt c; omega
     have hwr : IntKind.i64.wrap ((i : Int) + 1) = ((i + 1 : Nat) : Int) := by rw [aB (by omega) (by omega)]; rfl
     have hkl : (dts (kdL thn els (ws.take i))).length = i + 2 := by rw [cV]; simp [kdL]; omega
     have e1 : dts (kdL thn els (ws.take (i + 1))) = dts (kdL thn els (ws.take i)) ++ [dat 19 ws[i].2] := by
      rw [List.take_succ_eq_append_getElem hi, fp]
     have et : List.take ((i + 2) * 1) (dts (kdL thn els (ws.take i))) = dts (kdL thn els (ws.take i)) := List.take_of_length_le (by omega)
     have hagg : HF (.agg ⟨dts (kdL thn els (ws.take (i + 1)))⟩) := .agg (hdi (i + 1))
     rw [e1] at hagg
     have hy := eM hi
     have hW := eL hi
     have hN := di hi
     simp only [Int.toNat_natCast, hy, hW, hN, hwr, et]
     refine ⟨by omega, by first | trivial | rfl, ⟨by omega, by omega, by omega⟩, .dat hw, hagg, k - 1, by omega, .inr ⟨i + 1, by omega, by rw [← hlen]; rfl, by rw [e1]; rfl, by omega⟩⟩
   · have hn : i = ws.length := by have := odf c; omega
     exact hfin i hn (i + 2) _ rfl (by omega)
theorem AN (thn els : List Value) (ws : List WY) (hw : ∀ x ∈ wyvs ws, HF x) (hd : DtP (kdL thn els ws)) (hl : ws.length ≤ 1048576) :
 LAtZ XKd 2 (Func.ntmps f40) ⟨.leaf, 0⟩ (ae f40) [1, 1, 0, 1, 0] (finK XKd.E (f40.results).toList (fun v A => Frz A v (dat 1 (dts (kdL thn els ws))))) (mJ (wyvs ws) 0) (hKd0 thn els) := by
 have hlen := ce ws
 have hdi : ∀ i, DtP (kdL thn els (ws.take i)) := fun i x hx => hd x (by
  unfold dts kdL at hx ⊢
  rw [List.map_cons, List.map_cons, List.map_take, List.map_take] at hx
  rw [List.map_cons, List.map_cons]
  rcases List.mem_cons.1 hx with q | q
  · exact List.mem_cons.2 (.inl q)
  rcases List.mem_cons.1 q with q | q
  · exact List.mem_cons.2 (.inr (List.mem_cons.2 (.inl q)))
  · exact List.mem_cons.2 (.inr (List.mem_cons.2 (.inr (List.mem_of_mem_take q)))))
 have hfin : ∀ i, i = ws.length → ∀ n kk, n = i + 2 → n ≤ kk → Frz (hKd (dts (kdL thn els (ws.take i)))) (.slice (some ⟨0, 0, none⟩) n kk) (dat 1 (dts (kdL thn els ws))) := fun i hi n kk hn hk => by
  have e : ws.take i = ws := List.take_of_length_le (by omega)
  rw [e]
  exact tQ rfl (by simp [kdL]; omega) hk hd
 refine LAtZ.step lU rfl [] [] [22] [3, 12, 13, 14] (by kernel_rfl) (fun k F A => (F = mJ (wyvs ws) 0 ∧ A = hKd0 thn els ∧ k = ws.length) ∨ ∃ i : Nat, 0 < i ∧ F = frKd (i + 2) (wyvs ws) i ∧ A = hKd (dts (kdL thn els (ws.take i))) ∧ i + k = ws.length) ?_ (k := ws.length) (.inl ⟨rfl, rfl, rfl⟩)
 rintro k F A (⟨rfl, rfl, hk⟩ | ⟨i, hi0, rfl, rfl, hk⟩)
 · refine (yd _ _ thn els _ 0).mpr ?_
   rw [hlen]
   refine Sp.intro (fun c => ?_) (fun c => ?_)
   · have hi : 0 < ws.length := by have := odt c; omega
     have hwr : IntKind.i64.wrap (((0 : Nat) : Int) + 1) = ((0 + 1 : Nat) : Int) := by rw [aB (by omega) (by omega)]; rfl
     have e1 : dts (kdL thn els (ws.take (0 + 1))) = [dat 19 thn, dat 19 els, dat 19 ws[0].2] := by
      rw [List.take_succ_eq_append_getElem hi, fp]; rfl
     have hd1 := hdi (0 + 1)
     have hagg : HF (.agg ⟨dts (kdL thn els (ws.take (0 + 1)))⟩) := .agg hd1
     rw [e1] at hagg
     have hy := eM hi
     have hW := eL hi
     have hN := di hi
     simp only [Int.toNat_natCast, hy, hW, hN, hwr]
     refine ⟨by omega, by first | trivial | rfl, .dat hw, hagg, k - 1, by omega, .inr ⟨0 + 1, by omega, by rw [← hlen]; rfl, by rw [e1]; rfl, by omega⟩⟩
   · have hz : ws.length = 0 := by have := odf c; omega
     have e : ws = [] := List.eq_nil_of_length_eq_zero hz
     subst e
     exact hfin 0 rfl 2 2 rfl (by omega)
 · refine (yc _ _ (i + 2) _ _ i).mpr ?_
   rw [hlen]
   refine Sp.intro (fun c => ?_) (fun c => ?_)
   · have hi : i < ws.length := by have := odt c; omega
     have hwr : IntKind.i64.wrap ((i : Int) + 1) = ((i + 1 : Nat) : Int) := by rw [aB (by omega) (by omega)]; rfl
     have hkl : (dts (kdL thn els (ws.take i))).length = i + 2 := by rw [cV]; simp [kdL]; omega
     have e1 : dts (kdL thn els (ws.take (i + 1))) = dts (kdL thn els (ws.take i)) ++ [dat 19 ws[i].2] := by
      rw [List.take_succ_eq_append_getElem hi, fp]
     have et : List.take ((i + 2) * 1) (dts (kdL thn els (ws.take i))) = dts (kdL thn els (ws.take i)) := List.take_of_length_le (by omega)
     have hagg : HF (.agg ⟨dts (kdL thn els (ws.take (i + 1)))⟩) := .agg (hdi (i + 1))
     rw [e1] at hagg
     have hy := eM hi
     have hW := eL hi
     have hN := di hi
     simp only [Int.toNat_natCast, hy, hW, hN, hwr, et]
     refine ⟨by omega, by first | trivial | rfl, ⟨by omega, by omega, by omega⟩, .dat hw, hagg, k - 1, by omega, .inr ⟨i + 1, by omega, by rw [← hlen]; rfl, by rw [e1]; rfl, by omega⟩⟩
   · have hn : i = ws.length := by have := odf c; omega
     exact hfin i hn (i + 2) _ rfl (by omega)
theorem tM {sz : Nat} {l : List Value} (h : HF (dat sz l)) : ∀ x ∈ l, HF x := by
 cases h with
 | dat h => exact h
 | scal h => exact absurd h Bool.false_ne_true
theorem jj {l : List Value} (h : HF (.agg ⟨l⟩)) : ∀ x ∈ l, HF x := by
 cases h with
 | agg h => exact h
 | scal h => exact absurd h Bool.false_ne_true
def WfS (r : SR) : Prop := (∃ ps ts cs ws, r.heads = pv ps ∧ r.takes = tkvs ts ∧ r.tests = tsvs cs ∧ r.ways = wyvs ws ∧ PsP ps ∧ TsP ts ∧ r.meth.size ≤ 1048576 ∧ r.name.size ≤ 1048576 ∧ ws.length ≤ 1048576) ∧ HF (stpV r)
theorem oJ {r : SR} {ws : List WY} (h : HF (stpV r)) (e : r.ways = wyvs ws) : (∀ x ∈ wyvs ws, HF x) ∧ DtP (kdL r.thn r.els ws) := by
 have ha := jj h
 have hw : ∀ x ∈ wyvs ws, HF x := tM (sz := 2) (by rw [← e]; exact ha _ (by simp [stcL]))
 refine ⟨hw, fun x hx => ?_⟩
 unfold dts kdL at hx
 rw [List.map_cons, List.map_cons] at hx
 rcases List.mem_cons.1 hx with q | q
 · rw [q]; exact ha _ (by simp [stcL])
 rcases List.mem_cons.1 q with q | q
 · rw [q]; exact ha _ (by simp [stcL])
 · obtain ⟨y, hy, rfl⟩ := List.mem_map.1 q
   obtain ⟨w, hw2, rfl⟩ := List.mem_map.1 hy
   exact jj (hw _ (List.mem_map.2 ⟨w, hw2, rfl⟩)) _ (by simp)
theorem AJ (r : SR) (ws : List WY) (h : HF (stpV r)) (e : r.ways = wyvs ws) (hl : ws.length ≤ 1048576) : bt envX f38 [stpV r] ⟨.leaf, 0⟩ (dat 1 (dts (kdL r.thn r.els ws))) := by
 obtain ⟨hw, hd⟩ := oJ h e
 have ha := jj h
 have h1 : HF (dat 19 r.thn) := ha _ (by simp [stcL])
 have h2 : HF (dat 19 r.els) := ha _ (by simp [stcL])
 refine al lU (d := 2) ((jKd_nf _ r).mpr ?_)
 rw [e]
 exact ⟨.dat hw, .agg (HF.cons h1 (HF.cons h2 HF.nil)), AK r.thn r.els ws hw hd hl⟩
theorem AL (r : SR) (ws : List WY) (h : HF (stpV r)) (e : r.ways = wyvs ws) (hl : ws.length ≤ 1048576) : bt envX f40 [stpV r] ⟨.leaf, 0⟩ (dat 1 (dts (kdL r.thn r.els ws))) := by
 obtain ⟨hw, hd⟩ := oJ h e
 have ha := jj h
 have h1 : HF (dat 19 r.thn) := ha _ (by simp [stcL])
 have h2 : HF (dat 19 r.els) := ha _ (by simp [stcL])
 refine al lU (d := 2) ((jIr_nf _ r).mpr ?_)
 rw [e]
 exact ⟨.dat hw, .agg (HF.cons h1 (HF.cons h2 HF.nil)), AN r.thn r.els ws hw hd hl⟩
def goK : List Value → List WY → List Value
 | a, [] => a
 | a, w :: ws => goK (a ++ [dat 19 w.2]) ws
theorem tO : ∀ (ws : List WY) (a : List Value), goK a ws = a ++ ws.map fun w => dat 19 w.2
 | [], a => by simp [goK]
 | w :: ws, a => by rw [goK, tO ws]; simp
def kdV (r : SR) : List Value := goK [dat 19 r.thn, dat 19 r.els] (unW r.ways)
theorem ga (r : SR) : kdV r = dts (kdL r.thn r.els (unW r.ways)) := by unfold kdV; rw [tO]; simp [dts, kdL]
def kdX : List Value → Option Value
 | [v] => (match srA v with | some r => some (dat 1 (kdV r)) | none => none)
 | _ => none
def ci : List Value → Option Prop
 | [v] => (match srA v with | some r => some (WfS r) | none => none)
 | _ => none
theorem tC : ∀ args A p v A', aj ci kdX args A = some (p, v, A') → PH p → an envX 38 args A v A' := ai ag ah (fn := f38) rfl fun args v h hp => by
 unfold kdX at h
 split at h
 · rename_i v0
   split at h
   · rename_i r hr
     simp only [osI] at h
     subst h
     have hp : WfS r := by simp only [ci, hr] at hp; exact hp
     obtain ⟨⟨ps, ts, cs, ws, h1, h2, h3, h4, h5, h6, h7, h8, h9⟩, hf⟩ := hp
     rw [dm hr, ga, h4, dj]
     exact ⟨HF.cons hf HF.nil, AJ r ws hf h4 h9⟩
   · cases h
 · cases h
theorem oQ : ∀ args A p v A', aj ci kdX args A = some (p, v, A') → PH p → an envX 40 args A v A' := ai ag ah (fn := f40) rfl fun args v h hp => by
 unfold kdX at h
 split at h
 · rename_i v0
   split at h
   · rename_i r hr
     simp only [osI] at h
     subst h
     have hp : WfS r := by simp only [ci, hr] at hp; exact hp
     obtain ⟨⟨ps, ts, cs, ws, h1, h2, h3, h4, h5, h6, h7, h8, h9⟩, hf⟩ := hp
     rw [dm hr, ga, h4, dj]
     exact ⟨HF.cons hf HF.nil, AL r ws hf h4 h9⟩
   · cases h
 · cases h
def unH (l : List Value) : List (SB × SB) := l.map fun v => match v with | .agg ⟨[.string a, .string b]⟩ => (a, b) | _ => (ByteArray.empty, ByteArray.empty)
def unT (l : List Value) : List TK := l.map fun v => match v with | .agg ⟨[.int _ k, .string n, .string a, .string b]⟩ => (k, n, a, b) | _ => (0, ByteArray.empty, ByteArray.empty, ByteArray.empty)
def unC (l : List Value) : List TS := l.map fun v => match v with | .agg ⟨[.int _ k, .string a, .string b, .int _ x, .int _ y]⟩ => (k, a, b, x, y) | _ => (0, ByteArray.empty, ByteArray.empty, 0, 0)
theorem sI (l : List (SB × SB)) : unH (pv l) = l := by
 unfold unH pv
 rw [List.map_map]
 exact (List.map_congr_left fun x _ => rfl).trans (List.map_id _)
theorem sH (l : List TK) : unT (tkvs l) = l := by
 unfold unT tkvs
 rw [List.map_map]
 exact (List.map_congr_left fun x _ => rfl).trans (List.map_id _)
theorem sJ (l : List TS) : unC (tsvs l) = l := by
 unfold unC tsvs
 rw [List.map_map]
 exact (List.map_congr_left fun x _ => rfl).trans (List.map_id _)
def akR (r : SR) : Int := akE r.meth r.whr r.body (unH r.heads) (unT r.takes) (unC r.tests)
def akX : List Value → Option Value
 | [v] => (match srA v with | some r => some (.int .i64 (akR r)) | none => none)
 | _ => none
theorem ak_tab (m : Int) : ∀ args A p v A', aj ci akX args A = some (p, v, A') → PH p → an (envM m) 65 args A v A' := ai (aE m) (aF m) (fn := f65) rfl fun args v h hp => by
 unfold akX at h
 split at h
 · rename_i v0
   split at h
   · rename_i r hr
     simp only [osI] at h
     subst h
     have hp : WfS r := by simp only [ci, hr] at hp; exact hp
     rw [dm hr]
     obtain ⟨⟨ps, ts, cs, ws, h1, h2, h3, h4, h5, h6, h7, h8, h9⟩, hf⟩ := hp
     refine ⟨HF.cons hf HF.nil, ?_⟩
     unfold akR
     rw [h1, h2, h3, sI, sH, sJ]
     exact zU m r ps ts cs h1 h2 h3 hf h7 h5 h6
   · cases h
 · cases h
theorem af_tab (m : Int) : ∀ args A p v A', aj ci akX args A = some (p, v, A') → PH p → an (envM m) 70 args A v A' := ai (aE m) (aF m) (fn := f70) rfl fun args v h hp => by
 unfold akX at h
 split at h
 · rename_i v0
   split at h
   · rename_i r hr
     simp only [osI] at h
     subst h
     have hp : WfS r := by simp only [ci, hr] at hp; exact hp
     rw [dm hr]
     obtain ⟨⟨ps, ts, cs, ws, h1, h2, h3, h4, h5, h6, h7, h8, h9⟩, hf⟩ := hp
     refine ⟨HF.cons hf HF.nil, ?_⟩
     unfold akR
     rw [h1, h2, h3, sI, sH, sJ]
     exact zV m r ps ts cs h1 h2 h3 hf h7 h5 h6
   · cases h
 · cases h
def tabCk : Tab := [(63, aj (fun _ => none) usX), (64, aj hfP giX), (21, aj bg nmX), (65, aj ci akX), (66, aj r9 cwX), (119, aj (fun _ => none) ctX), (68, aj (fun _ => none) tsX)]
theorem qy (m : Int) : TabOk (envM m) tabCk := .cons (toM sG) (.cons (toM gi_tab) (.cons (toM (toX oc)) (.cons (ak_tab m) (.cons (toM cw_tab) (.cons (toM po) (.cons (toM sM) .nil))))))
def XCk (m : Int) : SX := ⟨envM m, tabCk, noEl, fun _ => .unroll 3⟩
theorem dt (m : Int) : (XCk m).Ok := ⟨aE m, rfl, aF m, qy m⟩
def tabSf : Tab := [(69, aj zo exX), (23, aj bg nmX), (70, aj ci akX), (73, aj r9 cwX), (71, aj (fun _ => none) ctX), (72, aj (fun _ => none) tsX)]
theorem qg (m : Int) : TabOk (envM m) tabSf := .cons (toM ex_tab) (.cons (toM (toX oO)) (.cons (af_tab m) (.cons (toM wf_tab) (.cons (toM nI) (.cons (toM sU) .nil)))))
def XSf (m : Int) : SX := ⟨envM m, tabSf, noEl, fun _ => .unroll 3⟩
theorem dr (m : Int) : (XSf m).Ok := ⟨aE m, rfl, aF m, qg m⟩
def tabC0 : Tab := [(63, aj (fun _ => none) usX)]
def XC0 (m : Int) : SX := ⟨envM m, tabC0, noEl, fun _ => .unroll 3⟩
theorem lV (m : Int) : (XC0 m).Ok := ⟨aE m, rfl, aF m, .cons (toM sG) .nil⟩
def jCk1 (m : Int) (Q : Value → Prop) (QA : KV) (r : SR) : Prop := ay (XCk m) 3 f39 [stpV (rk 1 r)] ⟨.leaf, 0⟩ (au Q QA)
def jCk2 (m : Int) (Q : Value → Prop) (QA : KV) (r : SR) : Prop := ay (XCk m) 3 f39 [stpV (rk 2 r)] ⟨.leaf, 0⟩ (au Q QA)
def jCk3 (m : Int) (Q : Value → Prop) (QA : KV) (r : SR) : Prop := ay (XCk m) 3 f39 [stpV (rk 3 r)] ⟨.leaf, 0⟩ (au Q QA)
def jCk4 (m : Int) (Q : Value → Prop) (QA : KV) (r : SR) : Prop := ay (XCk m) 3 f39 [stpV (rk 4 r)] ⟨.leaf, 0⟩ (au Q QA)
def jCk5 (m : Int) (Q : Value → Prop) (QA : KV) (r : SR) : Prop := ay (XCk m) 3 f39 [stpV (rk 5 r)] ⟨.leaf, 0⟩ (au Q QA)
def jCk6 (m : Int) (Q : Value → Prop) (QA : KV) (r : SR) : Prop := ay (XCk m) 3 f39 [stpV (rk 6 r)] ⟨.leaf, 0⟩ (au Q QA)
def jCk7 (m : Int) (Q : Value → Prop) (QA : KV) (r : SR) : Prop := ay (XCk m) 3 f39 [stpV (rk 7 r)] ⟨.leaf, 0⟩ (au Q QA)
def jCk8 (m : Int) (Q : Value → Prop) (QA : KV) (r : SR) : Prop := ay (XCk m) 3 f39 [stpV (rk 8 r)] ⟨.leaf, 0⟩ (au Q QA)
def jCk9 (m : Int) (Q : Value → Prop) (QA : KV) (r : SR) : Prop := ay (XCk m) 3 f39 [stpV (rk 9 r)] ⟨.leaf, 0⟩ (au Q QA)
def jCk10 (m : Int) (Q : Value → Prop) (QA : KV) (r : SR) : Prop := ay (XCk m) 3 f39 [stpV (rk 10 r)] ⟨.leaf, 0⟩ (au Q QA)
def jCk0 (m : Int) (Q : Value → Prop) (QA : KV) (r : SR) : Prop := ay (XC0 m) 0 f39 [stpV r] ⟨.leaf, 0⟩ (au Q QA)
def jSf1 (m : Int) (Q : Value → Prop) (QA : KV) (r : SR) : Prop := ay (XSf m) 3 f41 [stpV (rk 1 r)] ⟨.leaf, 0⟩ (au Q QA)
def jSf2 (m : Int) (Q : Value → Prop) (QA : KV) (r : SR) : Prop := ay (XSf m) 3 f41 [stpV (rk 2 r)] ⟨.leaf, 0⟩ (au Q QA)
def jSf3 (m : Int) (Q : Value → Prop) (QA : KV) (r : SR) : Prop := ay (XSf m) 3 f41 [stpV (rk 3 r)] ⟨.leaf, 0⟩ (au Q QA)
def jSf4 (m : Int) (Q : Value → Prop) (QA : KV) (r : SR) : Prop := ay (XSf m) 3 f41 [stpV (rk 4 r)] ⟨.leaf, 0⟩ (au Q QA)
def jSf5 (m : Int) (Q : Value → Prop) (QA : KV) (r : SR) : Prop := ay (XSf m) 3 f41 [stpV (rk 5 r)] ⟨.leaf, 0⟩ (au Q QA)
def jSf6 (m : Int) (Q : Value → Prop) (QA : KV) (r : SR) : Prop := ay (XSf m) 3 f41 [stpV (rk 6 r)] ⟨.leaf, 0⟩ (au Q QA)
def jSf7 (m : Int) (Q : Value → Prop) (QA : KV) (r : SR) : Prop := ay (XSf m) 3 f41 [stpV (rk 7 r)] ⟨.leaf, 0⟩ (au Q QA)
def jSf8 (m : Int) (Q : Value → Prop) (QA : KV) (r : SR) : Prop := ay (XSf m) 3 f41 [stpV (rk 8 r)] ⟨.leaf, 0⟩ (au Q QA)
def jSf9 (m : Int) (Q : Value → Prop) (QA : KV) (r : SR) : Prop := ay (XSf m) 3 f41 [stpV (rk 9 r)] ⟨.leaf, 0⟩ (au Q QA)
def jSf10 (m : Int) (Q : Value → Prop) (QA : KV) (r : SR) : Prop := ay (XSf m) 3 f41 [stpV (rk 10 r)] ⟨.leaf, 0⟩ (au Q QA)
def jSf0 (m : Int) (Q : Value → Prop) (QA : KV) (r : SR) : Prop := ay (XC0 m) 0 f41 [stpV r] ⟨.leaf, 0⟩ (au Q QA)
end
end Go.T9

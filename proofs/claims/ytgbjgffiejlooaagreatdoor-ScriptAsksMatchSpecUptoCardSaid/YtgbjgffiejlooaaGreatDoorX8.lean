/- A part of the proof. -/
import Derived.Test.YtgbjgffiejlooaaGreatDoorX7
import Derived.Test.YtgbjgffiejlooaaGreatDoorV
import Derived.KernelRfl
set_option linter.unusedVariables false
set_option linter.unusedSimpArgs false
set_option maxRecDepth 1000000
set_option maxHeartbeats 400000
namespace Go.T9
open Go Go.AM Go.MK Go.Proofs.Tryz
noncomputable section
def jAd (Q : Value → List Value → Prop) (b : Bool) (f o : Int) : Prop := np XU 1 f114 3 [.int .i64 o] (.bool b) (.int .i64 f) (rp 3 Q)
def jUs (K : KV) (k : Int) : Prop := sxFn XU 1 f63 [.int .i64 k] K
theorem jAd_nf (Q : Value → List Value → Prop) (b : Bool) (f o : Int) : jAd Q b f o = (Sp b (Q (Value.tuple ⟨[]⟩) [Vi (Wi (↑(BitVec.toNat (BitVec.ofInt (IntKind.bits .i64) o ||| BitVec.ofInt (IntKind.bits .i64) f)) : Int))]) (Q (Value.tuple ⟨[]⟩) [Vi o])) := by kernel_rfl
theorem jUs_nf (K : KV) (k : Int) : jUs K k = (Sp (decide (k = 1)) (K (Vi 3) (AH.mk Lf 0)) (Sp (decide (k = 2)) (K (Vi 5) (AH.mk Lf 0)) (Sp (decide (k = 3)) (K (Vi 24) (AH.mk Lf 0)) (Sp (decide (k = 4)) (K (Vi 1) (AH.mk Lf 0)) (Sp (decide (k = 5)) (K (Vi 224) (AH.mk Lf 0)) (Sp (decide (k = 6)) (K (Vi 80) (AH.mk Lf 0)) (Sp (decide (k = 7)) (K (Vi 112) (AH.mk Lf 0)) (Sp (decide (k = 8)) (K (Vi 256) (AH.mk Lf 0)) (Sp (decide (k = 10)) (K (Vi 4) (AH.mk Lf 0)) (K (Vi 0) (AH.mk Lf 0))))))))))) := by kernel_rfl
def orI (o f : Int) : Int := IntKind.i64.wrap (BitVec.toNat (BitVec.ofInt IntKind.i64.bits o ||| BitVec.ofInt IntKind.i64.bits f))
def adI (b : Bool) (o f : Int) : Int := bif b then orI o f else o
theorem zW (b : Bool) (f o : Int) : lY envX f114 3 [.int .i64 o] (.bool b) (.int .i64 f) (.tuple ⟨[]⟩) [.int .i64 (adI b o f)] := by
 refine jJ zX (d := 1) ((jAd_nf _ b f o).mpr ?_)
 cases b with
 | true => exact ⟨rfl, rfl⟩
 | false => exact ⟨rfl, rfl⟩
def adF (c : List Value) (y1 y2 : Value) : Option (Option Prop × Value × List Value) := match c, y1, y2 with
 | [.int .i64 o], .bool b, .int .i64 f => some (none, .tuple ⟨[]⟩, [.int .i64 (adI b o f)])
 | _, _, _ => none
theorem ad_tab : ∀ args A p v A', iM 3 adF args A = some (p, v, A') → PH p → an envX 114 args A v A' := m5 ag ah (fn := f114) rfl fun c y1 y2 p v c2 h hp => by
 unfold adF at h
 split at h
 · simp only [osI, Prod.mk.injEq] at h
   obtain ⟨rfl, rfl, rfl⟩ := h
   exact ⟨HF.cons (.scal rfl) (HF.cons (HFi _ _) HF.nil), HF.cons (HFi _ _) HF.nil, HF.cons (HFi _ _) HF.nil, .tuple HF.nil, zW _ _ _⟩
 · cases h
def usI (k : Int) : Int := bif decide (k = 1) then 3 else bif decide (k = 2) then 5 else bif decide (k = 3) then 24 else bif decide (k = 4) then 1 else bif decide (k = 5) then 224 else bif decide (k = 6) then 80 else bif decide (k = 7) then 112 else bif decide (k = 8) then 256 else bif decide (k = 10) then 4 else 0
theorem uK (k : Int) : Walk envX f63 [.int .i64 k] (.int .i64 (usI k)) := by
 refine be zX (d := 1) ((jUs_nf _ k).mpr ?_)
 unfold usI
 cases decide (k = 1)
 case true => exact .same (HFi _ _)
 cases decide (k = 2)
 case true => exact .same (HFi _ _)
 cases decide (k = 3)
 case true => exact .same (HFi _ _)
 cases decide (k = 4)
 case true => exact .same (HFi _ _)
 cases decide (k = 5)
 case true => exact .same (HFi _ _)
 cases decide (k = 6)
 case true => exact .same (HFi _ _)
 cases decide (k = 7)
 case true => exact .same (HFi _ _)
 cases decide (k = 8)
 case true => exact .same (HFi _ _)
 cases decide (k = 10)
 case true => exact .same (HFi _ _)
 exact .same (HFi _ _)
def usX : List Value → Option Value
 | [.int .i64 k] => some (.int .i64 (usI k))
 | _ => none
theorem sG : ∀ args A p v A', aj (fun _ => none) usX args A = some (p, v, A') → PH p → an envX 63 args A v A' := ai ag ah (fn := f63) rfl fun args v h hp => by
 unfold usX at h
 split at h
 · simp only [osI] at h
   subst h
   exact ⟨HF.cons (HFi _ _) HF.nil, uK _⟩
 · cases h
structure SR where
 kind : Int
 name : SB
 meth : SB
 whr : SB
 heads : List Value
 body : SB
 val : SB
 lo : Int
 hi : Int
 takes : List Value
 tests : List Value
 tr : Int
 ta : SB
 tb : SB
 tx : Int
 ty : Int
 thn : List Value
 els : List Value
 ways : List Value
def stcL (r : SR) : List Value := [.int .i64 r.kind, .string r.name, .string r.meth, .string r.whr, dat 2 r.heads, .string r.body, .string r.val, .int .i64 r.lo, .int .i64 r.hi, dat 4 r.takes, dat 5 r.tests, .int .i64 r.tr, .string r.ta, .string r.tb, .int .i64 r.tx, .int .i64 r.ty, dat 19 r.thn, dat 19 r.els, dat 2 r.ways]
def stpV (r : SR) : Value := .agg ⟨stcL r⟩
def rk (k : Int) (r : SR) : SR := ⟨k, r.name, r.meth, r.whr, r.heads, r.body, r.val, r.lo, r.hi, r.takes, r.tests, r.tr, r.ta, r.tb, r.tx, r.ty, r.thn, r.els, r.ways⟩
def srA : Value → Option SR
 | .agg ⟨[.int .i64 kind, .string name, .string meth, .string whr, .func (.yield 2) ⟨heads⟩ ⟨[]⟩, .string body, .string val, .int .i64 lo, .int .i64 hi, .func (.yield 4) ⟨takes⟩ ⟨[]⟩, .func (.yield 5) ⟨tests⟩ ⟨[]⟩, .int .i64 tr, .string ta, .string tb, .int .i64 tx, .int .i64 ty, .func (.yield 19) ⟨thn⟩ ⟨[]⟩, .func (.yield 19) ⟨els⟩ ⟨[]⟩, .func (.yield 2) ⟨ways⟩ ⟨[]⟩]⟩ => some ⟨kind, name, meth, whr, heads, body, val, lo, hi, takes, tests, tr, ta, tb, tx, ty, thn, els, ways⟩
 | _ => none
theorem dm {v : Value} {r : SR} (h : srA v = some r) : v = stpV r := by
 unfold srA at h
 split at h
 · simp only [osI] at h
   subst h; rfl
 · cases h
def tabGi : Tab := [(114, iM 3 adF)]
theorem qt : TabOk envX tabGi := .cons ad_tab .nil
def XGi : SX := ⟨envX, tabGi, noEl, fun _ => .unroll 0⟩
theorem us : XGi.Ok := ⟨ag, aw, ah, qt⟩
def jGi (Q : Value → Prop) (QA : KV) (r : SR) : Prop := sxFn XGi 2 f64 [stpV r] (au Q QA)
def jEx1 (Q : Value → Prop) (QA : KV) (r : SR) : Prop := sxFn XGi 2 f69 [stpV (rk 1 r)] (au Q QA)
def jEx2 (Q : Value → Prop) (QA : KV) (r : SR) : Prop := sxFn XGi 2 f69 [stpV (rk 2 r)] (au Q QA)
def jEx3 (Q : Value → Prop) (QA : KV) (r : SR) : Prop := sxFn XGi 2 f69 [stpV (rk 3 r)] (au Q QA)
def jEx4 (Q : Value → Prop) (QA : KV) (r : SR) : Prop := sxFn XGi 2 f69 [stpV (rk 4 r)] (au Q QA)
def jEx5 (Q : Value → Prop) (QA : KV) (r : SR) : Prop := sxFn XGi 2 f69 [stpV (rk 5 r)] (au Q QA)
def jEx6 (Q : Value → Prop) (QA : KV) (r : SR) : Prop := sxFn XGi 2 f69 [stpV (rk 6 r)] (au Q QA)
def jEx7 (Q : Value → Prop) (QA : KV) (r : SR) : Prop := sxFn XGi 2 f69 [stpV (rk 7 r)] (au Q QA)
def jEx8 (Q : Value → Prop) (QA : KV) (r : SR) : Prop := sxFn XGi 2 f69 [stpV (rk 8 r)] (au Q QA)
def jEx9 (Q : Value → Prop) (QA : KV) (r : SR) : Prop := sxFn XGi 2 f69 [stpV (rk 9 r)] (au Q QA)
def jEx10 (Q : Value → Prop) (QA : KV) (r : SR) : Prop := sxFn XGi 2 f69 [stpV (rk 10 r)] (au Q QA)
set_option maxHeartbeats 1000000
theorem jGi_nf (Q : Value → Prop) (QA : KV) (r : SR) : jGi Q QA r = (Sp (!eqL r.meth.data.toList (ByteArray.mk #[]).data.toList) (Q (Vi (adI (decide (0 < (r.ways.length : Int))) (adI (decide (0 < (r.els.length : Int))) (adI (decide (0 < (r.thn.length : Int))) (adI (!(decide (r.tr = 0) && (eqL r.ta.data.toList (ByteArray.mk #[]).data.toList && (eqL r.tb.data.toList (ByteArray.mk #[]).data.toList && (decide (r.tx = 0) && (decide (r.ty = 0) && true)))))) (adI (!decide (r.hi = 0)) (adI (!decide (r.lo = 0)) (adI (!eqL r.val.data.toList (ByteArray.mk #[]).data.toList) (adI true (adI (!eqL r.name.data.toList (ByteArray.mk #[]).data.toList) 0 1) 2) 4) 8) 16) 32) 64) 128) 256))) (Sp (!eqL r.whr.data.toList (ByteArray.mk #[]).data.toList) (Q (Vi (adI (decide (0 < (r.ways.length : Int))) (adI (decide (0 < (r.els.length : Int))) (adI (decide (0 < (r.thn.length : Int))) (adI (!(decide (r.tr = 0) && (eqL r.ta.data.toList (ByteArray.mk #[]).data.toList && (eqL r.tb.data.toList (ByteArray.mk #[]).data.toList && (decide (r.tx = 0) && (decide (r.ty = 0) && true)))))) (adI (!decide (r.hi = 0)) (adI (!decide (r.lo = 0)) (adI (!eqL r.val.data.toList (ByteArray.mk #[]).data.toList) (adI true (adI (!eqL r.name.data.toList (ByteArray.mk #[]).data.toList) 0 1) 2) 4) 8) 16) 32) 64) 128) 256))) (Sp (decide (0 < (r.heads.length : Int))) (Q (Vi (adI (decide (0 < (r.ways.length : Int))) (adI (decide (0 < (r.els.length : Int))) (adI (decide (0 < (r.thn.length : Int))) (adI (!(decide (r.tr = 0) && (eqL r.ta.data.toList (ByteArray.mk #[]).data.toList && (eqL r.tb.data.toList (ByteArray.mk #[]).data.toList && (decide (r.tx = 0) && (decide (r.ty = 0) && true)))))) (adI (!decide (r.hi = 0)) (adI (!decide (r.lo = 0)) (adI (!eqL r.val.data.toList (ByteArray.mk #[]).data.toList) (adI true (adI (!eqL r.name.data.toList (ByteArray.mk #[]).data.toList) 0 1) 2) 4) 8) 16) 32) 64) 128) 256))) (Sp (!eqL r.body.data.toList (ByteArray.mk #[]).data.toList) (Q (Vi (adI (decide (0 < (r.ways.length : Int))) (adI (decide (0 < (r.els.length : Int))) (adI (decide (0 < (r.thn.length : Int))) (adI (!(decide (r.tr = 0) && (eqL r.ta.data.toList (ByteArray.mk #[]).data.toList && (eqL r.tb.data.toList (ByteArray.mk #[]).data.toList && (decide (r.tx = 0) && (decide (r.ty = 0) && true)))))) (adI (!decide (r.hi = 0)) (adI (!decide (r.lo = 0)) (adI (!eqL r.val.data.toList (ByteArray.mk #[]).data.toList) (adI true (adI (!eqL r.name.data.toList (ByteArray.mk #[]).data.toList) 0 1) 2) 4) 8) 16) 32) 64) 128) 256))) (Sp (decide (0 < (r.takes.length : Int))) (Q (Vi (adI (decide (0 < (r.ways.length : Int))) (adI (decide (0 < (r.els.length : Int))) (adI (decide (0 < (r.thn.length : Int))) (adI (!(decide (r.tr = 0) && (eqL r.ta.data.toList (ByteArray.mk #[]).data.toList && (eqL r.tb.data.toList (ByteArray.mk #[]).data.toList && (decide (r.tx = 0) && (decide (r.ty = 0) && true)))))) (adI (!decide (r.hi = 0)) (adI (!decide (r.lo = 0)) (adI (!eqL r.val.data.toList (ByteArray.mk #[]).data.toList) (adI true (adI (!eqL r.name.data.toList (ByteArray.mk #[]).data.toList) 0 1) 2) 4) 8) 16) 32) 64) 128) 256))) (Q (Vi (adI (decide (0 < (r.ways.length : Int))) (adI (decide (0 < (r.els.length : Int))) (adI (decide (0 < (r.thn.length : Int))) (adI (!(decide (r.tr = 0) && (eqL r.ta.data.toList (ByteArray.mk #[]).data.toList && (eqL r.tb.data.toList (ByteArray.mk #[]).data.toList && (decide (r.tx = 0) && (decide (r.ty = 0) && true)))))) (adI (!decide (r.hi = 0)) (adI (!decide (r.lo = 0)) (adI (!eqL r.val.data.toList (ByteArray.mk #[]).data.toList) (adI (decide (0 < (r.tests.length : Int))) (adI (!eqL r.name.data.toList (ByteArray.mk #[]).data.toList) 0 1) 2) 4) 8) 16) 32) 64) 128) 256)))))))) := by kernel_rfl
theorem yo (Q : Value → Prop) (QA : KV) (r : SR) : jEx1 Q QA r = (Sp (!eqL r.val.data.toList (ByteArray.mk #[]).data.toList) (Q (Vb true)) (Sp (!decide (r.lo = 0)) (Q (Vb true)) (Sp (!decide (r.hi = 0)) (Q (Vb true)) (Sp (!(decide (r.tr = 0) && (eqL r.ta.data.toList (ByteArray.mk #[]).data.toList && (eqL r.tb.data.toList (ByteArray.mk #[]).data.toList && (decide (r.tx = 0) && (decide (r.ty = 0) && true)))))) (Q (Vb true)) (Sp (decide (0 < (r.thn.length : Int))) (Q (Vb true)) (Sp (decide (0 < (r.els.length : Int))) (Q (Vb true)) (Q (Vb (decide (0 < (r.ways.length : Int))))))))))) := by kernel_rfl
theorem yn (Q : Value → Prop) (QA : KV) (r : SR) : jEx2 Q QA r = (Sp (!eqL r.meth.data.toList (ByteArray.mk #[]).data.toList) (Q (Vb true)) (Sp (!eqL r.whr.data.toList (ByteArray.mk #[]).data.toList) (Q (Vb true)) (Sp (!eqL r.body.data.toList (ByteArray.mk #[]).data.toList) (Q (Vb true)) (Sp (decide (0 < (r.heads.length : Int))) (Q (Vb true)) (Sp (decide (0 < (r.takes.length : Int))) (Q (Vb true)) (Sp (decide (0 < (r.tests.length : Int))) (Q (Vb true)) (Sp (!decide (r.lo = 0)) (Q (Vb true)) (Sp (!decide (r.hi = 0)) (Q (Vb true)) (Sp (!(decide (r.tr = 0) && (eqL r.ta.data.toList (ByteArray.mk #[]).data.toList && (eqL r.tb.data.toList (ByteArray.mk #[]).data.toList && (decide (r.tx = 0) && (decide (r.ty = 0) && true)))))) (Q (Vb true)) (Sp (decide (0 < (r.thn.length : Int))) (Q (Vb true)) (Sp (decide (0 < (r.els.length : Int))) (Q (Vb true)) (Q (Vb (decide (0 < (r.ways.length : Int)))))))))))))))) := by kernel_rfl
theorem ym (Q : Value → Prop) (QA : KV) (r : SR) : jEx3 Q QA r = (Sp (!eqL r.name.data.toList (ByteArray.mk #[]).data.toList) (Q (Vb true)) (Sp (!eqL r.meth.data.toList (ByteArray.mk #[]).data.toList) (Q (Vb true)) (Sp (!eqL r.whr.data.toList (ByteArray.mk #[]).data.toList) (Q (Vb true)) (Sp (!eqL r.body.data.toList (ByteArray.mk #[]).data.toList) (Q (Vb true)) (Sp (decide (0 < (r.heads.length : Int))) (Q (Vb true)) (Sp (decide (0 < (r.takes.length : Int))) (Q (Vb true)) (Sp (decide (0 < (r.tests.length : Int))) (Q (Vb true)) (Sp (!eqL r.val.data.toList (ByteArray.mk #[]).data.toList) (Q (Vb true)) (Sp (!(decide (r.tr = 0) && (eqL r.ta.data.toList (ByteArray.mk #[]).data.toList && (eqL r.tb.data.toList (ByteArray.mk #[]).data.toList && (decide (r.tx = 0) && (decide (r.ty = 0) && true)))))) (Q (Vb true)) (Sp (decide (0 < (r.thn.length : Int))) (Q (Vb true)) (Sp (decide (0 < (r.els.length : Int))) (Q (Vb true)) (Q (Vb (decide (0 < (r.ways.length : Int)))))))))))))))) := by kernel_rfl
theorem yl (Q : Value → Prop) (QA : KV) (r : SR) : jEx4 Q QA r = (Sp (!eqL r.meth.data.toList (ByteArray.mk #[]).data.toList) (Q (Vb true)) (Sp (!eqL r.whr.data.toList (ByteArray.mk #[]).data.toList) (Q (Vb true)) (Sp (!eqL r.body.data.toList (ByteArray.mk #[]).data.toList) (Q (Vb true)) (Sp (decide (0 < (r.heads.length : Int))) (Q (Vb true)) (Sp (decide (0 < (r.takes.length : Int))) (Q (Vb true)) (Sp (decide (0 < (r.tests.length : Int))) (Q (Vb true)) (Sp (!eqL r.val.data.toList (ByteArray.mk #[]).data.toList) (Q (Vb true)) (Sp (!decide (r.lo = 0)) (Q (Vb true)) (Sp (!decide (r.hi = 0)) (Q (Vb true)) (Sp (!(decide (r.tr = 0) && (eqL r.ta.data.toList (ByteArray.mk #[]).data.toList && (eqL r.tb.data.toList (ByteArray.mk #[]).data.toList && (decide (r.tx = 0) && (decide (r.ty = 0) && true)))))) (Q (Vb true)) (Sp (decide (0 < (r.thn.length : Int))) (Q (Vb true)) (Sp (decide (0 < (r.els.length : Int))) (Q (Vb true)) (Q (Vb (decide (0 < (r.ways.length : Int))))))))))))))))) := by kernel_rfl
theorem yj (Q : Value → Prop) (QA : KV) (r : SR) : jEx5 Q QA r = (Sp (!eqL r.name.data.toList (ByteArray.mk #[]).data.toList) (Q (Vb true)) (Sp (!eqL r.meth.data.toList (ByteArray.mk #[]).data.toList) (Q (Vb true)) (Sp (!eqL r.whr.data.toList (ByteArray.mk #[]).data.toList) (Q (Vb true)) (Sp (!eqL r.body.data.toList (ByteArray.mk #[]).data.toList) (Q (Vb true)) (Sp (decide (0 < (r.heads.length : Int))) (Q (Vb true)) (Sp (decide (0 < (r.takes.length : Int))) (Q (Vb true)) (Sp (decide (0 < (r.tests.length : Int))) (Q (Vb true)) (Sp (!eqL r.val.data.toList (ByteArray.mk #[]).data.toList) (Q (Vb true)) (Sp (!decide (r.lo = 0)) (Q (Vb true)) (Sp (!decide (r.hi = 0)) (Q (Vb true)) (Q (Vb (decide (0 < (r.ways.length : Int))))))))))))))) := by kernel_rfl
theorem yi (Q : Value → Prop) (QA : KV) (r : SR) : jEx6 Q QA r = (Sp (!eqL r.name.data.toList (ByteArray.mk #[]).data.toList) (Q (Vb true)) (Sp (!eqL r.meth.data.toList (ByteArray.mk #[]).data.toList) (Q (Vb true)) (Sp (!eqL r.whr.data.toList (ByteArray.mk #[]).data.toList) (Q (Vb true)) (Sp (!eqL r.body.data.toList (ByteArray.mk #[]).data.toList) (Q (Vb true)) (Sp (decide (0 < (r.heads.length : Int))) (Q (Vb true)) (Sp (decide (0 < (r.takes.length : Int))) (Q (Vb true)) (Sp (decide (0 < (r.tests.length : Int))) (Q (Vb true)) (Sp (!eqL r.val.data.toList (ByteArray.mk #[]).data.toList) (Q (Vb true)) (Sp (!decide (r.lo = 0)) (Q (Vb true)) (Sp (!(decide (r.tr = 0) && (eqL r.ta.data.toList (ByteArray.mk #[]).data.toList && (eqL r.tb.data.toList (ByteArray.mk #[]).data.toList && (decide (r.tx = 0) && (decide (r.ty = 0) && true)))))) (Q (Vb true)) (Sp (decide (0 < (r.els.length : Int))) (Q (Vb true)) (Q (Vb (decide (0 < (r.ways.length : Int)))))))))))))))) := by kernel_rfl
theorem yh (Q : Value → Prop) (QA : KV) (r : SR) : jEx7 Q QA r = (Sp (!eqL r.name.data.toList (ByteArray.mk #[]).data.toList) (Q (Vb true)) (Sp (!eqL r.meth.data.toList (ByteArray.mk #[]).data.toList) (Q (Vb true)) (Sp (!eqL r.whr.data.toList (ByteArray.mk #[]).data.toList) (Q (Vb true)) (Sp (!eqL r.body.data.toList (ByteArray.mk #[]).data.toList) (Q (Vb true)) (Sp (decide (0 < (r.heads.length : Int))) (Q (Vb true)) (Sp (decide (0 < (r.takes.length : Int))) (Q (Vb true)) (Sp (decide (0 < (r.tests.length : Int))) (Q (Vb true)) (Sp (!eqL r.val.data.toList (ByteArray.mk #[]).data.toList) (Q (Vb true)) (Sp (!decide (r.lo = 0)) (Q (Vb true)) (Sp (decide (0 < (r.els.length : Int))) (Q (Vb true)) (Q (Vb (decide (0 < (r.ways.length : Int))))))))))))))) := by kernel_rfl
theorem yg (Q : Value → Prop) (QA : KV) (r : SR) : jEx8 Q QA r = (Sp (!eqL r.name.data.toList (ByteArray.mk #[]).data.toList) (Q (Vb true)) (Sp (!eqL r.meth.data.toList (ByteArray.mk #[]).data.toList) (Q (Vb true)) (Sp (!eqL r.whr.data.toList (ByteArray.mk #[]).data.toList) (Q (Vb true)) (Sp (!eqL r.body.data.toList (ByteArray.mk #[]).data.toList) (Q (Vb true)) (Sp (decide (0 < (r.heads.length : Int))) (Q (Vb true)) (Sp (decide (0 < (r.takes.length : Int))) (Q (Vb true)) (Sp (decide (0 < (r.tests.length : Int))) (Q (Vb true)) (Sp (!eqL r.val.data.toList (ByteArray.mk #[]).data.toList) (Q (Vb true)) (Sp (!decide (r.lo = 0)) (Q (Vb true)) (Sp (!decide (r.hi = 0)) (Q (Vb true)) (Sp (!(decide (r.tr = 0) && (eqL r.ta.data.toList (ByteArray.mk #[]).data.toList && (eqL r.tb.data.toList (ByteArray.mk #[]).data.toList && (decide (r.tx = 0) && (decide (r.ty = 0) && true)))))) (Q (Vb true)) (Sp (decide (0 < (r.thn.length : Int))) (Q (Vb true)) (Sp (decide (0 < (r.els.length : Int))) (Q (Vb true)) (Q (Vb false))))))))))))))) := by kernel_rfl
theorem yf (Q : Value → Prop) (QA : KV) (r : SR) : jEx9 Q QA r = (Sp (!eqL r.name.data.toList (ByteArray.mk #[]).data.toList) (Q (Vb true)) (Sp (!eqL r.meth.data.toList (ByteArray.mk #[]).data.toList) (Q (Vb true)) (Sp (!eqL r.whr.data.toList (ByteArray.mk #[]).data.toList) (Q (Vb true)) (Sp (!eqL r.body.data.toList (ByteArray.mk #[]).data.toList) (Q (Vb true)) (Sp (decide (0 < (r.heads.length : Int))) (Q (Vb true)) (Sp (decide (0 < (r.takes.length : Int))) (Q (Vb true)) (Sp (decide (0 < (r.tests.length : Int))) (Q (Vb true)) (Sp (!eqL r.val.data.toList (ByteArray.mk #[]).data.toList) (Q (Vb true)) (Sp (!decide (r.lo = 0)) (Q (Vb true)) (Sp (!decide (r.hi = 0)) (Q (Vb true)) (Sp (!(decide (r.tr = 0) && (eqL r.ta.data.toList (ByteArray.mk #[]).data.toList && (eqL r.tb.data.toList (ByteArray.mk #[]).data.toList && (decide (r.tx = 0) && (decide (r.ty = 0) && true)))))) (Q (Vb true)) (Sp (decide (0 < (r.thn.length : Int))) (Q (Vb true)) (Sp (decide (0 < (r.els.length : Int))) (Q (Vb true)) (Q (Vb (decide (0 < (r.ways.length : Int)))))))))))))))))) := by kernel_rfl
theorem rC (Q : Value → Prop) (QA : KV) (r : SR) : jEx10 Q QA r = (Sp (!eqL r.name.data.toList (ByteArray.mk #[]).data.toList) (Q (Vb true)) (Sp (!eqL r.meth.data.toList (ByteArray.mk #[]).data.toList) (Q (Vb true)) (Sp (!eqL r.whr.data.toList (ByteArray.mk #[]).data.toList) (Q (Vb true)) (Sp (!eqL r.body.data.toList (ByteArray.mk #[]).data.toList) (Q (Vb true)) (Sp (decide (0 < (r.heads.length : Int))) (Q (Vb true)) (Sp (decide (0 < (r.takes.length : Int))) (Q (Vb true)) (Sp (decide (0 < (r.tests.length : Int))) (Q (Vb true)) (Sp (!decide (r.lo = 0)) (Q (Vb true)) (Sp (!decide (r.hi = 0)) (Q (Vb true)) (Sp (!(decide (r.tr = 0) && (eqL r.ta.data.toList (ByteArray.mk #[]).data.toList && (eqL r.tb.data.toList (ByteArray.mk #[]).data.toList && (decide (r.tx = 0) && (decide (r.ty = 0) && true)))))) (Q (Vb true)) (Sp (decide (0 < (r.thn.length : Int))) (Q (Vb true)) (Sp (decide (0 < (r.els.length : Int))) (Q (Vb true)) (Q (Vb (decide (0 < (r.ways.length : Int))))))))))))))))) := by kernel_rfl
def fN (r : SR) : Bool := !eqL r.name.data.toList []
def fA (r : SR) : Bool := !eqL r.meth.data.toList [] || (!eqL r.whr.data.toList [] || (decide (0 < (r.heads.length : Int)) || (!eqL r.body.data.toList [] || (decide (0 < (r.takes.length : Int)) || decide (0 < (r.tests.length : Int))))))
def fV (r : SR) : Bool := !eqL r.val.data.toList []
def fL (r : SR) : Bool := !decide (r.lo = 0)
def fH (r : SR) : Bool := !decide (r.hi = 0)
def fT (r : SR) : Bool := !(decide (r.tr = 0) && (eqL r.ta.data.toList [] && (eqL r.tb.data.toList [] && (decide (r.tx = 0) && (decide (r.ty = 0) && true)))))
def fI (r : SR) : Bool := decide (0 < (r.thn.length : Int))
def fE (r : SR) : Bool := decide (0 < (r.els.length : Int))
def fW (r : SR) : Bool := decide (0 < (r.ways.length : Int))
def gvI (n a v l h t i e w : Bool) : Int := adI w (adI e (adI i (adI t (adI h (adI l (adI v (adI a (adI n 0 1) 2) 4) 8) 16) 32) 64) 128) 256
def exB (k : Int) (n a v l h t i e w : Bool) : Bool :=
 (n && !(decide (k = 1) || decide (k = 2) || decide (k = 4))) || (a && !decide (k = 1)) || (v && !(decide (k = 2) || decide (k = 10))) || (l && !decide (k = 3)) || (h && !(decide (k = 3) || decide (k = 6) || decide (k = 7))) ||
 (t && !(decide (k = 5) || decide (k = 7))) || (i && !(decide (k = 5) || decide (k = 6) || decide (k = 7))) || (e && !decide (k = 5)) || (w && !decide (k = 8))
def gvR (r : SR) : Int := gvI (fN r) (fA r) (fV r) (fL r) (fH r) (fT r) (fI r) (fE r) (fW r)
def exR (r : SR) : Bool := exB r.kind (fN r) (fA r) (fV r) (fL r) (fH r) (fT r) (fI r) (fE r) (fW r)
theorem y0 (r : SR) : Walk envX f64 [stpV r] (.int .i64 (gvR r)) := by
 refine av us (d := 2) (HFi _ _) ((jGi_nf _ _ r).mpr ?_)
 have e0 : (ByteArray.mk #[]).data.toList = [] := rfl
 unfold gvR gvI fN fA fV fL fH fT fI fE fW
 simp only [e0]
 cases eqL r.meth.data.toList []
 case false => rfl
 cases eqL r.whr.data.toList []
 case false => rfl
 cases decide (0 < (r.heads.length : Int))
 case true => rfl
 cases eqL r.body.data.toList []
 case false => rfl
 cases decide (0 < (r.takes.length : Int))
 case true => rfl
 rfl
theorem zn (r : SR) (h1 : 1 ≤ r.kind) (h2 : r.kind ≤ 10) : Walk envX f69 [stpV r] (.bool (exR r)) := by
 have hk : ∃ (k : Int) (q : SR), r = rk k q ∧ (k = 1 ∨ k = 2 ∨ k = 3 ∨ k = 4 ∨ k = 5 ∨ k = 6 ∨ k = 7 ∨ k = 8 ∨ k = 9 ∨ k = 10) := ⟨r.kind, r, rfl, by omega⟩
 obtain ⟨k, q, rfl, hk⟩ := hk
 clear h1 h2
 refine av us (d := 2) (HFb _) ?_
 have e0 : (ByteArray.mk #[]).data.toList = [] := rfl
 rcases hk with rfl | rfl | rfl | rfl | rfl | rfl | rfl | rfl | rfl | rfl
 refine (yo _ _ q).mpr ?_
 rotate_left
 refine (yn _ _ q).mpr ?_
 rotate_left
 refine (ym _ _ q).mpr ?_
 rotate_left
 refine (yl _ _ q).mpr ?_
 rotate_left
 refine (yj _ _ q).mpr ?_
 rotate_left
 refine (yi _ _ q).mpr ?_
 rotate_left
 refine (yh _ _ q).mpr ?_
 rotate_left
 refine (yg _ _ q).mpr ?_
 rotate_left
 refine (yf _ _ q).mpr ?_
 rotate_left
 refine (rC _ _ q).mpr ?_
 rotate_left
 all_goals
  unfold exR exB fN fA fV fL fH fT fI fE fW rk
  dsimp only
  try simp only [e0]
  generalize eqL q.name.data.toList [] = b1
  generalize eqL q.meth.data.toList [] = b2
  generalize eqL q.whr.data.toList [] = b3
  generalize eqL q.body.data.toList [] = b4
  generalize decide (0 < (q.heads.length : Int)) = b5
  generalize decide (0 < (q.takes.length : Int)) = b6
  generalize decide (0 < (q.tests.length : Int)) = b7
  generalize eqL q.val.data.toList [] = b8
  generalize decide (q.lo = 0) = b9
  generalize decide (q.hi = 0) = b10
  generalize (decide (q.tr = 0) && (eqL q.ta.data.toList [] && (eqL q.tb.data.toList [] && (decide (q.tx = 0) && (decide (q.ty = 0) && true))))) = b11
  generalize decide (0 < (q.thn.length : Int)) = b12
  generalize decide (0 < (q.els.length : Int)) = b13
  generalize decide (0 < (q.ways.length : Int)) = b14
  repeat' (refine Sp.intro (fun h => ?_) (fun h => ?_))
  all_goals (simp_all)
def hfP (args : List Value) : Option Prop := some (∀ x ∈ args, HF x)
def giX : List Value → Option Value
 | [v] => (match srA v with | some r => some (.int .i64 (gvR r)) | none => none)
 | _ => none
theorem gi_tab : ∀ args A p v A', aj hfP giX args A = some (p, v, A') → PH p → an envX 64 args A v A' := ai ag ah (fn := f64) rfl fun args v h hp => by
 unfold giX at h
 split at h
 · split at h
   · rename_i r hr
     simp only [osI] at h
     subst h
     rw [dm hr] at hp ⊢
     exact ⟨hp, y0 r⟩
   · cases h
 · cases h
def exX : List Value → Option Value
 | [v] => (match srA v with | some r => some (.bool (exR r)) | none => none)
 | _ => none
def zo : List Value → Option Prop
 | [v] => (match srA v with | some r => some (HF (stpV r) ∧ 1 ≤ r.kind ∧ r.kind ≤ 10) | none => none)
 | _ => none
theorem ex_tab : ∀ args A p v A', aj zo exX args A = some (p, v, A') → PH p → an envX 69 args A v A' := ai ag ah (fn := f69) rfl fun args v h hp => by
 unfold exX at h
 split at h
 · rename_i v0
   split at h
   · rename_i r hr
     simp only [osI] at h
     subst h
     have hp : HF (stpV r) ∧ 1 ≤ r.kind ∧ r.kind ≤ 10 := by
      simp only [zo, hr] at hp; exact hp
     rw [dm hr]
     exact ⟨HF.cons hp.1 HF.nil, zn r hp.2.1 hp.2.2⟩
   · cases h
 · cases h
theorem gx1 : ∀ n a v l h t i e w : Bool, decide (IntKind.i64.wrap (BitVec.toNat (BitVec.ofInt IntKind.i64.bits (gvI n a v l h t i e w) &&& ~~~ BitVec.ofInt IntKind.i64.bits 3)) = 0) = !exB 1 n a v l h t i e w := by decide +kernel
theorem gx2 : ∀ n a v l h t i e w : Bool, decide (IntKind.i64.wrap (BitVec.toNat (BitVec.ofInt IntKind.i64.bits (gvI n a v l h t i e w) &&& ~~~ BitVec.ofInt IntKind.i64.bits 5)) = 0) = !exB 2 n a v l h t i e w := by decide +kernel
theorem gx3 : ∀ n a v l h t i e w : Bool, decide (IntKind.i64.wrap (BitVec.toNat (BitVec.ofInt IntKind.i64.bits (gvI n a v l h t i e w) &&& ~~~ BitVec.ofInt IntKind.i64.bits 24)) = 0) = !exB 3 n a v l h t i e w := by decide +kernel
theorem gx4 : ∀ n a v l h t i e w : Bool, decide (IntKind.i64.wrap (BitVec.toNat (BitVec.ofInt IntKind.i64.bits (gvI n a v l h t i e w) &&& ~~~ BitVec.ofInt IntKind.i64.bits 1)) = 0) = !exB 4 n a v l h t i e w := by decide +kernel
theorem gx5 : ∀ n a v l h t i e w : Bool, decide (IntKind.i64.wrap (BitVec.toNat (BitVec.ofInt IntKind.i64.bits (gvI n a v l h t i e w) &&& ~~~ BitVec.ofInt IntKind.i64.bits 224)) = 0) = !exB 5 n a v l h t i e w := by decide +kernel
theorem gx6 : ∀ n a v l h t i e w : Bool, decide (IntKind.i64.wrap (BitVec.toNat (BitVec.ofInt IntKind.i64.bits (gvI n a v l h t i e w) &&& ~~~ BitVec.ofInt IntKind.i64.bits 80)) = 0) = !exB 6 n a v l h t i e w := by decide +kernel
theorem gx7 : ∀ n a v l h t i e w : Bool, decide (IntKind.i64.wrap (BitVec.toNat (BitVec.ofInt IntKind.i64.bits (gvI n a v l h t i e w) &&& ~~~ BitVec.ofInt IntKind.i64.bits 112)) = 0) = !exB 7 n a v l h t i e w := by decide +kernel
theorem gx8 : ∀ n a v l h t i e w : Bool, decide (IntKind.i64.wrap (BitVec.toNat (BitVec.ofInt IntKind.i64.bits (gvI n a v l h t i e w) &&& ~~~ BitVec.ofInt IntKind.i64.bits 256)) = 0) = !exB 8 n a v l h t i e w := by decide +kernel
theorem gx9 : ∀ n a v l h t i e w : Bool, decide (IntKind.i64.wrap (BitVec.toNat (BitVec.ofInt IntKind.i64.bits (gvI n a v l h t i e w) &&& ~~~ BitVec.ofInt IntKind.i64.bits 0)) = 0) = !exB 9 n a v l h t i e w := by decide +kernel
theorem gx10 : ∀ n a v l h t i e w : Bool, decide (IntKind.i64.wrap (BitVec.toNat (BitVec.ofInt IntKind.i64.bits (gvI n a v l h t i e w) &&& ~~~ BitVec.ofInt IntKind.i64.bits 4)) = 0) = !exB 10 n a v l h t i e w := by decide +kernel
def tk0 (els : List Value) (i : Int) : Int := match nth els i.toNat with | some (.agg ⟨[.int _ k, _, _, _]⟩) => k | _ => 0
def tk1 (els : List Value) (i : Int) : SB := match nth els i.toNat with | some (.agg ⟨[_, .string n, _, _]⟩) => n | _ => ByteArray.empty
def tk2 (els : List Value) (i : Int) : SB := match nth els i.toNat with | some (.agg ⟨[_, _, .string a, _]⟩) => a | _ => ByteArray.empty
def tk3 (els : List Value) (i : Int) : SB := match nth els i.toNat with | some (.agg ⟨[_, _, _, .string b]⟩) => b | _ => ByteArray.empty
def ts0 (els : List Value) (i : Int) : Int := match nth els i.toNat with | some (.agg ⟨[.int _ k, _, _, _, _]⟩) => k | _ => 0
def ts1 (els : List Value) (i : Int) : SB := match nth els i.toNat with | some (.agg ⟨[_, .string n, _, _, _]⟩) => n | _ => ByteArray.empty
def ts2 (els : List Value) (i : Int) : SB := match nth els i.toNat with | some (.agg ⟨[_, _, .string a, _, _]⟩) => a | _ => ByteArray.empty
def ts3 (els : List Value) (i : Int) : Int := match nth els i.toNat with | some (.agg ⟨[_, _, _, .int _ x, _]⟩) => x | _ => 0
def ts4 (els : List Value) (i : Int) : Int := match nth els i.toNat with | some (.agg ⟨[_, _, _, _, .int _ y]⟩) => y | _ => 0
def elAk : El := { El.of (fun sz t els i => bif Nat.beq sz 2 then some (.agg ⟨[.string (paAt els i), .string (pbAt els i)]⟩) else bif Nat.beq sz 4 then some (.agg ⟨[.int .i64 (tk0 els i), .string (tk1 els i), .string (tk2 els i), .string (tk3 els i)]⟩) else bif Nat.beq sz 5 then some (.agg ⟨[.int .i64 (ts0 els i), .string (ts1 els i), .string (ts2 els i), .int .i64 (ts3 els i), .int .i64 (ts4 els i)]⟩) else none) with app := true }
def tabAk : Tab := [(115, aj bg mfX), (119, aj (fun _ => none) ctX), (116, aj bg trX), (117, aj fmPre fmX), (118, aj qG taX), (68, aj (fun _ => none) tsX)]
theorem qD (m : Int) : TabOk (envM m) tabAk := .cons (toM mf_tab) (.cons (toM po) (.cons (toM tL) (.cons (toM fm_tab) (.cons (ta_tab m) (.cons (toM sM) .nil)))))
def XAk (m : Int) : SX := ⟨envM m, tabAk, elAk, fun k => bif Nat.beq k 9 then .auto [88] [1, 42, 43, 44] else bif Nat.beq k 21 then .auto [88] [1, 73, 74, 75] else bif Nat.beq k 28 then .auto [] [86, 87, 88] else .unroll 3⟩
theorem lW (m : Int) : (XAk m).Ok := ⟨aE m, rfl, aF m, qD m⟩
def hSt (r : SR) : AH := ⟨Nd Lf (some (.cells (stcL r) 88)) Lf, 1⟩
def o9 (heads : List Value) (i : Nat) : T Value := (Nd (Nd (Nd Lf none (Nd Lf none (Nd (Nd Lf (some (.int .i64 heads.length)) Lf) none Lf))) (some (.pointer (some ⟨0, 0, none⟩))) Lf) none (Nd (Nd Lf none (Nd Lf none (Nd (Nd Lf (some (.int .i64 i)) Lf) none Lf))) none (Nd (Nd Lf none (Nd (Nd Lf (some (dat 2 heads)) Lf) none Lf)) none Lf)))
def mK (takes : List Value) (i : Nat) : T Value := (Nd (Nd (Nd Lf none (Nd Lf none (Nd (Nd (Nd Lf (some (.int .i64 i)) Lf) none Lf) none Lf))) (some (.pointer (some ⟨0, 0, none⟩))) (Nd (Nd Lf none (Nd (Nd (Nd Lf (some (dat 4 takes)) Lf) none Lf) none Lf)) none Lf)) none (Nd Lf none (Nd (Nd Lf none (Nd (Nd (Nd Lf (some (.int .i64 takes.length)) Lf) none Lf) none Lf)) none Lf)))
def o8 (tests : List Value) (i : Nat) : T Value := (Nd (Nd (Nd (Nd Lf none (Nd Lf none (Nd (Nd Lf (some (.int .i64 tests.length)) Lf) none Lf))) none Lf) none Lf) none (Nd (Nd (Nd Lf none (Nd Lf none (Nd (Nd Lf (some (.int .i64 i)) Lf) none Lf))) none Lf) none (Nd Lf none (Nd (Nd Lf none (Nd (Nd Lf (some (dat 5 tests)) Lf) none Lf)) none Lf))))
def jAk (m : Int) (Q : Value → Prop) (QA : KV) (r : SR) : Prop := ay (XAk m) 3 f65 [stpV r] ⟨.leaf, 0⟩ (au Q QA)
def jAk1 (m : Int) (Q : Value → Prop) (QA : KV) (again : KF) (i : Nat) (r : SR) : Prop := ax (XAk m) 3 (Func.ntmps f65) ⟨.leaf, 0⟩ (ae f65) [1, 1, 1, 1, 0, 1, 0] (finK (XAk m).E (f65.results).toList (au Q QA)) [] [] [88] [1, 42, 43, 44] again (o9 r.heads i) (hSt r)
def jAk2 (m : Int) (Q : Value → Prop) (QA : KV) (again : KF) (i : Nat) (r : SR) : Prop := ax (XAk m) 3 (Func.ntmps f65) ⟨.leaf, 0⟩ (ae f65) [1, 1, 1, 1, 1, 1, 0, 1, 0] (finK (XAk m).E (f65.results).toList (au Q QA)) [] [] [88] [1, 73, 74, 75] again (mK r.takes i) (hSt r)
def jAk3 (m : Int) (Q : Value → Prop) (QA : KV) (again : KF) (i : Nat) (tests : List Value) : Prop := ax (XAk m) 3 (Func.ntmps f65) ⟨.leaf, 0⟩ (ae f65) [1, 1, 1, 1, 1, 1, 1, 0, 1, 0] (finK (XAk m).E (f65.results).toList (au Q QA)) [] [] [] [86, 87, 88] again (o8 tests i) ⟨.leaf, 0⟩
end
end Go.T9

/- The types of this seat's program. Printed by tygen.py. -/
import Derived.Test.YtdbecmmeifdafaaGEzrs
import Derived.Test.YtdbecmmeifdafaaRows
import Derived.Laws.CopyRow
import Derived.WalkKit
import Derived.ProofKit
import Derived.OpenShut
import Derived.Lib.Hide
import Derived.Lib.SmallJoins
import Derived.Deep.QuietTactic
import Derived.BigQuiet
import Derived.RegionTactic
import Derived.ChangeAlike
import Derived.StillTailTactics
import Derived.Deep.Slices
namespace Go.Proofs.Ytdbecmmeifdafaa
def tyT : Ty := [(2, .sc (.int .i64), 8), (3, .sc (.int .i64), 8), (4, .sc .bool, 1), (5, .sc (.int .u8), 1), (21, .sc (.int .i32), 4), (22, .sc (.sl 5), 24), (26, .sc (.int .u64), 8), (27, .sc (.sl 2), 24), (28, .sc (.sl 27), 24), (30, .st [.sl 2, .sl 27] [(0, 27), (1, 28)], 48), (32, .st [.sl 2, .sl 27, .sl 27] [(0, 30), (2, 28)], 72), (43, .st [.sl 2, .sl 2] [(0, 27), (1, 27)], 48), (46, .sc (.sl 50), 24), (50, .st [.int .i64, .int .i64] [(0, 2), (1, 2)], 16), (58, .sc (.sl 66), 24), (66, .st [.sl 2, .sl 2] [(0, 27), (1, 27)], 48), (69, .st [.sl 2, .sl 27, .sl 2] [(0, 30), (2, 27)], 72), (74, .st [.sl 2, .sl 2] [(0, 27), (1, 27)], 48), (79, .st [.sl 5, .int .i64, .int .u64] [(0, 22), (1, 3), (2, 26)], 40), (100, .sc (.sl 4), 24), (101, .sc (.int .u64), 8), (118, .st [.sl 5, .int .i64, .int .i64] [(0, 22), (1, 3), (2, 2)], 40), (127, .st [.sl 2, .sl 2, .sl 27, .sl 27, .sl 2] [(0, 27), (1, 27), (2, 28), (3, 28), (4, 27)], 120)]
theorem tyOk : TyOk Try.prog tyT := tyOk_of (by kernel_rfl)
theorem tyPos : TyPos tyT := tyPos_of (by kernel_rfl)
theorem tyMix : Try.prog.follows .mixedOrders = true := by kernel_rfl
theorem tk_2 : tk tyT 2 = some (.sc (.int .i64), 8) := rfl
theorem sz_2 : sz tyT 2 = 1 := rfl
theorem cks_2 : cks tyT 2 = [.int .i64] := rfl
theorem tk_3 : tk tyT 3 = some (.sc (.int .i64), 8) := rfl
theorem sz_3 : sz tyT 3 = 1 := rfl
theorem cks_3 : cks tyT 3 = [.int .i64] := rfl
theorem tk_4 : tk tyT 4 = some (.sc .bool, 1) := rfl
theorem sz_4 : sz tyT 4 = 1 := rfl
theorem cks_4 : cks tyT 4 = [.bool] := rfl
theorem tk_5 : tk tyT 5 = some (.sc (.int .u8), 1) := rfl
theorem sz_5 : sz tyT 5 = 1 := rfl
theorem cks_5 : cks tyT 5 = [.int .u8] := rfl
theorem tk_21 : tk tyT 21 = some (.sc (.int .i32), 4) := rfl
theorem sz_21 : sz tyT 21 = 1 := rfl
theorem cks_21 : cks tyT 21 = [.int .i32] := rfl
theorem tk_22 : tk tyT 22 = some (.sc (.sl 5), 24) := rfl
theorem sz_22 : sz tyT 22 = 1 := rfl
theorem cks_22 : cks tyT 22 = [.sl 5] := rfl
theorem tk_26 : tk tyT 26 = some (.sc (.int .u64), 8) := rfl
theorem sz_26 : sz tyT 26 = 1 := rfl
theorem cks_26 : cks tyT 26 = [.int .u64] := rfl
theorem tk_27 : tk tyT 27 = some (.sc (.sl 2), 24) := rfl
theorem sz_27 : sz tyT 27 = 1 := rfl
theorem cks_27 : cks tyT 27 = [.sl 2] := rfl
theorem tk_28 : tk tyT 28 = some (.sc (.sl 27), 24) := rfl
theorem sz_28 : sz tyT 28 = 1 := rfl
theorem cks_28 : cks tyT 28 = [.sl 27] := rfl
theorem tk_30 : tk tyT 30 = some (.st [.sl 2, .sl 27] [(0, 27), (1, 28)], 48) := rfl
theorem sz_30 : sz tyT 30 = 2 := rfl
theorem cks_30 : cks tyT 30 = [.sl 2, .sl 27] := rfl
theorem tk_32 : tk tyT 32 = some (.st [.sl 2, .sl 27, .sl 27] [(0, 30), (2, 28)], 72) := rfl
theorem sz_32 : sz tyT 32 = 3 := rfl
theorem cks_32 : cks tyT 32 = [.sl 2, .sl 27, .sl 27] := rfl
theorem tk_43 : tk tyT 43 = some (.st [.sl 2, .sl 2] [(0, 27), (1, 27)], 48) := rfl
theorem sz_43 : sz tyT 43 = 2 := rfl
theorem cks_43 : cks tyT 43 = [.sl 2, .sl 2] := rfl
theorem tk_46 : tk tyT 46 = some (.sc (.sl 50), 24) := rfl
theorem sz_46 : sz tyT 46 = 1 := rfl
theorem cks_46 : cks tyT 46 = [.sl 50] := rfl
theorem tk_50 : tk tyT 50 = some (.st [.int .i64, .int .i64] [(0, 2), (1, 2)], 16) := rfl
theorem sz_50 : sz tyT 50 = 2 := rfl
theorem cks_50 : cks tyT 50 = [.int .i64, .int .i64] := rfl
theorem tk_58 : tk tyT 58 = some (.sc (.sl 66), 24) := rfl
theorem sz_58 : sz tyT 58 = 1 := rfl
theorem cks_58 : cks tyT 58 = [.sl 66] := rfl
theorem tk_66 : tk tyT 66 = some (.st [.sl 2, .sl 2] [(0, 27), (1, 27)], 48) := rfl
theorem sz_66 : sz tyT 66 = 2 := rfl
theorem cks_66 : cks tyT 66 = [.sl 2, .sl 2] := rfl
theorem tk_69 : tk tyT 69 = some (.st [.sl 2, .sl 27, .sl 2] [(0, 30), (2, 27)], 72) := rfl
theorem sz_69 : sz tyT 69 = 3 := rfl
theorem cks_69 : cks tyT 69 = [.sl 2, .sl 27, .sl 2] := rfl
theorem tk_74 : tk tyT 74 = some (.st [.sl 2, .sl 2] [(0, 27), (1, 27)], 48) := rfl
theorem sz_74 : sz tyT 74 = 2 := rfl
theorem cks_74 : cks tyT 74 = [.sl 2, .sl 2] := rfl
theorem tk_79 : tk tyT 79 = some (.st [.sl 5, .int .i64, .int .u64] [(0, 22), (1, 3), (2, 26)], 40) := rfl
theorem sz_79 : sz tyT 79 = 3 := rfl
theorem cks_79 : cks tyT 79 = [.sl 5, .int .i64, .int .u64] := rfl
theorem tk_100 : tk tyT 100 = some (.sc (.sl 4), 24) := rfl
theorem sz_100 : sz tyT 100 = 1 := rfl
theorem cks_100 : cks tyT 100 = [.sl 4] := rfl
theorem tk_101 : tk tyT 101 = some (.sc (.int .u64), 8) := rfl
theorem sz_101 : sz tyT 101 = 1 := rfl
theorem cks_101 : cks tyT 101 = [.int .u64] := rfl
theorem tk_118 : tk tyT 118 = some (.st [.sl 5, .int .i64, .int .i64] [(0, 22), (1, 3), (2, 2)], 40) := rfl
theorem sz_118 : sz tyT 118 = 3 := rfl
theorem cks_118 : cks tyT 118 = [.sl 5, .int .i64, .int .i64] := rfl
theorem tk_127 : tk tyT 127 = some (.st [.sl 2, .sl 2, .sl 27, .sl 27, .sl 2] [(0, 27), (1, 27), (2, 28), (3, 28), (4, 27)], 120) := rfl
theorem sz_127 : sz tyT 127 = 5 := rfl
theorem cks_127 : cks tyT 127 = [.sl 2, .sl 2, .sl 27, .sl 27, .sl 2] := rfl
attribute [push_cast] tk_2 sz_2 cks_2 tk_3 sz_3 cks_3 tk_4 sz_4 cks_4 tk_5 sz_5 cks_5 tk_21 sz_21 cks_21 tk_22 sz_22 cks_22 tk_26 sz_26 cks_26 tk_27 sz_27 cks_27 tk_28 sz_28 cks_28 tk_30 sz_30 cks_30 tk_32 sz_32 cks_32 tk_43 sz_43 cks_43 tk_46 sz_46 cks_46 tk_50 sz_50 cks_50 tk_58 sz_58 cks_58 tk_66 sz_66 cks_66 tk_69 sz_69 cks_69 tk_74 sz_74 cks_74 tk_79 sz_79 cks_79 tk_100 sz_100 cks_100 tk_101 sz_101 cks_101 tk_118 sz_118 cks_118 tk_127 sz_127 cks_127
end Go.Proofs.Ytdbecmmeifdafaa

namespace Go.Proofs.Ytdbecmmeifdafaa
open Go.RowKit
set_option linter.unusedVariables false
set_option linter.unusedSimpArgs false

def gi (xs : List Int) (k : Nat) : Int := xs.getD k 0
def gl (rows : List (List Int)) (k : Nat) : List Int := rows.getD k []
def gb (xs : List Bool) (k : Nat) : Bool := xs.getD k false
def dI (xs : List Int) : List D := xs.map (.int .i64)
def dB (xs : List Bool) : List D := xs.map .bool
def dII (xss : List (List Int)) : List D := xss.map fun r => .lst 2 (dI r)
@[reducible] def DI (xs : List Int) : D := .lst 2 (dI xs)
theorem len_dI (xs : List Int) : (dI xs).length = xs.length := by simp [dI]
theorem len_dB (xs : List Bool) : (dB xs).length = xs.length := by simp [dB]
theorem len_dII (xs : List (List Int)) : (dII xs).length = xs.length := by simp [dII]
theorem getI_dI (xs : List Int) (i : Nat) : getI (dI xs) i = gi xs i := by
  unfold getI dI gi
  rw [List.getElem?_map, List.getD_eq_getElem?_getD]
  cases xs[i]? <;> rfl
theorem getB_dB (xs : List Bool) (i : Nat) : getB (dB xs) i = gb xs i := by
  unfold getB dB gb
  rw [List.getElem?_map, List.getD_eq_getElem?_getD]
  cases xs[i]? <;> rfl
theorem getL_dII (xs : List (List Int)) (i : Nat) : getL (dII xs) i = dI (gl xs i) := by
  unfold getL dII gl
  rw [List.getElem?_map, List.getD_eq_getElem?_getD]
  cases xs[i]? <;> rfl
theorem getE_dII {xs : List (List Int)} {i : Nat} (h : i < xs.length) : getE (dII xs) i = 2 := by
  unfold getE dII
  rw [List.getElem?_map, List.getElem?_eq_getElem h]
  rfl
theorem HasC_dI (xs : List Int) (i : Nat) : HasC (.int .i64) (dI xs) i = (i < xs.length) := by
  unfold HasC dI
  rw [List.getElem?_map]
  apply propext
  constructor
  · rintro ⟨n, h⟩
    rcases Nat.lt_or_ge i xs.length with h' | h'
    · exact h'
    · rw [List.getElem?_eq_none h'] at h; cases h
  · intro h; rw [List.getElem?_eq_getElem h]; exact ⟨_, rfl⟩
theorem HasC_dB (xs : List Bool) (i : Nat) : HasC .bool (dB xs) i = (i < xs.length) := by
  unfold HasC dB
  rw [List.getElem?_map]
  apply propext
  constructor
  · rintro ⟨n, h⟩
    rcases Nat.lt_or_ge i xs.length with h' | h'
    · exact h'
    · rw [List.getElem?_eq_none h'] at h; cases h
  · intro h; rw [List.getElem?_eq_getElem h]; exact ⟨_, rfl⟩
theorem HasC_dII (xs : List (List Int)) (i : Nat) : HasC (.sl 2) (dII xs) i = (i < xs.length) := by
  unfold HasC dII
  rw [List.getElem?_map]
  apply propext
  constructor
  · rintro ⟨n, h⟩
    rcases Nat.lt_or_ge i xs.length with h' | h'
    · exact h'
    · rw [List.getElem?_eq_none h'] at h; cases h
  · intro h; rw [List.getElem?_eq_getElem h]; exact ⟨_, rfl⟩
theorem okPath_dII (xs : List (List Int)) (i : Nat) : okPath (dII xs) [i] = (i < xs.length) := by
  apply propext
  simp only [okPath, and_true]
  unfold dII
  rw [List.getElem?_map]
  constructor
  · rintro ⟨e, n, h⟩
    rcases Nat.lt_or_ge i xs.length with h' | h'
    · exact h'
    · rw [List.getElem?_eq_none h'] at h; cases h
  · intro h; rw [List.getElem?_eq_getElem h]; exact ⟨_, _, rfl⟩
theorem okPath_nil (xs : List D) : okPath xs [] = True := by simp [okPath]
theorem drop_dI (xs : List Int) (n : Nat) : (dI xs).drop n = dI (xs.drop n) := by simp [dI]
theorem take_dI (xs : List Int) (n : Nat) : (dI xs).take n = dI (xs.take n) := by simp [dI]
theorem drop_dII (xs : List (List Int)) (n : Nat) : (dII xs).drop n = dII (xs.drop n) := by simp [dII]
theorem take_dII (xs : List (List Int)) (n : Nat) : (dII xs).take n = dII (xs.take n) := by simp [dII]
theorem app_dI (xs ys : List Int) : dI xs ++ dI ys = dI (xs ++ ys) := by simp [dI]
theorem allSc_dI (xs : List Int) : (dI xs).all isSc = true := by simp [dI, isSc]
theorem allSc_dB (xs : List Bool) : (dB xs).all isSc = true := by simp [dB, isSc]
theorem set_dI (xs : List Int) (i : Nat) (n : Int) : (dI xs).set i (.int .i64 n) = dI (xs.set i n) := by simp [dI]
theorem set_dB (xs : List Bool) (i : Nat) (b : Bool) : (dB xs).set i (.bool b) = dB (xs.set i b) := by simp [dB]
theorem app1_dI (xs : List Int) (n : Int) : dI xs ++ [D.int .i64 n] = dI (xs ++ [n]) := by simp [dI]
theorem rep_dI (n : Nat) (x : Int) : List.replicate n (D.int .i64 x) = dI (List.replicate n x) := by simp [dI]
theorem rep_dB (n : Nat) (x : Bool) : List.replicate n (D.bool x) = dB (List.replicate n x) := by simp [dB]
theorem toNat_nat (n : Nat) : ((n : Int)).toNat = n := Int.toNat_natCast n
def covS (s : List (Nat × AV)) : List (Nat × AV) → Prop
  | [] => True
  | (k, v) :: l => (v = .dead ∨ lk s k = some v) ∧ covS s l
def covL {α : Type} (s : List (Nat × α)) : List (Nat × α) → Prop
  | [] => True
  | (k, v) :: l => lk s k = some v ∧ covL s l
theorem covS_lk {s : List (Nat × AV)} : ∀ {l : List (Nat × AV)}, covS s l → ∀ k v, lk l k = some v → v = .dead ∨ lk s k = some v
  | [], _, k, v, h => by simp [lk] at h
  | (j, u) :: l, hc, k, v, h => by
    simp only [lk_cons] at h
    split at h
    · rename_i e; subst e; cases h; exact hc.1
    · exact covS_lk hc.2 k v h
theorem covL_lk {α : Type} {s : List (Nat × α)} : ∀ {l : List (Nat × α)}, covL s l → ∀ k v, lk l k = some v → lk s k = some v
  | [], _, k, v, h => by simp [lk] at h
  | (j, u) :: l, hc, k, v, h => by
    simp only [lk_cons] at h
    split at h
    · rename_i e; subst e; cases h; exact hc.1
    · exact covL_lk hc.2 k v h
theorem cov_of {st st' : St} (h1 : st'.n = st.n) (h2 : covS st.s st'.s) (h3 : covL st.b st'.b) (h4 : covL st.r st'.r) : Cov st st' := ⟨h1, covS_lk h2, covL_lk h3, covL_lk h4⟩
theorem setAt_nil (xs : List D) (i : Nat) (x : D) : setAt xs [] i x = xs.set i x := rfl
theorem toNat_sub1 (k : Nat) : ((k : Int) - 1).toNat = k - 1 := by omega
theorem toNat_add1 (k : Nat) : ((k : Int) + 1).toNat = k + 1 := by omega
theorem getL_z (e : TypeId) (ys l : List D) : getL (.lst e ys :: l) 0 = ys := rfl
theorem getL_s (x : D) (l : List D) (i : Nat) : getL (x :: l) (i + 1) = getL l i := rfl
theorem getE_z (e : TypeId) (ys l : List D) : getE (.lst e ys :: l) 0 = e := rfl
theorem getE_s (x : D) (l : List D) (i : Nat) : getE (x :: l) (i + 1) = getE l i := rfl
theorem getI_z (k : IntKind) (n : Int) (l : List D) : getI (.int k n :: l) 0 = n := rfl
theorem getI_s (x : D) (l : List D) (i : Nat) : getI (x :: l) (i + 1) = getI l i := rfl
theorem okPath_z (e : TypeId) (ys l : List D) (q : List Nat) : okPath (.lst e ys :: l) (0 :: q) = okPath ys q := by
  apply propext
  simp only [okPath, List.getElem?_cons_zero]
  constructor
  · rintro ⟨e', ys', h, h2⟩; cases h; exact h2
  · exact fun h => ⟨e, ys, rfl, h⟩
theorem okPath_s (x : D) (l : List D) (i : Nat) (q : List Nat) : okPath (x :: l) ((i + 1) :: q) = okPath l (i :: q) := by
  simp only [okPath, List.getElem?_cons_succ]
theorem HasC_zl (e e' : TypeId) (ys l : List D) : HasC (.sl e) (.lst e' ys :: l) 0 = (e = e') := by
  apply propext
  simp only [HasC, List.getElem?_cons_zero]
  constructor
  · rintro ⟨ys', h⟩; cases h; rfl
  · rintro rfl; exact ⟨ys, rfl⟩
theorem HasC_zi (k k' : IntKind) (n : Int) (l : List D) : HasC (.int k) (.int k' n :: l) 0 = (k = k') := by
  apply propext
  simp only [HasC, List.getElem?_cons_zero]
  constructor
  · rintro ⟨ys', h⟩; cases h; rfl
  · rintro rfl; exact ⟨n, rfl⟩
theorem HasC_s (c : CK) (x : D) (l : List D) (i : Nat) : HasC c (x :: l) (i + 1) = HasC c l i := by
  cases c <;> simp only [HasC, List.getElem?_cons_succ]
attribute [push_cast] getL_z getL_s getE_z getE_s getI_z getI_s okPath_z okPath_s HasC_zl HasC_zi HasC_s
attribute [push_cast] fieldV loadS aggE nilE cellsB argStB RetB fpA opsOf fpB fpC actBOf actBE mergeB Decidable.not_not Int.zero_add Bool.true_or Bool.or_true Int.toNat_zero Int.toNat_one toNat_sub1 toNat_add1 false_implies true_implies decide_eq_true_eq decide_eq_false_iff_not Bool.not_eq_true' Bool.not_eq_false' beq_iff_eq beq_eq_false_iff_ne bne_iff_ne bne_eq_false_iff_eq Int.add_zero Option.some_beq_none XT.cells aggOf cellsN cellN shE arC IntKind.bits cellAt apart few nodupB List.mem_cons List.not_mem_nil Option.isNone_some Option.isNone_none List.set_cons_zero List.singleton_append setAt_nil argStS pinR St.moveTo seqE setG St.settle St.app St.start St.cut exIds AV.cut AV.cutL storeN loadN noWay litN litS appN appY srcN orE flatF repC takeL takeC O3.own lexE lexF actE effD makeD litD storeD srcD appX appD newR Dl.skip Dl.wr fp AV.nm AV.nmL Op.operands Call.operands St.clean makes List.foldr_cons List.foldr_nil St.reset aops aop callOf dstN aCall guardV effM effV ev lk_cons lk_nil cv cv1 binE ar cmpE boolE unE loadE fieldE fieldO indexE onR sliceE boundE lenE builtinE maxE minE max3E buildE fillE fieldsOf lay zeroV okPath_nil okPath_dII node nodeE cellV cellsV HasCs HasC_dI HasC_dB HasC_dII getI_dI getB_dB getL_dII len_dI len_dB len_dII drop_dI take_dI drop_dII take_dII app_dI allSc_dI allSc_dB set_dI set_dB app1_dI rep_dI rep_dB toNat_nat hom homL boxSt nils fixNil addNils St.put St.addR St.delR St.moveR St.appG appG baseS baseX St.setR St.setB St.addB St.kill mapv rm AV.kill AV.killL is1 noB home storeE appE makeE makeS litE scE scD scDs CK.zeroD TK.cells O3.isSh O3.isEx cellsOf cellsOfL nilOf argOf argsOf resS resC flat VT.cells resV retA szL argSt argSlots slotAV argRoots cellRoots AThen ABlk retFlat retCells retCell noDup i64ok cell1 Option.map_some Option.map_none Option.getD_some Option.getD_none List.map_cons List.map_nil List.getElem?_cons_zero List.getElem?_cons_succ List.getElem?_nil List.getD_cons_zero List.getD_cons_succ List.headD_cons List.tail_cons List.cons_append List.nil_append List.append_nil List.length_cons List.length_nil List.drop_zero List.take_zero List.drop_succ_cons List.take_succ_cons List.filter_cons List.filter_nil List.contains_cons List.contains_nil List.all_cons List.all_nil List.take_length Int.natCast_add Int.natCast_one Int.natCast_zero Int.cast_ofNat_Int Nat.zero_add Nat.add_zero Nat.mul_one Nat.div_one Nat.sub_zero Nat.zero_le if_true if_false true_and and_true and_self true_or or_true false_or or_false not_true_eq_false not_false_eq_true implies_true forall_const Bool.true_and Bool.and_true Bool.false_and Bool.and_false Bool.or_false Bool.false_or Bool.not_true Bool.not_false Bool.false_eq_true beq_self_eq_true eq_self_iff_true Option.some.injEq id_eq List.toList_toArray decide_true decide_false ne_eq forall_eq
end Go.Proofs.Ytdbecmmeifdafaa

namespace Go.Proofs.Ytdbecmmeifdafaa
open Go.RowKit
set_option linter.unusedVariables false
set_option linter.unusedSimpArgs false

end Go.Proofs.Ytdbecmmeifdafaa

namespace Go.Proofs.Ytdbecmmeifdafaa
open Go.RowKit
set_option linter.unusedVariables false
set_option linter.unusedSimpArgs false

def pre (a : List Int) (k : Nat) : List Int := a.take k ++ List.replicate (a.length - k) 0
end Go.Proofs.Ytdbecmmeifdafaa

namespace Go.Proofs.Ytdbecmmeifdafaa
open Go.RowKit
set_option linter.unusedVariables false
set_option linter.unusedSimpArgs false

end Go.Proofs.Ytdbecmmeifdafaa

namespace Go.Proofs.Ytdbecmmeifdafaa
open Go.RowKit
set_option linter.unusedVariables false
set_option linter.unusedSimpArgs false

def iot (k : Int) : Nat → List Int
  | 0 => []
  | n + 1 => iot k n ++ [k + n]
theorem iot_len (k : Int) : ∀ n, (iot k n).length = n
  | 0 => rfl
  | n + 1 => by simp [iot, iot_len k n]
end Go.Proofs.Ytdbecmmeifdafaa

namespace Go.Proofs.Ytdbecmmeifdafaa
open Go.RowKit
set_option linter.unusedVariables false
set_option linter.unusedSimpArgs false

def mkR (k : Int) : List (List Int) → List (List Int)
  | [] => []
  | r :: rs => iot k r.length :: mkR (k + r.length) rs
theorem mkR_len (k : Int) (rs : List (List Int)) : (mkR k rs).length = rs.length := by
  induction rs generalizing k with
  | nil => rfl
  | cons r rs ih => simp [mkR, ih]
end Go.Proofs.Ytdbecmmeifdafaa

namespace Go.Proofs.Ytdbecmmeifdafaa
open Go.RowKit
set_option linter.unusedVariables false
set_option linter.unusedSimpArgs false

def LnI (B : Nat) (a : List Int) : Prop := a.length ≤ B
def LnII (B : Nat) (a : List (List Int)) : Prop := a.length ≤ B ∧ ∀ r ∈ a, r.length ≤ B
theorem LnI.mono {B C : Nat} (hB : B ≤ C) {a : List Int} (h : LnI B a) : LnI C a := Nat.le_trans h hB
theorem LnII.mono {B C : Nat} (hB : B ≤ C) {a : List (List Int)} (h : LnII B a) : LnII C a := ⟨Nat.le_trans h.1 hB, fun r hr => Nat.le_trans (h.2 r hr) hB⟩
end Go.Proofs.Ytdbecmmeifdafaa

namespace Go.Proofs.Ytdbecmmeifdafaa
open Go.RowKit
theorem take_iot (k : Int) (n : Nat) : (iot k n).take n = iot k n := List.take_of_length_le (by rw [iot_len]; exact Nat.le_refl _)
theorem take_mkR (k : Int) (xs : List (List Int)) : (mkR k xs).take xs.length = mkR k xs := List.take_of_length_le (by rw [mkR_len]; exact Nat.le_refl _)
theorem range_0 : List.range 0 = [] := rfl
theorem range_1 : List.range 1 = [0] := rfl
theorem range_2 : List.range 2 = [0, 1] := rfl
attribute [push_cast] List.map_nil range_0 range_1 range_2
attribute [push_cast] take_iot take_mkR
end Go.Proofs.Ytdbecmmeifdafaa

namespace Go.Proofs.Ytdbecmmeifdafaa
open Go Go.RowKit
set_option linter.unusedVariables false
theorem app1_dII (xs : List (List Int)) (r : List Int) : dII xs ++ [D.lst 2 (dI r)] = dII (xs ++ [r]) := by simp [dII]
theorem app_dII (xs ys : List (List Int)) : dII xs ++ dII ys = dII (xs ++ ys) := by simp [dII]
attribute [push_cast] app1_dII app_dII
end Go.Proofs.Ytdbecmmeifdafaa

namespace Go.Proofs.Ytdbecmmeifdafaa
open Go.RowKit
set_option linter.unusedVariables false
set_option linter.unusedSimpArgs false

structure Ar where
  owner : List Int
  next : List (List Int)
  deriving DecidableEq
structure Ar.Ln (B : Nat) (x : Ar) : Prop where
  owner : LnI B x.owner
  next : LnII B x.next
theorem Ar.ln_mono {B C : Nat} (hB : B ≤ C) {x : Ar} (h : x.Ln B) : x.Ln C := ⟨LnI.mono hB h.owner, LnII.mono hB h.next⟩
end Go.Proofs.Ytdbecmmeifdafaa

namespace Go.Proofs.Ytdbecmmeifdafaa
open Go.RowKit
set_option linter.unusedVariables false
set_option linter.unusedSimpArgs false

structure Wt where
  a : Ar
  cost : List (List Int)
  deriving DecidableEq
structure Wt.Ln (B : Nat) (x : Wt) : Prop where
  a : x.a.Ln B
  cost : LnII B x.cost
theorem Wt.ln_mono {B C : Nat} (hB : B ≤ C) {x : Wt} (h : x.Ln B) : x.Ln C := ⟨Ar.ln_mono hB h.a, LnII.mono hB h.cost⟩
end Go.Proofs.Ytdbecmmeifdafaa

namespace Go.Proofs.Ytdbecmmeifdafaa
open Go.RowKit
set_option linter.unusedVariables false
set_option linter.unusedSimpArgs false

structure Ls where
  stem : List Int
  loop : List Int
  deriving DecidableEq
structure Ls.Ln (B : Nat) (x : Ls) : Prop where
  stem : LnI B x.stem
  loop : LnI B x.loop
theorem Ls.ln_mono {B C : Nat} (hB : B ≤ C) {x : Ls} (h : x.Ln B) : x.Ln C := ⟨LnI.mono hB h.stem, LnI.mono hB h.loop⟩
end Go.Proofs.Ytdbecmmeifdafaa

namespace Go.Proofs.Ytdbecmmeifdafaa
open Go.RowKit
set_option linter.unusedVariables false
set_option linter.unusedSimpArgs false

structure Fm where
  names : List Int
  sets : List (List Int)
  deriving DecidableEq
structure Fm.Ln (B : Nat) (x : Fm) : Prop where
  names : LnI B x.names
  sets : LnII B x.sets
theorem Fm.ln_mono {B C : Nat} (hB : B ≤ C) {x : Fm} (h : x.Ln B) : x.Ln C := ⟨LnI.mono hB h.names, LnII.mono hB h.sets⟩
end Go.Proofs.Ytdbecmmeifdafaa

namespace Go.Proofs.Ytdbecmmeifdafaa
open Go.RowKit
set_option linter.unusedVariables false
set_option linter.unusedSimpArgs false

structure Pr where
  ask : List Int
  give : List Int
  deriving DecidableEq
def dPr (x : Pr) : List D := [DI x.ask, DI x.give]
structure Pr.Ln (B : Nat) (x : Pr) : Prop where
  ask : LnI B x.ask
  give : LnI B x.give
theorem Pr.ln_mono {B C : Nat} (hB : B ≤ C) {x : Pr} (h : x.Ln B) : x.Ln C := ⟨LnI.mono hB h.ask, LnI.mono hB h.give⟩
end Go.Proofs.Ytdbecmmeifdafaa

namespace Go.Proofs.Ytdbecmmeifdafaa
open Nat renaming reduceMod → zA, reduceMul → zB, reduceDiv → zC, reduceAdd → zD, reduceSub → zE, reduceEqDiff → zF, reduceBEq → zG, reduceLT → zH, reduceLeDiff → zI
open Go.ChangeShapes Go.WideShapes Go.ChangeAt Go.RowKit

section
variable {H : Type} {enc : TypeId × Value → H} {P : Program}
theorem post_of_below {f : Func} {s : ChangeSpec} {apart fresh handsOn again : Bool} {W W' : World} {args : Array Value} {v : Value} {ds gs : List (DataW H)} {before pa pv : List MemPlace}
    (hW : DataW.Whole enc P f.params.toList s.vars apart W args.toList ds gs before)
    (hres : ∀ (b : Nat) (sp : Nat → Bool) (hd : Bool), DataW.TrodAll enc P W' b sp hd f.resultTypes.toList (v.resultList f.resultTypes.size) (s.fn H (ds ++ gs)).results [])
    (hargs : ∀ sp : Nat → Bool, (∀ p ∈ before, sp p.block = true) → DataW.TrodAll enc P W' 0 sp true f.params.toList args.toList (s.fn H (ds ++ gs)).args pa)
    (hvars : ∀ sp : Nat → Bool, (∀ p ∈ before, sp p.block = true) → DataW.TrodVars enc P W' sp s.vars (s.fn H (ds ++ gs)).vars pv)
    (hps : before = pa ++ pv) (hb : Below W.heap.size W W')
    (hok : ∀ (j : Nat) (t : TypeId) (r : Value), f.resultTypes[j]? = some t → (v.resultList f.resultTypes.size)[j]? = some r → Value.okWide P W' .any 0 t r) :
    s.post enc P f apart fresh handsOn again W args v W' := by
  have hlt : ∀ p ∈ before, p.block < W.heap.size := fun p hp => hW.lt p hp
  have hold : ∀ p ∈ before, (fun b => decide (b < W.heap.size)) p.block = true := fun p hp => by simpa using hlt p hp
  refine ⟨ds, gs, before, [], pa, pv, hW, hres _ _ _, hargs _ hold, hvars _ hold, World.keptBut_mono (fun p hp => ⟨hp, ?_⟩) (hb.frame (· ∈ before)), fun _ => ?_⟩
  · rw [hps, List.mem_append] at hp
    exact Or.inr hp
  · obtain ⟨_, _, _, _, _, hz, hn⟩ := hW
    refine ⟨hok, _, _, ([] ++ pa) ++ pv, ⟨[] ++ pa, pv, trodAll_append (hargs _ (fun _ _ => rfl)) (hres _ _ _), hvars _ (fun _ _ => rfl), rfl, ?_, ?_⟩, ?_⟩
    · intro b off hp
      have hin : MemPlace.cell b off ∈ before := by rw [hps]; simpa using hp
      rw [hb.frozen (hlt _ hin)]
      exact hz b off hin
    · intro ha
      have := hn ha
      rw [hps] at this
      simpa using this
    · intro p hp _
      rw [hps]
      simpa using hp

theorem stay_all (hl : laidOutB P = true) {W W' : World} {sp : Nat → Bool} (hb : Below W.heap.size W W') : ∀ (ts : List TypeId) (vs : List Value) (ds : List (DataW H)) (ps : List MemPlace),
    (∀ t ∈ ts, P.readableRec t = true ∧ t < P.types.size) → DataW.TrodAll enc P W 0 (fun _ => true) true ts vs ds ps → (∀ x ∈ ps, x.block < W.heap.size) → (∀ x ∈ ps, sp x.block = true) → DataW.TrodAll enc P W' 0 sp true ts vs ds ps
  | [], vs, ds, ps, _, h, _, _ => by
    obtain ⟨rfl, rfl, rfl⟩ := trodAll_nil h
    exact trodAll_mk0
  | t :: ts, vs, ds, ps, ht, h, hlt, hs => by
    obtain ⟨v, vs', d, ds', p, q, rfl, rfl, rfl, h0, h1⟩ := trodAll_cons h
    have ht0 := ht t (by simp)
    exact trodAll_cons_mk (WideElems.Trod_stays hl ht0.1 ht0.2 h0 (fun x hx => hb.same (hlt x (by simp [hx]))) (fun x hx => hs x (by simp [hx])))
      (stay_all hl hb ts vs' ds' q (fun u hu => ht u (by simp [hu])) h1 (fun x hx => hlt x (by simp [hx])) (fun x hx => hs x (by simp [hx])))

theorem law_post {f : Func} {s : ChangeSpec} {fresh handsOn again : Bool} {tb : TypeId} {W W' : World} {args : Array Value} {ds gs : List (DataW H)} {before : List MemPlace}
    (hl : laidOutB P = true) (hts : ∀ t ∈ f.params.toList, P.readableRec t = true ∧ t < P.types.size) (hr : f.resultTypes = #[tb]) (htb : P.underlying tb = some .bool) (hv : s.vars = [])
    (hW : DataW.Whole enc P f.params.toList s.vars false W args.toList ds gs before) (hs1 : (s.fn H (ds ++ gs)).results = [.lit (.bool true)]) (hs2 : (s.fn H (ds ++ gs)).args = ds)
    (hs3 : (s.fn H (ds ++ gs)).vars = []) (hb : Below W.heap.size W W') (hk : ∀ W' : World, Value.okWide P W' .any 0 tb (.bool true)) : s.post enc P f false fresh handsOn again W args (.bool true) W' := by
  have hW0 := hW
  obtain ⟨p, q, hA, hV, rfl, hfz, hnd⟩ := hW
  rw [hv] at hV
  obtain ⟨rfl, rfl⟩ := trodVars_none hV
  have hlt : ∀ x ∈ p, x.block < W.heap.size := fun x hx => hW0.lt x (by simp [hx])
  refine post_of_below (pa := p) (pv := []) hW0 (fun b sp hd => ?_) (fun sp hs => ?_) (fun sp _ => ?_) rfl hb ?_
  · rw [hs1, hr]
    exact trodAll_mk1 (shut_bool htb true)
  · rw [hs2]
    exact stay_all hl hb _ _ _ _ hts hA hlt (fun x hx => hs x (by simp [hx]))
  · rw [hs3, hv]
    rfl
  · intro j t r hj hrj
    rw [hr] at hj hrj
    have : j = 0 := by
      rcases Nat.eq_zero_or_pos j with h | h
      · exact h
      · rw [Array.getElem?_eq_none (by simp; omega)] at hj; cases hj
    subst this
    simp [Value.resultList] at hj hrj
    subst hj; subst hrj
    exact hk _
end
end Go.Proofs.Ytdbecmmeifdafaa

namespace Go.Proofs.Ytdbecmmeifdafaa
open Nat renaming reduceMod → zA, reduceMul → zB, reduceDiv → zC, reduceAdd → zD, reduceSub → zE, reduceEqDiff → zF, reduceBEq → zG, reduceLT → zH, reduceLeDiff → zI
open Go.RowKit
set_option linter.unusedVariables false
set_option linter.unusedSimpArgs false

def allB (n : Nat) (p : Nat → Bool) : Bool := (List.range n).all p
theorem allB_true {n : Nat} {p : Nat → Bool} (h : ∀ k, k < n → p k = true) : allB n p = true := by
  unfold allB; rw [List.all_eq_true]; intro k hk; exact h k (List.mem_range.1 hk)
theorem allB_false {n k : Nat} {p : Nat → Bool} (hk : k < n) (h : p k = false) : allB n p = false := by
  unfold allB; rw [List.all_eq_false]; exact ⟨k, List.mem_range.2 hk, by simp [h]⟩
theorem allB_at {n k : Nat} {p : Nat → Bool} (h : allB n p = true) (hk : k < n) : p k = true := by
  unfold allB at h; rw [List.all_eq_true] at h; exact h k (List.mem_range.2 hk)
def riseAt (xs : List Int) (n : Int) (k : Nat) : Bool := decide (0 ≤ gi xs k ∧ gi xs k < n ∧ (k = 0 ∨ gi xs (k - 1) < gi xs k))
def isSetB (xs : List Int) (n : Int) : Bool := allB xs.length (riseAt xs n)
theorem set_ge {xs : List Int} {n : Int} (h : isSetB xs n = true) : ∀ k, k < xs.length → (k : Int) ≤ gi xs k := by
  intro k
  induction k with
  | zero =>
    intro hk
    have := allB_at h hk
    unfold riseAt at this
    have := of_decide_eq_true this
    omega
  | succ k ih =>
    intro hk
    have h1 := ih (by omega)
    have := allB_at h hk
    unfold riseAt at this
    have := of_decide_eq_true this
    simp at this
    omega
theorem set_len {xs : List Int} {n : Int} (h : isSetB xs n = true) (h0 : 0 ≤ n) : (xs.length : Int) ≤ n := by
  rcases Nat.eq_zero_or_pos xs.length with h1 | h1
  · omega
  · have h2 := set_ge h (xs.length - 1) (by omega)
    have h3 := allB_at h (k := xs.length - 1) (by omega)
    unfold riseAt at h3
    have h3 := of_decide_eq_true h3
    omega
def fidx (xs : List Int) (x : Int) : Nat := xs.findIdx (fun y => y == x)
def hasB (xs : List Int) (x : Int) : Bool := decide (fidx xs x < xs.length)
def ixB (xs : List Int) (x : Int) : Int := if fidx xs x < xs.length then (fidx xs x : Int) else -1
theorem fidx_at {xs : List Int} {x : Int} {k : Nat} (hk : k < xs.length) (h : ∀ j, j < k → ¬ gi xs j = x) (he : gi xs k = x) : fidx xs x = k := by
  unfold fidx
  rw [List.findIdx_eq hk]
  have hg : ∀ j (hj : j < xs.length), xs[j] = gi xs j := fun j hj => by unfold gi; rw [List.getD_eq_getElem?_getD, List.getElem?_eq_getElem hj]; rfl
  refine ⟨by rw [hg, he]; simp, fun j hj => ?_⟩
  rw [hg]
  simpa using h j hj
theorem fidx_none {xs : List Int} {x : Int} (h : ∀ j, j < xs.length → ¬ gi xs j = x) : fidx xs x = xs.length := by
  unfold fidx
  rw [List.findIdx_eq_length]
  intro y hy
  obtain ⟨j, hj, rfl⟩ := List.mem_iff_getElem.1 hy
  have := h j hj
  unfold gi at this
  rw [List.getD_eq_getElem?_getD, List.getElem?_eq_getElem hj] at this
  simpa using this
theorem fidx_le (xs : List Int) (x : Int) : fidx xs x ≤ xs.length := List.findIdx_le_length
theorem fidx_spec {xs : List Int} {x : Int} (h : fidx xs x < xs.length) : gi xs (fidx xs x) = x := by
  unfold fidx at h ⊢
  have := List.findIdx_getElem (w := h)
  unfold gi
  rw [List.getD_eq_getElem?_getD, List.getElem?_eq_getElem h]
  simpa using this
theorem fidx_before {xs : List Int} {x : Int} {j : Nat} (h : j < fidx xs x) : ¬ gi xs j = x := by
  have hl : j < xs.length := Nat.lt_of_lt_of_le h (fidx_le xs x)
  unfold fidx at h
  have := List.not_of_lt_findIdx h
  unfold gi
  rw [List.getD_eq_getElem?_getD, List.getElem?_eq_getElem hl]
  simpa using this
theorem ixB_found {xs : List Int} {x : Int} {k : Nat} (hk : k < xs.length) (h : ∀ j, j < k → ¬ gi xs j = x) (he : gi xs k = x) : ixB xs x = k := by
  unfold ixB; rw [fidx_at hk h he, if_pos hk]
theorem ixB_none {xs : List Int} {x : Int} (h : ∀ j, j < xs.length → ¬ gi xs j = x) : ixB xs x = -1 := by
  unfold ixB; rw [fidx_none h, if_neg (by omega)]
theorem ixB_has (xs : List Int) (x : Int) : decide (0 ≤ ixB xs x) = hasB xs x := by
  unfold ixB hasB
  by_cases h : fidx xs x < xs.length
  · rw [if_pos h]; simp [h]
  · rw [if_neg h]; simp [h]
structure WOk (a : Wt) (bd : Int) : Prop where
  n1 : 1 ≤ a.a.owner.length
  n24 : a.a.owner.length ≤ 24
  next : a.a.next.length = a.a.owner.length
  cost : a.cost.length = a.a.owner.length
  own : ∀ v, v < a.a.owner.length → 0 ≤ gi a.a.owner v ∧ gi a.a.owner v ≤ 1
  deg : ∀ v, v < a.a.owner.length → 1 ≤ (gl a.a.next v).length ∧ (gl a.a.next v).length ≤ 16
  set_ : ∀ v, v < a.a.owner.length → isSetB (gl a.a.next v) a.a.owner.length = true
  row : ∀ v, v < a.a.owner.length → (gl a.cost v).length = (gl a.a.next v).length
  bd : ∀ v k, v < a.a.owner.length → k < (gl a.cost v).length → -bd ≤ gi (gl a.cost v) k ∧ gi (gl a.cost v) k ≤ bd
def stepCost (a : Wt) (v : Nat) (u : Int) : Int := gi (gl a.cost v) (fidx (gl a.a.next v) u)
end Go.Proofs.Ytdbecmmeifdafaa

namespace Go.Proofs.Ytdbecmmeifdafaa
open Nat renaming reduceMod → zA, reduceMul → zB, reduceDiv → zC, reduceAdd → zD, reduceSub → zE, reduceEqDiff → zF, reduceBEq → zG, reduceLT → zH, reduceLeDiff → zI
open Go.RowKit
set_option linter.unusedVariables false
set_option linter.unusedSimpArgs false

set_option maxHeartbeats 1000000 in
theorem l1In_fn (x lo hi : Int) : Fn Try.prog tyT 64 [.c (.int .i64 x), .c (.int .i64 lo), .c (.int .i64 hi)] [.c (.bool (decide (lo ≤ x ∧ x ≤ hi)))] := by
  refine Fn_of (fn := Try.f64) (ts := [6]) Try.func64 (by kernel_rfl) rfl rfl (by rw [Try.ntmps64]; exact Nat.le_of_ble_eq_true rfl) rfl (by simp only [szA, List.mem_cons, List.not_mem_nil, or_false, forall_eq_or_imp, forall_eq, VT.cells, szL]; try decide) ?_
  rw [Try.ntmps64]
  simp only [push_cast, ↓brB_true, ↓brB_false, ↓reduceIte, zA, zB, zC, zD, zE, zF, zG, zH, zI, reduceCtorEq]
  refine awp_seq' fun K hK => ?_
  refine awp_region tyOk tyPos [] rfl ?_
  simp only [push_cast, ↓brB_true, ↓brB_false, ↓reduceIte, zA, zB, zC, zD, zE, zF, zG, zH, zI, reduceCtorEq]
  repeat' apply And.intro
  all_goals try exact gB
  all_goals first | (refine hK _ ?_; clear hK K) | (simp only [push_cast]; done)
  refine awp_seq' fun K hK => ?_
  refine awp_regionN false tyOk tyPos ?_ rfl ?_
  · kernel_rfl
  simp only [push_cast, ↓brB_true, ↓brB_false, ↓reduceIte, zA, zB, zC, zD, zE, zF, zG, zH, zI, reduceCtorEq]
  repeat' (first | (apply brB_mk <;> (intro hg; (try simp only [push_cast] at hg))) | apply And.intro | (intro hg; (try simp only [push_cast] at hg)))
  all_goals try exact gA
  all_goals (refine hK _ ?_; clear hK K)
  all_goals refine awp_ret ?_
  all_goals (try simp only [AThen, ABlk])
  all_goals refine ⟨Or.inl rfl, ?_⟩
  all_goals simp only [RetOk, push_cast, ↓brB_true, ↓brB_false, ↓reduceIte, zA, zB, zC, zD, zE, zF, zG, zH, zI, reduceCtorEq]
  · rw [decide_eq_decide]; omega
  · symm; rw [decide_eq_false_iff_not]; omega
set_option maxHeartbeats 2000000 in
theorem isSet_fn (xs : List Int) (n : Int) (hl : xs.length ≤ 1048576) : Fn Try.prog tyT 137 [.c (DI xs), .c (.int .i64 n)] [.c (.bool (isSetB xs n))] := by
  refine Fn_of (fn := Try.f137) (ts := [4]) Try.func137 (by kernel_rfl) rfl rfl (by rw [Try.ntmps137]; exact Nat.le_of_ble_eq_true rfl) rfl (by simp only [szA, List.mem_cons, List.not_mem_nil, or_false, forall_eq_or_imp, forall_eq, VT.cells, szL]; try decide) ?_
  rw [Try.ntmps137]
  simp only [push_cast, ↓brB_true, ↓brB_false, ↓reduceIte, zA, zB, zC, zD, zE, zF, zG, zH, zI, reduceCtorEq]
  refine awp_seq' fun K hK => ?_
  refine awp_region tyOk tyPos [] rfl ?_
  simp only [push_cast, ↓brB_true, ↓brB_false, ↓reduceIte, zA, zB, zC, zD, zE, zF, zG, zH, zI, reduceCtorEq]
  repeat' apply And.intro
  all_goals try exact gB
  all_goals first | (refine hK _ ?_; clear hK K) | (simp only [push_cast]; done)
  refine awp_seq' fun K1 hK1 => ?_
  refine awp_seq' fun K hK => ?_
  refine awp_region tyOk tyPos [] rfl ?_
  simp only [push_cast, ↓brB_true, ↓brB_false, ↓reduceIte, zA, zB, zC, zD, zE, zF, zG, zH, zI, reduceCtorEq]
  repeat' apply And.intro
  all_goals try exact gB
  all_goals first | (refine hK _ ?_; clear hK K) | (simp only [push_cast]; done)
  refine awp_block ?_
  refine awp_loopU [4,5,6,9,10,11,12,13,14,15,16,17,18,19,20,21,22,23,24,25,26,27,28,29,30,31,32,33,34] [] (fun k : Nat => [(9, .int .i64 k)]) (fun _ => []) (fun k => []) (fun k => k ≤ xs.length ∧ ∀ j, j < k → riseAt xs n j = true) (fun k => xs.length - k) 0 ?_ ⟨by omega, fun j hj => by omega⟩ ?_
  · refine cov_of rfl ?_ ?_ ?_ <;> simp only [covS, covL, push_cast, ↓brB_true, ↓brB_false, ↓reduceIte, zA, zB, zC, zD, zE, zF, zG, zH, zI, reduceCtorEq]
  · rintro k ⟨hk, hall⟩ K0 hK0
    simp only [push_cast, ↓brB_true, ↓brB_false, ↓reduceIte, zA, zB, zC, zD, zE, zF, zG, zH, zI, reduceCtorEq]
    refine awp_seq' fun K hK => ?_
    refine awp_region tyOk tyPos [] rfl ?_
    simp only [push_cast, ↓brB_true, ↓brB_false, ↓reduceIte, zA, zB, zC, zD, zE, zF, zG, zH, zI, reduceCtorEq]
    repeat' apply And.intro
    all_goals try exact gB
    all_goals first | (refine hK _ ?_; clear hK K) | (simp only [push_cast]; done)
    refine awp_seq' fun K2 hK2 => ?_
    refine awp_cond rfl (fun hc => ?_) (fun hc => ?_) <;> (try simp only [push_cast] at hc)
    · refine awp_skip ?_
      (try simp only [AThen, ABlk, reduceIte, zF]); refine hK2 _ ?_
      refine awp_seq' fun K3 hK3 => ?_
      refine awp_block ?_
      refine awp_seq' fun K hK => ?_
      refine awp_region tyOk tyPos [] rfl ?_
      simp only [push_cast, ↓brB_true, ↓brB_false, ↓reduceIte, zA, zB, zC, zD, zE, zF, zG, zH, zI, reduceCtorEq]
      repeat' apply And.intro
      all_goals try exact gB
      all_goals first | (refine hK _ ?_; clear hK K) | (simp only [push_cast]; done)
      refine awp_seq' fun K hK => ?_
      refine awp_regionN false tyOk tyPos ?_ rfl ?_
      · kernel_rfl
      simp only [push_cast, ↓brB_true, ↓brB_false, ↓reduceIte, zA, zB, zC, zD, zE, zF, zG, zH, zI, reduceCtorEq]
      repeat' (first | (apply brB_mk <;> (intro hg; (try simp only [push_cast] at hg))) | apply And.intro | (intro hg; (try simp only [push_cast] at hg)))
      all_goals try exact gA
      all_goals (refine hK _ ?_; clear hK K)
      all_goals refine awp_cond rfl (fun hc => ?_) (fun hc => ?_)
      all_goals (first | (cases hc; done) | skip)
      all_goals (try simp only [push_cast] at hc)
      all_goals first
        | (refine awp_skip ?_
           (try simp only [AThen, ABlk, reduceIte, zF]); refine hK3 _ ?_
           refine awp_region tyOk tyPos [] rfl ?_
           simp only [push_cast, ↓brB_true, ↓brB_false, ↓reduceIte, zA, zB, zC, zD, zE, zF, zG, zH, zI, reduceCtorEq]
           repeat' apply And.intro
           all_goals try exact gB
           refine hK0 _ ⟨k + 1, ⟨by omega, fun j hj => ?_⟩, by omega, ?_⟩
           · by_cases hjk : j = k
             · subst hjk; unfold riseAt; rw [decide_eq_true_eq]; omega
             · exact hall j (by omega)
           · refine cov_of rfl ?_ ?_ ?_ <;> simp only [covS, covL, push_cast, ↓brB_true, ↓brB_false, ↓reduceIte, zA, zB, zC, zD, zE, zF, zG, zH, zI, reduceCtorEq])
        | (skip
           refine awp_seq' fun K hK => ?_
           refine awp_region tyOk tyPos [] rfl ?_
           simp only [push_cast, ↓brB_true, ↓brB_false, ↓reduceIte, zA, zB, zC, zD, zE, zF, zG, zH, zI, reduceCtorEq]
           repeat' apply And.intro
           all_goals try exact gB
           all_goals first | (refine hK _ ?_; clear hK K) | (simp only [push_cast]; done)
           refine awp_ret ?_
           (try simp only [AThen, ABlk])
           refine ⟨Or.inl rfl, ?_⟩
           simp only [RetOk, push_cast, ↓brB_true, ↓brB_false, ↓reduceIte, zA, zB, zC, zD, zE, zF, zG, zH, zI, reduceCtorEq]
           symm
           refine allB_false (k := k) (by omega) ?_
           unfold riseAt; rw [decide_eq_false_iff_not]; omega)
    · refine awp_exit ?_
      (try simp only [AThen, ABlk, reduceIte, zF]); refine hK1 _ ?_
      refine awp_seq' fun K hK => ?_
      refine awp_region tyOk tyPos [] rfl ?_
      simp only [push_cast, ↓brB_true, ↓brB_false, ↓reduceIte, zA, zB, zC, zD, zE, zF, zG, zH, zI, reduceCtorEq]
      repeat' apply And.intro
      all_goals try exact gB
      all_goals first | (refine hK _ ?_; clear hK K) | (simp only [push_cast]; done)
      refine awp_ret ?_
      (try simp only [AThen, ABlk])
      refine ⟨Or.inl rfl, ?_⟩
      simp only [RetOk, push_cast, ↓brB_true, ↓brB_false, ↓reduceIte, zA, zB, zC, zD, zE, zF, zG, zH, zI, reduceCtorEq]
      symm
      exact allB_true fun j hj => hall j (by omega)
set_option maxHeartbeats 2000000 in
theorem l1Rises_fn (xs : List Int) (n : Int) (hl : xs.length ≤ 1048576) (h0 : -9223372036854775807 ≤ n) (h1 : n ≤ 9223372036854775807) : Fn Try.prog tyT 138 [.c (DI xs), .c (.int .i64 n)] [.c (.bool (isSetB xs n))] := by
  refine Fn_of (fn := Try.f138) (ts := [4]) Try.func138 (by kernel_rfl) rfl rfl (by rw [Try.ntmps138]; exact Nat.le_of_ble_eq_true rfl) rfl (by simp only [szA, List.mem_cons, List.not_mem_nil, or_false, forall_eq_or_imp, forall_eq, VT.cells, szL]; try decide) ?_
  rw [Try.ntmps138]
  simp only [push_cast, ↓brB_true, ↓brB_false, ↓reduceIte, zA, zB, zC, zD, zE, zF, zG, zH, zI, reduceCtorEq]
  refine awp_seq' fun K hK => ?_
  refine awp_region tyOk tyPos [] rfl ?_
  simp only [push_cast, ↓brB_true, ↓brB_false, ↓reduceIte, zA, zB, zC, zD, zE, zF, zG, zH, zI, reduceCtorEq]
  repeat' apply And.intro
  all_goals try exact gB
  all_goals first | (refine hK _ ?_; clear hK K) | (simp only [push_cast]; done)
  refine awp_seq' fun K1 hK1 => ?_
  refine awp_seq' fun K hK => ?_
  refine awp_region tyOk tyPos [] rfl ?_
  simp only [push_cast, ↓brB_true, ↓brB_false, ↓reduceIte, zA, zB, zC, zD, zE, zF, zG, zH, zI, reduceCtorEq]
  repeat' apply And.intro
  all_goals try exact gB
  all_goals first | (refine hK _ ?_; clear hK K) | (simp only [push_cast]; done)
  refine awp_block ?_
  refine awp_loopU [4,5,6,7,8,9,10,11,12,13,14,15,16,17,18,19,20,21,22,23,24,25,26,27,28,29,30,31,32,33,34,35] [] (fun k : Nat => [(5, .int .i64 k)]) (fun _ => []) (fun k => []) (fun k => k ≤ xs.length ∧ ∀ j, j < k → riseAt xs n j = true) (fun k => xs.length - k) 0 ?_ ⟨by omega, fun j hj => by omega⟩ ?_
  · refine cov_of rfl ?_ ?_ ?_ <;> simp only [covS, covL, push_cast, ↓brB_true, ↓brB_false, ↓reduceIte, zA, zB, zC, zD, zE, zF, zG, zH, zI, reduceCtorEq]
  · rintro k ⟨hk, hall⟩ K0 hK0
    simp only [push_cast, ↓brB_true, ↓brB_false, ↓reduceIte, zA, zB, zC, zD, zE, zF, zG, zH, zI, reduceCtorEq]
    refine awp_seq' fun K2 hK2 => ?_
    refine awp_seq' fun K hK => ?_
    refine awp_region tyOk tyPos [] rfl ?_
    simp only [push_cast, ↓brB_true, ↓brB_false, ↓reduceIte, zA, zB, zC, zD, zE, zF, zG, zH, zI, reduceCtorEq]
    repeat' apply And.intro
    all_goals try exact gB
    all_goals first | (refine hK _ ?_; clear hK K) | (simp only [push_cast]; done)
    refine awp_cond rfl (fun hc => ?_) (fun hc => ?_) <;> (try simp only [push_cast] at hc)
    · refine awp_skip ?_
      (try simp only [AThen, ABlk, reduceIte, zF]); refine hK2 _ ?_
      refine awp_seq' fun K3 hK3 => ?_
      refine awp_block ?_
      refine awp_seq' fun K hK => ?_
      refine awp_regionD0 false tyOk tyPos tyMix ?_ rfl ?_
      · kernel_rfl
      intro C hC
      simp only [push_cast, ↓brB_true, ↓brB_false, ↓reduceIte, zA, zB, zC, zD, zE, zF, zG, zH, zI, reduceCtorEq]
      repeat' (first | (apply brB_mk <;> (intro hg; (try simp only [push_cast] at hg))) | (refine ⟨_, l1In_fn _ _ _, ?_⟩; simp only [push_cast, ↓brB_true, ↓brB_false, ↓reduceIte, zA, zB, zC, zD, zE, zF, zG, zH, zI, reduceCtorEq]) | apply And.intro | (intro hg; (try simp only [push_cast] at hg)))
      all_goals first | exact gA | (refine hC _ ?_; kernel_rfl) | skip
      all_goals (refine hK _ ?_; clear hK K)
      all_goals refine awp_cond rfl (fun hc => ?_) (fun hc => ?_)
      all_goals (first | (cases hc; done) | skip)
      all_goals (try simp only [push_cast] at hc)
      all_goals first
        | (refine awp_skip ?_
           (try simp only [AThen, ABlk, reduceIte, zF]); refine hK3 _ ?_
           refine awp_region tyOk tyPos [] rfl ?_
           simp only [push_cast, ↓brB_true, ↓brB_false, ↓reduceIte, zA, zB, zC, zD, zE, zF, zG, zH, zI, reduceCtorEq]
           repeat' apply And.intro
           all_goals try exact gB
           refine hK0 _ ⟨k + 1, ⟨by omega, fun j hj => ?_⟩, by omega, ?_⟩
           · by_cases hjk : j = k
             · subst hjk; unfold riseAt; rw [decide_eq_true_eq]; omega
             · exact hall j (by omega)
           · refine cov_of rfl ?_ ?_ ?_ <;> simp only [covS, covL, push_cast, ↓brB_true, ↓brB_false, ↓reduceIte, zA, zB, zC, zD, zE, zF, zG, zH, zI, reduceCtorEq])
        | (skip
           refine awp_seq' fun K hK => ?_
           refine awp_region tyOk tyPos [] rfl ?_
           simp only [push_cast, ↓brB_true, ↓brB_false, ↓reduceIte, zA, zB, zC, zD, zE, zF, zG, zH, zI, reduceCtorEq]
           repeat' apply And.intro
           all_goals try exact gB
           all_goals first | (refine hK _ ?_; clear hK K) | (simp only [push_cast]; done)
           refine awp_ret ?_
           (try simp only [AThen, ABlk])
           refine ⟨Or.inl rfl, ?_⟩
           simp only [RetOk, push_cast, ↓brB_true, ↓brB_false, ↓reduceIte, zA, zB, zC, zD, zE, zF, zG, zH, zI, reduceCtorEq]
           symm
           refine allB_false (k := k) (by omega) ?_
           unfold riseAt; rw [decide_eq_false_iff_not]; omega)
    · refine awp_exit ?_
      (try simp only [AThen, ABlk, reduceIte, zF]); refine hK1 _ ?_
      refine awp_seq' fun K hK => ?_
      refine awp_region tyOk tyPos [] rfl ?_
      simp only [push_cast, ↓brB_true, ↓brB_false, ↓reduceIte, zA, zB, zC, zD, zE, zF, zG, zH, zI, reduceCtorEq]
      repeat' apply And.intro
      all_goals try exact gB
      all_goals first | (refine hK _ ?_; clear hK K) | (simp only [push_cast]; done)
      refine awp_ret ?_
      (try simp only [AThen, ABlk])
      refine ⟨Or.inl rfl, ?_⟩
      simp only [RetOk, push_cast, ↓brB_true, ↓brB_false, ↓reduceIte, zA, zB, zC, zD, zE, zF, zG, zH, zI, reduceCtorEq]
      symm
      exact allB_true fun j hj => hall j (by omega)
set_option maxHeartbeats 1000000 in
theorem l1Set_fn (xs : List Int) (n : Int) (hl : xs.length ≤ 1048576) (h0 : 0 ≤ n) (h1 : n ≤ 9223372036854775807) : Fn Try.prog tyT 111 [.c (DI xs), .c (.int .i64 n)] [.c (.bool (isSetB xs n))] := by
  refine Fn_of (fn := Try.f111) (ts := [4]) Try.func111 (by kernel_rfl) rfl rfl (by rw [Try.ntmps111]; exact Nat.le_of_ble_eq_true rfl) rfl (by simp only [szA, List.mem_cons, List.not_mem_nil, or_false, forall_eq_or_imp, forall_eq, VT.cells, szL]; try decide) ?_
  rw [Try.ntmps111]
  simp only [push_cast, ↓brB_true, ↓brB_false, ↓reduceIte, zA, zB, zC, zD, zE, zF, zG, zH, zI, reduceCtorEq]
  refine awp_seq' fun K hK => ?_
  refine awp_region tyOk tyPos [] rfl ?_
  simp only [push_cast, ↓brB_true, ↓brB_false, ↓reduceIte, zA, zB, zC, zD, zE, zF, zG, zH, zI, reduceCtorEq]
  repeat' apply And.intro
  all_goals try exact gB
  all_goals first | (refine hK _ ?_; clear hK K) | (simp only [push_cast]; done)
  refine awp_seq' fun K hK => ?_
  refine awp_regionN false tyOk tyPos ?_ rfl ?_
  · kernel_rfl
  simp only [push_cast, ↓brB_true, ↓brB_false, ↓reduceIte, zA, zB, zC, zD, zE, zF, zG, zH, zI, reduceCtorEq]
  repeat' (first | (apply brB_mk <;> (intro hg; (try simp only [push_cast] at hg))) | (refine ⟨_, l1Rises_fn xs n hl (by omega) (by omega), ?_⟩; simp only [push_cast, ↓brB_true, ↓brB_false, ↓reduceIte, zA, zB, zC, zD, zE, zF, zG, zH, zI, reduceCtorEq]) | apply And.intro | (intro hg; (try simp only [push_cast] at hg)))
  all_goals try exact gA
  all_goals (refine hK _ ?_; clear hK K)
  all_goals refine awp_ret ?_
  all_goals (try simp only [AThen, ABlk])
  all_goals refine ⟨Or.inl rfl, ?_⟩
  all_goals simp only [RetOk, push_cast, ↓brB_true, ↓brB_false, ↓reduceIte, zA, zB, zC, zD, zE, zF, zG, zH, zI, reduceCtorEq]
  symm
  cases hc : isSetB xs n with
  | false => rfl
  | true => exfalso; have := set_len hc h0; omega
end Go.Proofs.Ytdbecmmeifdafaa

namespace Go.Proofs.Ytdbecmmeifdafaa
open Nat renaming reduceMod → zA, reduceMul → zB, reduceDiv → zC, reduceAdd → zD, reduceSub → zE, reduceEqDiff → zF, reduceBEq → zG, reduceLT → zH, reduceLeDiff → zI
open Go.RowKit
set_option linter.unusedVariables false
set_option linter.unusedSimpArgs false

end Go.Proofs.Ytdbecmmeifdafaa

namespace Go.Proofs.Ytdbecmmeifdafaa
open Nat renaming reduceMod → zA, reduceMul → zB, reduceDiv → zC, reduceAdd → zD, reduceSub → zE, reduceEqDiff → zF, reduceBEq → zG, reduceLT → zH, reduceLeDiff → zI
open Go.RowKit
set_option linter.unusedVariables false
set_option linter.unusedSimpArgs false

end Go.Proofs.Ytdbecmmeifdafaa

namespace Go.Proofs.Ytdbecmmeifdafaa
open Nat renaming reduceMod → zA, reduceMul → zB, reduceDiv → zC, reduceAdd → zD, reduceSub → zE, reduceEqDiff → zF, reduceBEq → zG, reduceLT → zH, reduceLeDiff → zI
open Go.RowKit
set_option linter.unusedVariables false
set_option linter.unusedSimpArgs false

theorem ixB_nn (xs : List Int) (x : Int) : decide (ixB xs x ≥ 0) = hasB xs x := ixB_has xs x
set_option maxRecDepth 20000 in
set_option maxHeartbeats 4000000 in
theorem Index_fn (xs : List Int) (x : Int) (hl : xs.length ≤ 1048576) : Fn Try.prog tyT 110 [.c (DI xs), .c (.int .i64 x)] [.c (.int .i64 (ixB xs x))] := by
  refine Fn_of (fn := Try.f110) (ts := [4]) Try.func110 (by kernel_rfl) rfl rfl (by rw [Try.ntmps110]; exact Nat.le_of_ble_eq_true rfl) rfl (by simp only [szA, List.mem_cons, List.not_mem_nil, or_false, forall_eq_or_imp, forall_eq, VT.cells, szL]; try decide) ?_
  rw [Try.ntmps110]
  simp only [push_cast, ↓brB_true, ↓brB_false, ↓reduceIte, zA, zB, zC, zD, zE, zF, zG, zH, zI, reduceCtorEq]
  refine awp_seq' fun K hK => ?_
  refine awp_region tyOk tyPos [] rfl ?_
  simp only [push_cast, ↓brB_true, ↓brB_false, ↓reduceIte, zA, zB, zC, zD, zE, zF, zG, zH, zI, reduceCtorEq]
  repeat' apply And.intro
  all_goals try exact gB
  all_goals first | (refine hK _ ?_; clear hK K) | (simp only [push_cast]; done)
  refine awp_seq' fun K1 hK1 => ?_
  refine awp_seq' fun K hK => ?_
  refine awp_region tyOk tyPos [] rfl ?_
  simp only [push_cast, ↓brB_true, ↓brB_false, ↓reduceIte, zA, zB, zC, zD, zE, zF, zG, zH, zI, reduceCtorEq]
  repeat' apply And.intro
  all_goals try exact gB
  all_goals first | (refine hK _ ?_; clear hK K) | (simp only [push_cast]; done)
  refine awp_block ?_
  refine awp_loopU [4,5,8,9,10,11,12,13,14,15,16,17,18] [] (fun (k : Nat) => [(8, .int .i64 k)]) (fun k => []) (fun k => []) (fun k => k ≤ xs.length ∧ ∀ j, j < k → ¬ gi xs j = x) (fun k => xs.length - k) 0 ?_ ⟨by omega, fun j hj => by omega⟩ ?_
  ·
    refine cov_of rfl ?_ ?_ ?_ <;> simp only [covS, covL, push_cast, ↓brB_true, ↓brB_false, ↓reduceIte, zA, zB, zC, zD, zE, zF, zG, zH, zI, reduceCtorEq]
  · rintro k ⟨hk, hall⟩ KL0 hL0
    simp only [push_cast, ↓brB_true, ↓brB_false, ↓reduceIte, zA, zB, zC, zD, zE, zF, zG, zH, zI, reduceCtorEq]
    refine awp_seq' fun K hK => ?_
    refine awp_region tyOk tyPos [] rfl ?_
    simp only [push_cast, ↓brB_true, ↓brB_false, ↓reduceIte, zA, zB, zC, zD, zE, zF, zG, zH, zI, reduceCtorEq]
    repeat' apply And.intro
    all_goals try exact gB
    all_goals first | (refine hK _ ?_; clear hK K) | (simp only [push_cast]; done)
    refine awp_seq' fun K2 hK2 => ?_
    refine awp_cond rfl (fun hc => ?_) (fun hc => ?_) <;> (try simp only [push_cast] at hc)
    ·
      refine awp_skip ?_
      (try simp only [AThen, ABlk, reduceIte, zF]); refine hK2 _ ?_
      refine awp_seq' fun K3 hK3 => ?_
      refine awp_block ?_
      refine awp_seq' fun K hK => ?_
      refine awp_region tyOk tyPos [] rfl ?_
      simp only [push_cast, ↓brB_true, ↓brB_false, ↓reduceIte, zA, zB, zC, zD, zE, zF, zG, zH, zI, reduceCtorEq]
      repeat' apply And.intro
      all_goals try exact gB
      all_goals first | (refine hK _ ?_; clear hK K) | (simp only [push_cast]; done)
      refine awp_seq' fun K hK => ?_
      refine awp_region tyOk tyPos [] rfl ?_
      simp only [push_cast, ↓brB_true, ↓brB_false, ↓reduceIte, zA, zB, zC, zD, zE, zF, zG, zH, zI, reduceCtorEq]
      repeat' apply And.intro
      all_goals try exact gB
      all_goals first | (refine hK _ ?_; clear hK K) | (simp only [push_cast]; done)
      refine awp_cond rfl (fun hc => ?_) (fun hc => ?_) <;> (try simp only [push_cast] at hc)
      ·
        refine awp_seq' fun K hK => ?_
        refine awp_region tyOk tyPos [] rfl ?_
        simp only [push_cast, ↓brB_true, ↓brB_false, ↓reduceIte, zA, zB, zC, zD, zE, zF, zG, zH, zI, reduceCtorEq]
        repeat' apply And.intro
        all_goals try exact gB
        all_goals first | (refine hK _ ?_; clear hK K) | (simp only [push_cast]; done)
        refine awp_ret ?_
        (try simp only [AThen, ABlk])
        refine ⟨Or.inl rfl, ?_⟩
        simp only [RetOk, push_cast, ↓brB_true, ↓brB_false, ↓reduceIte, zA, zB, zC, zD, zE, zF, zG, zH, zI, reduceCtorEq]
        symm
        exact ixB_found (k := k) (by omega) hall (by omega)
      ·
        refine awp_skip ?_
        (try simp only [AThen, ABlk, reduceIte, zF]); refine hK3 _ ?_
        refine awp_region tyOk tyPos [] rfl ?_
        simp only [push_cast, ↓brB_true, ↓brB_false, ↓reduceIte, zA, zB, zC, zD, zE, zF, zG, zH, zI, reduceCtorEq]
        repeat' apply And.intro
        all_goals try exact gB
        refine hL0 _ ⟨k + 1, ⟨by omega, fun j hj => (by
            by_cases hjk : j = k
            · subst hjk; omega
            · exact hall j (by omega))⟩, by omega, ?_⟩
        refine cov_of rfl ?_ ?_ ?_ <;> simp only [covS, covL, push_cast, ↓brB_true, ↓brB_false, ↓reduceIte, zA, zB, zC, zD, zE, zF, zG, zH, zI, reduceCtorEq]
    ·
      refine awp_exit ?_
      (try simp only [AThen, ABlk, reduceIte, zF]); refine hK1 _ ?_
      refine awp_seq' fun K hK => ?_
      refine awp_region tyOk tyPos [] rfl ?_
      simp only [push_cast, ↓brB_true, ↓brB_false, ↓reduceIte, zA, zB, zC, zD, zE, zF, zG, zH, zI, reduceCtorEq]
      repeat' apply And.intro
      all_goals try exact gB
      all_goals first | (refine hK _ ?_; clear hK K) | (simp only [push_cast]; done)
      refine awp_ret ?_
      (try simp only [AThen, ABlk])
      refine ⟨Or.inl rfl, ?_⟩
      simp only [RetOk, push_cast, ↓brB_true, ↓brB_false, ↓reduceIte, zA, zB, zC, zD, zE, zF, zG, zH, zI, reduceCtorEq]
      symm
      exact ixB_none fun j hj => hall j (by omega)
set_option maxRecDepth 20000 in
set_option maxHeartbeats 4000000 in
theorem Contains_fn (xs : List Int) (x : Int) (hl : xs.length ≤ 1048576) : Fn Try.prog tyT 108 [.c (DI xs), .c (.int .i64 x)] [.c (.bool (hasB xs x))] := by
  refine Fn_of (fn := Try.f108) (ts := [4]) Try.func108 (by kernel_rfl) rfl rfl (by rw [Try.ntmps108]; exact Nat.le_of_ble_eq_true rfl) rfl (by simp only [szA, List.mem_cons, List.not_mem_nil, or_false, forall_eq_or_imp, forall_eq, VT.cells, szL]; try decide) ?_
  rw [Try.ntmps108]
  simp only [push_cast, ↓brB_true, ↓brB_false, ↓reduceIte, zA, zB, zC, zD, zE, zF, zG, zH, zI, reduceCtorEq]
  refine awp_seq' fun K hK => ?_
  refine awp_region tyOk tyPos [] rfl ?_
  simp only [push_cast, ↓brB_true, ↓brB_false, ↓reduceIte, zA, zB, zC, zD, zE, zF, zG, zH, zI, reduceCtorEq]
  repeat' apply And.intro
  all_goals try exact gB
  all_goals first | (refine hK _ ?_; clear hK K) | (simp only [push_cast]; done)
  refine awp_seq' fun K hK => ?_
  refine awp_region tyOk tyPos [] rfl ?_
  all_goals refine aops_cut 3 fun K9 hK9 => ?_
  all_goals simp only [push_cast, ↓brB_true, ↓brB_false, ↓reduceIte, zA, zB, zC, zD, zE, zF, zG, zH, zI, reduceCtorEq]
  all_goals repeat' (first | (apply brB_mk <;> (intro hg; (try simp only [push_cast] at hg))) | (refine ⟨_, Index_fn xs x hl, ?_⟩; simp only [push_cast, ↓brB_true, ↓brB_false, ↓reduceIte, zA, zB, zC, zD, zE, zF, zG, zH, zI, reduceCtorEq]) | apply And.intro | (intro hg; (try simp only [push_cast] at hg)))
  all_goals try exact gA
  all_goals first | (refine hK9 _ ?_; clear hK9 K9) | (simp only [push_cast]; done)
  all_goals simp only [push_cast, ↓brB_true, ↓brB_false, ↓reduceIte, zA, zB, zC, zD, zE, zF, zG, zH, zI, reduceCtorEq]
  all_goals repeat' (first | (apply brB_mk <;> (intro hg; (try simp only [push_cast] at hg))) | (refine ⟨_, Index_fn xs x hl, ?_⟩; simp only [push_cast, ↓brB_true, ↓brB_false, ↓reduceIte, zA, zB, zC, zD, zE, zF, zG, zH, zI, reduceCtorEq]) | apply And.intro | (intro hg; (try simp only [push_cast] at hg)))
  all_goals try exact gA
  all_goals first | (refine hK _ ?_; clear hK K) | (simp only [push_cast]; done)
  refine awp_ret ?_
  (try simp only [AThen, ABlk])
  refine ⟨Or.inl rfl, ?_⟩
  simp only [RetOk, push_cast, ↓brB_true, ↓brB_false, ↓reduceIte, zA, zB, zC, zD, zE, zF, zG, zH, zI, reduceCtorEq]
  exact ixB_nn xs x
end Go.Proofs.Ytdbecmmeifdafaa

namespace Go.Proofs.Ytdbecmmeifdafaa
open Nat renaming reduceMod → zA, reduceMul → zB, reduceDiv → zC, reduceAdd → zD, reduceSub → zE, reduceEqDiff → zF, reduceBEq → zG, reduceLT → zH, reduceLeDiff → zI
open Go.RowKit
set_option linter.unusedVariables false
set_option linter.unusedSimpArgs false

end Go.Proofs.Ytdbecmmeifdafaa

namespace Go.Proofs.Ytdbecmmeifdafaa
open Nat renaming reduceMod → zA, reduceMul → zB, reduceDiv → zC, reduceAdd → zD, reduceSub → zE, reduceEqDiff → zF, reduceBEq → zG, reduceLT → zH, reduceLeDiff → zI
open Go.RowKit
set_option linter.unusedVariables false
set_option linter.unusedSimpArgs false

end Go.Proofs.Ytdbecmmeifdafaa

namespace Go.Proofs.Ytdbecmmeifdafaa
open Nat renaming reduceMod → zA, reduceMul → zB, reduceDiv → zC, reduceAdd → zD, reduceSub → zE, reduceEqDiff → zF, reduceBEq → zG, reduceLT → zH, reduceLeDiff → zI
open Go.RowKit
set_option linter.unusedVariables false
set_option linter.unusedSimpArgs false

def stepC (w : Wt) (v u : Int) : Int := if hasB (gl w.a.next v.toNat) u = true then stepCost w v.toNat u else 0
def nextAt (xs : List Int) (t : Int) (i : Nat) : Int := if i + 1 < xs.length then gi xs (i + 1) else t
def along (w : Wt) (xs : List Int) (t : Int) : List Int := (List.range xs.length).map fun i => stepC w (gi xs i) (nextAt xs t i)
end Go.Proofs.Ytdbecmmeifdafaa

namespace Go.Proofs.Ytdbecmmeifdafaa
open Go.ChangeShapes Go.WideShapes Go.ChangeAt Go.RowKit Go.Deep Go.Joins
set_option linter.unusedVariables false
set_option linter.unusedSimpArgs false

theorem flatten_at {α : Type} {k : Nat} (hk : 0 < k) : ∀ {ls : List (List α)}, (∀ l ∈ ls, l.length = k) → ∀ i, ls.flatten[i]? = (ls[i / k]?).bind fun l => l[i % k]?
  | [], _, i => by simp
  | l :: ls, h, i => by
    have hl := h l (by simp)
    rw [List.flatten_cons]
    by_cases hi : i < k
    · rw [List.getElem?_append_left (by omega), Nat.div_eq_of_lt hi, Nat.mod_eq_of_lt hi]; rfl
    · rw [List.getElem?_append_right (by omega), hl, flatten_at hk (fun l hl => h l (by simp [hl]))]
      have e1 : i / k = (i - k) / k + 1 := by rw [← Nat.add_div_right _ hk, Nat.sub_add_cancel (by omega)]
      have e2 : i % k = (i - k) % k := by rw [← Nat.mod_eq_sub_mod (by omega)]
      rw [e1, e2, List.getElem?_cons_succ]
theorem flatten_len {α : Type} {k : Nat} : ∀ {ls : List (List α)}, (∀ l ∈ ls, l.length = k) → ls.flatten.length = ls.length * k
  | [], _ => by simp
  | l :: ls, h => by
    rw [List.flatten_cons, List.length_append, flatten_len (fun l hl => h l (by simp [hl])), h l (by simp), List.length_cons, Nat.add_mul]
    omega
theorem RpS_at {S : TypeId → Nat} {lo : Nat} {w : World} {ow : Nat → Option Pl} {ds : List D} {cs : List Value} (h : RpS S lo w ow ds cs) {i : Nat} {d : D} {c : Value} (hd : ds[i]? = some d) (hc : cs[i]? = some c) : Rp S lo w ow .sh d c := (RpS_iff h).2 i d c hd hc
theorem RpS_one {S : TypeId → Nat} {lo : Nat} {w : World} {ow : Nat → Option Pl} {d : D} {c : Value} (h : Rp S lo w ow .sh d c) : RpS S lo w ow [d] [c] := by simp only [RpS]; exact ⟨c, [], rfl, h, rfl⟩
def i64 (x : Int) : Prop := -9223372036854775808 ≤ x ∧ x ≤ 9223372036854775807
section
variable {H : Type} {enc : TypeId × Value → H} {W : World} {lo : Nat}
abbrev Tro (enc : TypeId × Value → H) (W : World) (fuel : Nat) (t : TypeId) (cs : List Value) (x : DataW H × List MemPlace) : Prop := DataW.trod enc Try.prog W 0 (fun _ => true) true fuel t cs = some x
abbrev RpN (lo : Nat) (W : World) (d : D) (v : Value) : Prop := Rp (sz tyT) lo W (fun _ => none) .sh d v
abbrev RpSN (lo : Nat) (W : World) (ds : List D) (cs : List Value) : Prop := RpS (sz tyT) lo W (fun _ => none) ds cs

theorem cells_at {w : World} {a : Addr} {n : Nat} {cs : List Value} (h : w.cells? 0 a n = some cs) (hn : n ≠ 0) : a.spot = none ∧ a.block < w.heap.size := by
  obtain ⟨_, h1, h2⟩ := World.cells?_some h
  have h3 : w.cell? (a.add 0) = some cs[0] := (h2 0 (by omega)).trans (List.getElem?_eq_getElem (by omega))
  have ha : a.add 0 = a := rfl
  rw [ha] at h3
  have hlt := World.block_lt_of_cell? w a h3
  refine ⟨?_, hlt⟩
  rcases hsp : a.spot with _ | s
  · rfl
  · exfalso
    unfold World.cell? at h3
    rw [hsp] at h3
    split at h3
    · simp at h3
    · cases h3
theorem open_S {t e : TypeId} {k : Nat} (ht : Try.prog.underlying t = some (.slice e)) (hk : 0 < k) (hS : sz tyT e = k) (hc : Try.prog.cellsOf e = k) {Q : List D → Prop}
    (hQ : ∀ (n : Nat) (cs : List Value) (y : DataW H × List MemPlace), Tro enc W n e cs y → ∃ ds, RpSN lo W ds cs ∧ Q ds) {fuel : Nat} {cs : List Value} {x : DataW H × List MemPlace} (h : Tro enc W fuel t cs x) :
    ∃ (v : Value) (dss : List (List D)), cs = [v] ∧ RpN lo W (.lst e dss.flatten) v ∧ dss.length ≤ 9223372036854775807 ∧ ∀ ds ∈ dss, Q ds ∧ ds.length = k := by
  rcases open_slice ht h with ⟨rfl, -⟩ | ⟨a, len, cap, m, n, Dt, Pl, rfl, -, hl, hm, hmm, -, hx⟩
  · exact ⟨_, [], rfl, (Rp_lst _ _).2 ⟨[], ⟨rfl, 0, by simp, none, 0, rfl, Nat.le_refl _, by unfold maxLen; omega, fun h => absurd rfl h⟩, fun i x u hx => by simp at hx⟩, by simp, fun ds h => by simp at h⟩
  simp only [if_true] at hmm
  subst hmm
  rw [hc] at hx
  obtain ⟨f, hf⟩ := choose_lt (α := List Value × List D) (p := fun i y => W.cells? 0 (a.add (i * k)) k = some y.1 ∧ RpSN lo W y.2 y.1 ∧ Q y.2) (fun i hi => by
    obtain ⟨cs', h1, h2⟩ := hx i hi
    obtain ⟨ds, h3, h4⟩ := hQ n cs' _ h2
    exact ⟨(cs', ds), h1, h3, h4⟩)
  have hlen : ∀ i, i < m → (f i).1.length = k ∧ (f i).2.length = k := fun i hi => by
    obtain ⟨h1, h2, h3⟩ := hf i hi
    obtain ⟨_, h4, _⟩ := World.cells?_some h1
    have := (RpS_iff h2).1
    exact ⟨h4, by omega⟩
  let dss := (List.range len).map fun i => (f i).2
  let vss := (List.range len).map fun i => (f i).1
  have hd : ∀ l ∈ dss, l.length = k := fun l hl' => by
    obtain ⟨i, hi, rfl⟩ := List.mem_map.1 hl'
    have := List.mem_range.1 hi
    exact (hlen i (by omega)).2
  have hv : ∀ l ∈ vss, l.length = k := fun l hl' => by
    obtain ⟨i, hi, rfl⟩ := List.mem_map.1 hl'
    have := List.mem_range.1 hi
    exact (hlen i (by omega)).1
  have hdl : dss.length = len := by simp [dss]
  have hvl : vss.length = len := by simp [vss]
  refine ⟨_, dss, rfl, (Rp_lst _ _).2 ⟨vss.flatten, ⟨by rw [flatten_len hd, flatten_len hv, hdl, hvl], len, by rw [flatten_len hd, hdl, hS], some a, m, rfl, hl, hm, fun h0 => ?_⟩, fun i d u hdi hui => ?_⟩, by rw [hdl]; unfold maxLen at hm; omega, fun ds hds => ?_⟩
  · have h1 := (hf 0 (by omega)).1
    rw [Nat.zero_mul] at h1
    have ha : a.add 0 = a := rfl
    rw [ha] at h1
    obtain ⟨hs, hlt⟩ := cells_at h1 (by omega)
    obtain ⟨b, o, s⟩ := a
    simp only at hs
    subst hs
    refine ⟨b, o, rfl, hlt, rfl, fun i u hu => ?_⟩
    rw [flatten_at hk hv] at hu
    have hik : i / k < len := by
      rcases Nat.lt_or_ge (i / k) len with h | h
      · exact h
      · rw [List.getElem?_eq_none (by rw [hvl]; exact h)] at hu; cases hu
    rw [List.getElem?_map, List.getElem?_range hik] at hu
    simp only [Option.map_some, Option.bind_some] at hu
    obtain ⟨_, _, h5⟩ := World.cells?_some (hf (i / k) (by omega)).1
    have := (h5 (i % k) (Nat.mod_lt _ hk)).trans hu
    rw [add_plain, add_plain] at this
    rw [show o + i / k * k + i % k = o + i from by have := Nat.div_add_mod' i k; omega] at this
    exact this
  · rw [flatten_at hk hd] at hdi
    rw [flatten_at hk hv] at hui
    have hik : i / k < len := by
      rcases Nat.lt_or_ge (i / k) len with h | h
      · exact h
      · rw [List.getElem?_eq_none (by rw [hvl]; exact h)] at hui; cases hui
    rw [List.getElem?_map, List.getElem?_range hik] at hui hdi
    simp only [Option.map_some, Option.bind_some] at hui hdi
    exact RpS_at (hf (i / k) (by omega)).2.1 hdi hui
  · refine ⟨?_, hd ds hds⟩
    obtain ⟨i, hi, rfl⟩ := List.mem_map.1 hds
    exact (hf i (by have := List.mem_range.1 hi; omega)).2.2
end
theorem law_true {P : Program} {f : FuncId} {args : List VT} {W : World} {cargs : List Value} (h : Fn P tyT f args [.c (.bool true)]) (ha : ArgsR (sz tyT) W.heap.size W (fun _ => none) args cargs) : Calls P f cargs.toArray W (fun e w' => e = .returned (.bool true) ∧ Below W.heap.size W w') := by
  refine (h.2 W cargs ha).mono fun e w' hp => ?_
  obtain ⟨vs, ow', rfl, hb, -, -, hr⟩ := hp
  simp only [ResR, Rp] at hr
  obtain ⟨v, vs', rfl, rfl, rfl⟩ := hr
  exact ⟨rfl, hb⟩
end Go.Proofs.Ytdbecmmeifdafaa

namespace Go.Proofs.Ytdbecmmeifdafaa
open Go.RowKit
set_option linter.unusedVariables false
set_option linter.unusedSimpArgs false

def dU (xs : List Int) : List D := xs.map (.int .u8)
theorem len_dU (xs : List Int) : (dU xs).length = xs.length := by simp [dU]
theorem getI_dU (xs : List Int) (i : Nat) : getI (dU xs) i = gi xs i := by
  unfold getI dU gi
  rw [List.getElem?_map, List.getD_eq_getElem?_getD]
  cases xs[i]? <;> rfl
theorem HasC_dU (xs : List Int) (i : Nat) : HasC (.int .u8) (dU xs) i = (i < xs.length) := by
  unfold HasC dU
  rw [List.getElem?_map]
  apply propext
  constructor
  · rintro ⟨n, h⟩
    cases hx : xs[i]? with
    | none => rw [hx] at h; cases h
    | some y => exact (List.getElem?_eq_some_iff.1 hx).1
  · intro h
    rw [List.getElem?_eq_getElem h]
    exact ⟨_, rfl⟩
theorem take_dU (xs : List Int) (n : Nat) : (dU xs).take n = dU (xs.take n) := by simp [dU]
theorem drop_dU (xs : List Int) (n : Nat) : (dU xs).drop n = dU (xs.drop n) := by simp [dU]
theorem toNat33 : Int.toNat 33 = 33 := rfl
theorem min3364 : min 33 64 = 33 := rfl
theorem arC_i64 (n : Int) : arC .i64 n = (.int .i64 n, i64ok n) := rfl
attribute [push_cast] toNat33 min3364 arC_i64 len_dU getI_dU HasC_dU take_dU drop_dU
def BytesOk (xs : List Int) : Prop := xs.length ≤ 4096 ∧ ∀ k, k < xs.length → 0 ≤ gi xs k ∧ gi xs k ≤ 255
def dI1 (code : List Int) (i : Int) : Int := if i < code.length then i + 1 else i
theorem dI1_rg {code : List Int} {i : Int} (h : 0 ≤ i ∧ i ≤ code.length) : 0 ≤ dI1 code i ∧ dI1 code i ≤ code.length := by unfold dI1; split <;> omega
end Go.Proofs.Ytdbecmmeifdafaa

namespace Go.Proofs.Ytdbecmmeifdafaa
open Go.ChangeShapes Go.WideShapes Go.ChangeAt Go.RowKit Go.Deep Go.Joins
set_option linter.unusedVariables false
set_option linter.unusedSimpArgs false

section
variable {H : Type} {enc : TypeId × Value → H} {W : World} {lo : Nat}
theorem open_b {fuel : Nat} {cs : List Value} {x : DataW H × List MemPlace} (h : Tro enc W fuel 5 cs x) : ∃ v n, cs = [v] ∧ RpN lo W (.int .u8 n) v ∧ (0 ≤ n ∧ n ≤ 255) := by
  obtain ⟨n, rfl, -, hw⟩ := DataW.trod_int Try.underlying5 h
  exact ⟨_, n, rfl, by simp only [Rp], by simp only [Lit.wf, Bool.and_eq_true, decide_eq_true_eq] at hw; exact hw⟩
theorem flat_U : ∀ (dss : List (List D)), (∀ ds ∈ dss, ∃ n, ds = [.int .u8 n] ∧ (0 ≤ n ∧ n ≤ 255)) → ∃ xs : List Int, dss.flatten = dU xs ∧ (∀ x ∈ xs, 0 ≤ x ∧ x ≤ 255) ∧ xs.length = dss.length
  | [], _ => ⟨[], rfl, fun x hx => by simp at hx, rfl⟩
  | ds :: dss, h => by
    obtain ⟨n, rfl, hn⟩ := h ds (by simp)
    obtain ⟨xs, e, hr, hl⟩ := flat_U dss (fun d hd => h d (by simp [hd]))
    refine ⟨n :: xs, by rw [List.flatten_cons, e]; rfl, fun x hx => ?_, by simp [hl]⟩
    rcases List.mem_cons.1 hx with rfl | hx
    · exact hn
    · exact hr x hx
set_option maxRecDepth 100000 in
theorem arg_U {base : Nat} {v : Value} {d : DataW H} {p : List MemPlace} (hv : Value.okWide Try.prog W .any base 22 v) (h : DataW.Trod enc Try.prog W 0 (fun _ => true) true 22 v d p) : ∃ xs, ArgR (sz tyT) lo W (fun _ => none) (.c (.lst 5 (dU xs))) v ∧ (∀ k, k < xs.length → 0 ≤ gi xs k ∧ gi xs k ≤ 255) ∧ xs.length ≤ 9223372036854775807 := by
  obtain ⟨A, n, c, rfl⟩ := okWide_slice Try.underlying22 hv
  obtain ⟨fuel, hf⟩ := h
  obtain ⟨v', dss, e, h1, h2, h3⟩ := open_S (lo := lo) (k := 1) Try.underlying22 (by omega) sz_5 (by kernel_rfl) (Q := fun ds => ∃ n, ds = [.int .u8 n] ∧ (0 ≤ n ∧ n ≤ 255)) (fun n cs y hy => by
    obtain ⟨v, n, rfl, h1, h2⟩ := open_b (lo := lo) hy
    exact ⟨[.int .u8 n], RpS_one h1, n, rfl, h2⟩) hf
  obtain ⟨xs, e2, hr, hl⟩ := flat_U dss (fun ds hds => (h3 ds hds).1)
  rw [e2] at h1
  simp only [Value.cells, List.cons.injEq, and_true] at e
  subst e
  refine ⟨xs, h1, fun k hk => hr _ ?_, by omega⟩
  unfold gi
  rw [List.getD_eq_getElem?_getD, List.getElem?_eq_getElem hk]
  exact List.getElem_mem _
end
end Go.Proofs.Ytdbecmmeifdafaa

namespace Go.Proofs.Ytdbecmmeifdafaa
open Go.RowKit
set_option linter.unusedVariables false
set_option linter.unusedSimpArgs false

def scAV : D → AV
  | .int k n => .int k n
  | .bool b => .bool b
  | _ => .dead
def scVals : List D → List Value → Prop
  | [], cs => cs = []
  | .int k n :: ds, cs => ∃ cs', cs = .int k n :: cs' ∧ scVals ds cs'
  | .bool b :: ds, cs => ∃ cs', cs = .bool b :: cs' ∧ scVals ds cs'
  | _ :: _, _ => False
def scAVs : List D → List AV → Prop
  | [], [] => True
  | .int k n :: ds, .int k' n' :: us => (k' = k ∧ n' = n) ∧ scAVs ds us
  | .bool b :: ds, .bool b' :: us => b' = b ∧ scAVs ds us
  | _, _ => False
def PostP (w : World) (ds : List D) (cargs : List Value) (e : Ending) (w' : World) : Prop :=
  ∃ g ty c0 cs, cargs[0]? = some c0 ∧ e = .returned (.pointer (some ⟨g, 0, none⟩)) ∧ Below w.heap.size w w' ∧ w.heap.size ≤ g ∧ g < w'.heap.size ∧ w'.heap[g]? = some (.cells (List.toArray (c0 :: cs)) ty (0, 0)) ∧ scVals ds cs
def FnP (P : Program) (τ : Ty) (f : FuncId) (args : List VT) (ds : List D) : Prop :=
  Callable P f ∧ ∀ (w : World) (cargs : List Value), ArgsR (sz τ) w.heap.size w (fun _ => none) args cargs → Calls P f cargs.toArray w (PostP w ds cargs)
def retPOk (τ : Ty) (st : St) (ds : List D) : AV → Prop
  | .bp T 0 => match lk st.b T with
    | some (.sl 0 [] 0 len e :: us) => (match lk st.r 0 with | some R => R.pin = some 0 ∧ R.e = e ∧ R.xs.length = len * sz τ e ∧ sz τ e ≠ 0 | none => False) ∧ scAVs ds us
    | _ => False
  | _ => False
def RetP (τ : Ty) (rs : List ResultVar) (ds : List D) (e : Exit) (st : St) : Prop := (e = .ret ∨ e = .normal) ∧
  match resVars τ st rs with
  | some ([v], ob) => ob ∧ retPOk τ st ds v
  | _ => False

section
variable {P : Program} {τ : Ty} {lo : Nat} {w0 : Fz} {ow : Nat → Option Pl} {hd : Nat → Value} {bk : Nat → Nat} {st : St} {a : Act} {w : World}

theorem scAVs_sound {rr : List (Nat × Root)} {bb : List (Nat × List AV)} : ∀ {ds : List D} {us : List AV} {cs : List Value}, scAVs ds us → AvRL τ w rr bb hd bk us cs → scVals ds cs
  | [], [], cs, _, h => by simpa only [AvRL, scVals] using h
  | [], _ :: _, _, h, _ => h.elim
  | .int k n :: ds, [], _, h, _ => h.elim
  | .bool b :: ds, [], _, h, _ => h.elim
  | .hole :: ds, _, _, h, _ => by simp [scAVs] at h
  | .lst e xs :: ds, _, _, h, _ => by simp [scAVs] at h
  | .int k n :: ds, u :: us, cs, h, h2 => by
    cases u <;> simp only [scAVs] at h
    obtain ⟨⟨rfl, rfl⟩, h3⟩ := h
    simp only [AvRL, AvR] at h2
    obtain ⟨v, cs', rfl, rfl, h4⟩ := h2
    exact ⟨cs', rfl, scAVs_sound h3 h4⟩
  | .bool b :: ds, u :: us, cs, h, h2 => by
    cases u <;> simp only [scAVs] at h
    obtain ⟨rfl, h3⟩ := h
    simp only [AvRL, AvR] at h2
    obtain ⟨v, cs', rfl, rfl, h4⟩ := h2
    exact ⟨cs', rfl, scAVs_sound h3 h4⟩
theorem scVals_av {rr : List (Nat × Root)} {bb : List (Nat × List AV)} : ∀ {ds : List D} {cs : List Value}, scVals ds cs → AvRL τ w rr bb hd bk (ds.map scAV) cs
  | [], cs, h => by simpa only [List.map_nil, AvRL, scVals] using h
  | .int k n :: ds, cs, h => by
    obtain ⟨cs', rfl, h2⟩ := h
    simp only [List.map_cons, scAV, AvRL, AvR]
    exact ⟨_, cs', rfl, rfl, scVals_av h2⟩
  | .bool b :: ds, cs, h => by
    obtain ⟨cs', rfl, h2⟩ := h
    simp only [List.map_cons, scAV, AvRL, AvR]
    exact ⟨_, cs', rfl, rfl, scVals_av h2⟩
  | .hole :: ds, _, h => h.elim
  | .lst e xs :: ds, _, h => h.elim

theorem FnP_of (hτ : TyOk P τ) (hpos : TyPos τ) {f : FuncId} {fn : Func} {c : Code} {rs : List ResultVar} {e0 : TypeId} {xs0 : List D} {args : List VT} {ds : List D} (hfn : P.funcs[f]? = some fn) (hname : (fn.name == "runtime.NumGoroutine") = false) (hb : fn.body = some c) (hres : fn.results = rs.toArray) (hn : (VT.c (.lst e0 xs0) :: args).length ≤ fn.ntmps) (hfew : few (VT.c (.lst e0 xs0) :: args) = true) (hs : szA τ (VT.c (.lst e0 xs0) :: args))
    (h : awp P τ c (RetP τ rs ds) (argStS τ fn.ntmps (VT.c (.lst e0 xs0) :: args))) : FnP P τ f (VT.c (.lst e0 xs0) :: args) ds := by
  refine ⟨⟨fn, hfn, hname, by rw [hb]; rfl⟩, fun w cargs hargs => ?_⟩
  have hst0 := argStS_sound hs hfew hn hargs
  obtain ⟨c0, cs0, hcargs, hc0, -⟩ := hargs
  subst hcargs
  simp only [ArgR] at hc0
  obtain ⟨A0, n0, k0, rfl, -⟩ := Rp_form hc0
  refine calls_of_wp hfn hb (Go.wp_mono (h _ _ _ w ⟨_, _, _, hst0⟩) fun e a' w' ⟨st', ⟨ow, hd, bk, hr⟩, he, hret0⟩ => ?_)
  have hpost : a'.defers = [] ∧ ∃ v, (results fn a'.tmps).run P w' = .ok v w' ∧ PostP w ds (.slice A0 n0 k0 :: cs0) (.returned v) w' := by
    split at hret0
    rotate_left
    · exact hret0.elim
    rename_i v ob0 hrv
    obtain ⟨hob0, hret⟩ := hret0
    obtain ⟨xs, hrun, hv⟩ := results_runR hτ hpos hr hres hrv hob0
    simp only [AvRL] at hv
    obtain ⟨x, xs', rfl, hx, rfl⟩ := hv
    refine ⟨hr.defers, _, hrun, ?_⟩
    unfold retPOk at hret
    split at hret
    rotate_left
    · exact hret.elim
    rename_i T
    split at hret
    rotate_left
    · exact hret.elim
    rename_i len e1 us hT
    obtain ⟨h1, h2⟩ := hret
    cases hR : lk st'.r 0 with
    | none => rw [hR] at h1; exact h1.elim
    | some R =>
      rw [hR] at h1
      obtain ⟨hp, he1, hxl, hz⟩ := h1
      obtain ⟨cs, ty, b1, b2, b3⟩ := hr.box T _ hT
      simp only [AvRL] at b3
      obtain ⟨u0, cs1, rfl, k1, k2⟩ := b3
      simp only [AvR] at hx
      have hxp := hx.2 ⟨_, hT⟩
      subst hxp
      have hph := hr.pin _ R _ hR hp
      have hph : hdArgs (Value.slice A0 n0 k0 :: cs0) 0 = hd 0 := Option.some.inj hph
      have hh0 : hdArgs (Value.slice A0 n0 k0 :: cs0) 0 = .slice A0 n0 k0 := rfl
      rw [hh0] at hph
      simp only [AvR] at k1
      obtain ⟨hv, hin, A, n, c2, A', c', q1, q2, hle, hlc, hmx, hf, hA⟩ := k1.2 R hR (by simp [okPath])
      simp only [into, Option.some.injEq] at hin
      obtain ⟨rfl, rfl⟩ := hf rfl
      obtain ⟨A3, n3, c3, q3, l3, -⟩ := Rp_form (hr.root _ R hR)
      rw [hin, q1] at q3; cases q3
      rw [he1] at l3
      have hn : n = len := Nat.eq_of_mul_eq_mul_right (Nat.pos_of_ne_zero hz) (by rw [← l3, hxl])
      have hu0 : u0 = .slice A0 n0 k0 := by rw [hph, hin, q1, q2, hn]
      subst hu0
      have hlt : bk T < w'.heap.size := (Array.getElem?_eq_some_iff.1 b1).1
      have hge : w.heap.size ≤ bk T := by
        rcases Nat.lt_or_ge (bk T) w.heap.size with hl | hl
        · exact absurd trivial ((hr.ge _ _ hlt b2 (by simp)).2 hl)
        · exact hl
      exact ⟨bk T, ty, .slice A0 n0 k0, cs1, rfl, rfl, ⟨hr.below.os, hr.below.tape, hr.below.output, hr.below.size, fun b hb => hr.below.block b hb trivial⟩, hge, hlt, b1, scAVs_sound h2 k2⟩
  rcases he with rfl | rfl <;> exact hpost

def aCallP (P : Program) (τ : Ty) (o : Oper) (K : St → Prop) (st : St) : Prop :=
  match callOf o with
  | some (f, args, ts) =>
    match argsOf τ st ts.toList (args.toList.map (ev st)), args.toList.map (ev st) with
    | some (as9, ob), v0 :: _ => ob ∧ dstN o ≠ 1000000 ∧ ∃ ds, FnP P τ f as9 ds ∧ K ((st.addB (dstN o) (AV.killL noB (is1 (dstN o)) (v0 :: ds.map scAV))).put o.dst (.bp (dstN o) 0))
    | _, _ => False
  | none => False
theorem aCallP_sound {o : Oper} {K : St → Prop} {Q : Exit → Act → World → Prop} {K' : Act → World → Prop} (hd : ∀ k, o.dst = some k → k < a.tmps.size) (h : Rel τ lo w0 st a w) (ha : aCallP P τ o K st)
    (hK : ∀ st' x w', K st' → Rel τ lo w0 st' (a.put o.dst x) w' → K' (a.put o.dst x) w') : o.wp P a w K' Q := by
  obtain ⟨ow, hd', bk, hr⟩ := h
  unfold aCallP at ha
  split at ha
  rotate_left
  · exact ha.elim
  rename_i f args ts hc
  split at ha
  rotate_left
  · exact ha.elim
  rename_i as9 ob v0 vs hargs hvs
  obtain ⟨hob, ht, ds, ⟨hcl, hcall⟩, hK1⟩ := ha
  have hev : AvRL τ w st.r st.b hd' bk (args.toList.map (ev st)) (args.toList.map a.eval) := AvRL_iff.2 ⟨by simp, fun i v x hv hx => by
    rw [List.getElem?_map] at hv hx
    cases hk : args.toList[i]? with
    | none => rw [hk] at hv; cases hv
    | some p => rw [hk] at hv hx; cases hv; cases hx; exact ev_sound hr p⟩
  have hA := argsOf_sound hr w.heap.size hev hargs hob
  have hC := hcall w _ hA
  unfold Oper.wp
  rw [callG_exec hr hc hcl]
  simp only [Oper.upon]
  refine hC.mono fun e w' hpost => ?_
  obtain ⟨g, ty, c0, cs, h0, he, hbl, hge, hlt, hg, hsc⟩ := hpost
  subst he
  rw [hvs] at hev
  simp only [AvRL] at hev
  obtain ⟨x0, xs, hxs, hx0, -⟩ := hev
  rw [hxs] at h0
  simp only [List.getElem?_cons_zero, Option.some.injEq] at h0
  subst h0
  have hgrow := RelC_grow hr (w' := w') (ow' := upd ow g (some (.box (dstN o)))) hbl.size (fun b hb => ⟨hbl.block b hb, upd_ne _ _ (by omega)⟩) (hr.below.below hbl) (fun b p hle hp hne => ⟨by have := hr.low; omega, fun hlt2 => by have := hr.below.size; omega⟩) (fun b hle => by
    rw [upd_ne _ _ (by omega)]
    exact hr.new b (by have := hbl.size; omega))
  have hD : ∀ d, noB d = false → KeepD w w' st.r st.r hd' hd' d := fun d _ R hR => ⟨R, hR, rfl, fun p hp => ⟨hp, into_keep p _ _ _ _ (hr.root d R hR) hp (fun b o A n c hb _ hc => by
    rw [cell_same (hbl.block b hb)]; exact hc)⟩⟩
  have hB : ∀ t, noB t = false → KeepB st.b st.b bk bk t := fun t _ hl => ⟨hl, rfl⟩
  have hx0' := AvR_keep (τ := τ) hD hB v0 _ hx0
  rw [kill_no] at hx0'
  have hadd := RelC_addB hgrow (dstN o) ht g (v0 :: ds.map scAV) (x0 :: cs) ty hg (upd_same _ _ _) (by simp only [AvRL]; exact ⟨x0, cs, rfl, hx0', scVals_av hsc⟩)
  refine hK _ _ w' hK1 (rel_put hadd hd ?_)
  simp only [AvR]
  exact ⟨⟨_, rfl⟩, fun _ => by rw [upd_same]⟩
def aopsP (P : Program) (τ : Ty) (al : List Nat) (t : Nat) (K : St → Prop) : List Oper → St → Prop
  | [], st => K st
  | o :: os, st =>
    match o.guard with
    | none => if o.dst = some t then aCallP P τ o (aopsP P τ al t K os) st else aop P τ al o (aopsP P τ al t K os) st
    | some (j, want) => False
theorem aopsP_sound (hτ : TyOk P τ) (hpos : TyPos τ) {al : List Nat} {t : Nat} {all : List Oper} {K : St → Prop} {Q : Exit → Act → World → Prop} (hQ : ∀ st a w, K st → Rel τ lo w0 st a w → Q .normal a w) :
    ∀ (os : List Oper) (st : St) (a : Act) (w : World), dstOk a.tmps.size os = true → Rel τ lo w0 st a w → aopsP P τ al t K os st → wpList P all.toArray Q os a w
  | [], st, a, w, _, h, ha => wpList_nil (hQ st a w ha h)
  | o :: os, st, a, w, hd, h, ha => by
    have hd1 : ∀ k, o.dst = some k → k < a.tmps.size := fun k hk => by
      have := List.all_eq_true.1 hd o (by simp)
      rw [hk] at this
      simpa using this
    have hd2 : dstOk a.tmps.size os = true := List.all_eq_true.2 fun x hx => List.all_eq_true.1 hd x (by simp [hx])
    refine wpList_step fun K' hK' => ?_
    simp only [aopsP] at ha
    split at ha
    · rename_i hg
      rw [if_pos (by simp [Region.wanted, hg])]
      split at ha
      · exact aCallP_sound hd1 h ha fun st' x w' h2 h3 => hK' _ _ (aopsP_sound hτ hpos hQ os st' _ w' (by rw [size_put]; exact hd2) h3 h2)
      · exact aop_sound hτ hpos hd1 h ha fun st' x w' h2 h3 => hK' _ _ (aopsP_sound hτ hpos hQ os st' _ w' (by rw [size_put]; exact hd2) h3 h2)
    · exact ha.elim
end
theorem awp_regionP {P : Program} {τ : Ty} {Q : Exit → St → Prop} {st : St} (t : Nat) (hτ : TyOk P τ) (hpos : TyPos τ) (al : List Nat) {id : Nat} {ops : List Oper} (hd : dstOk st.n ops = true) (h : aopsP P τ al t (Q .normal) ops st) : awp P τ (.region id ops.toArray false) Q st := fun lo w0 a w hr => by
  have hn : a.tmps.size = st.n := by obtain ⟨ow, hd, bk, h⟩ := hr; exact h.size
  refine wp_region_lit (aopsP_sound hτ hpos (fun st a w h1 h2 => ⟨st, h2, h1⟩) ops st a w (by rw [hn]; exact hd) hr h)
attribute [push_cast] aCallP aopsP scAV retPOk scAVs RetP
end Go.Proofs.Ytdbecmmeifdafaa

namespace Go.Proofs.Ytdbecmmeifdafaa
open Go.RowKit
set_option linter.unusedVariables false
set_option linter.unusedSimpArgs false

end Go.Proofs.Ytdbecmmeifdafaa

namespace Go.Proofs.Ytdbecmmeifdafaa
open Go.RowKit
set_option linter.unusedVariables false
set_option linter.unusedSimpArgs false

theorem rm_kv {α : Type} (f : Nat → Bool) (k : Nat) (v : α) (l : List (Nat × α)) : rm f ((k, v) :: l) = if f k = true then rm f l else (k, v) :: rm f l := by
  unfold rm
  rw [List.filter_cons]
  cases f k <;> rfl
theorem rm_nl {α : Type} (f : Nat → Bool) : rm f ([] : List (Nat × α)) = [] := rfl
attribute [push_cast] rm_kv rm_nl
attribute [-push_cast] rm
def nI (code : List Int) : Nat → Int
  | 0 => 0
  | j + 1 => dI1 code (nI code j)
theorem nI_rg (code : List Int) : ∀ j, 0 ≤ nI code j ∧ nI code j ≤ code.length
  | 0 => ⟨Int.le_refl _, by show (0 : Int) ≤ _; omega⟩
  | j + 1 => dI1_rg (nI_rg code j)
theorem nI_s (code : List Int) (j : Nat) : nI code (j + 1) = dI1 code (nI code j) := rfl
attribute [irreducible] nI
theorem one_addN (n : Nat) : (1 : Int) + (n : Int) = (n : Int) + 1 := Int.add_comm _ _
attribute [push_cast] one_addN Int.sub_zero
end Go.Proofs.Ytdbecmmeifdafaa

namespace Go.Proofs.Ytdbecmmeifdafaa
open Go.RowKit
set_option linter.unusedVariables false
set_option linter.unusedSimpArgs false

attribute [-push_cast] rm
end Go.Proofs.Ytdbecmmeifdafaa

namespace Go.Proofs.Ytdbecmmeifdafaa
open Nat renaming reduceMod → zA, reduceMul → zB, reduceDiv → zC, reduceAdd → zD, reduceSub → zE, reduceEqDiff → zF, reduceBEq → zG, reduceLT → zH, reduceLeDiff → zI
open Go.RowKit
set_option linter.unusedVariables false
set_option linter.unusedSimpArgs false

attribute [-push_cast] rm
theorem nI_0 (code : List Int) : nI code 0 = 0 := by with_unfolding_all rfl
set_option maxRecDepth 20000 in
set_option maxHeartbeats 4000000 in
theorem big_fn (code : List Int) (hl : code.length ≤ 9223372036854775807) : Fn Try.prog tyT 10 [.c (.lst 5 (dU code))] [.c (.bool (decide (4096 < code.length)))] := by
  refine Fn_of (fn := Try.f10) (ts := [2]) Try.func10 (by kernel_rfl) rfl rfl (by rw [Try.ntmps10]; exact Nat.le_of_ble_eq_true rfl) rfl (by simp only [szA, List.mem_cons, List.not_mem_nil, or_false, forall_eq_or_imp, forall_eq, VT.cells, szL]; try decide) ?_
  rw [Try.ntmps10]
  simp only [push_cast, ↓brB_true, ↓brB_false, ↓reduceIte, zA, zB, zC, zD, zE, zF, zG, zH, zI, reduceCtorEq]
  refine awp_seq' fun K hK => ?_
  refine awp_region tyOk tyPos [] rfl ?_
  simp only [push_cast, ↓brB_true, ↓brB_false, ↓reduceIte, zA, zB, zC, zD, zE, zF, zG, zH, zI, reduceCtorEq]
  repeat' apply And.intro
  all_goals try exact gB
  all_goals first | (refine hK _ ?_; clear hK K) | (simp only [push_cast]; done)
  refine awp_seq' fun K hK => ?_
  refine awp_region tyOk tyPos [] rfl ?_
  simp only [push_cast, ↓brB_true, ↓brB_false, ↓reduceIte, zA, zB, zC, zD, zE, zF, zG, zH, zI, reduceCtorEq]
  repeat' apply And.intro
  all_goals try exact gB
  all_goals first | (refine hK _ ?_; clear hK K) | (simp only [push_cast]; done)
  refine awp_ret ?_
  (try simp only [AThen, ABlk])
  refine ⟨Or.inl rfl, ?_⟩
  simp only [RetOk, push_cast, ↓brB_true, ↓brB_false, ↓reduceIte, zA, zB, zC, zD, zE, zF, zG, zH, zI, reduceCtorEq]
  first | exact decide_eq_decide.2 (by omega) | skip
end Go.Proofs.Ytdbecmmeifdafaa

/- The types of this seat's program. Printed by tygen.py. -/
import Derived.Test.YtdbecmmeifdafaaGEzbm
import Derived.Test.YtdbecmmeifdafaaRows
import Derived.Laws.CopyRow
namespace Go.Proofs.Ytdbecmmeifdafaa
def tyT : Ty := [(2, .sc (.int .i64), 8), (3, .sc (.int .i64), 8), (4, .sc .bool, 1), (5, .sc (.int .u8), 1), (21, .sc (.int .i32), 4), (22, .sc (.sl 5), 24), (26, .sc (.int .u64), 8), (27, .sc (.sl 2), 24), (28, .sc (.sl 27), 24), (30, .st [.sl 2, .sl 27] [(0, 27), (1, 28)], 48), (32, .st [.sl 2, .sl 27, .sl 27] [(0, 30), (2, 28)], 72), (43, .st [.sl 2, .sl 2] [(0, 27), (1, 27)], 48), (46, .sc (.sl 50), 24), (50, .st [.int .i64, .int .i64] [(0, 2), (1, 2)], 16), (58, .sc (.sl 66), 24), (66, .st [.sl 2, .sl 2] [(0, 27), (1, 27)], 48), (69, .st [.sl 2, .sl 27, .sl 2] [(0, 30), (2, 27)], 72), (74, .st [.sl 2, .sl 2] [(0, 27), (1, 27)], 48), (79, .st [.sl 5, .int .i64, .int .u64] [(0, 22), (1, 3), (2, 26)], 40), (100, .sc (.sl 4), 24), (101, .sc (.int .u64), 8), (118, .st [.sl 5, .int .i64, .int .i64] [(0, 22), (1, 3), (2, 2)], 40), (127, .st [.sl 2, .sl 2, .sl 27, .sl 27, .sl 2] [(0, 27), (1, 27), (2, 28), (3, 28), (4, 27)], 120)]
theorem tyOk : TyOk Try.prog tyT := tyOk_of (by kernel_rfl)
theorem tyPos : TyPos tyT := tyPos_of (by kernel_rfl)
theorem tyMix : Try.prog.follows .mixedOrders = true := by kernel_rfl
theorem tk_2 : tk tyT 2 = some (.sc (.int .i64), 8) := rfl
theorem sz_2 : sz tyT 2 = 1 := rfl
theorem cks_2 : cks tyT 2 = [.int .i64] := rfl
theorem tk_3 : tk tyT 3 = some (.sc (.int .i64), 8) := rfl
theorem sz_3 : sz tyT 3 = 1 := rfl
theorem cks_3 : cks tyT 3 = [.int .i64] := rfl
theorem tk_4 : tk tyT 4 = some (.sc .bool, 1) := rfl
theorem sz_4 : sz tyT 4 = 1 := rfl
theorem cks_4 : cks tyT 4 = [.bool] := rfl
theorem tk_5 : tk tyT 5 = some (.sc (.int .u8), 1) := rfl
theorem sz_5 : sz tyT 5 = 1 := rfl
theorem cks_5 : cks tyT 5 = [.int .u8] := rfl
theorem tk_21 : tk tyT 21 = some (.sc (.int .i32), 4) := rfl
theorem sz_21 : sz tyT 21 = 1 := rfl
theorem cks_21 : cks tyT 21 = [.int .i32] := rfl
theorem tk_22 : tk tyT 22 = some (.sc (.sl 5), 24) := rfl
theorem sz_22 : sz tyT 22 = 1 := rfl
theorem cks_22 : cks tyT 22 = [.sl 5] := rfl
theorem tk_26 : tk tyT 26 = some (.sc (.int .u64), 8) := rfl
theorem sz_26 : sz tyT 26 = 1 := rfl
theorem cks_26 : cks tyT 26 = [.int .u64] := rfl
theorem tk_27 : tk tyT 27 = some (.sc (.sl 2), 24) := rfl
theorem sz_27 : sz tyT 27 = 1 := rfl
theorem cks_27 : cks tyT 27 = [.sl 2] := rfl
theorem tk_28 : tk tyT 28 = some (.sc (.sl 27), 24) := rfl
theorem sz_28 : sz tyT 28 = 1 := rfl
theorem cks_28 : cks tyT 28 = [.sl 27] := rfl
theorem tk_30 : tk tyT 30 = some (.st [.sl 2, .sl 27] [(0, 27), (1, 28)], 48) := rfl
theorem sz_30 : sz tyT 30 = 2 := rfl
theorem cks_30 : cks tyT 30 = [.sl 2, .sl 27] := rfl
theorem tk_32 : tk tyT 32 = some (.st [.sl 2, .sl 27, .sl 27] [(0, 30), (2, 28)], 72) := rfl
theorem sz_32 : sz tyT 32 = 3 := rfl
theorem cks_32 : cks tyT 32 = [.sl 2, .sl 27, .sl 27] := rfl
theorem tk_43 : tk tyT 43 = some (.st [.sl 2, .sl 2] [(0, 27), (1, 27)], 48) := rfl
theorem sz_43 : sz tyT 43 = 2 := rfl
theorem cks_43 : cks tyT 43 = [.sl 2, .sl 2] := rfl
theorem tk_46 : tk tyT 46 = some (.sc (.sl 50), 24) := rfl
theorem sz_46 : sz tyT 46 = 1 := rfl
theorem cks_46 : cks tyT 46 = [.sl 50] := rfl
theorem tk_50 : tk tyT 50 = some (.st [.int .i64, .int .i64] [(0, 2), (1, 2)], 16) := rfl
theorem sz_50 : sz tyT 50 = 2 := rfl
theorem cks_50 : cks tyT 50 = [.int .i64, .int .i64] := rfl
theorem tk_58 : tk tyT 58 = some (.sc (.sl 66), 24) := rfl
theorem sz_58 : sz tyT 58 = 1 := rfl
theorem cks_58 : cks tyT 58 = [.sl 66] := rfl
theorem tk_66 : tk tyT 66 = some (.st [.sl 2, .sl 2] [(0, 27), (1, 27)], 48) := rfl
theorem sz_66 : sz tyT 66 = 2 := rfl
theorem cks_66 : cks tyT 66 = [.sl 2, .sl 2] := rfl
theorem tk_69 : tk tyT 69 = some (.st [.sl 2, .sl 27, .sl 2] [(0, 30), (2, 27)], 72) := rfl
theorem sz_69 : sz tyT 69 = 3 := rfl
theorem cks_69 : cks tyT 69 = [.sl 2, .sl 27, .sl 2] := rfl
theorem tk_74 : tk tyT 74 = some (.st [.sl 2, .sl 2] [(0, 27), (1, 27)], 48) := rfl
theorem sz_74 : sz tyT 74 = 2 := rfl
theorem cks_74 : cks tyT 74 = [.sl 2, .sl 2] := rfl
theorem tk_79 : tk tyT 79 = some (.st [.sl 5, .int .i64, .int .u64] [(0, 22), (1, 3), (2, 26)], 40) := rfl
theorem sz_79 : sz tyT 79 = 3 := rfl
theorem cks_79 : cks tyT 79 = [.sl 5, .int .i64, .int .u64] := rfl
theorem tk_100 : tk tyT 100 = some (.sc (.sl 4), 24) := rfl
theorem sz_100 : sz tyT 100 = 1 := rfl
theorem cks_100 : cks tyT 100 = [.sl 4] := rfl
theorem tk_101 : tk tyT 101 = some (.sc (.int .u64), 8) := rfl
theorem sz_101 : sz tyT 101 = 1 := rfl
theorem cks_101 : cks tyT 101 = [.int .u64] := rfl
theorem tk_118 : tk tyT 118 = some (.st [.sl 5, .int .i64, .int .i64] [(0, 22), (1, 3), (2, 2)], 40) := rfl
theorem sz_118 : sz tyT 118 = 3 := rfl
theorem cks_118 : cks tyT 118 = [.sl 5, .int .i64, .int .i64] := rfl
theorem tk_127 : tk tyT 127 = some (.st [.sl 2, .sl 2, .sl 27, .sl 27, .sl 2] [(0, 27), (1, 27), (2, 28), (3, 28), (4, 27)], 120) := rfl
theorem sz_127 : sz tyT 127 = 5 := rfl
theorem cks_127 : cks tyT 127 = [.sl 2, .sl 2, .sl 27, .sl 27, .sl 2] := rfl
attribute [push_cast] tk_2 sz_2 cks_2 tk_3 sz_3 cks_3 tk_4 sz_4 cks_4 tk_5 sz_5 cks_5 tk_21 sz_21 cks_21 tk_22 sz_22 cks_22 tk_26 sz_26 cks_26 tk_27 sz_27 cks_27 tk_28 sz_28 cks_28 tk_30 sz_30 cks_30 tk_32 sz_32 cks_32 tk_43 sz_43 cks_43 tk_46 sz_46 cks_46 tk_50 sz_50 cks_50 tk_58 sz_58 cks_58 tk_66 sz_66 cks_66 tk_69 sz_69 cks_69 tk_74 sz_74 cks_74 tk_79 sz_79 cks_79 tk_100 sz_100 cks_100 tk_101 sz_101 cks_101 tk_118 sz_118 cks_118 tk_127 sz_127 cks_127
end Go.Proofs.Ytdbecmmeifdafaa

namespace Go.Proofs.Ytdbecmmeifdafaa
open Go.RowKit
set_option linter.unusedVariables false
set_option linter.unusedSimpArgs false

def gi (xs : List Int) (k : Nat) : Int := xs.getD k 0
def gl (rows : List (List Int)) (k : Nat) : List Int := rows.getD k []
def gb (xs : List Bool) (k : Nat) : Bool := xs.getD k false
theorem gi_lt {xs : List Int} {k : Nat} (h : k < xs.length) : xs[k]? = some (gi xs k) := by
  unfold gi; rw [List.getD_eq_getElem?_getD, List.getElem?_eq_getElem h]; rfl
theorem gl_lt {xs : List (List Int)} {k : Nat} (h : k < xs.length) : xs[k]? = some (gl xs k) := by
  unfold gl; rw [List.getD_eq_getElem?_getD, List.getElem?_eq_getElem h]; rfl
theorem gb_lt {xs : List Bool} {k : Nat} (h : k < xs.length) : xs[k]? = some (gb xs k) := by
  unfold gb; rw [List.getD_eq_getElem?_getD, List.getElem?_eq_getElem h]; rfl
def dI (xs : List Int) : List D := xs.map (.int .i64)
def dB (xs : List Bool) : List D := xs.map .bool
def dII (xss : List (List Int)) : List D := xss.map fun r => .lst 2 (dI r)
@[reducible] def DI (xs : List Int) : D := .lst 2 (dI xs)
@[reducible] def DII (xss : List (List Int)) : D := .lst 27 (dII xss)

theorem len_dI (xs : List Int) : (dI xs).length = xs.length := by simp [dI]
theorem len_dB (xs : List Bool) : (dB xs).length = xs.length := by simp [dB]
theorem len_dII (xs : List (List Int)) : (dII xs).length = xs.length := by simp [dII]
theorem getI_dI (xs : List Int) (i : Nat) : getI (dI xs) i = gi xs i := by
  unfold getI dI gi
  rw [List.getElem?_map, List.getD_eq_getElem?_getD]
  cases xs[i]? <;> rfl
theorem getB_dB (xs : List Bool) (i : Nat) : getB (dB xs) i = gb xs i := by
  unfold getB dB gb
  rw [List.getElem?_map, List.getD_eq_getElem?_getD]
  cases xs[i]? <;> rfl
theorem getL_dII (xs : List (List Int)) (i : Nat) : getL (dII xs) i = dI (gl xs i) := by
  unfold getL dII gl
  rw [List.getElem?_map, List.getD_eq_getElem?_getD]
  cases xs[i]? <;> rfl
theorem getE_dII {xs : List (List Int)} {i : Nat} (h : i < xs.length) : getE (dII xs) i = 2 := by
  unfold getE dII
  rw [List.getElem?_map, List.getElem?_eq_getElem h]
  rfl
theorem HasC_dI (xs : List Int) (i : Nat) : HasC (.int .i64) (dI xs) i = (i < xs.length) := by
  unfold HasC dI
  rw [List.getElem?_map]
  apply propext
  constructor
  · rintro ⟨n, h⟩
    rcases Nat.lt_or_ge i xs.length with h' | h'
    · exact h'
    · rw [List.getElem?_eq_none h'] at h; cases h
  · intro h; rw [List.getElem?_eq_getElem h]; exact ⟨_, rfl⟩
theorem HasC_dB (xs : List Bool) (i : Nat) : HasC .bool (dB xs) i = (i < xs.length) := by
  unfold HasC dB
  rw [List.getElem?_map]
  apply propext
  constructor
  · rintro ⟨n, h⟩
    rcases Nat.lt_or_ge i xs.length with h' | h'
    · exact h'
    · rw [List.getElem?_eq_none h'] at h; cases h
  · intro h; rw [List.getElem?_eq_getElem h]; exact ⟨_, rfl⟩
theorem HasC_dII (xs : List (List Int)) (i : Nat) : HasC (.sl 2) (dII xs) i = (i < xs.length) := by
  unfold HasC dII
  rw [List.getElem?_map]
  apply propext
  constructor
  · rintro ⟨n, h⟩
    rcases Nat.lt_or_ge i xs.length with h' | h'
    · exact h'
    · rw [List.getElem?_eq_none h'] at h; cases h
  · intro h; rw [List.getElem?_eq_getElem h]; exact ⟨_, rfl⟩
theorem okPath_dII (xs : List (List Int)) (i : Nat) : okPath (dII xs) [i] = (i < xs.length) := by
  apply propext
  simp only [okPath, and_true]
  unfold dII
  rw [List.getElem?_map]
  constructor
  · rintro ⟨e, n, h⟩
    rcases Nat.lt_or_ge i xs.length with h' | h'
    · exact h'
    · rw [List.getElem?_eq_none h'] at h; cases h
  · intro h; rw [List.getElem?_eq_getElem h]; exact ⟨_, _, rfl⟩
theorem okPath_nil (xs : List D) : okPath xs [] = True := by simp [okPath]
theorem drop_dI (xs : List Int) (n : Nat) : (dI xs).drop n = dI (xs.drop n) := by simp [dI]
theorem take_dI (xs : List Int) (n : Nat) : (dI xs).take n = dI (xs.take n) := by simp [dI]
theorem drop_dII (xs : List (List Int)) (n : Nat) : (dII xs).drop n = dII (xs.drop n) := by simp [dII]
theorem take_dII (xs : List (List Int)) (n : Nat) : (dII xs).take n = dII (xs.take n) := by simp [dII]
theorem app_dI (xs ys : List Int) : dI xs ++ dI ys = dI (xs ++ ys) := by simp [dI]
theorem allSc_dI (xs : List Int) : (dI xs).all isSc = true := by simp [dI, isSc]
theorem allSc_dB (xs : List Bool) : (dB xs).all isSc = true := by simp [dB, isSc]
theorem set_dI (xs : List Int) (i : Nat) (n : Int) : (dI xs).set i (.int .i64 n) = dI (xs.set i n) := by simp [dI]
theorem set_dB (xs : List Bool) (i : Nat) (b : Bool) : (dB xs).set i (.bool b) = dB (xs.set i b) := by simp [dB]
theorem app1_dI (xs : List Int) (n : Int) : dI xs ++ [D.int .i64 n] = dI (xs ++ [n]) := by simp [dI]
theorem rep_dI (n : Nat) (x : Int) : List.replicate n (D.int .i64 x) = dI (List.replicate n x) := by simp [dI]
theorem rep_dB (n : Nat) (x : Bool) : List.replicate n (D.bool x) = dB (List.replicate n x) := by simp [dB]
theorem toNat_nat (n : Nat) : ((n : Int)).toNat = n := Int.toNat_natCast n
def covS (s : List (Nat × AV)) : List (Nat × AV) → Prop
  | [] => True
  | (k, v) :: l => (v = .dead ∨ lk s k = some v) ∧ covS s l
def covL {α : Type} (s : List (Nat × α)) : List (Nat × α) → Prop
  | [] => True
  | (k, v) :: l => lk s k = some v ∧ covL s l
theorem covS_lk {s : List (Nat × AV)} : ∀ {l : List (Nat × AV)}, covS s l → ∀ k v, lk l k = some v → v = .dead ∨ lk s k = some v
  | [], _, k, v, h => by simp [lk] at h
  | (j, u) :: l, hc, k, v, h => by
    simp only [lk_cons] at h
    split at h
    · rename_i e; subst e; cases h; exact hc.1
    · exact covS_lk hc.2 k v h
theorem covL_lk {α : Type} {s : List (Nat × α)} : ∀ {l : List (Nat × α)}, covL s l → ∀ k v, lk l k = some v → lk s k = some v
  | [], _, k, v, h => by simp [lk] at h
  | (j, u) :: l, hc, k, v, h => by
    simp only [lk_cons] at h
    split at h
    · rename_i e; subst e; cases h; exact hc.1
    · exact covL_lk hc.2 k v h
theorem cov_of {st st' : St} (h1 : st'.n = st.n) (h2 : covS st.s st'.s) (h3 : covL st.b st'.b) (h4 : covL st.r st'.r) : Cov st st' := ⟨h1, covS_lk h2, covL_lk h3, covL_lk h4⟩
theorem setAt_nil (xs : List D) (i : Nat) (x : D) : setAt xs [] i x = xs.set i x := rfl
theorem toNat_sub1 (k : Nat) : ((k : Int) - 1).toNat = k - 1 := by omega
theorem toNat_add1 (k : Nat) : ((k : Int) + 1).toNat = k + 1 := by omega
theorem getL_z (e : TypeId) (ys l : List D) : getL (.lst e ys :: l) 0 = ys := rfl
theorem getL_s (x : D) (l : List D) (i : Nat) : getL (x :: l) (i + 1) = getL l i := rfl
theorem getE_z (e : TypeId) (ys l : List D) : getE (.lst e ys :: l) 0 = e := rfl
theorem getE_s (x : D) (l : List D) (i : Nat) : getE (x :: l) (i + 1) = getE l i := rfl
theorem getI_z (k : IntKind) (n : Int) (l : List D) : getI (.int k n :: l) 0 = n := rfl
theorem getI_s (x : D) (l : List D) (i : Nat) : getI (x :: l) (i + 1) = getI l i := rfl
theorem okPath_z (e : TypeId) (ys l : List D) (q : List Nat) : okPath (.lst e ys :: l) (0 :: q) = okPath ys q := by
  apply propext
  simp only [okPath, List.getElem?_cons_zero]
  constructor
  · rintro ⟨e', ys', h, h2⟩; cases h; exact h2
  · exact fun h => ⟨e, ys, rfl, h⟩
theorem okPath_s (x : D) (l : List D) (i : Nat) (q : List Nat) : okPath (x :: l) ((i + 1) :: q) = okPath l (i :: q) := by
  simp only [okPath, List.getElem?_cons_succ]
theorem HasC_zl (e e' : TypeId) (ys l : List D) : HasC (.sl e) (.lst e' ys :: l) 0 = (e = e') := by
  apply propext
  simp only [HasC, List.getElem?_cons_zero]
  constructor
  · rintro ⟨ys', h⟩; cases h; rfl
  · rintro rfl; exact ⟨ys, rfl⟩
theorem HasC_zi (k k' : IntKind) (n : Int) (l : List D) : HasC (.int k) (.int k' n :: l) 0 = (k = k') := by
  apply propext
  simp only [HasC, List.getElem?_cons_zero]
  constructor
  · rintro ⟨ys', h⟩; cases h; rfl
  · rintro rfl; exact ⟨n, rfl⟩
theorem HasC_s (c : CK) (x : D) (l : List D) (i : Nat) : HasC c (x :: l) (i + 1) = HasC c l i := by
  cases c <;> simp only [HasC, List.getElem?_cons_succ]
attribute [push_cast] getL_z getL_s getE_z getE_s getI_z getI_s okPath_z okPath_s HasC_zl HasC_zi HasC_s
attribute [push_cast] fieldV loadS aggE nilE cellsB argStB RetB fpA fpB fpC actBOf actBE mergeB Decidable.not_not Int.zero_add Bool.true_or Bool.or_true Int.toNat_zero Int.toNat_one toNat_sub1 toNat_add1 false_implies true_implies decide_eq_true_eq decide_eq_false_iff_not Bool.not_eq_true' Bool.not_eq_false' beq_iff_eq beq_eq_false_iff_ne bne_iff_ne bne_eq_false_iff_eq Int.add_zero Option.some_beq_none XT.cells aggOf cellsN cellN shE arC IntKind.bits lendsOf lendOf cellAt outOf restNm restC apart newXs goneL lentR sepAll sep1 sep2 few nodupB lendR argStG RetOkG outsOk List.mem_cons List.not_mem_nil Option.isNone_some Option.isNone_none List.set_cons_zero List.singleton_append setAt_nil argStS pinR St.moveTo seqE setG St.settle St.app St.start St.cut exIds AV.cut AV.cutL storeN loadN noWay litN litS appN appY srcN orE flatF repC takeL takeC O3.own lexE lexF actE effD makeD litD storeD srcD appX appD newR Dl.skip Dl.wr fp AV.nm AV.nmL Op.operands Call.operands St.clean makes List.foldr_cons List.foldr_nil St.reset aops aop callOf dstN aCall guardV effM effV ev lk_cons lk_nil cv cv1 binE ar cmpE boolE unE loadE fieldE fieldO indexE onR sliceE boundE lenE builtinE maxE minE max3E buildE fillE fieldsOf lay zeroV okPath_nil okPath_dII node nodeE cellV cellsV HasCs HasC_dI HasC_dB HasC_dII getI_dI getB_dB getL_dII len_dI len_dB len_dII drop_dI take_dI drop_dII take_dII app_dI allSc_dI allSc_dB set_dI set_dB app1_dI rep_dI rep_dB toNat_nat hom homL boxSt nils fixNil addNils St.put St.addR St.delR St.moveR St.appG appG baseS baseX St.setR St.setB St.addB St.kill mapv rm AV.kill AV.killL is1 noB home storeE appE makeE makeS litE scE scD scDs CK.zeroD TK.cells O3.isSh O3.isEx cellsOf cellsOfL nilOf argOf argsOf resS resC flat VT.cells resV retA szL argSt argSlots slotAV argRoots cellRoots AThen ABlk retFlat retCells retCell noDup i64ok cell1 Option.map_some Option.map_none Option.getD_some Option.getD_none List.map_cons List.map_nil List.getElem?_cons_zero List.getElem?_cons_succ List.getElem?_nil List.getD_cons_zero List.getD_cons_succ List.headD_cons List.tail_cons List.cons_append List.nil_append List.append_nil List.length_cons List.length_nil List.drop_zero List.take_zero List.drop_succ_cons List.take_succ_cons List.filter_cons List.filter_nil List.contains_cons List.contains_nil List.all_cons List.all_nil List.take_length Int.natCast_add Int.natCast_one Int.natCast_zero Int.cast_ofNat_Int Nat.zero_add Nat.add_zero Nat.mul_one Nat.div_one Nat.sub_zero Nat.zero_le if_true if_false true_and and_true and_self true_or or_true false_or or_false not_true_eq_false not_false_eq_true implies_true forall_const Bool.true_and Bool.and_true Bool.false_and Bool.and_false Bool.or_false Bool.false_or Bool.not_true Bool.not_false Bool.false_eq_true beq_self_eq_true eq_self_iff_true Option.some.injEq id_eq List.toList_toArray decide_true decide_false ne_eq forall_eq
end Go.Proofs.Ytdbecmmeifdafaa

namespace Go.Proofs.Ytdbecmmeifdafaa
open Go.RowKit
set_option linter.unusedVariables false
set_option linter.unusedSimpArgs false

end Go.Proofs.Ytdbecmmeifdafaa

namespace Go.Proofs.Ytdbecmmeifdafaa
open Go.RowKit
set_option linter.unusedVariables false
set_option linter.unusedSimpArgs false

def pre (a : List Int) (k : Nat) : List Int := a.take k ++ List.replicate (a.length - k) 0
end Go.Proofs.Ytdbecmmeifdafaa

namespace Go.Proofs.Ytdbecmmeifdafaa
open Go.RowKit
set_option linter.unusedVariables false
set_option linter.unusedSimpArgs false

end Go.Proofs.Ytdbecmmeifdafaa

namespace Go.Proofs.Ytdbecmmeifdafaa
open Go.RowKit
set_option linter.unusedVariables false
set_option linter.unusedSimpArgs false

def iot (k : Int) : Nat → List Int
  | 0 => []
  | n + 1 => iot k n ++ [k + n]
theorem iot_len (k : Int) : ∀ n, (iot k n).length = n
  | 0 => rfl
  | n + 1 => by simp [iot, iot_len k n]
end Go.Proofs.Ytdbecmmeifdafaa

namespace Go.Proofs.Ytdbecmmeifdafaa
open Go.RowKit
set_option linter.unusedVariables false
set_option linter.unusedSimpArgs false

def sumL (rs : List (List Int)) : Nat := (rs.map List.length).sum
def mkR (k : Int) : List (List Int) → List (List Int)
  | [] => []
  | r :: rs => iot k r.length :: mkR (k + r.length) rs
theorem mkR_len (k : Int) (rs : List (List Int)) : (mkR k rs).length = rs.length := by
  induction rs generalizing k with
  | nil => rfl
  | cons r rs ih => simp [mkR, ih]
end Go.Proofs.Ytdbecmmeifdafaa

namespace Go.Proofs.Ytdbecmmeifdafaa
open Go.RowKit
set_option linter.unusedVariables false
set_option linter.unusedSimpArgs false

def less (l : Int) (n : Nat) : Int := if l - n < 0 then -1 else l - n
def LnI (B : Nat) (a : List Int) : Prop := a.length ≤ B
def LnII (B : Nat) (a : List (List Int)) : Prop := a.length ≤ B ∧ ∀ r ∈ a, r.length ≤ B
theorem LnI.mono {B C : Nat} (hB : B ≤ C) {a : List Int} (h : LnI B a) : LnI C a := Nat.le_trans h hB
theorem LnII.mono {B C : Nat} (hB : B ≤ C) {a : List (List Int)} (h : LnII B a) : LnII C a := ⟨Nat.le_trans h.1 hB, fun r hr => Nat.le_trans (h.2 r hr) hB⟩
end Go.Proofs.Ytdbecmmeifdafaa

namespace Go.Proofs.Ytdbecmmeifdafaa
open Go.RowKit
theorem take_iot (k : Int) (n : Nat) : (iot k n).take n = iot k n := List.take_of_length_le (by rw [iot_len]; exact Nat.le_refl _)
theorem take_mkR (k : Int) (xs : List (List Int)) : (mkR k xs).take xs.length = mkR k xs := List.take_of_length_le (by rw [mkR_len]; exact Nat.le_refl _)
theorem range_0 : List.range 0 = [] := rfl
theorem range_1 : List.range 1 = [0] := rfl
theorem range_2 : List.range 2 = [0, 1] := rfl
attribute [push_cast] List.map_nil range_0 range_1 range_2
attribute [push_cast] take_iot take_mkR
end Go.Proofs.Ytdbecmmeifdafaa

namespace Go.Proofs.Ytdbecmmeifdafaa
open Go Go.RowKit
set_option linter.unusedVariables false
def St.settleB (ks : List CK) (b : Nat) (st : St) : St :=
  match lk st.b b with
  | none => st
  | some cells =>
    match lk (homL [] ks st (home b 0) [] cells).1.b b with
    | none => st
    | some cells' => if cells'.length = (homL [] ks st (home b 0) [] cells).2.length then (homL [] ks st (home b 0) [] cells).1.setB b (homL [] ks st (home b 0) [] cells).2 else st
theorem lay_all {α : Type} {a b : List α} (h : b.length = a.length) : lay a 0 b = b := by
  unfold lay
  rw [Nat.zero_add, h, List.drop_length]
  simp
theorem awp_settleB {P : Program} {τ : Ty} (ks : List CK) (b : Nat) {c : Code} {Q : Exit → St → Prop} {st : St} (h : awp P τ c Q (st.settleB ks b)) : awp P τ c Q st := by
  unfold St.settleB at h
  split at h
  · exact h
  · rename_i cells hl
    split at h
    · exact h
    · rename_i cells' hl'
      split at h
      · rename_i hlen
        intro lo w0 a w hr
        obtain ⟨ow, hd, bk, hrr⟩ := hr
        obtain ⟨cs, ty, g1, g2, g3⟩ := hrr.box b cells hl
        obtain ⟨ow1, hd1, r1, r2⟩ := homL_sound [] ks st ow hd (home b 0) [] cells [] cs hrr (by simp [AvRL]) g3
        obtain ⟨cs0, ty0, k1, k2, k3⟩ := r1.box b cells' hl'
        rw [List.nil_append] at r2
        have e0 : cs0 = cs := by
          rw [g1] at k1
          simp only [Option.some.injEq, Obj.cells.injEq] at k1
          have := k1.1
          simpa using this.symm
        subst e0
        have hrel := RelC_setB r1 hl' k1 (i := 0) (by omega) k3 r2
        rw [lay_all rfl, lay_all hlen.symm, setRow_self w _ _ _ _ k1] at hrel
        exact h lo w0 a w ⟨ow1, hd1, bk, hrel⟩
      · exact h
attribute [push_cast] St.settleB
theorem app1_dII (xs : List (List Int)) (r : List Int) : dII xs ++ [D.lst 2 (dI r)] = dII (xs ++ [r]) := by simp [dII]
theorem app_dII (xs ys : List (List Int)) : dII xs ++ dII ys = dII (xs ++ ys) := by simp [dII]
theorem take_snocL {xs : List (List Int)} {k : Nat} (h : k < xs.length) : xs.take (k + 1) = xs.take k ++ [gl xs k] := by rw [List.take_add_one, gl_lt h]; rfl
attribute [push_cast] app1_dII app_dII
end Go.Proofs.Ytdbecmmeifdafaa

namespace Go.Proofs.Ytdbecmmeifdafaa
open Go.RowKit
set_option linter.unusedVariables false
set_option linter.unusedSimpArgs false

structure Ar where
  owner : List Int
  next : List (List Int)
  deriving DecidableEq
def dAr (x : Ar) : List D := [DI x.owner, DII x.next]
structure Ar.Ln (B : Nat) (x : Ar) : Prop where
  owner : LnI B x.owner
  next : LnII B x.next
def Ar.cnt (x : Ar) : Nat := x.owner.length + sumL x.next
end Go.Proofs.Ytdbecmmeifdafaa

namespace Go.Proofs.Ytdbecmmeifdafaa
open Go.RowKit
set_option linter.unusedVariables false
set_option linter.unusedSimpArgs false

structure Wt where
  a : Ar
  cost : List (List Int)
  deriving DecidableEq
def dWt (x : Wt) : List D := [DI x.a.owner, DII x.a.next, DII x.cost]
structure Wt.Ln (B : Nat) (x : Wt) : Prop where
  a : x.a.Ln B
  cost : LnII B x.cost
def Wt.cnt (x : Wt) : Nat := x.a.owner.length + sumL x.a.next + sumL x.cost
end Go.Proofs.Ytdbecmmeifdafaa

namespace Go.Proofs.Ytdbecmmeifdafaa
open Go.RowKit
set_option linter.unusedVariables false
set_option linter.unusedSimpArgs false

structure Ls where
  stem : List Int
  loop : List Int
  deriving DecidableEq
structure Ls.Ln (B : Nat) (x : Ls) : Prop where
  stem : LnI B x.stem
  loop : LnI B x.loop
def Ls.cnt (x : Ls) : Nat := x.stem.length + x.loop.length
end Go.Proofs.Ytdbecmmeifdafaa

namespace Go.Proofs.Ytdbecmmeifdafaa
open Go.RowKit
set_option linter.unusedVariables false
set_option linter.unusedSimpArgs false

structure Fm where
  names : List Int
  sets : List (List Int)
  deriving DecidableEq
structure Fm.Ln (B : Nat) (x : Fm) : Prop where
  names : LnI B x.names
  sets : LnII B x.sets
def Fm.cnt (x : Fm) : Nat := x.names.length + sumL x.sets
end Go.Proofs.Ytdbecmmeifdafaa

namespace Go.Proofs.Ytdbecmmeifdafaa
open Go.RowKit
set_option linter.unusedVariables false
set_option linter.unusedSimpArgs false

structure Pr where
  ask : List Int
  give : List Int
  deriving DecidableEq
structure Pr.Ln (B : Nat) (x : Pr) : Prop where
  ask : LnI B x.ask
  give : LnI B x.give
def Pr.cnt (x : Pr) : Nat := x.ask.length + x.give.length
end Go.Proofs.Ytdbecmmeifdafaa

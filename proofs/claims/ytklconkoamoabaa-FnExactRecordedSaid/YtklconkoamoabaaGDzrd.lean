/- Numbers, truth values and rows as data; what the evaluation makes of them. -/
import Derived.Test.YtklconkoamoabaaTyzrd
import Derived.Laws.CopyRow
namespace Go.Proofs.Ytklconkoamoabaa
open Nat renaming reduceMod → zA, reduceMul → zB, reduceDiv → zC, reduceAdd → zD, reduceSub → zE, reduceEqDiff → zF, reduceBEq → zG, reduceLT → zH, reduceLeDiff → zI
open Go.RowKit
set_option linter.unusedVariables false
set_option linter.unusedSimpArgs false

def gi (xs : List Int) (k : Nat) : Int := xs.getD k 0
def gl (rows : List (List Int)) (k : Nat) : List Int := rows.getD k []
def gb (xs : List Bool) (k : Nat) : Bool := xs.getD k false
theorem gi_lt {xs : List Int} {k : Nat} (h : k < xs.length) : xs[k]? = some (gi xs k) := by
  unfold gi; rw [List.getD_eq_getElem?_getD, List.getElem?_eq_getElem h]; rfl
theorem gl_lt {xs : List (List Int)} {k : Nat} (h : k < xs.length) : xs[k]? = some (gl xs k) := by
  unfold gl; rw [List.getD_eq_getElem?_getD, List.getElem?_eq_getElem h]; rfl
def dI (xs : List Int) : List D := xs.map (.int .i64)
def dB (xs : List Bool) : List D := xs.map .bool
def dII (xss : List (List Int)) : List D := xss.map fun r => .lst 2 (dI r)
@[reducible] def DI (xs : List Int) : D := .lst 2 (dI xs)
@[reducible] def DII (xss : List (List Int)) : D := .lst 22 (dII xss)

theorem len_dI (xs : List Int) : (dI xs).length = xs.length := by simp [dI]
theorem len_dB (xs : List Bool) : (dB xs).length = xs.length := by simp [dB]
theorem len_dII (xs : List (List Int)) : (dII xs).length = xs.length := by simp [dII]
theorem getI_dI (xs : List Int) (i : Nat) : getI (dI xs) i = gi xs i := by
  unfold getI dI gi
  rw [List.getElem?_map, List.getD_eq_getElem?_getD]
  cases xs[i]? <;> rfl
theorem getB_dB (xs : List Bool) (i : Nat) : getB (dB xs) i = gb xs i := by
  unfold getB dB gb
  rw [List.getElem?_map, List.getD_eq_getElem?_getD]
  cases xs[i]? <;> rfl
theorem getL_dII (xs : List (List Int)) (i : Nat) : getL (dII xs) i = dI (gl xs i) := by
  unfold getL dII gl
  rw [List.getElem?_map, List.getD_eq_getElem?_getD]
  cases xs[i]? <;> rfl
theorem getE_dII {xs : List (List Int)} {i : Nat} (h : i < xs.length) : getE (dII xs) i = 2 := by
  unfold getE dII
  rw [List.getElem?_map, List.getElem?_eq_getElem h]
  rfl
theorem HasC_dI (xs : List Int) (i : Nat) : HasC (.int .i64) (dI xs) i = (i < xs.length) := by
  unfold HasC dI
  rw [List.getElem?_map]
  apply propext
  constructor
  · rintro ⟨n, h⟩
    rcases Nat.lt_or_ge i xs.length with h' | h'
    · exact h'
    · rw [List.getElem?_eq_none h'] at h; cases h
  · intro h; rw [List.getElem?_eq_getElem h]; exact ⟨_, rfl⟩
theorem HasC_dB (xs : List Bool) (i : Nat) : HasC .bool (dB xs) i = (i < xs.length) := by
  unfold HasC dB
  rw [List.getElem?_map]
  apply propext
  constructor
  · rintro ⟨n, h⟩
    rcases Nat.lt_or_ge i xs.length with h' | h'
    · exact h'
    · rw [List.getElem?_eq_none h'] at h; cases h
  · intro h; rw [List.getElem?_eq_getElem h]; exact ⟨_, rfl⟩
theorem HasC_dII (xs : List (List Int)) (i : Nat) : HasC (.sl 2) (dII xs) i = (i < xs.length) := by
  unfold HasC dII
  rw [List.getElem?_map]
  apply propext
  constructor
  · rintro ⟨n, h⟩
    rcases Nat.lt_or_ge i xs.length with h' | h'
    · exact h'
    · rw [List.getElem?_eq_none h'] at h; cases h
  · intro h; rw [List.getElem?_eq_getElem h]; exact ⟨_, rfl⟩
theorem okPath_dII (xs : List (List Int)) (i : Nat) : okPath (dII xs) [i] = (i < xs.length) := by
  apply propext
  simp only [okPath, and_true]
  unfold dII
  rw [List.getElem?_map]
  constructor
  · rintro ⟨e, n, h⟩
    rcases Nat.lt_or_ge i xs.length with h' | h'
    · exact h'
    · rw [List.getElem?_eq_none h'] at h; cases h
  · intro h; rw [List.getElem?_eq_getElem h]; exact ⟨_, _, rfl⟩
theorem okPath_nil (xs : List D) : okPath xs [] = True := by simp [okPath]
theorem drop_dI (xs : List Int) (n : Nat) : (dI xs).drop n = dI (xs.drop n) := by simp [dI]
theorem take_dI (xs : List Int) (n : Nat) : (dI xs).take n = dI (xs.take n) := by simp [dI]
theorem drop_dII (xs : List (List Int)) (n : Nat) : (dII xs).drop n = dII (xs.drop n) := by simp [dII]
theorem take_dII (xs : List (List Int)) (n : Nat) : (dII xs).take n = dII (xs.take n) := by simp [dII]
theorem app_dI (xs ys : List Int) : dI xs ++ dI ys = dI (xs ++ ys) := by simp [dI]
theorem allSc_dI (xs : List Int) : (dI xs).all isSc = true := by simp [dI, isSc]
theorem allSc_dB (xs : List Bool) : (dB xs).all isSc = true := by simp [dB, isSc]
theorem set_dI (xs : List Int) (i : Nat) (n : Int) : (dI xs).set i (.int .i64 n) = dI (xs.set i n) := by simp [dI]
theorem set_dB (xs : List Bool) (i : Nat) (b : Bool) : (dB xs).set i (.bool b) = dB (xs.set i b) := by simp [dB]
theorem app1_dI (xs : List Int) (n : Int) : dI xs ++ [D.int .i64 n] = dI (xs ++ [n]) := by simp [dI]
theorem rep_dI (n : Nat) (x : Int) : List.replicate n (D.int .i64 x) = dI (List.replicate n x) := by simp [dI]
theorem rep_dB (n : Nat) (x : Bool) : List.replicate n (D.bool x) = dB (List.replicate n x) := by simp [dB]
theorem toNat_nat (n : Nat) : ((n : Int)).toNat = n := Int.toNat_natCast n
def covS (s : List (Nat × AV)) : List (Nat × AV) → Prop
  | [] => True
  | (k, v) :: l => (v = .dead ∨ lk s k = some v) ∧ covS s l
def covL {α : Type} (s : List (Nat × α)) : List (Nat × α) → Prop
  | [] => True
  | (k, v) :: l => lk s k = some v ∧ covL s l
theorem covS_lk {s : List (Nat × AV)} : ∀ {l : List (Nat × AV)}, covS s l → ∀ k v, lk l k = some v → v = .dead ∨ lk s k = some v
  | [], _, k, v, h => by simp [lk] at h
  | (j, u) :: l, hc, k, v, h => by
    simp only [lk_cons] at h
    split at h
    · rename_i e; subst e; cases h; exact hc.1
    · exact covS_lk hc.2 k v h
theorem covL_lk {α : Type} {s : List (Nat × α)} : ∀ {l : List (Nat × α)}, covL s l → ∀ k v, lk l k = some v → lk s k = some v
  | [], _, k, v, h => by simp [lk] at h
  | (j, u) :: l, hc, k, v, h => by
    simp only [lk_cons] at h
    split at h
    · rename_i e; subst e; cases h; exact hc.1
    · exact covL_lk hc.2 k v h
theorem cov_of {st st' : St} (h1 : st'.n = st.n) (h2 : covS st.s st'.s) (h3 : covL st.b st'.b) (h4 : covL st.r st'.r) : Cov st st' := ⟨h1, covS_lk h2, covL_lk h3, covL_lk h4⟩
theorem setAt_nil (xs : List D) (i : Nat) (x : D) : setAt xs [] i x = xs.set i x := rfl
theorem toNat_sub1 (k : Nat) : ((k : Int) - 1).toNat = k - 1 := by omega
theorem toNat_add1 (k : Nat) : ((k : Int) + 1).toNat = k + 1 := by omega
theorem getL_z (e : TypeId) (ys l : List D) : getL (.lst e ys :: l) 0 = ys := rfl
theorem getL_s (x : D) (l : List D) (i : Nat) : getL (x :: l) (i + 1) = getL l i := rfl
theorem getE_z (e : TypeId) (ys l : List D) : getE (.lst e ys :: l) 0 = e := rfl
theorem getE_s (x : D) (l : List D) (i : Nat) : getE (x :: l) (i + 1) = getE l i := rfl
theorem getI_z (k : IntKind) (n : Int) (l : List D) : getI (.int k n :: l) 0 = n := rfl
theorem getI_s (x : D) (l : List D) (i : Nat) : getI (x :: l) (i + 1) = getI l i := rfl
theorem okPath_z (e : TypeId) (ys l : List D) (q : List Nat) : okPath (.lst e ys :: l) (0 :: q) = okPath ys q := by
  apply propext
  simp only [okPath, List.getElem?_cons_zero]
  constructor
  · rintro ⟨e', ys', h, h2⟩; cases h; exact h2
  · exact fun h => ⟨e, ys, rfl, h⟩
theorem okPath_s (x : D) (l : List D) (i : Nat) (q : List Nat) : okPath (x :: l) ((i + 1) :: q) = okPath l (i :: q) := by
  simp only [okPath, List.getElem?_cons_succ]
theorem HasC_zl (e e' : TypeId) (ys l : List D) : HasC (.sl e) (.lst e' ys :: l) 0 = (e = e') := by
  apply propext
  simp only [HasC, List.getElem?_cons_zero]
  constructor
  · rintro ⟨ys', h⟩; cases h; rfl
  · rintro rfl; exact ⟨ys, rfl⟩
theorem HasC_zi (k k' : IntKind) (n : Int) (l : List D) : HasC (.int k) (.int k' n :: l) 0 = (k = k') := by
  apply propext
  simp only [HasC, List.getElem?_cons_zero]
  constructor
  · rintro ⟨ys', h⟩; cases h; rfl
  · rintro rfl; exact ⟨n, rfl⟩
theorem HasC_s (c : CK) (x : D) (l : List D) (i : Nat) : HasC c (x :: l) (i + 1) = HasC c l i := by
  cases c <;> simp only [HasC, List.getElem?_cons_succ]
attribute [push_cast] getL_z getL_s getE_z getE_s getI_z getI_s okPath_z okPath_s HasC_zl HasC_zi HasC_s
attribute [push_cast] fieldV loadS aggE nilE fpA opsOf fpB fpC capN calleeV actBOf actBE mergeB Decidable.not_not Int.zero_add Bool.true_or Bool.or_true Int.toNat_zero Int.toNat_one toNat_sub1 toNat_add1 false_implies true_implies decide_eq_true_eq decide_eq_false_iff_not Bool.not_eq_true' Bool.not_eq_false' beq_iff_eq beq_eq_false_iff_ne bne_iff_ne bne_eq_false_iff_eq Int.add_zero Option.some_beq_none argStX argSlotsX slotX epL XT.cells fewX boxOf boxOfL argX argsX aggOf cellsN cellN callX aCallX mkF aopsX shE arC IntKind.bits aopsG aCallG lendsOf lendOf cellAt outOf restNm restC apart newXs goneL lentR lentSt sepAll sep1 sep2 few nodupB lendR argStG RetOkG outsOk List.mem_cons List.not_mem_nil Option.isNone_some Option.isNone_none List.set_cons_zero List.singleton_append setAt_nil seqE setG St.settle St.app St.start St.cut exIds AV.cut AV.cutL storeN loadN noWay litN litS appN appY srcN orE flatF repC takeL takeC O3.own lexE lexF actE effD makeD litD storeD srcD appX appD newR Dl.skip Dl.wr fp AV.nm AV.nmL Op.operands Call.operands St.clean makes List.foldr_cons List.foldr_nil St.reset aops aop callOf dstN aCall guardV effM effV ev lk_cons lk_nil cv cv1 binE ar cmpE boolE unE loadE fieldE fieldO indexE onR sliceE boundE lenE builtinE maxE minE max3E buildE fillE fieldsOf lay zeroV okPath_nil okPath_dII node nodeE cellV cellsV HasCs HasC_dI HasC_dB HasC_dII getI_dI getB_dB getL_dII len_dI len_dB len_dII drop_dI take_dI drop_dII take_dII app_dI allSc_dI allSc_dB set_dI set_dB app1_dI rep_dI rep_dB toNat_nat hom homL boxSt nils fixNil addNils St.put St.addR St.delR St.moveR St.appG appG baseS baseX St.setR St.setB St.addB St.kill mapv rm AV.kill AV.killL is1 noB home storeE appE makeE makeS litE scE scD scDs CK.zeroD TK.cells O3.isSh O3.isEx cellsOf cellsOfL nilOf argOf argsOf resS resC flat VT.cells resV retA szL argSt argSlots slotAV argRoots cellRoots AThen ABlk retFlat retCells retCell noDup i64ok cell1 Option.map_some Option.map_none Option.getD_some Option.getD_none List.map_cons List.map_nil List.getElem?_cons_zero List.getElem?_cons_succ List.getElem?_nil List.getD_cons_zero List.getD_cons_succ List.headD_cons List.tail_cons List.cons_append List.nil_append List.append_nil List.length_cons List.length_nil List.drop_zero List.take_zero List.drop_succ_cons List.take_succ_cons List.filter_cons List.filter_nil List.contains_cons List.contains_nil List.all_cons List.all_nil List.take_length Int.natCast_add Int.natCast_one Int.natCast_zero Int.cast_ofNat_Int Nat.zero_add Nat.add_zero Nat.mul_one Nat.div_one Nat.sub_zero Nat.zero_le if_true if_false true_and and_true and_self true_or or_true false_or or_false not_true_eq_false not_false_eq_true implies_true forall_const Bool.true_and Bool.and_true Bool.false_and Bool.and_false Bool.or_false Bool.false_or Bool.not_true Bool.not_false Bool.false_eq_true beq_self_eq_true eq_self_iff_true Option.some.injEq id_eq List.toList_toArray decide_true decide_false ne_eq forall_eq
end Go.Proofs.Ytklconkoamoabaa

namespace Go.Proofs.Ytklconkoamoabaa
open Nat renaming reduceMod → zA, reduceMul → zB, reduceDiv → zC, reduceAdd → zD, reduceSub → zE, reduceEqDiff → zF, reduceBEq → zG, reduceLT → zH, reduceLeDiff → zI
open Go.RowKit
set_option linter.unusedVariables false
set_option linter.unusedSimpArgs false

def eqIs (a b : List Int) : Bool := a == b
theorem eqIs_len {a b : List Int} (h : ¬ a.length = b.length) : eqIs a b = false := by
  unfold eqIs
  rw [beq_eq_false_iff_ne]
  rintro rfl
  exact h rfl
set_option maxHeartbeats 1000000 in
theorem eqInt64S_fn (a b : List Int) (ha : a.length ≤ 1048576) : Fn Try.prog tyT 53 [.c (DI a), .c (DI b)] [.c (.bool (eqIs a b))] := by
  refine Fn_of (fn := Try.f53) (ts := [4]) Try.func53 (by kernel_rfl) rfl rfl (by rw [Try.ntmps53]; exact Nat.le_of_ble_eq_true rfl) rfl (by simp only [szA, List.mem_cons, List.not_mem_nil, or_false, forall_eq_or_imp, forall_eq, VT.cells, szL]; try decide) ?_
  rw [Try.ntmps53]
  simp only [push_cast, ↓brB_true, ↓brB_false, ↓reduceIte, zA, zB, zC, zD, zE, zF, zG, zH, zI, reduceCtorEq]
  refine awp_seq' fun K hK => ?_
  refine awp_region tyOk tyPos [] rfl ?_
  simp only [push_cast, ↓brB_true, ↓brB_false, ↓reduceIte, zA, zB, zC, zD, zE, zF, zG, zH, zI, reduceCtorEq]
  repeat' apply And.intro
  all_goals try exact gB
  all_goals first | (refine hK _ ?_; clear hK K) | (simp only [push_cast]; done)
  refine awp_seq' fun K1 hK1 => ?_
  refine awp_seq' fun K hK => ?_
  refine awp_region tyOk tyPos [] rfl ?_
  simp only [push_cast, ↓brB_true, ↓brB_false, ↓reduceIte, zA, zB, zC, zD, zE, zF, zG, zH, zI, reduceCtorEq]
  repeat' apply And.intro
  all_goals try exact gB
  all_goals first | (refine hK _ ?_; clear hK K) | (simp only [push_cast]; done)
  refine awp_cond rfl (fun hc => ?_) (fun hc => ?_) <;> (try simp only [push_cast] at hc)
  ·
    refine awp_seq' fun K hK => ?_
    refine awp_region tyOk tyPos [] rfl ?_
    simp only [push_cast, ↓brB_true, ↓brB_false, ↓reduceIte, zA, zB, zC, zD, zE, zF, zG, zH, zI, reduceCtorEq]
    repeat' apply And.intro
    all_goals try exact gB
    all_goals first | (refine hK _ ?_; clear hK K) | (simp only [push_cast]; done)
    refine awp_ret ?_
    (try simp only [AThen, ABlk])
    refine ⟨Or.inl rfl, ?_⟩
    simp only [RetOk, push_cast, ↓brB_true, ↓brB_false, ↓reduceIte, zA, zB, zC, zD, zE, zF, zG, zH, zI, reduceCtorEq]
    rw [eqIs_len (by omega)]
  · refine awp_skip ?_
    (try simp only [AThen, ABlk, reduceIte, zF]); refine hK1 _ ?_
    have hl : a.length = b.length := by omega
    refine awp_seq' fun K2 hK2 => ?_
    refine awp_seq' fun K hK => ?_
    refine awp_region tyOk tyPos [] rfl ?_
    simp only [push_cast, ↓brB_true, ↓brB_false, ↓reduceIte, zA, zB, zC, zD, zE, zF, zG, zH, zI, reduceCtorEq]
    repeat' apply And.intro
    all_goals try exact gB
    all_goals first | (refine hK _ ?_; clear hK K) | (simp only [push_cast]; done)
    refine awp_block ?_
    refine awp_loopU [5,4,11,12,13,14,15,16,17,18,19,20,21,22,23,24,25] [] (fun k : Nat => [(5, .int .i64 k)]) (fun _ => []) (fun _ => []) (fun k => k ≤ a.length ∧ ∀ j, j < k → gi a j = gi b j) (fun k => a.length - k) 0 ?_ ⟨by omega, fun j hj => by omega⟩ ?_
    · refine cov_of rfl ?_ ?_ ?_ <;> simp only [covS, covL, push_cast, ↓brB_true, ↓brB_false, ↓reduceIte, zA, zB, zC, zD, zE, zF, zG, zH, zI, reduceCtorEq]
    · rintro k ⟨hk, hall⟩ K0 hK0
      simp only [push_cast, ↓brB_true, ↓brB_false, ↓reduceIte, zA, zB, zC, zD, zE, zF, zG, zH, zI, reduceCtorEq]
      refine awp_seq' fun K3 hK3 => ?_
      refine awp_seq' fun K hK => ?_
      refine awp_region tyOk tyPos [] rfl ?_
      simp only [push_cast, ↓brB_true, ↓brB_false, ↓reduceIte, zA, zB, zC, zD, zE, zF, zG, zH, zI, reduceCtorEq]
      repeat' apply And.intro
      all_goals try exact gB
      all_goals first | (refine hK _ ?_; clear hK K) | (simp only [push_cast]; done)
      refine awp_cond rfl (fun hc => ?_) (fun hc => ?_) <;> (try simp only [push_cast] at hc)
      · refine awp_skip ?_
        (try simp only [AThen, ABlk, reduceIte, zF]); refine hK3 _ ?_
        refine awp_seq' fun K4 hK4 => ?_
        refine awp_block ?_
        refine awp_seq' fun K hK => ?_
        refine awp_regionD0 false tyOk tyPos tyMix ?_ rfl ?_
        · kernel_rfl
        intro C hC
        simp only [push_cast, ↓brB_true, ↓brB_false, ↓reduceIte, zA, zB, zC, zD, zE, zF, zG, zH, zI, reduceCtorEq]
        repeat' apply And.intro
        all_goals first | omega | with_reducible assumption | (refine hC _ ?_; kernel_rfl) | (simp only [List.length_set, List.length_append, List.length_replicate, List.length_cons, List.length_nil]; omega) | skip
        all_goals first | (refine hK _ ?_; clear hC C hK K) | (simp only [push_cast]; done)
        refine awp_cond rfl (fun hc => ?_) (fun hc => ?_) <;> (try simp only [push_cast] at hc)
        ·
          refine awp_seq' fun K hK => ?_
          refine awp_region tyOk tyPos [] rfl ?_
          simp only [push_cast, ↓brB_true, ↓brB_false, ↓reduceIte, zA, zB, zC, zD, zE, zF, zG, zH, zI, reduceCtorEq]
          repeat' apply And.intro
          all_goals try exact gB
          all_goals first | (refine hK _ ?_; clear hK K) | (simp only [push_cast]; done)
          refine awp_ret ?_
          (try simp only [AThen, ABlk])
          refine ⟨Or.inl rfl, ?_⟩
          simp only [RetOk, push_cast, ↓brB_true, ↓brB_false, ↓reduceIte, zA, zB, zC, zD, zE, zF, zG, zH, zI, reduceCtorEq]
          unfold eqIs
          rw [beq_eq_false_iff_ne.2]
          rintro rfl
          exact hc rfl
        · refine awp_skip ?_
          (try simp only [AThen, ABlk, reduceIte, zF]); refine hK4 _ ?_
          refine awp_region tyOk tyPos [] rfl ?_
          simp only [push_cast, ↓brB_true, ↓brB_false, ↓reduceIte, zA, zB, zC, zD, zE, zF, zG, zH, zI, reduceCtorEq]
          repeat' apply And.intro
          all_goals try exact gB
          refine hK0 _ ⟨k + 1, ⟨by omega, fun j hj => ?_⟩, by omega, ?_⟩
          · by_cases h : j = k
            · subst h; exact hc
            · exact hall j (by omega)
          · refine cov_of rfl ?_ ?_ ?_ <;> simp only [covS, covL, push_cast, ↓brB_true, ↓brB_false, ↓reduceIte, zA, zB, zC, zD, zE, zF, zG, zH, zI, reduceCtorEq]
      · refine awp_exit ?_
        (try simp only [AThen, ABlk, reduceIte, zF]); refine hK2 _ ?_
        refine awp_seq' fun K hK => ?_
        refine awp_region tyOk tyPos [] rfl ?_
        simp only [push_cast, ↓brB_true, ↓brB_false, ↓reduceIte, zA, zB, zC, zD, zE, zF, zG, zH, zI, reduceCtorEq]
        repeat' apply And.intro
        all_goals try exact gB
        all_goals first | (refine hK _ ?_; clear hK K) | (simp only [push_cast]; done)
        refine awp_ret ?_
        (try simp only [AThen, ABlk])
        refine ⟨Or.inl rfl, ?_⟩
        simp only [RetOk, push_cast, ↓brB_true, ↓brB_false, ↓reduceIte, zA, zB, zC, zD, zE, zF, zG, zH, zI, reduceCtorEq]
        have : a = b := by
          refine List.ext_getElem hl fun j h1 h2 => ?_
          have h3 := hall j (by omega)
          have h4 := gi_lt h1
          have h5 := gi_lt h2
          rw [List.getElem?_eq_getElem h1] at h4
          rw [List.getElem?_eq_getElem h2] at h5
          injection h4 with h4
          injection h5 with h5
          rw [h4, h5, h3]
        subst this
        simp [eqIs]
end Go.Proofs.Ytklconkoamoabaa

namespace Go.Proofs.Ytklconkoamoabaa
open Nat renaming reduceMod → zA, reduceMul → zB, reduceDiv → zC, reduceAdd → zD, reduceSub → zE, reduceEqDiff → zF, reduceBEq → zG, reduceLT → zH, reduceLeDiff → zI
open Go.RowKit
set_option linter.unusedVariables false
set_option linter.unusedSimpArgs false

def pre (a : List Int) (k : Nat) : List Int := a.take k ++ List.replicate (a.length - k) 0
theorem pre_len {a : List Int} {k : Nat} (h : k ≤ a.length) : (pre a k).length = a.length := by simp [pre]; omega
theorem pre_0 (a : List Int) : pre a 0 = List.replicate a.length 0 := by simp [pre]
theorem pre_all (a : List Int) : pre a a.length = a := by simp [pre]
theorem pre_set {a : List Int} {k : Nat} (h : k < a.length) : (pre a k).set k (gi a k) = pre a (k + 1) := by
  apply List.ext_getElem?
  intro j
  unfold pre
  rw [List.getElem?_set, List.getElem?_append, List.getElem?_append]
  have h1 := gi_lt h
  have e1 : min k a.length = k := by omega
  have e2 : min (k + 1) a.length = k + 1 := by omega
  simp only [List.length_append, List.length_take, List.length_replicate, List.getElem?_take, List.getElem?_replicate, e1, e2]
  by_cases hj : k = j
  · subst hj
    rw [if_pos rfl, if_pos (by omega), if_pos (by omega), if_pos (by omega), h1]
  · rw [if_neg hj]
    by_cases hjk : j < k
    · simp only [if_pos hjk, if_pos (show j < k + 1 by omega)]
    · simp only [if_neg hjk, if_neg (show ¬ j < k + 1 by omega)]
      by_cases h2 : j - k < a.length - k
      · rw [if_pos h2, if_pos (by omega)]
      · rw [if_neg h2, if_neg (by omega)]
set_option maxHeartbeats 1000000 in
theorem toInt64S_fn (a : List Int) (ha : a.length ≤ 1048576) : Fn Try.prog tyT 46 [.c (DI a)] [.c (DI a)] := by
  refine Fn_of (fn := Try.f46) (ts := [2]) Try.func46 (by kernel_rfl) rfl rfl (by rw [Try.ntmps46]; exact Nat.le_of_ble_eq_true rfl) rfl (by simp only [szA, List.mem_cons, List.not_mem_nil, or_false, forall_eq_or_imp, forall_eq, VT.cells, szL]; try decide) ?_
  rw [Try.ntmps46]
  simp only [push_cast, ↓brB_true, ↓brB_false, ↓reduceIte, zA, zB, zC, zD, zE, zF, zG, zH, zI, reduceCtorEq]
  refine awp_seq' fun K hK => ?_
  refine awp_region tyOk tyPos [] rfl ?_
  simp only [push_cast, ↓brB_true, ↓brB_false, ↓reduceIte, zA, zB, zC, zD, zE, zF, zG, zH, zI, reduceCtorEq]
  repeat' apply And.intro
  all_goals try exact gB
  all_goals first | (refine hK _ ?_; clear hK K) | (simp only [push_cast]; done)
  refine awp_seq' fun K hK => ?_
  refine awp_region tyOk tyPos [] rfl ?_
  simp only [push_cast, ↓brB_true, ↓brB_false, ↓reduceIte, zA, zB, zC, zD, zE, zF, zG, zH, zI, reduceCtorEq]
  repeat' apply And.intro
  all_goals try exact gB
  all_goals first | (refine hK _ ?_; clear hK K) | (simp only [push_cast]; done)
  refine awp_seq' fun K1 hK1 => ?_
  refine awp_seq' fun K hK => ?_
  refine awp_region tyOk tyPos [] rfl ?_
  simp only [push_cast, ↓brB_true, ↓brB_false, ↓reduceIte, zA, zB, zC, zD, zE, zF, zG, zH, zI, reduceCtorEq]
  repeat' apply And.intro
  all_goals try exact gB
  all_goals first | (refine hK _ ?_; clear hK K) | (simp only [push_cast]; done)
  refine awp_block ?_
  refine awp_loopU [4,8,9,10,11,12,13,14,15,16,17,18,19,20,3] [] (fun k : Nat => [(4, .int .i64 k), (3, .sl 48 [] 0 a.length 2)]) (fun _ => []) (fun k => [(48, ⟨.ex, 2, dI (pre a k), none⟩)]) (fun k => k ≤ a.length) (fun k => a.length - k) 0 ?_ (by omega) ?_
  · rw [pre_0]
    refine cov_of rfl ?_ ?_ ?_ <;> simp only [covS, covL, push_cast, ↓brB_true, ↓brB_false, ↓reduceIte, zA, zB, zC, zD, zE, zF, zG, zH, zI, reduceCtorEq]
  · rintro k hk K0 hK0
    have hpl := pre_len hk
    simp only [push_cast, ↓brB_true, ↓brB_false, ↓reduceIte, zA, zB, zC, zD, zE, zF, zG, zH, zI, reduceCtorEq]
    refine awp_seq' fun K2 hK2 => ?_
    refine awp_seq' fun K hK => ?_
    refine awp_region tyOk tyPos [] rfl ?_
    simp only [push_cast, ↓brB_true, ↓brB_false, ↓reduceIte, zA, zB, zC, zD, zE, zF, zG, zH, zI, reduceCtorEq]
    repeat' apply And.intro
    all_goals try exact gB
    all_goals first | (refine hK _ ?_; clear hK K) | (simp only [push_cast]; done)
    refine awp_cond rfl (fun hc => ?_) (fun hc => ?_) <;> (try simp only [push_cast] at hc)
    · refine awp_skip ?_
      (try simp only [AThen, ABlk, reduceIte, zF]); refine hK2 _ ?_
      refine awp_seq' fun K3 hK3 => ?_
      refine awp_block ?_
      refine awp_region tyOk tyPos [] rfl ?_
      simp only [push_cast, ↓brB_true, ↓brB_false, ↓reduceIte, zA, zB, zC, zD, zE, zF, zG, zH, zI, reduceCtorEq]
      repeat' apply And.intro
      all_goals try exact gB
      rw [pre_set (by omega)]
      (try simp only [AThen, ABlk, reduceIte, zF]); refine hK3 _ ?_
      refine awp_region tyOk tyPos [] rfl ?_
      simp only [push_cast, ↓brB_true, ↓brB_false, ↓reduceIte, zA, zB, zC, zD, zE, zF, zG, zH, zI, reduceCtorEq]
      repeat' apply And.intro
      all_goals try exact gB
      refine hK0 _ ⟨k + 1, by omega, by omega, ?_⟩
      refine cov_of rfl ?_ ?_ ?_ <;> simp only [covS, covL, push_cast, ↓brB_true, ↓brB_false, ↓reduceIte, zA, zB, zC, zD, zE, zF, zG, zH, zI, reduceCtorEq]
    · refine awp_exit ?_
      (try simp only [AThen, ABlk, reduceIte, zF]); refine hK1 _ ?_
      have hk' : k = a.length := by omega
      subst hk'
      rw [pre_all]
      refine awp_seq' fun K hK => ?_
      refine awp_region tyOk tyPos [] rfl ?_
      simp only [push_cast, ↓brB_true, ↓brB_false, ↓reduceIte, zA, zB, zC, zD, zE, zF, zG, zH, zI, reduceCtorEq]
      repeat' apply And.intro
      all_goals try exact gB
      all_goals first | (refine hK _ ?_; clear hK K) | (simp only [push_cast]; done)
      refine awp_ret ?_
      (try simp only [AThen, ABlk])
      refine ⟨Or.inl rfl, ?_⟩
      simp only [RetOk, push_cast, ↓brB_true, ↓brB_false, ↓reduceIte, zA, zB, zC, zD, zE, zF, zG, zH, zI, reduceCtorEq]
      trace_state
end Go.Proofs.Ytklconkoamoabaa

namespace Go.Proofs.Ytklconkoamoabaa
open Nat renaming reduceMod → zA, reduceMul → zB, reduceDiv → zC, reduceAdd → zD, reduceSub → zE, reduceEqDiff → zF, reduceBEq → zG, reduceLT → zH, reduceLeDiff → zI
open Go.RowKit
set_option linter.unusedVariables false
set_option linter.unusedSimpArgs false

def preR (a : List (List Int)) (k : Nat) : List (List Int) := a.take k ++ List.replicate (a.length - k) []
theorem preR_len {a : List (List Int)} {k : Nat} (h : k ≤ a.length) : (preR a k).length = a.length := by simp [preR]; omega
theorem preR_0 (a : List (List Int)) : dII (preR a 0) = List.replicate a.length (D.lst 2 []) := by simp [preR, dII, dI]
theorem preR_all (a : List (List Int)) : preR a a.length = a := by simp [preR]
theorem lay1_dII {r : List (List Int)} {k : Nat} {x : List Int} (h : k < r.length) : dII (List.take k r) ++ [D.lst 2 (dI x)] ++ dII (List.drop (k + 1) r) = dII (r.set k x) := by
  rw [List.set_eq_take_append_cons_drop, if_pos h]
  simp [dII]
theorem preR_set {a : List (List Int)} {k : Nat} (h : k < a.length) : (preR a k).set k (gl a k) = preR a (k + 1) := by
  have h1 := gl_lt h
  have hk : (a.take k).length = k := by rw [List.length_take]; omega
  have e : a.take (k + 1) = a.take k ++ [gl a k] := by
    rw [List.take_add_one, h1]; rfl
  unfold preR
  rw [List.set_append_right _ _ (by omega), hk, Nat.sub_self, show a.length - k = (a.length - (k + 1)) + 1 from by omega, List.replicate_succ, List.set_cons_zero, e, List.append_assoc]
  rfl
set_option maxHeartbeats 1000000 in
theorem toInt64SS_fn (a : List (List Int)) (ha : a.length ≤ 1048576) (hr : ∀ r ∈ a, r.length ≤ 1048576) : Fn Try.prog tyT 47 [.c (DII a)] [.c (DII a)] := by
  refine Fn_of (fn := Try.f47) (ts := [2]) Try.func47 (by kernel_rfl) rfl rfl (by rw [Try.ntmps47]; exact Nat.le_of_ble_eq_true rfl) rfl (by simp only [szA, List.mem_cons, List.not_mem_nil, or_false, forall_eq_or_imp, forall_eq, VT.cells, szL]; try decide) ?_
  rw [Try.ntmps47]
  simp only [push_cast, ↓brB_true, ↓brB_false, ↓reduceIte, zA, zB, zC, zD, zE, zF, zG, zH, zI, reduceCtorEq]
  refine awp_seq' fun K hK => ?_
  refine awp_region tyOk tyPos [] rfl ?_
  simp only [push_cast, ↓brB_true, ↓brB_false, ↓reduceIte, zA, zB, zC, zD, zE, zF, zG, zH, zI, reduceCtorEq]
  repeat' apply And.intro
  all_goals try exact gB
  all_goals first | (refine hK _ ?_; clear hK K) | (simp only [push_cast]; done)
  refine awp_seq' fun K hK => ?_
  refine awp_region tyOk tyPos [] rfl ?_
  simp only [push_cast, ↓brB_true, ↓brB_false, ↓reduceIte, zA, zB, zC, zD, zE, zF, zG, zH, zI, reduceCtorEq]
  repeat' apply And.intro
  all_goals try exact gB
  all_goals first | (refine hK _ ?_; clear hK K) | (simp only [push_cast]; done)
  refine awp_seq' fun K1 hK1 => ?_
  refine awp_seq' fun K hK => ?_
  refine awp_region tyOk tyPos [] rfl ?_
  simp only [push_cast, ↓brB_true, ↓brB_false, ↓reduceIte, zA, zB, zC, zD, zE, zF, zG, zH, zI, reduceCtorEq]
  repeat' apply And.intro
  all_goals try exact gB
  all_goals first | (refine hK _ ?_; clear hK K) | (simp only [push_cast]; done)
  refine awp_block ?_
  refine awp_loopU [4,8,9,10,11,12,13,14,15,16,17,18,19,20,21,3] [] (fun k : Nat => [(4, .int .i64 k), (3, .sl 48 [] 0 a.length 22)]) (fun _ => []) (fun k => [(48, ⟨.ex, 22, dII (preR a k), none⟩)]) (fun k => k ≤ a.length) (fun k => a.length - k) 0 ?_ (by omega) ?_
  · rw [preR_0]
    refine cov_of rfl ?_ ?_ ?_ <;> simp only [covS, covL, push_cast, ↓brB_true, ↓brB_false, ↓reduceIte, zA, zB, zC, zD, zE, zF, zG, zH, zI, reduceCtorEq]
  · rintro k hk K0 hK0
    have hpl := preR_len hk
    simp only [push_cast, ↓brB_true, ↓brB_false, ↓reduceIte, zA, zB, zC, zD, zE, zF, zG, zH, zI, reduceCtorEq]
    refine awp_seq' fun K2 hK2 => ?_
    refine awp_seq' fun K hK => ?_
    refine awp_region tyOk tyPos [] rfl ?_
    simp only [push_cast, ↓brB_true, ↓brB_false, ↓reduceIte, zA, zB, zC, zD, zE, zF, zG, zH, zI, reduceCtorEq]
    repeat' apply And.intro
    all_goals try exact gB
    all_goals first | (refine hK _ ?_; clear hK K) | (simp only [push_cast]; done)
    refine awp_cond rfl (fun hc => ?_) (fun hc => ?_) <;> (try simp only [push_cast] at hc)
    · refine awp_skip ?_
      (try simp only [AThen, ABlk, reduceIte, zF]); refine hK2 _ ?_
      refine awp_seq' fun K3 hK3 => ?_
      refine awp_block ?_
      refine awp_regionN true tyOk tyPos ?_ rfl ?_
      · kernel_rfl
      simp only [push_cast, ↓brB_true, ↓brB_false, ↓reduceIte, zA, zB, zC, zD, zE, zF, zG, zH, zI, reduceCtorEq]
      refine ⟨by omega, by omega, ⟨by omega, getE_dII (by omega)⟩, _, toInt64S_fn (gl a k) ?_, ?_⟩
      · exact hr _ (List.mem_of_getElem? (gl_lt (by omega)))
      simp only [push_cast, ↓brB_true, ↓brB_false, ↓reduceIte, zA, zB, zC, zD, zE, zF, zG, zH, zI, reduceCtorEq]
      repeat' apply And.intro
      all_goals try exact gB
      rw [lay1_dII (by omega), preR_set (by omega)]
      (try simp only [AThen, ABlk, reduceIte, zF]); refine hK3 _ ?_
      refine awp_region tyOk tyPos [] rfl ?_
      simp only [push_cast, ↓brB_true, ↓brB_false, ↓reduceIte, zA, zB, zC, zD, zE, zF, zG, zH, zI, reduceCtorEq]
      repeat' apply And.intro
      all_goals try exact gB
      refine hK0 _ ⟨k + 1, by omega, by omega, ?_⟩
      refine cov_of rfl ?_ ?_ ?_ <;> simp only [covS, covL, push_cast, ↓brB_true, ↓brB_false, ↓reduceIte, zA, zB, zC, zD, zE, zF, zG, zH, zI, reduceCtorEq]
    · refine awp_exit ?_
      (try simp only [AThen, ABlk, reduceIte, zF]); refine hK1 _ ?_
      have hk' : k = a.length := by omega
      subst hk'
      rw [preR_all]
      refine awp_seq' fun K hK => ?_
      refine awp_region tyOk tyPos [] rfl ?_
      simp only [push_cast, ↓brB_true, ↓brB_false, ↓reduceIte, zA, zB, zC, zD, zE, zF, zG, zH, zI, reduceCtorEq]
      repeat' apply And.intro
      all_goals try exact gB
      all_goals first | (refine hK _ ?_; clear hK K) | (simp only [push_cast]; done)
      refine awp_ret ?_
      (try simp only [AThen, ABlk])
      refine ⟨Or.inl rfl, ?_⟩
      simp only [RetOk, push_cast, ↓brB_true, ↓brB_false, ↓reduceIte, zA, zB, zC, zD, zE, zF, zG, zH, zI, reduceCtorEq]
end Go.Proofs.Ytklconkoamoabaa

namespace Go.Proofs.Ytklconkoamoabaa
open Nat renaming reduceMod → zA, reduceMul → zB, reduceDiv → zC, reduceAdd → zD, reduceSub → zE, reduceEqDiff → zF, reduceBEq → zG, reduceLT → zH, reduceLeDiff → zI
open Go.RowKit
set_option linter.unusedVariables false
set_option linter.unusedSimpArgs false

def iot (k : Int) : Nat → List Int
  | 0 => []
  | n + 1 => iot k n ++ [k + n]
theorem iot_len (k : Int) : ∀ n, (iot k n).length = n
  | 0 => rfl
  | n + 1 => by simp [iot, iot_len k n]
def mk1 (k : Int) (xs : List Int) (j : Nat) : List Int := iot k j ++ xs.drop j
theorem mk1_len {k : Int} {xs : List Int} {j : Nat} (h : j ≤ xs.length) : (mk1 k xs j).length = xs.length := by simp [mk1, iot_len]; omega
theorem mk1_set {k : Int} {xs : List Int} {j : Nat} (h : j < xs.length) : (mk1 k xs j).set j (k + j) = mk1 k xs (j + 1) := by
  unfold mk1
  rw [List.set_append_right _ _ (by rw [iot_len]; omega), iot_len, Nat.sub_self, List.drop_eq_getElem_cons h, List.set_cons_zero]
  simp [iot]
theorem mk1_0 (k : Int) (xs : List Int) : mk1 k xs 0 = xs := by simp [mk1, iot]
theorem iot_at {k : Int} {n j : Nat} (h : j < n) : gi (iot k n) j = k + j := by
  induction n with
  | zero => omega
  | succ n ih =>
    unfold gi at ih ⊢
    rw [List.getD_eq_getElem?_getD] at ih ⊢
    simp only [iot]
    by_cases hj : j < n
    · rw [List.getElem?_append_left (by rw [iot_len]; exact hj)]; exact ih hj
    · have : j = n := by omega
      subst this
      rw [List.getElem?_append_right (by rw [iot_len]; exact Nat.le_refl _), iot_len, Nat.sub_self]
      rfl
theorem mk1_all (k : Int) (xs : List Int) : mk1 k xs xs.length = iot k xs.length := by simp [mk1]
set_option maxHeartbeats 1000000 in
theorem markInt64S_fn (xs : List Int) (k : Int) (h0 : 0 ≤ k) (h1 : k + xs.length ≤ 4611686018427387904) : FnG Try.prog tyT 55 [.c (DI xs), .c (.int .i64 k)] [0] [(0, 2, dI (iot k xs.length))] [.c (.int .i64 (k + xs.length))] := by
  refine FnG_of (fn := Try.f55) (rs := [.tmp 4]) (own := [0]) (outs := [(0, 2, dI (iot k xs.length))]) tyOk tyPos Try.func55 (by kernel_rfl) rfl rfl (by rw [Try.ntmps55]; exact Nat.le_of_ble_eq_true rfl) rfl (by simp only [szA, List.mem_cons, List.not_mem_nil, or_false, forall_eq_or_imp, forall_eq, VT.cells, szL]; try decide) ?_
  rw [Try.ntmps55]
  simp only [push_cast, ↓brB_true, ↓brB_false, ↓reduceIte, zA, zB, zC, zD, zE, zF, zG, zH, zI, reduceCtorEq]
  refine awp_seq' fun K hK => ?_
  refine awp_region tyOk tyPos [] rfl ?_
  simp only [push_cast, ↓brB_true, ↓brB_false, ↓reduceIte, zA, zB, zC, zD, zE, zF, zG, zH, zI, reduceCtorEq]
  repeat' apply And.intro
  all_goals try exact gB
  all_goals first | (refine hK _ ?_; clear hK K) | (simp only [push_cast]; done)
  refine awp_seq' fun K1 hK1 => ?_
  refine awp_seq' fun K hK => ?_
  refine awp_region tyOk tyPos [] rfl ?_
  simp only [push_cast, ↓brB_true, ↓brB_false, ↓reduceIte, zA, zB, zC, zD, zE, zF, zG, zH, zI, reduceCtorEq]
  repeat' apply And.intro
  all_goals try exact gB
  all_goals first | (refine hK _ ?_; clear hK K) | (simp only [push_cast]; done)
  refine awp_block ?_
  refine awp_loopU [1,5,6,7,8,9,10,11,12,13,14,15,16,17] [0] (fun j : Nat => [(5, .int .i64 j), (1, .int .i64 (k + j))]) (fun _ => []) (fun j => [(0, ⟨.ex, 2, dI (mk1 k xs j), some 0⟩)]) (fun j => j ≤ xs.length) (fun j => xs.length - j) 0 ?_ (by omega) ?_
  · rw [mk1_0]
    refine cov_of rfl ?_ ?_ ?_ <;> simp only [covS, covL, push_cast, ↓brB_true, ↓brB_false, ↓reduceIte, zA, zB, zC, zD, zE, zF, zG, zH, zI, reduceCtorEq]
  · rintro j hj K0 hK0
    have hl := mk1_len (k := k) hj
    simp only [push_cast, ↓brB_true, ↓brB_false, ↓reduceIte, zA, zB, zC, zD, zE, zF, zG, zH, zI, reduceCtorEq]
    refine awp_seq' fun K2 hK2 => ?_
    refine awp_seq' fun K hK => ?_
    refine awp_region tyOk tyPos [] rfl ?_
    simp only [push_cast, ↓brB_true, ↓brB_false, ↓reduceIte, zA, zB, zC, zD, zE, zF, zG, zH, zI, reduceCtorEq]
    repeat' apply And.intro
    all_goals try exact gB
    all_goals first | (refine hK _ ?_; clear hK K) | (simp only [push_cast]; done)
    refine awp_cond rfl (fun hc => ?_) (fun hc => ?_) <;> (try simp only [push_cast] at hc)
    · refine awp_skip ?_
      (try simp only [AThen, ABlk, reduceIte, zF]); refine hK2 _ ?_
      refine awp_seq' fun K3 hK3 => ?_
      refine awp_block ?_
      refine awp_seq' fun K hK => ?_
      refine awp_region tyOk tyPos [] rfl ?_
      simp only [push_cast, ↓brB_true, ↓brB_false, ↓reduceIte, zA, zB, zC, zD, zE, zF, zG, zH, zI, reduceCtorEq]
      repeat' apply And.intro
      all_goals try exact gB
      all_goals first | (refine hK _ ?_; clear hK K) | (simp only [push_cast]; done)
      rw [mk1_set (by omega)]
      refine awp_region tyOk tyPos [] rfl ?_
      simp only [push_cast, ↓brB_true, ↓brB_false, ↓reduceIte, zA, zB, zC, zD, zE, zF, zG, zH, zI, reduceCtorEq]
      repeat' apply And.intro
      all_goals try exact gB
      (try simp only [AThen, ABlk, reduceIte, zF]); refine hK3 _ ?_
      refine awp_region tyOk tyPos [] rfl ?_
      simp only [push_cast, ↓brB_true, ↓brB_false, ↓reduceIte, zA, zB, zC, zD, zE, zF, zG, zH, zI, reduceCtorEq]
      repeat' apply And.intro
      all_goals try exact gB
      refine hK0 _ ⟨j + 1, by omega, by omega, ?_⟩
      rw [show k + ((j + 1 : Nat) : Int) = k + j + 1 from by omega]
      refine cov_of rfl ?_ ?_ ?_ <;> simp only [covS, covL, push_cast, ↓brB_true, ↓brB_false, ↓reduceIte, zA, zB, zC, zD, zE, zF, zG, zH, zI, reduceCtorEq]
    · refine awp_exit ?_
      (try simp only [AThen, ABlk, reduceIte, zF]); refine hK1 _ ?_
      have hk' : j = xs.length := by omega
      subst hk'
      rw [mk1_all]
      refine awp_seq' fun K hK => ?_
      refine awp_region tyOk tyPos [] rfl ?_
      simp only [push_cast, ↓brB_true, ↓brB_false, ↓reduceIte, zA, zB, zC, zD, zE, zF, zG, zH, zI, reduceCtorEq]
      repeat' apply And.intro
      all_goals try exact gB
      all_goals first | (refine hK _ ?_; clear hK K) | (simp only [push_cast]; done)
      refine awp_ret ?_
      (try simp only [AThen, ABlk])
      refine ⟨Or.inl rfl, ?_⟩
      simp only [RetOkG, outsOk, resVars, resVar, push_cast, ↓brB_true, ↓brB_false, ↓reduceIte, zA, zB, zC, zD, zE, zF, zG, zH, zI, reduceCtorEq]
theorem heldInt64S_fn (n : Nat) (k : Int) (h0 : 0 ≤ k) (h1 : k + n ≤ 4611686018427387904) : Fn Try.prog tyT 57 [.c (DI (iot k n)), .c (.int .i64 k)] [.c (.int .i64 (k + n))] := by
  have hn := iot_len k n
  refine Fn_of (fn := Try.f57) (ts := [4]) Try.func57 (by kernel_rfl) rfl rfl (by rw [Try.ntmps57]; exact Nat.le_of_ble_eq_true rfl) rfl (by simp only [szA, List.mem_cons, List.not_mem_nil, or_false, forall_eq_or_imp, forall_eq, VT.cells, szL]; try decide) ?_
  rw [Try.ntmps57]
  simp only [push_cast, ↓brB_true, ↓brB_false, ↓reduceIte, zA, zB, zC, zD, zE, zF, zG, zH, zI, reduceCtorEq]
  refine awp_seq' fun K hK => ?_
  refine awp_region tyOk tyPos [] rfl ?_
  simp only [push_cast, ↓brB_true, ↓brB_false, ↓reduceIte, zA, zB, zC, zD, zE, zF, zG, zH, zI, reduceCtorEq]
  repeat' apply And.intro
  all_goals try exact gB
  all_goals first | (refine hK _ ?_; clear hK K) | (simp only [push_cast]; done)
  refine awp_seq' fun K1 hK1 => ?_
  refine awp_seq' fun K hK => ?_
  refine awp_region tyOk tyPos [] rfl ?_
  simp only [push_cast, ↓brB_true, ↓brB_false, ↓reduceIte, zA, zB, zC, zD, zE, zF, zG, zH, zI, reduceCtorEq]
  repeat' apply And.intro
  all_goals try exact gB
  all_goals first | (refine hK _ ?_; clear hK K) | (simp only [push_cast]; done)
  refine awp_block ?_
  refine awp_loopU [1,5,6,7,8,9,10,11,12,13,14,15,16,17,18,19] [] (fun j : Nat => [(5, .int .i64 j), (1, .int .i64 (k + j))]) (fun _ => []) (fun _ => []) (fun j => j ≤ n) (fun j => n - j) 0 ?_ (by omega) ?_
  · refine cov_of rfl ?_ ?_ ?_ <;> simp only [covS, covL, push_cast, ↓brB_true, ↓brB_false, ↓reduceIte, zA, zB, zC, zD, zE, zF, zG, zH, zI, reduceCtorEq]
  · rintro j hj K0 hK0
    simp only [push_cast, ↓brB_true, ↓brB_false, ↓reduceIte, zA, zB, zC, zD, zE, zF, zG, zH, zI, reduceCtorEq]
    refine awp_seq' fun K2 hK2 => ?_
    refine awp_seq' fun K hK => ?_
    refine awp_region tyOk tyPos [] rfl ?_
    simp only [push_cast, ↓brB_true, ↓brB_false, ↓reduceIte, zA, zB, zC, zD, zE, zF, zG, zH, zI, reduceCtorEq]
    repeat' apply And.intro
    all_goals try exact gB
    all_goals first | (refine hK _ ?_; clear hK K) | (simp only [push_cast]; done)
    refine awp_cond rfl (fun hc => ?_) (fun hc => ?_) <;> (try simp only [push_cast] at hc)
    · refine awp_skip ?_
      (try simp only [AThen, ABlk, reduceIte, zF]); refine hK2 _ ?_
      refine awp_seq' fun K3 hK3 => ?_
      refine awp_block ?_
      refine awp_seq' fun K4 hK4 => ?_
      refine awp_seq' fun K hK => ?_
      refine awp_region tyOk tyPos [] rfl ?_
      simp only [push_cast, ↓brB_true, ↓brB_false, ↓reduceIte, zA, zB, zC, zD, zE, zF, zG, zH, zI, reduceCtorEq]
      repeat' apply And.intro
      all_goals try exact gB
      all_goals first | (refine hK _ ?_; clear hK K) | (simp only [push_cast]; done)
      have hg : gi (iot k n) j = k + j := iot_at (by omega)
      refine awp_cond rfl (fun hc => ?_) (fun hc => ?_) <;> (try simp only [push_cast] at hc)
      · exact absurd hg hc
      · refine awp_skip ?_
        (try simp only [AThen, ABlk, reduceIte, zF]); refine hK4 _ ?_
        refine awp_region tyOk tyPos [] rfl ?_
        simp only [push_cast, ↓brB_true, ↓brB_false, ↓reduceIte, zA, zB, zC, zD, zE, zF, zG, zH, zI, reduceCtorEq]
        repeat' apply And.intro
        all_goals try exact gB
        (try simp only [AThen, ABlk, reduceIte, zF]); refine hK3 _ ?_
        refine awp_region tyOk tyPos [] rfl ?_
        simp only [push_cast, ↓brB_true, ↓brB_false, ↓reduceIte, zA, zB, zC, zD, zE, zF, zG, zH, zI, reduceCtorEq]
        repeat' apply And.intro
        all_goals try exact gB
        refine hK0 _ ⟨j + 1, by omega, by omega, ?_⟩
        rw [show k + ((j + 1 : Nat) : Int) = k + j + 1 from by omega]
        refine cov_of rfl ?_ ?_ ?_ <;> simp only [covS, covL, push_cast, ↓brB_true, ↓brB_false, ↓reduceIte, zA, zB, zC, zD, zE, zF, zG, zH, zI, reduceCtorEq]
    · refine awp_exit ?_
      (try simp only [AThen, ABlk, reduceIte, zF]); refine hK1 _ ?_
      have hk' : j = n := by omega
      subst hk'
      refine awp_seq' fun K hK => ?_
      refine awp_region tyOk tyPos [] rfl ?_
      simp only [push_cast, ↓brB_true, ↓brB_false, ↓reduceIte, zA, zB, zC, zD, zE, zF, zG, zH, zI, reduceCtorEq]
      repeat' apply And.intro
      all_goals try exact gB
      all_goals first | (refine hK _ ?_; clear hK K) | (simp only [push_cast]; done)
      refine awp_ret ?_
      (try simp only [AThen, ABlk])
      refine ⟨Or.inl rfl, ?_⟩
      simp only [RetOk, push_cast, ↓brB_true, ↓brB_false, ↓reduceIte, zA, zB, zC, zD, zE, zF, zG, zH, zI, reduceCtorEq]
end Go.Proofs.Ytklconkoamoabaa

namespace Go.Proofs.Ytklconkoamoabaa
open Nat renaming reduceMod → zA, reduceMul → zB, reduceDiv → zC, reduceAdd → zD, reduceSub → zE, reduceEqDiff → zF, reduceBEq → zG, reduceLT → zH, reduceLeDiff → zI
open Go.RowKit
set_option linter.unusedVariables false
set_option linter.unusedSimpArgs false

def sumL (rs : List (List Int)) : Nat := (rs.map List.length).sum
def mkR (k : Int) : List (List Int) → List (List Int)
  | [] => []
  | r :: rs => iot k r.length :: mkR (k + r.length) rs
theorem mkR_len (k : Int) (rs : List (List Int)) : (mkR k rs).length = rs.length := by
  induction rs generalizing k with
  | nil => rfl
  | cons r rs ih => simp [mkR, ih]
theorem sumL_cons (r : List Int) (rs : List (List Int)) : sumL (r :: rs) = r.length + sumL rs := by simp [sumL]
theorem sumL_nil : sumL [] = 0 := rfl
def mk2 (k : Int) (rs : List (List Int)) (j : Nat) : List (List Int) := mkR k (rs.take j) ++ rs.drop j
theorem mk2_0 (k : Int) (rs : List (List Int)) : mk2 k rs 0 = rs := by simp [mk2, mkR]
theorem mk2_all (k : Int) (rs : List (List Int)) : mk2 k rs rs.length = mkR k rs := by simp [mk2]
theorem mk2_len {k : Int} {rs : List (List Int)} {j : Nat} (h : j ≤ rs.length) : (mk2 k rs j).length = rs.length := by simp [mk2, mkR_len]; omega
theorem mkR_snoc (k : Int) (rs : List (List Int)) (r : List Int) : mkR k (rs ++ [r]) = mkR k rs ++ [iot (k + sumL rs) r.length] := by
  induction rs generalizing k with
  | nil => simp [mkR, sumL]
  | cons x rs ih => simp [mkR, ih, sumL_cons, Int.add_assoc]
theorem take_snoc {rs : List (List Int)} {j : Nat} (h : j < rs.length) : rs.take (j + 1) = rs.take j ++ [gl rs j] := by
  rw [List.take_add_one, gl_lt h]; rfl
theorem sumL_append (a b : List (List Int)) : sumL (a ++ b) = sumL a + sumL b := by simp [sumL]
theorem sumL_take {rs : List (List Int)} {j : Nat} (h : j < rs.length) : sumL (rs.take (j + 1)) = sumL (rs.take j) + (gl rs j).length := by
  rw [take_snoc h, sumL_append]; simp [sumL]
theorem sumL_take_le (rs : List (List Int)) (j : Nat) : sumL (rs.take j) ≤ sumL rs := by
  have := sumL_append (rs.take j) (rs.drop j)
  rw [List.take_append_drop] at this
  omega
theorem mk2_gl {k : Int} {rs : List (List Int)} {j : Nat} (h : j < rs.length) : gl (mk2 k rs j) j = gl rs j := by
  unfold gl mk2
  rw [List.getD_eq_getElem?_getD, List.getElem?_append_right (by rw [mkR_len, List.length_take]; omega), mkR_len, List.length_take, Nat.min_eq_left (by omega), Nat.sub_self, List.getElem?_drop, List.getD_eq_getElem?_getD]
  rfl
theorem mk2_set {k : Int} {rs : List (List Int)} {j : Nat} (h : j < rs.length) : (mk2 k rs j).set j (iot (k + sumL (rs.take j)) (gl rs j).length) = mk2 k rs (j + 1) := by
  unfold mk2
  have hl : (mkR k (rs.take j)).length = j := by rw [mkR_len, List.length_take]; omega
  rw [List.set_append_right _ _ (by omega), hl, Nat.sub_self, List.drop_eq_getElem_cons h, List.set_cons_zero, take_snoc h, mkR_snoc]
  simp
theorem mkR_gl {k : Int} {rs : List (List Int)} {j : Nat} (h : j < rs.length) : gl (mkR k rs) j = iot (k + sumL (rs.take j)) (gl rs j).length := by
  induction rs generalizing k j with
  | nil => simp at h
  | cons r rs ih =>
    cases j with
    | zero => simp [mkR, gl, sumL]
    | succ j =>
      have := ih (k := k + r.length) (j := j) (by simpa using h)
      simp only [mkR, List.take_succ_cons, sumL_cons]
      simp only [gl, List.getD_cons_succ] at this ⊢
      rw [this]
      congr 1
      omega
theorem set_dII2 (xs : List (List Int)) (i : Nat) (r : List Int) : (dII xs).set i (.lst 2 (dI r)) = dII (xs.set i r) := by simp [dII, List.map_set]
set_option maxHeartbeats 1000000 in
theorem markInt64SS_fn (xs : List (List Int)) (k : Int) (h0 : 0 ≤ k) (h1 : k + sumL xs ≤ 4611686018427387904) (h2 : xs.length ≤ 4611686018427387904) : FnG Try.prog tyT 56 [.c (DII xs), .c (.int .i64 k)] [0] [(0, 22, dII (mkR k xs))] [.c (.int .i64 (k + sumL xs))] := by
  refine FnG_of (fn := Try.f56) (rs := [.tmp 4]) (own := [0]) (outs := [(0, 22, dII (mkR k xs))]) tyOk tyPos Try.func56 (by kernel_rfl) rfl rfl (by rw [Try.ntmps56]; exact Nat.le_of_ble_eq_true rfl) rfl (by simp only [szA, List.mem_cons, List.not_mem_nil, or_false, forall_eq_or_imp, forall_eq, VT.cells, szL]; try decide) ?_
  rw [Try.ntmps56]
  simp only [push_cast, ↓brB_true, ↓brB_false, ↓reduceIte, zA, zB, zC, zD, zE, zF, zG, zH, zI, reduceCtorEq]
  refine awp_seq' fun K hK => ?_
  refine awp_region tyOk tyPos [] rfl ?_
  simp only [push_cast, ↓brB_true, ↓brB_false, ↓reduceIte, zA, zB, zC, zD, zE, zF, zG, zH, zI, reduceCtorEq]
  repeat' apply And.intro
  all_goals try exact gB
  all_goals first | (refine hK _ ?_; clear hK K) | (simp only [push_cast]; done)
  refine awp_seq' fun K1 hK1 => ?_
  refine awp_seq' fun K hK => ?_
  refine awp_region tyOk tyPos [] rfl ?_
  simp only [push_cast, ↓brB_true, ↓brB_false, ↓reduceIte, zA, zB, zC, zD, zE, zF, zG, zH, zI, reduceCtorEq]
  repeat' apply And.intro
  all_goals try exact gB
  all_goals first | (refine hK _ ?_; clear hK K) | (simp only [push_cast]; done)
  refine awp_block ?_
  refine awp_loopU [1,5,6,7,8,9,10,11,12,13,14,15,16,17] [0] (fun j : Nat => [(5, .int .i64 j), (1, .int .i64 (k + sumL (xs.take j)))]) (fun _ => []) (fun j => [(0, ⟨.ex, 22, dII (mk2 k xs j), some 0⟩)]) (fun j => j ≤ xs.length) (fun j => xs.length - j) 0 ?_ (by omega) ?_
  · rw [mk2_0]
    simp only [List.take_zero, sumL_nil]
    refine cov_of rfl ?_ ?_ ?_ <;> simp only [covS, covL, push_cast, ↓brB_true, ↓brB_false, ↓reduceIte, zA, zB, zC, zD, zE, zF, zG, zH, zI, reduceCtorEq]
  · rintro j hj K0 hK0
    have hl := mk2_len (k := k) hj
    have hs := sumL_take_le xs j
    have hs1 := sumL_take_le xs (j + 1)
    simp only [push_cast, ↓brB_true, ↓brB_false, ↓reduceIte, zA, zB, zC, zD, zE, zF, zG, zH, zI, reduceCtorEq]
    refine awp_seq' fun K2 hK2 => ?_
    refine awp_seq' fun K hK => ?_
    refine awp_region tyOk tyPos [] rfl ?_
    simp only [push_cast, ↓brB_true, ↓brB_false, ↓reduceIte, zA, zB, zC, zD, zE, zF, zG, zH, zI, reduceCtorEq]
    repeat' apply And.intro
    all_goals try exact gB
    all_goals first | (refine hK _ ?_; clear hK K) | (simp only [push_cast]; done)
    refine awp_cond rfl (fun hc => ?_) (fun hc => ?_) <;> (try simp only [push_cast] at hc)
    · refine awp_skip ?_
      (try simp only [AThen, ABlk, reduceIte, zF]); refine hK2 _ ?_
      refine awp_seq' fun K3 hK3 => ?_
      refine awp_block ?_
      have ht := sumL_take (rs := xs) (j := j) (by omega)
      have hg := mk2_gl (k := k) (rs := xs) (j := j) (by omega)
      refine awp_regionG 17 [0] [(0, 2, dI (iot (k + sumL (xs.take j)) (gl xs j).length))] tyOk tyPos [] rfl ?_
      simp only [push_cast, ↓brB_true, ↓brB_false, ↓reduceIte, zA, zB, zC, zD, zE, zF, zG, zH, zI, reduceCtorEq]
      refine ⟨⟨by omega, by omega⟩, by omega, ⟨by omega, getE_dII (by omega)⟩, ⟨by omega, getE_dII (by omega)⟩, ?_⟩
      rw [hg]
      refine ⟨_, markInt64S_fn (gl xs j) (k + sumL (xs.take j)) (by omega) (by omega), ?_⟩
      simp only [push_cast, ↓brB_true, ↓brB_false, ↓reduceIte, zA, zB, zC, zD, zE, zF, zG, zH, zI, reduceCtorEq]
      rw [set_dII2, mk2_set (by omega)]
      (try simp only [AThen, ABlk, reduceIte, zF]); refine hK3 _ ?_
      refine awp_region tyOk tyPos [] rfl ?_
      simp only [push_cast, ↓brB_true, ↓brB_false, ↓reduceIte, zA, zB, zC, zD, zE, zF, zG, zH, zI, reduceCtorEq]
      repeat' apply And.intro
      all_goals try exact gB
      refine hK0 _ ⟨j + 1, by omega, by omega, ?_⟩
      rw [show k + ((sumL (xs.take (j + 1)) : Nat) : Int) = k + sumL (xs.take j) + (gl xs j).length from by omega]
      refine cov_of rfl ?_ ?_ ?_ <;> simp only [covS, covL, push_cast, ↓brB_true, ↓brB_false, ↓reduceIte, zA, zB, zC, zD, zE, zF, zG, zH, zI, reduceCtorEq]
    · refine awp_exit ?_
      (try simp only [AThen, ABlk, reduceIte, zF]); refine hK1 _ ?_
      have hk' : j = xs.length := by omega
      subst hk'
      rw [mk2_all, List.take_length]
      refine awp_seq' fun K hK => ?_
      refine awp_region tyOk tyPos [] rfl ?_
      simp only [push_cast, ↓brB_true, ↓brB_false, ↓reduceIte, zA, zB, zC, zD, zE, zF, zG, zH, zI, reduceCtorEq]
      repeat' apply And.intro
      all_goals try exact gB
      all_goals first | (refine hK _ ?_; clear hK K) | (simp only [push_cast]; done)
      refine awp_ret ?_
      (try simp only [AThen, ABlk])
      refine ⟨Or.inl rfl, ?_⟩
      simp only [RetOkG, outsOk, resVars, resVar, push_cast, ↓brB_true, ↓brB_false, ↓reduceIte, zA, zB, zC, zD, zE, zF, zG, zH, zI, reduceCtorEq]
set_option maxHeartbeats 1000000 in
theorem heldInt64SS_fn (xs : List (List Int)) (k : Int) (h0 : 0 ≤ k) (h1 : k + sumL xs ≤ 4611686018427387904) (h2 : xs.length ≤ 4611686018427387904) : Fn Try.prog tyT 61 [.c (DII (mkR k xs)), .c (.int .i64 k)] [.c (.int .i64 (k + sumL xs))] := by
  have hn := mkR_len k xs
  refine Fn_of (fn := Try.f61) (ts := [4]) Try.func61 (by kernel_rfl) rfl rfl (by rw [Try.ntmps61]; exact Nat.le_of_ble_eq_true rfl) rfl (by simp only [szA, List.mem_cons, List.not_mem_nil, or_false, forall_eq_or_imp, forall_eq, VT.cells, szL]; try decide) ?_
  rw [Try.ntmps61]
  simp only [push_cast, ↓brB_true, ↓brB_false, ↓reduceIte, zA, zB, zC, zD, zE, zF, zG, zH, zI, reduceCtorEq]
  refine awp_seq' fun K hK => ?_
  refine awp_region tyOk tyPos [] rfl ?_
  simp only [push_cast, ↓brB_true, ↓brB_false, ↓reduceIte, zA, zB, zC, zD, zE, zF, zG, zH, zI, reduceCtorEq]
  repeat' apply And.intro
  all_goals try exact gB
  all_goals first | (refine hK _ ?_; clear hK K) | (simp only [push_cast]; done)
  refine awp_seq' fun K1 hK1 => ?_
  refine awp_seq' fun K hK => ?_
  refine awp_region tyOk tyPos [] rfl ?_
  simp only [push_cast, ↓brB_true, ↓brB_false, ↓reduceIte, zA, zB, zC, zD, zE, zF, zG, zH, zI, reduceCtorEq]
  repeat' apply And.intro
  all_goals try exact gB
  all_goals first | (refine hK _ ?_; clear hK K) | (simp only [push_cast]; done)
  refine awp_block ?_
  refine awp_loopU [1,5,6,7,8,9,10,11,12,13,14,15,16,17,18,19,20,21] [] (fun j : Nat => [(5, .int .i64 j), (1, .int .i64 (k + sumL (xs.take j)))]) (fun _ => []) (fun _ => []) (fun j => j ≤ xs.length) (fun j => xs.length - j) 0 ?_ (by omega) ?_
  · simp only [List.take_zero, sumL_nil]
    refine cov_of rfl ?_ ?_ ?_ <;> simp only [covS, covL, push_cast, ↓brB_true, ↓brB_false, ↓reduceIte, zA, zB, zC, zD, zE, zF, zG, zH, zI, reduceCtorEq]
  · rintro j hj K0 hK0
    have hs := sumL_take_le xs j
    have hs1 := sumL_take_le xs (j + 1)
    simp only [push_cast, ↓brB_true, ↓brB_false, ↓reduceIte, zA, zB, zC, zD, zE, zF, zG, zH, zI, reduceCtorEq]
    refine awp_seq' fun K2 hK2 => ?_
    refine awp_seq' fun K hK => ?_
    refine awp_region tyOk tyPos [] rfl ?_
    simp only [push_cast, ↓brB_true, ↓brB_false, ↓reduceIte, zA, zB, zC, zD, zE, zF, zG, zH, zI, reduceCtorEq]
    repeat' apply And.intro
    all_goals try exact gB
    all_goals first | (refine hK _ ?_; clear hK K) | (simp only [push_cast]; done)
    refine awp_cond rfl (fun hc => ?_) (fun hc => ?_) <;> (try simp only [push_cast] at hc)
    · refine awp_skip ?_
      (try simp only [AThen, ABlk, reduceIte, zF]); refine hK2 _ ?_
      refine awp_seq' fun K3 hK3 => ?_
      refine awp_block ?_
      have ht := sumL_take (rs := xs) (j := j) (by omega)
      have hg := mkR_gl (k := k) (rs := xs) (j := j) (by omega)
      refine awp_seq' fun K hK => ?_
      refine awp_region tyOk tyPos [] rfl ?_
      simp only [push_cast, ↓brB_true, ↓brB_false, ↓reduceIte, zA, zB, zC, zD, zE, zF, zG, zH, zI, reduceCtorEq]
      rw [hg]
      refine ⟨by omega, by omega, ⟨by omega, getE_dII (by omega)⟩, _, heldInt64S_fn _ _ (by omega) (by omega), ?_⟩
      simp only [push_cast, ↓brB_true, ↓brB_false, ↓reduceIte, zA, zB, zC, zD, zE, zF, zG, zH, zI, reduceCtorEq]
      repeat' apply And.intro
      all_goals try exact gB
      refine hK _ ?_
      clear hK K
      refine awp_seq' fun K hK => ?_
      refine awp_region tyOk tyPos [] rfl ?_
      simp only [push_cast, ↓brB_true, ↓brB_false, ↓reduceIte, zA, zB, zC, zD, zE, zF, zG, zH, zI, reduceCtorEq]
      repeat' apply And.intro
      all_goals try exact gB
      all_goals first | (refine hK _ ?_; clear hK K) | (simp only [push_cast]; done)
      refine awp_cond rfl (fun hc => ?_) (fun hc => ?_) <;> (try simp only [push_cast] at hc)
      · exfalso; omega
      · refine awp_skip ?_
        (try simp only [AThen, ABlk, reduceIte, zF]); refine hK3 _ ?_
        refine awp_region tyOk tyPos [] rfl ?_
        simp only [push_cast, ↓brB_true, ↓brB_false, ↓reduceIte, zA, zB, zC, zD, zE, zF, zG, zH, zI, reduceCtorEq]
        repeat' apply And.intro
        all_goals try exact gB
        refine hK0 _ ⟨j + 1, by omega, by omega, ?_⟩
        rw [show k + ((sumL (xs.take (j + 1)) : Nat) : Int) = k + sumL (xs.take j) + (gl xs j).length from by omega]
        refine cov_of rfl ?_ ?_ ?_ <;> simp only [covS, covL, push_cast, ↓brB_true, ↓brB_false, ↓reduceIte, zA, zB, zC, zD, zE, zF, zG, zH, zI, reduceCtorEq]
    · refine awp_exit ?_
      (try simp only [AThen, ABlk, reduceIte, zF]); refine hK1 _ ?_
      have hk' : j = xs.length := by omega
      subst hk'
      rw [List.take_length]
      refine awp_seq' fun K hK => ?_
      refine awp_region tyOk tyPos [] rfl ?_
      simp only [push_cast, ↓brB_true, ↓brB_false, ↓reduceIte, zA, zB, zC, zD, zE, zF, zG, zH, zI, reduceCtorEq]
      repeat' apply And.intro
      all_goals try exact gB
      all_goals first | (refine hK _ ?_; clear hK K) | (simp only [push_cast]; done)
      refine awp_ret ?_
      (try simp only [AThen, ABlk])
      refine ⟨Or.inl rfl, ?_⟩
      simp only [RetOk, push_cast, ↓brB_true, ↓brB_false, ↓reduceIte, zA, zB, zC, zD, zE, zF, zG, zH, zI, reduceCtorEq]
end Go.Proofs.Ytklconkoamoabaa

namespace Go.Proofs.Ytklconkoamoabaa
open Nat renaming reduceMod → zA, reduceMul → zB, reduceDiv → zC, reduceAdd → zD, reduceSub → zE, reduceEqDiff → zF, reduceBEq → zG, reduceLT → zH, reduceLeDiff → zI
open Go.RowKit
set_option linter.unusedVariables false
set_option linter.unusedSimpArgs false

def less (l : Int) (n : Nat) : Int := if l - n < 0 then -1 else l - n
def lessR (l : Int) : List (List Int) → Int
  | [] => l
  | r :: rs => if l - r.length < 0 then -1 else lessR (l - r.length) rs
def lessII (l : Int) (a : List (List Int)) : Int := if l - a.length < 0 then -1 else lessR (l - a.length) a
set_option maxHeartbeats 1000000 in
theorem szInt64S_fn (a : List Int) (l : Int) (h0 : 0 ≤ l) (h1 : l ≤ 1048576) (ha : a.length ≤ 9223372036854775807) : Fn Try.prog tyT 41 [.c (DI a), .c (.int .i64 l)] [.c (.int .i64 (less l a.length))] := by
  refine Fn_of (fn := Try.f41) (ts := [4]) Try.func41 (by kernel_rfl) rfl rfl (by rw [Try.ntmps41]; exact Nat.le_of_ble_eq_true rfl) rfl (by simp only [szA, List.mem_cons, List.not_mem_nil, or_false, forall_eq_or_imp, forall_eq, VT.cells, szL]; try decide) ?_
  rw [Try.ntmps41]
  simp only [push_cast, ↓brB_true, ↓brB_false, ↓reduceIte, zA, zB, zC, zD, zE, zF, zG, zH, zI, reduceCtorEq]
  refine awp_seq' fun K hK => ?_
  refine awp_region tyOk tyPos [] rfl ?_
  simp only [push_cast, ↓brB_true, ↓brB_false, ↓reduceIte, zA, zB, zC, zD, zE, zF, zG, zH, zI, reduceCtorEq]
  repeat' apply And.intro
  all_goals try exact gB
  all_goals first | (refine hK _ ?_; clear hK K) | (simp only [push_cast]; done)
  refine awp_seq' fun K hK => ?_
  refine awp_region tyOk tyPos [] rfl ?_
  simp only [push_cast, ↓brB_true, ↓brB_false, ↓reduceIte, zA, zB, zC, zD, zE, zF, zG, zH, zI, reduceCtorEq]
  repeat' apply And.intro
  all_goals try exact gB
  all_goals first | (refine hK _ ?_; clear hK K) | (simp only [push_cast]; done)
  refine awp_seq' fun K1 hK1 => ?_
  refine awp_seq' fun K hK => ?_
  refine awp_region tyOk tyPos [] rfl ?_
  simp only [push_cast, ↓brB_true, ↓brB_false, ↓reduceIte, zA, zB, zC, zD, zE, zF, zG, zH, zI, reduceCtorEq]
  repeat' apply And.intro
  all_goals try exact gB
  all_goals first | (refine hK _ ?_; clear hK K) | (simp only [push_cast]; done)
  refine awp_cond rfl (fun hc => ?_) (fun hc => ?_) <;> (try simp only [push_cast] at hc)
  ·
    refine awp_seq' fun K hK => ?_
    refine awp_region tyOk tyPos [] rfl ?_
    simp only [push_cast, ↓brB_true, ↓brB_false, ↓reduceIte, zA, zB, zC, zD, zE, zF, zG, zH, zI, reduceCtorEq]
    repeat' apply And.intro
    all_goals try exact gB
    all_goals first | (refine hK _ ?_; clear hK K) | (simp only [push_cast]; done)
    refine awp_ret ?_
    (try simp only [AThen, ABlk])
    refine ⟨Or.inl rfl, ?_⟩
    simp only [RetOk, push_cast, ↓brB_true, ↓brB_false, ↓reduceIte, zA, zB, zC, zD, zE, zF, zG, zH, zI, reduceCtorEq]
    simp only [less, if_pos hc]
  ·
    refine awp_skip ?_
    (try simp only [AThen, ABlk, reduceIte, zF]); refine hK1 _ ?_
    refine awp_seq' fun K hK => ?_
    refine awp_region tyOk tyPos [] rfl ?_
    simp only [push_cast, ↓brB_true, ↓brB_false, ↓reduceIte, zA, zB, zC, zD, zE, zF, zG, zH, zI, reduceCtorEq]
    repeat' apply And.intro
    all_goals try exact gB
    all_goals first | (refine hK _ ?_; clear hK K) | (simp only [push_cast]; done)
    refine awp_ret ?_
    (try simp only [AThen, ABlk])
    refine ⟨Or.inl rfl, ?_⟩
    simp only [RetOk, push_cast, ↓brB_true, ↓brB_false, ↓reduceIte, zA, zB, zC, zD, zE, zF, zG, zH, zI, reduceCtorEq]
    simp only [less, if_neg hc]
theorem drop_gl {a : List (List Int)} {k : Nat} (h : k < a.length) : a.drop k = gl a k :: a.drop (k + 1) := by
  have h1 := gl_lt h
  rw [List.getElem?_eq_getElem h] at h1
  injection h1 with h1
  rw [← h1]
  exact List.drop_eq_getElem_cons h
set_option maxHeartbeats 1000000 in
theorem szInt64SS_fn (a : List (List Int)) (l : Int) (h0 : 0 ≤ l) (h1 : l ≤ 1048576) (ha : a.length ≤ 9223372036854775807) (hr : ∀ r ∈ a, r.length ≤ 9223372036854775807) : Fn Try.prog tyT 42 [.c (DII a), .c (.int .i64 l)] [.c (.int .i64 (lessII l a))] := by
  refine Fn_of (fn := Try.f42) (ts := [4]) Try.func42 (by kernel_rfl) rfl rfl (by rw [Try.ntmps42]; exact Nat.le_of_ble_eq_true rfl) rfl (by simp only [szA, List.mem_cons, List.not_mem_nil, or_false, forall_eq_or_imp, forall_eq, VT.cells, szL]; try decide) ?_
  rw [Try.ntmps42]
  simp only [push_cast, ↓brB_true, ↓brB_false, ↓reduceIte, zA, zB, zC, zD, zE, zF, zG, zH, zI, reduceCtorEq]
  refine awp_seq' fun K hK => ?_
  refine awp_region tyOk tyPos [] rfl ?_
  simp only [push_cast, ↓brB_true, ↓brB_false, ↓reduceIte, zA, zB, zC, zD, zE, zF, zG, zH, zI, reduceCtorEq]
  repeat' apply And.intro
  all_goals try exact gB
  all_goals first | (refine hK _ ?_; clear hK K) | (simp only [push_cast]; done)
  refine awp_seq' fun K hK => ?_
  refine awp_region tyOk tyPos [] rfl ?_
  simp only [push_cast, ↓brB_true, ↓brB_false, ↓reduceIte, zA, zB, zC, zD, zE, zF, zG, zH, zI, reduceCtorEq]
  repeat' apply And.intro
  all_goals try exact gB
  all_goals first | (refine hK _ ?_; clear hK K) | (simp only [push_cast]; done)
  refine awp_seq' fun K1 hK1 => ?_
  refine awp_seq' fun K hK => ?_
  refine awp_region tyOk tyPos [] rfl ?_
  simp only [push_cast, ↓brB_true, ↓brB_false, ↓reduceIte, zA, zB, zC, zD, zE, zF, zG, zH, zI, reduceCtorEq]
  repeat' apply And.intro
  all_goals try exact gB
  all_goals first | (refine hK _ ?_; clear hK K) | (simp only [push_cast]; done)
  refine awp_cond rfl (fun hc => ?_) (fun hc => ?_) <;> (try simp only [push_cast] at hc)
  ·
    refine awp_seq' fun K hK => ?_
    refine awp_region tyOk tyPos [] rfl ?_
    simp only [push_cast, ↓brB_true, ↓brB_false, ↓reduceIte, zA, zB, zC, zD, zE, zF, zG, zH, zI, reduceCtorEq]
    repeat' apply And.intro
    all_goals try exact gB
    all_goals first | (refine hK _ ?_; clear hK K) | (simp only [push_cast]; done)
    refine awp_ret ?_
    (try simp only [AThen, ABlk])
    refine ⟨Or.inl rfl, ?_⟩
    simp only [RetOk, push_cast, ↓brB_true, ↓brB_false, ↓reduceIte, zA, zB, zC, zD, zE, zF, zG, zH, zI, reduceCtorEq]
    simp only [lessII, if_pos hc]
  ·
    refine awp_skip ?_
    (try simp only [AThen, ABlk, reduceIte, zF]); refine hK1 _ ?_
    have hneg : ¬ l - (a.length : Int) < 0 := hc
    refine awp_seq' fun K2 hK2 => ?_
    refine awp_seq' fun K hK => ?_
    refine awp_region tyOk tyPos [] rfl ?_
    simp only [push_cast, ↓brB_true, ↓brB_false, ↓reduceIte, zA, zB, zC, zD, zE, zF, zG, zH, zI, reduceCtorEq]
    repeat' apply And.intro
    all_goals try exact gB
    all_goals first | (refine hK _ ?_; clear hK K) | (simp only [push_cast]; done)
    refine awp_block ?_
    refine awp_loopU [1,4,5,12,13,14,15,16,17,18,19,20,21,22,23,24,25] [] (fun x : Nat × Int => [(5, .int .i64 x.1), (1, .int .i64 x.2)]) (fun _ => []) (fun _ => []) (fun x => x.1 ≤ a.length ∧ 0 ≤ x.2 ∧ x.2 ≤ 1048576 ∧ lessR (l - a.length) a = lessR x.2 (a.drop x.1)) (fun x => a.length - x.1) (0, l - a.length) ?_ ⟨by simp, by simp; omega, by simp; omega, by simp⟩ ?_
    ·
      refine cov_of rfl ?_ ?_ ?_ <;> simp only [covS, covL, push_cast, ↓brB_true, ↓brB_false, ↓reduceIte, zA, zB, zC, zD, zE, zF, zG, zH, zI, reduceCtorEq]
    · rintro ⟨k, m⟩ ⟨hk, hm0, hm1, hm⟩ K0 hK0
      simp only at hk hm0 hm1 hm
      simp only [push_cast, ↓brB_true, ↓brB_false, ↓reduceIte, zA, zB, zC, zD, zE, zF, zG, zH, zI, reduceCtorEq]
      refine awp_seq' fun K3 hK3 => ?_
      refine awp_seq' fun K hK => ?_
      refine awp_region tyOk tyPos [] rfl ?_
      simp only [push_cast, ↓brB_true, ↓brB_false, ↓reduceIte, zA, zB, zC, zD, zE, zF, zG, zH, zI, reduceCtorEq]
      repeat' apply And.intro
      all_goals try exact gB
      all_goals first | (refine hK _ ?_; clear hK K) | (simp only [push_cast]; done)
      refine awp_cond rfl (fun hc => ?_) (fun hc => ?_) <;> (try simp only [push_cast] at hc)
      ·
        have hkl : k < a.length := by omega
        rw [drop_gl hkl, lessR] at hm
        have hrk : (gl a k).length ≤ 9223372036854775807 := hr _ (List.mem_of_getElem? (gl_lt hkl))
        refine awp_skip ?_
        (try simp only [AThen, ABlk, reduceIte, zF]); refine hK3 _ ?_
        refine awp_seq' fun K4 hK4 => ?_
        refine awp_block ?_
        refine awp_seq' fun K hK => ?_
        refine awp_region tyOk tyPos [] rfl ?_
        simp only [push_cast, ↓brB_true, ↓brB_false, ↓reduceIte, zA, zB, zC, zD, zE, zF, zG, zH, zI, reduceCtorEq]
        refine ⟨by omega, by omega, ⟨by omega, getE_dII (by omega)⟩, _, szInt64S_fn (gl a k) m hm0 hm1 hrk, ?_⟩
        simp only [push_cast, ↓brB_true, ↓brB_false, ↓reduceIte, zA, zB, zC, zD, zE, zF, zG, zH, zI, reduceCtorEq]
        repeat' apply And.intro
        all_goals try exact gB
        refine hK _ ?_
        clear hK K
        refine awp_seq' fun K hK => ?_
        refine awp_region tyOk tyPos [] rfl ?_
        simp only [push_cast, ↓brB_true, ↓brB_false, ↓reduceIte, zA, zB, zC, zD, zE, zF, zG, zH, zI, reduceCtorEq]
        repeat' apply And.intro
        all_goals try exact gB
        all_goals first | (refine hK _ ?_; clear hK K) | (simp only [push_cast]; done)
        refine awp_cond rfl (fun hc => ?_) (fun hc => ?_) <;> (try simp only [push_cast] at hc)
        ·
          refine awp_seq' fun K hK => ?_
          refine awp_region tyOk tyPos [] rfl ?_
          simp only [push_cast, ↓brB_true, ↓brB_false, ↓reduceIte, zA, zB, zC, zD, zE, zF, zG, zH, zI, reduceCtorEq]
          repeat' apply And.intro
          all_goals try exact gB
          all_goals first | (refine hK _ ?_; clear hK K) | (simp only [push_cast]; done)
          refine awp_ret ?_
          (try simp only [AThen, ABlk])
          refine ⟨Or.inl rfl, ?_⟩
          simp only [RetOk, push_cast, ↓brB_true, ↓brB_false, ↓reduceIte, zA, zB, zC, zD, zE, zF, zG, zH, zI, reduceCtorEq]
          have hn : m - ((gl a k).length : Int) < 0 := by unfold less at hc; split at hc <;> omega
          rw [if_pos hn] at hm
          simp only [lessII, if_neg hneg, hm]
        ·
          refine awp_skip ?_
          (try simp only [AThen, ABlk, reduceIte, zF]); refine hK4 _ ?_
          refine awp_region tyOk tyPos [] rfl ?_
          simp only [push_cast, ↓brB_true, ↓brB_false, ↓reduceIte, zA, zB, zC, zD, zE, zF, zG, zH, zI, reduceCtorEq]
          repeat' apply And.intro
          all_goals try exact gB
          refine hK0 _ ⟨(k + 1, less m (gl a k).length), ?_, by simp; omega, ?_⟩
          · have hn : ¬ m - ((gl a k).length : Int) < 0 := by
              intro h
              exact hc (by unfold less; rw [if_pos h]; omega)
            have e : less m (gl a k).length = m - (gl a k).length := by unfold less; rw [if_neg hn]
            rw [if_neg hn] at hm
            simp only [e]
            exact ⟨by omega, by omega, by omega, hm⟩
          refine cov_of rfl ?_ ?_ ?_ <;> simp only [covS, covL, push_cast, ↓brB_true, ↓brB_false, ↓reduceIte, zA, zB, zC, zD, zE, zF, zG, zH, zI, reduceCtorEq]
      ·
        refine awp_exit ?_
        (try simp only [AThen, ABlk, reduceIte, zF]); refine hK2 _ ?_
        have : k = a.length := by omega
        subst this
        rw [List.drop_length, lessR] at hm
        refine awp_seq' fun K hK => ?_
        refine awp_region tyOk tyPos [] rfl ?_
        simp only [push_cast, ↓brB_true, ↓brB_false, ↓reduceIte, zA, zB, zC, zD, zE, zF, zG, zH, zI, reduceCtorEq]
        repeat' apply And.intro
        all_goals try exact gB
        all_goals first | (refine hK _ ?_; clear hK K) | (simp only [push_cast]; done)
        refine awp_ret ?_
        (try simp only [AThen, ABlk])
        refine ⟨Or.inl rfl, ?_⟩
        simp only [RetOk, push_cast, ↓brB_true, ↓brB_false, ↓reduceIte, zA, zB, zC, zD, zE, zF, zG, zH, zI, reduceCtorEq]
        simp only [lessII, if_neg hneg, hm]

set_option maxHeartbeats 1000000 in
theorem eqInt64SS_fn (a b : List (List Int)) (ha : a.length ≤ 1048576) (hra : ∀ r ∈ a, r.length ≤ 1048576) : Fn Try.prog tyT 54 [.c (DII a), .c (DII b)] [.c (.bool (a == b))] := by
  refine Fn_of (fn := Try.f54) (ts := [4]) Try.func54 (by kernel_rfl) rfl rfl (by rw [Try.ntmps54]; exact Nat.le_of_ble_eq_true rfl) rfl (by simp only [szA, List.mem_cons, List.not_mem_nil, or_false, forall_eq_or_imp, forall_eq, VT.cells, szL]; try decide) ?_
  rw [Try.ntmps54]
  simp only [push_cast, ↓brB_true, ↓brB_false, ↓reduceIte, zA, zB, zC, zD, zE, zF, zG, zH, zI, reduceCtorEq]
  refine awp_seq' fun K hK => ?_
  refine awp_region tyOk tyPos [] rfl ?_
  simp only [push_cast, ↓brB_true, ↓brB_false, ↓reduceIte, zA, zB, zC, zD, zE, zF, zG, zH, zI, reduceCtorEq]
  repeat' apply And.intro
  all_goals try exact gB
  all_goals first | (refine hK _ ?_; clear hK K) | (simp only [push_cast]; done)
  refine awp_seq' fun K1 hK1 => ?_
  refine awp_seq' fun K hK => ?_
  refine awp_region tyOk tyPos [] rfl ?_
  simp only [push_cast, ↓brB_true, ↓brB_false, ↓reduceIte, zA, zB, zC, zD, zE, zF, zG, zH, zI, reduceCtorEq]
  repeat' apply And.intro
  all_goals try exact gB
  all_goals first | (refine hK _ ?_; clear hK K) | (simp only [push_cast]; done)
  refine awp_cond rfl (fun hc => ?_) (fun hc => ?_) <;> (try simp only [push_cast] at hc)
  ·
    refine awp_seq' fun K hK => ?_
    refine awp_region tyOk tyPos [] rfl ?_
    simp only [push_cast, ↓brB_true, ↓brB_false, ↓reduceIte, zA, zB, zC, zD, zE, zF, zG, zH, zI, reduceCtorEq]
    repeat' apply And.intro
    all_goals try exact gB
    all_goals first | (refine hK _ ?_; clear hK K) | (simp only [push_cast]; done)
    refine awp_ret ?_
    (try simp only [AThen, ABlk])
    refine ⟨Or.inl rfl, ?_⟩
    simp only [RetOk, push_cast, ↓brB_true, ↓brB_false, ↓reduceIte, zA, zB, zC, zD, zE, zF, zG, zH, zI, reduceCtorEq]
    symm
    rw [beq_eq_false_iff_ne]
    rintro rfl
    exact hc rfl
  ·
    refine awp_skip ?_
    (try simp only [AThen, ABlk, reduceIte, zF]); refine hK1 _ ?_
    have hl : a.length = b.length := by omega
    refine awp_seq' fun K2 hK2 => ?_
    refine awp_seq' fun K hK => ?_
    refine awp_region tyOk tyPos [] rfl ?_
    simp only [push_cast, ↓brB_true, ↓brB_false, ↓reduceIte, zA, zB, zC, zD, zE, zF, zG, zH, zI, reduceCtorEq]
    repeat' apply And.intro
    all_goals try exact gB
    all_goals first | (refine hK _ ?_; clear hK K) | (simp only [push_cast]; done)
    refine awp_block ?_
    refine awp_loopU [4,5,11,12,13,14,15,16,17,18,19,20,21,22,23,24,25,26] [] (fun k : Nat => [(5, .int .i64 k)]) (fun _ => []) (fun k => []) (fun k => k ≤ a.length ∧ ∀ j, j < k → gl a j = gl b j) (fun k => a.length - k) 0 ?_ ⟨by omega, fun j hj => by omega⟩ ?_
    ·
      refine cov_of rfl ?_ ?_ ?_ <;> simp only [covS, covL, push_cast, ↓brB_true, ↓brB_false, ↓reduceIte, zA, zB, zC, zD, zE, zF, zG, zH, zI, reduceCtorEq]
    · rintro k ⟨hk, hall⟩ K0 hK0
      simp only [push_cast, ↓brB_true, ↓brB_false, ↓reduceIte, zA, zB, zC, zD, zE, zF, zG, zH, zI, reduceCtorEq]
      refine awp_seq' fun K3 hK3 => ?_
      refine awp_seq' fun K hK => ?_
      refine awp_region tyOk tyPos [] rfl ?_
      simp only [push_cast, ↓brB_true, ↓brB_false, ↓reduceIte, zA, zB, zC, zD, zE, zF, zG, zH, zI, reduceCtorEq]
      repeat' apply And.intro
      all_goals try exact gB
      all_goals first | (refine hK _ ?_; clear hK K) | (simp only [push_cast]; done)
      refine awp_cond rfl (fun hc => ?_) (fun hc => ?_) <;> (try simp only [push_cast] at hc)
      ·
        have hkl : k < a.length := by omega
        have hrk : (gl a k).length ≤ 1048576 := hra _ (List.mem_of_getElem? (gl_lt hkl))
        refine awp_skip ?_
        (try simp only [AThen, ABlk, reduceIte, zF]); refine hK3 _ ?_
        refine awp_seq' fun K4 hK4 => ?_
        refine awp_block ?_
        refine awp_seq' fun K hK => ?_
        refine awp_regionD0 false tyOk tyPos tyMix ?_ rfl ?_
        · kernel_rfl
        intro C hC
        simp only [push_cast, ↓brB_true, ↓brB_false, ↓reduceIte, zA, zB, zC, zD, zE, zF, zG, zH, zI, reduceCtorEq]
        refine ⟨by omega, by omega, by omega, by omega, ⟨⟨by omega, getE_dII (by omega)⟩, by omega, getE_dII (by omega)⟩, _, eqInt64S_fn (gl a k) (gl b k) hrk, ?_⟩
        simp only [push_cast, ↓brB_true, ↓brB_false, ↓reduceIte, zA, zB, zC, zD, zE, zF, zG, zH, zI, reduceCtorEq]
        repeat' apply And.intro
        all_goals first | omega | with_reducible assumption | (refine hC _ ?_; kernel_rfl) | (simp only [List.length_set, List.length_append, List.length_replicate, List.length_cons, List.length_nil]; omega) | skip
        refine hK _ ?_
        clear hC C hK K
        refine awp_cond rfl (fun hc => ?_) (fun hc => ?_) <;> (try simp only [push_cast] at hc)
        ·
          refine awp_seq' fun K hK => ?_
          refine awp_region tyOk tyPos [] rfl ?_
          simp only [push_cast, ↓brB_true, ↓brB_false, ↓reduceIte, zA, zB, zC, zD, zE, zF, zG, zH, zI, reduceCtorEq]
          repeat' apply And.intro
          all_goals try exact gB
          all_goals first | (refine hK _ ?_; clear hK K) | (simp only [push_cast]; done)
          refine awp_ret ?_
          (try simp only [AThen, ABlk])
          refine ⟨Or.inl rfl, ?_⟩
          simp only [RetOk, push_cast, ↓brB_true, ↓brB_false, ↓reduceIte, zA, zB, zC, zD, zE, zF, zG, zH, zI, reduceCtorEq]
          symm
          rw [beq_eq_false_iff_ne]
          rintro rfl
          simp [eqIs] at hc
        ·
          refine awp_skip ?_
          (try simp only [AThen, ABlk, reduceIte, zF]); refine hK4 _ ?_
          refine awp_region tyOk tyPos [] rfl ?_
          simp only [push_cast, ↓brB_true, ↓brB_false, ↓reduceIte, zA, zB, zC, zD, zE, zF, zG, zH, zI, reduceCtorEq]
          repeat' apply And.intro
          all_goals try exact gB
          refine hK0 _ ⟨k + 1, ⟨by omega, fun j hj => ?_⟩, by omega, ?_⟩
          · by_cases h : j = k
            · subst h; simpa [eqIs] using hc
            · exact hall j (by omega)
          refine cov_of rfl ?_ ?_ ?_ <;> simp only [covS, covL, push_cast, ↓brB_true, ↓brB_false, ↓reduceIte, zA, zB, zC, zD, zE, zF, zG, zH, zI, reduceCtorEq]
      ·
        refine awp_exit ?_
        (try simp only [AThen, ABlk, reduceIte, zF]); refine hK2 _ ?_
        refine awp_seq' fun K hK => ?_
        refine awp_region tyOk tyPos [] rfl ?_
        simp only [push_cast, ↓brB_true, ↓brB_false, ↓reduceIte, zA, zB, zC, zD, zE, zF, zG, zH, zI, reduceCtorEq]
        repeat' apply And.intro
        all_goals try exact gB
        all_goals first | (refine hK _ ?_; clear hK K) | (simp only [push_cast]; done)
        refine awp_ret ?_
        (try simp only [AThen, ABlk])
        refine ⟨Or.inl rfl, ?_⟩
        simp only [RetOk, push_cast, ↓brB_true, ↓brB_false, ↓reduceIte, zA, zB, zC, zD, zE, zF, zG, zH, zI, reduceCtorEq]
        have : a = b := by
          refine List.ext_getElem hl fun j h1 h2 => ?_
          have h3 := hall j (by omega)
          have h4 := gl_lt h1
          have h5 := gl_lt h2
          rw [List.getElem?_eq_getElem h1] at h4
          rw [List.getElem?_eq_getElem h2] at h5
          injection h4 with h4
          injection h5 with h5
          rw [h4, h5, h3]
        subst this
        simp
theorem eqI_same (a : List Int) (ha : a.length ≤ 1048576) : Fn Try.prog tyT 53 [.c (DI a), .c (DI a)] [.c (.bool true)] := by
  have := eqInt64S_fn a a ha
  rwa [show eqIs a a = true from by simp [eqIs]] at this
theorem eqII_same (a : List (List Int)) (ha : a.length ≤ 1048576) (hr : ∀ r ∈ a, r.length ≤ 1048576) : Fn Try.prog tyT 54 [.c (DII a), .c (DII a)] [.c (.bool true)] := by
  have := eqInt64SS_fn a a ha hr
  rwa [show (a == a) = true from by simp] at this

def szl (l : Int) (t : Nat) : Int := if l < t then -1 else l - t
theorem szl_neg {l : Int} {t : Nat} (h : l < t) : szl l t = -1 := if_pos h
theorem szl_pos {l : Int} {t : Nat} (h : ¬ l < t) : szl l t = l - t := if_neg h
def totII (a : List (List Int)) : Nat := a.length + sumL a
def LnI (B : Nat) (a : List Int) : Prop := a.length ≤ B
def LnII (B : Nat) (a : List (List Int)) : Prop := a.length ≤ B ∧ ∀ r ∈ a, r.length ≤ B
theorem row_le {a : List (List Int)} {r : List Int} (h : r ∈ a) : r.length ≤ sumL a := by
  induction a with
  | nil => simp at h
  | cons x a ih =>
    rw [sumL_cons]
    rcases List.mem_cons.1 h with rfl | h
    · omega
    · have := ih h; omega
theorem LnI_of {B : Nat} {a : List Int} (h : a.length ≤ B) : LnI B a := h
theorem LnII_of {B : Nat} {a : List (List Int)} (h : totII a ≤ B) : LnII B a := ⟨by unfold totII at h; omega, fun r hr => by have := row_le hr; unfold totII at h; omega⟩
theorem lessR_szl : ∀ (a : List (List Int)) (l : Int), 0 ≤ l → lessR l a = szl l (sumL a)
  | [], l, h => by rw [sumL_nil, szl_pos (by omega)]; simp [lessR]
  | r :: a, l, h => by
    simp only [lessR, sumL_cons]
    split
    · rw [szl_neg (by omega)]
    · rw [lessR_szl a _ (by omega)]
      unfold szl
      split <;> split <;> omega
theorem szI_fn (a : List Int) (l : Int) (h0 : 0 ≤ l) (h1 : l ≤ 1048576) (ha : LnI 9223372036854775807 a) : Fn Try.prog tyT 41 [.c (DI a), .c (.int .i64 l)] [.c (.int .i64 (szl l a.length))] := by
  have := szInt64S_fn a l h0 h1 ha
  have e : less l a.length = szl l a.length := by unfold less szl; split <;> split <;> omega
  rwa [e] at this
theorem szII_fn (a : List (List Int)) (l : Int) (h0 : 0 ≤ l) (h1 : l ≤ 1048576) (ha : LnII 9223372036854775807 a) : Fn Try.prog tyT 42 [.c (DII a), .c (.int .i64 l)] [.c (.int .i64 (szl l (totII a)))] := by
  have := szInt64SS_fn a l h0 h1 ha.1 ha.2
  have e : lessII l a = szl l (totII a) := by
    unfold lessII totII
    split
    · rw [szl_neg (by omega)]
    · rw [lessR_szl _ _ (by omega)]
      unfold szl
      split <;> split <;> omega
  rwa [e] at this
theorem toI_fn (a : List Int) (ha : LnI 1048576 a) : Fn Try.prog tyT 46 [.c (DI a)] [.c (DI a)] := toInt64S_fn a ha
theorem toII_fn (a : List (List Int)) (ha : LnII 1048576 a) : Fn Try.prog tyT 47 [.c (DII a)] [.c (DII a)] := toInt64SS_fn a ha.1 ha.2
theorem eqI2_fn (a : List Int) (ha : LnI 1048576 a) : Fn Try.prog tyT 53 [.c (DI a), .c (DI a)] [.c (.bool true)] := eqI_same a ha
theorem eqII2_fn (a : List (List Int)) (ha : LnII 1048576 a) : Fn Try.prog tyT 54 [.c (DII a), .c (DII a)] [.c (.bool true)] := eqII_same a ha.1 ha.2
theorem LnI.mono {B C : Nat} (hB : B ≤ C) {a : List Int} (h : LnI B a) : LnI C a := Nat.le_trans h hB
theorem LnII.mono {B C : Nat} (hB : B ≤ C) {a : List (List Int)} (h : LnII B a) : LnII C a := ⟨Nat.le_trans h.1 hB, fun r hr => Nat.le_trans (h.2 r hr) hB⟩
theorem sumL_le {B : Nat} {a : List (List Int)} (h : ∀ r ∈ a, r.length ≤ B) : sumL a ≤ a.length * B := by
  induction a with
  | nil => simp [sumL]
  | cons x a ih =>
    have h1 := ih fun r hr => h r (List.mem_cons_of_mem _ hr)
    have h2 := h x List.mem_cons_self
    rw [sumL_cons, List.length_cons, Nat.add_mul, Nat.one_mul]
    omega
theorem cnt_LI {a : List Int} (h : LnI 1048576 a) : a.length ≤ 1099511627776 := Nat.le_trans h (by decide)
theorem cnt_LII {a : List (List Int)} (h : LnII 1048576 a) : sumL a ≤ 1099511627776 ∧ a.length ≤ 1048576 := by
  have h1 := sumL_le h.2
  have h2 : a.length * 1048576 ≤ 1048576 * 1048576 := Nat.mul_le_mul_right _ h.1
  exact ⟨by omega, h.1⟩
end Go.Proofs.Ytklconkoamoabaa

namespace Go.Proofs.Ytklconkoamoabaa
open Nat renaming reduceMod → zA, reduceMul → zB, reduceDiv → zC, reduceAdd → zD, reduceSub → zE, reduceEqDiff → zF, reduceBEq → zG, reduceLT → zH, reduceLeDiff → zI
open Go.RowKit
theorem take_iot (k : Int) (n : Nat) : (iot k n).take n = iot k n := List.take_of_length_le (by rw [iot_len]; exact Nat.le_refl _)
theorem take_mkR (k : Int) (xs : List (List Int)) : (mkR k xs).take xs.length = mkR k xs := List.take_of_length_le (by rw [mkR_len]; exact Nat.le_refl _)
theorem range_0 : List.range 0 = [] := rfl
theorem range_1 : List.range 1 = [0] := rfl
theorem range_2 : List.range 2 = [0, 1] := rfl
attribute [push_cast] List.map_nil range_0 range_1 range_2
attribute [push_cast] take_iot take_mkR
end Go.Proofs.Ytklconkoamoabaa

namespace Go.Proofs.Ytklconkoamoabaa
open Nat renaming reduceMod → zA, reduceMul → zB, reduceDiv → zC, reduceAdd → zD, reduceSub → zE, reduceEqDiff → zF, reduceBEq → zG, reduceLT → zH, reduceLeDiff → zI
open Go Go.RowKit
set_option linter.unusedVariables false
def St.settleB (ks : List CK) (b : Nat) (st : St) : St :=
  match lk st.b b with
  | none => st
  | some cells =>
    match lk (homL [] ks st (home b 0) [] cells).1.b b with
    | none => st
    | some cells' => if cells'.length = (homL [] ks st (home b 0) [] cells).2.length then (homL [] ks st (home b 0) [] cells).1.setB b (homL [] ks st (home b 0) [] cells).2 else st
theorem lay_all {α : Type} {a b : List α} (h : b.length = a.length) : lay a 0 b = b := by
  unfold lay
  rw [Nat.zero_add, h, List.drop_length]
  simp
theorem awp_settleB {P : Program} {τ : Ty} (ks : List CK) (b : Nat) {c : Code} {Q : Exit → St → Prop} {st : St} (h : awp P τ c Q (st.settleB ks b)) : awp P τ c Q st := by
  unfold St.settleB at h
  split at h
  · exact h
  · rename_i cells hl
    split at h
    · exact h
    · rename_i cells' hl'
      split at h
      · rename_i hlen
        intro lo w0 a w hr
        obtain ⟨ow, hd, bk, hrr⟩ := hr
        obtain ⟨cs, ty, g1, g2, g3⟩ := hrr.box b cells hl
        obtain ⟨ow1, hd1, r1, r2⟩ := homL_sound [] ks st ow hd (home b 0) [] cells [] cs hrr (by simp [AvRL]) g3
        obtain ⟨cs0, ty0, k1, k2, k3⟩ := r1.box b cells' hl'
        rw [List.nil_append] at r2
        have e0 : cs0 = cs := by
          rw [g1] at k1
          simp only [Option.some.injEq, Obj.cells.injEq] at k1
          have := k1.1
          simpa using this.symm
        subst e0
        have hrel := RelC_setB r1 hl' k1 (i := 0) (by omega) k3 r2
        rw [lay_all rfl, lay_all hlen.symm, setRow_self w _ _ _ _ k1] at hrel
        exact h lo w0 a w ⟨ow1, hd1, bk, hrel⟩
      · exact h
attribute [push_cast] St.settleB
theorem app1_dII (xs : List (List Int)) (r : List Int) : dII xs ++ [D.lst 2 (dI r)] = dII (xs ++ [r]) := by simp [dII]
theorem app_dII (xs ys : List (List Int)) : dII xs ++ dII ys = dII (xs ++ ys) := by simp [dII]
attribute [push_cast] app1_dII app_dII
end Go.Proofs.Ytklconkoamoabaa

namespace Go.Proofs.Ytklconkoamoabaa
open Nat renaming reduceMod → zA, reduceMul → zB, reduceDiv → zC, reduceAdd → zD, reduceSub → zE, reduceEqDiff → zF, reduceBEq → zG, reduceLT → zH, reduceLeDiff → zI
open Go.RowKit
set_option linter.unusedVariables false
set_option linter.unusedSimpArgs false

structure Ar where
  owner : List Int
  next : List (List Int)
  deriving DecidableEq
def dAr (x : Ar) : List D := [DI x.owner, DII x.next]
def Ar.tot (x : Ar) : Nat := x.owner.length + totII x.next
structure Ar.Ln (B : Nat) (x : Ar) : Prop where
  owner : LnI B x.owner
  next : LnII B x.next
theorem Ar.ln_of {B : Nat} {x : Ar} (h : x.tot ≤ B) : x.Ln B := by
  unfold Ar.tot at h
  exact ⟨LnI_of (by omega), LnII_of (by omega)⟩
set_option maxHeartbeats 1000000 in
theorem szAr_fn (x : Ar) (l : Int) (h0 : 0 ≤ l) (h1 : l ≤ 1048576) (ha : x.Ln 9223372036854775807) : Fn Try.prog tyT 8 [.agg (dAr x), .c (.int .i64 l)] [.c (.int .i64 (szl l x.tot))] := by
  have ht : x.tot = x.owner.length + totII x.next := by unfold Ar.tot;  omega
  unfold dAr
  refine Fn_of (fn := Try.f8) (ts := [4]) Try.func8 (by kernel_rfl) rfl rfl (by rw [Try.ntmps8]; exact Nat.le_of_ble_eq_true rfl) rfl (by simp only [szA, List.mem_cons, List.not_mem_nil, or_false, forall_eq_or_imp, forall_eq, VT.cells, szL]; try decide) ?_
  rw [Try.ntmps8]
  simp only [push_cast, ↓brB_true, ↓brB_false, ↓reduceIte, zA, zB, zC, zD, zE, zF, zG, zH, zI, reduceCtorEq]
  refine awp_seq' fun K hK => ?_
  refine awp_region tyOk tyPos [] rfl ?_
  simp only [push_cast, ↓brB_true, ↓brB_false, ↓reduceIte, zA, zB, zC, zD, zE, zF, zG, zH, zI, reduceCtorEq]
  repeat' apply And.intro
  all_goals try exact gB
  all_goals first | (refine hK _ ?_; clear hK K) | (simp only [push_cast]; done)
  have hA := szI_fn x.owner (l) (by omega) (by omega) ha.owner
  refine awp_seq' fun K hK => ?_
  refine awp_region tyOk tyPos [] rfl ?_
  simp only [push_cast, ↓brB_true, ↓brB_false, ↓reduceIte, zA, zB, zC, zD, zE, zF, zG, zH, zI, reduceCtorEq]
  refine ⟨_, hA, ?_⟩
  simp only [push_cast, ↓brB_true, ↓brB_false, ↓reduceIte, zA, zB, zC, zD, zE, zF, zG, zH, zI, reduceCtorEq]
  repeat' apply And.intro
  all_goals try exact gB
  refine hK _ ?_
  clear hK K hA
  refine awp_seq' fun K0 hK0 => ?_
  refine awp_seq' fun K hK => ?_
  refine awp_region tyOk tyPos [] rfl ?_
  simp only [push_cast, ↓brB_true, ↓brB_false, ↓reduceIte, zA, zB, zC, zD, zE, zF, zG, zH, zI, reduceCtorEq]
  repeat' apply And.intro
  all_goals try exact gB
  all_goals first | (refine hK _ ?_; clear hK K) | (simp only [push_cast]; done)
  by_cases hn0 : (l) < (x.owner.length : Nat)
  · rw [szl_neg hn0]
    refine awp_cond rfl (fun hc => ?_) (fun hc => ?_) <;> (try simp only [push_cast] at hc)
    ·
      refine awp_seq' fun K hK => ?_
      refine awp_region tyOk tyPos [] rfl ?_
      simp only [push_cast, ↓brB_true, ↓brB_false, ↓reduceIte, zA, zB, zC, zD, zE, zF, zG, zH, zI, reduceCtorEq]
      repeat' apply And.intro
      all_goals try exact gB
      all_goals first | (refine hK _ ?_; clear hK K) | (simp only [push_cast]; done)
      refine awp_ret ?_
      (try simp only [AThen, ABlk])
      refine ⟨Or.inl rfl, ?_⟩
      simp only [RetOk, push_cast, ↓brB_true, ↓brB_false, ↓reduceIte, zA, zB, zC, zD, zE, zF, zG, zH, zI, reduceCtorEq]
      rw [szl_neg (by omega)]
    · exact absurd hc (by decide)
  · rw [szl_pos hn0]
    refine awp_cond rfl (fun hc => ?_) (fun hc => ?_) <;> (try simp only [push_cast] at hc)
    · exfalso; omega
    · refine awp_skip ?_
      (try simp only [AThen, ABlk, reduceIte, zF]); refine hK0 _ ?_
      have hA := szII_fn x.next (l - (x.owner.length : Nat)) (by omega) (by omega) ha.next
      refine awp_seq' fun K hK => ?_
      refine awp_region tyOk tyPos [] rfl ?_
      simp only [push_cast, ↓brB_true, ↓brB_false, ↓reduceIte, zA, zB, zC, zD, zE, zF, zG, zH, zI, reduceCtorEq]
      refine ⟨_, hA, ?_⟩
      simp only [push_cast, ↓brB_true, ↓brB_false, ↓reduceIte, zA, zB, zC, zD, zE, zF, zG, zH, zI, reduceCtorEq]
      repeat' apply And.intro
      all_goals try exact gB
      refine hK _ ?_
      clear hK K hA
      refine awp_seq' fun K1 hK1 => ?_
      refine awp_seq' fun K hK => ?_
      refine awp_region tyOk tyPos [] rfl ?_
      simp only [push_cast, ↓brB_true, ↓brB_false, ↓reduceIte, zA, zB, zC, zD, zE, zF, zG, zH, zI, reduceCtorEq]
      repeat' apply And.intro
      all_goals try exact gB
      all_goals first | (refine hK _ ?_; clear hK K) | (simp only [push_cast]; done)
      by_cases hn1 : (l - (x.owner.length : Nat)) < (totII x.next : Nat)
      · rw [szl_neg hn1]
        refine awp_cond rfl (fun hc => ?_) (fun hc => ?_) <;> (try simp only [push_cast] at hc)
        ·
          refine awp_seq' fun K hK => ?_
          refine awp_region tyOk tyPos [] rfl ?_
          simp only [push_cast, ↓brB_true, ↓brB_false, ↓reduceIte, zA, zB, zC, zD, zE, zF, zG, zH, zI, reduceCtorEq]
          repeat' apply And.intro
          all_goals try exact gB
          all_goals first | (refine hK _ ?_; clear hK K) | (simp only [push_cast]; done)
          refine awp_ret ?_
          (try simp only [AThen, ABlk])
          refine ⟨Or.inl rfl, ?_⟩
          simp only [RetOk, push_cast, ↓brB_true, ↓brB_false, ↓reduceIte, zA, zB, zC, zD, zE, zF, zG, zH, zI, reduceCtorEq]
          rw [szl_neg (by omega)]
        · exact absurd hc (by decide)
      · rw [szl_pos hn1]
        refine awp_cond rfl (fun hc => ?_) (fun hc => ?_) <;> (try simp only [push_cast] at hc)
        · exfalso; omega
        · refine awp_skip ?_
          (try simp only [AThen, ABlk, reduceIte, zF]); refine hK1 _ ?_
          refine awp_seq' fun K hK => ?_
          refine awp_region tyOk tyPos [] rfl ?_
          simp only [push_cast, ↓brB_true, ↓brB_false, ↓reduceIte, zA, zB, zC, zD, zE, zF, zG, zH, zI, reduceCtorEq]
          repeat' apply And.intro
          all_goals try exact gB
          all_goals first | (refine hK _ ?_; clear hK K) | (simp only [push_cast]; done)
          refine awp_ret ?_
          (try simp only [AThen, ABlk])
          refine ⟨Or.inl rfl, ?_⟩
          simp only [RetOk, push_cast, ↓brB_true, ↓brB_false, ↓reduceIte, zA, zB, zC, zD, zE, zF, zG, zH, zI, reduceCtorEq]
          rw [szl_pos (by omega)]; omega
set_option maxHeartbeats 1000000 in
theorem toAr_fn (x : Ar) (ha : x.Ln 1048576) : Fn Try.prog tyT 11 [.agg (dAr x)] [.agg (dAr x)] := by
  unfold dAr
  refine Fn_ofR (fn := Try.f11) (rs := [.cell 2 32]) tyOk tyPos Try.func11 (by kernel_rfl) rfl rfl (by rw [Try.ntmps11]; exact Nat.le_of_ble_eq_true rfl) rfl (by simp only [szA, List.mem_cons, List.not_mem_nil, or_false, forall_eq_or_imp, forall_eq, VT.cells, szL]; try decide) ?_
  rw [Try.ntmps11]
  simp only [push_cast, ↓brB_true, ↓brB_false, ↓reduceIte, zA, zB, zC, zD, zE, zF, zG, zH, zI, reduceCtorEq]
  refine awp_seq' fun K hK => ?_
  refine awp_region tyOk tyPos [] rfl ?_
  simp only [push_cast, ↓brB_true, ↓brB_false, ↓reduceIte, zA, zB, zC, zD, zE, zF, zG, zH, zI, reduceCtorEq]
  repeat' apply And.intro
  all_goals try exact gB
  all_goals first | (refine hK _ ?_; clear hK K) | (simp only [push_cast]; done)
  refine awp_seq' fun K hK => ?_
  refine awp_region tyOk tyPos [] rfl ?_
  simp only [push_cast, ↓brB_true, ↓brB_false, ↓reduceIte, zA, zB, zC, zD, zE, zF, zG, zH, zI, reduceCtorEq]
  repeat' apply And.intro
  all_goals try exact gB
  all_goals first | (refine hK _ ?_; clear hK K) | (simp only [push_cast]; done)
  have hA := toI_fn x.owner ha.owner
  refine awp_seq' fun K hK => ?_
  refine awp_region tyOk tyPos [] rfl ?_
  simp only [push_cast, ↓brB_true, ↓brB_false, ↓reduceIte, zA, zB, zC, zD, zE, zF, zG, zH, zI, reduceCtorEq]
  refine ⟨_, hA, ?_⟩
  simp only [push_cast, ↓brB_true, ↓brB_false, ↓reduceIte, zA, zB, zC, zD, zE, zF, zG, zH, zI, reduceCtorEq]
  repeat' apply And.intro
  all_goals try exact gB
  refine hK _ ?_
  clear hK K hA
  have hA := toII_fn x.next ha.next
  refine awp_seq' fun K hK => ?_
  refine awp_region tyOk tyPos [] rfl ?_
  simp only [push_cast, ↓brB_true, ↓brB_false, ↓reduceIte, zA, zB, zC, zD, zE, zF, zG, zH, zI, reduceCtorEq]
  refine ⟨_, hA, ?_⟩
  simp only [push_cast, ↓brB_true, ↓brB_false, ↓reduceIte, zA, zB, zC, zD, zE, zF, zG, zH, zI, reduceCtorEq]
  repeat' apply And.intro
  all_goals try exact gB
  refine hK _ ?_
  clear hK K hA
  refine awp_seq' fun K hK => ?_
  refine awp_region tyOk tyPos [] rfl ?_
  simp only [push_cast, ↓brB_true, ↓brB_false, ↓reduceIte, zA, zB, zC, zD, zE, zF, zG, zH, zI, reduceCtorEq]
  repeat' apply And.intro
  all_goals try exact gB
  all_goals first | (refine hK _ ?_; clear hK K) | (simp only [push_cast]; done)
  refine awp_ret ?_
  (try simp only [AThen, ABlk])
  refine ⟨Or.inl rfl, ?_⟩
  simp only [RetOk, resVars, resVar, push_cast, ↓brB_true, ↓brB_false, ↓reduceIte, zA, zB, zC, zD, zE, zF, zG, zH, zI, reduceCtorEq]
  try rfl
set_option maxHeartbeats 1000000 in
theorem eqAr_fn (x : Ar) (ha : x.Ln 1048576) : Fn Try.prog tyT 15 [.agg (dAr x), .agg (dAr x)] [.c (.bool true)] := by
  unfold dAr
  refine Fn_of (fn := Try.f15) (ts := [4]) Try.func15 (by kernel_rfl) rfl rfl (by rw [Try.ntmps15]; exact Nat.le_of_ble_eq_true rfl) rfl (by simp only [szA, List.mem_cons, List.not_mem_nil, or_false, forall_eq_or_imp, forall_eq, VT.cells, szL]; try decide) ?_
  rw [Try.ntmps15]
  simp only [push_cast, ↓brB_true, ↓brB_false, ↓reduceIte, zA, zB, zC, zD, zE, zF, zG, zH, zI, reduceCtorEq]
  refine awp_seq' fun K hK => ?_
  refine awp_region tyOk tyPos [] rfl ?_
  simp only [push_cast, ↓brB_true, ↓brB_false, ↓reduceIte, zA, zB, zC, zD, zE, zF, zG, zH, zI, reduceCtorEq]
  repeat' apply And.intro
  all_goals try exact gB
  all_goals first | (refine hK _ ?_; clear hK K) | (simp only [push_cast]; done)
  refine awp_seq' fun K0 hK0 => ?_
  have hA := eqI2_fn x.owner ha.owner
  refine awp_seq' fun K hK => ?_
  refine awp_region tyOk tyPos [] rfl ?_
  simp only [push_cast, ↓brB_true, ↓brB_false, ↓reduceIte, zA, zB, zC, zD, zE, zF, zG, zH, zI, reduceCtorEq]
  refine ⟨_, hA, ?_⟩
  simp only [push_cast, ↓brB_true, ↓brB_false, ↓reduceIte, zA, zB, zC, zD, zE, zF, zG, zH, zI, reduceCtorEq]
  repeat' apply And.intro
  all_goals try exact gB
  refine hK _ ?_
  clear hK K hA
  refine awp_cond rfl (fun hc => by cases hc) (fun _ => ?_)
  refine awp_skip ?_
  (try simp only [AThen, ABlk, reduceIte, zF]); refine hK0 _ ?_
  refine awp_seq' fun K1 hK1 => ?_
  have hA := eqII2_fn x.next ha.next
  refine awp_seq' fun K hK => ?_
  refine awp_region tyOk tyPos [] rfl ?_
  simp only [push_cast, ↓brB_true, ↓brB_false, ↓reduceIte, zA, zB, zC, zD, zE, zF, zG, zH, zI, reduceCtorEq]
  refine ⟨_, hA, ?_⟩
  simp only [push_cast, ↓brB_true, ↓brB_false, ↓reduceIte, zA, zB, zC, zD, zE, zF, zG, zH, zI, reduceCtorEq]
  repeat' apply And.intro
  all_goals try exact gB
  refine hK _ ?_
  clear hK K hA
  refine awp_cond rfl (fun hc => by cases hc) (fun _ => ?_)
  refine awp_skip ?_
  (try simp only [AThen, ABlk, reduceIte, zF]); refine hK1 _ ?_
  refine awp_seq' fun K hK => ?_
  refine awp_region tyOk tyPos [] rfl ?_
  simp only [push_cast, ↓brB_true, ↓brB_false, ↓reduceIte, zA, zB, zC, zD, zE, zF, zG, zH, zI, reduceCtorEq]
  repeat' apply And.intro
  all_goals try exact gB
  all_goals first | (refine hK _ ?_; clear hK K) | (simp only [push_cast]; done)
  refine awp_ret ?_
  (try simp only [AThen, ABlk])
  refine ⟨Or.inl rfl, ?_⟩
  simp only [RetOk, push_cast, ↓brB_true, ↓brB_false, ↓reduceIte, zA, zB, zC, zD, zE, zF, zG, zH, zI, reduceCtorEq]
def Ar.cnt (x : Ar) : Nat := x.owner.length + sumL x.next
theorem Ar.ln_mono {B C : Nat} (hB : B ≤ C) {x : Ar} (h : x.Ln B) : x.Ln C := ⟨LnI.mono hB h.owner, LnII.mono hB h.next⟩
theorem Ar.cnt_le {x : Ar} (h : x.Ln 1048576) : x.cnt ≤ 2199023255552 := by
  have h0 := cnt_LI h.owner
  have h1 := cnt_LII h.next
  unfold Ar.cnt
  omega
def mkAr (k : Int) (x : Ar) : Ar :=
  ⟨iot (k) x.owner.length, mkR (k + (x.owner.length : Nat)) x.next⟩
set_option maxHeartbeats 1000000 in
theorem markAr_fn (x : Ar) (k : Int) (h0 : 0 ≤ k) (h1 : k + x.cnt ≤ 4611686018427387904) (ha : x.Ln 4611686018427387904) : FnG Try.prog tyT 17 [.agg (dAr x), .c (.int .i64 k)] [0, 1] [(0, 2, dI (iot (k) x.owner.length)), (1, 22, dII (mkR (k + (x.owner.length : Nat)) x.next))] [.c (.int .i64 (k + x.cnt))] := by
  have ht : x.cnt = x.owner.length + sumL x.next := by unfold Ar.cnt;  omega
  unfold dAr
  refine FnG_of (fn := Try.f17) (rs := [.tmp 4]) (own := [0, 1]) (outs := [(0, 2, dI (iot (k) x.owner.length)), (1, 22, dII (mkR (k + (x.owner.length : Nat)) x.next))]) tyOk tyPos Try.func17 (by kernel_rfl) rfl rfl (by rw [Try.ntmps17]; exact Nat.le_of_ble_eq_true rfl) rfl (by simp only [szA, List.mem_cons, List.not_mem_nil, or_false, forall_eq_or_imp, forall_eq, VT.cells, szL]; try decide) ?_
  rw [Try.ntmps17]
  simp only [push_cast, ↓brB_true, ↓brB_false, ↓reduceIte, zA, zB, zC, zD, zE, zF, zG, zH, zI, reduceCtorEq]
  refine awp_seq' fun K hK => ?_
  refine awp_region tyOk tyPos [] rfl ?_
  simp only [push_cast, ↓brB_true, ↓brB_false, ↓reduceIte, zA, zB, zC, zD, zE, zF, zG, zH, zI, reduceCtorEq]
  repeat' apply And.intro
  all_goals try exact gB
  all_goals first | (refine hK _ ?_; clear hK K) | (simp only [push_cast]; done)
  have hA := markInt64S_fn x.owner (k) (by omega) (by omega)
  refine awp_seq' fun K hK => ?_
  refine awp_regionG 8 [0] [(0, 2, dI (iot (k) x.owner.length))] tyOk tyPos [] rfl ?_
  simp only [push_cast, ↓brB_true, ↓brB_false, ↓reduceIte, zA, zB, zC, zD, zE, zF, zG, zH, zI, reduceCtorEq]
  refine ⟨_, hA, ?_⟩
  simp only [push_cast, ↓brB_true, ↓brB_false, ↓reduceIte, zA, zB, zC, zD, zE, zF, zG, zH, zI, reduceCtorEq]
  refine hK _ ?_
  clear hK K hA
  have hA := markInt64SS_fn x.next (k + (x.owner.length : Nat)) (by omega) (by omega) ha.next.1
  refine awp_seq' fun K hK => ?_
  refine awp_regionG 12 [0] [(0, 22, dII (mkR (k + (x.owner.length : Nat)) x.next))] tyOk tyPos [] rfl ?_
  simp only [push_cast, ↓brB_true, ↓brB_false, ↓reduceIte, zA, zB, zC, zD, zE, zF, zG, zH, zI, reduceCtorEq]
  refine ⟨_, hA, ?_⟩
  simp only [push_cast, ↓brB_true, ↓brB_false, ↓reduceIte, zA, zB, zC, zD, zE, zF, zG, zH, zI, reduceCtorEq]
  refine hK _ ?_
  clear hK K hA
  refine awp_seq' fun K hK => ?_
  refine awp_region tyOk tyPos [] rfl ?_
  simp only [push_cast, ↓brB_true, ↓brB_false, ↓reduceIte, zA, zB, zC, zD, zE, zF, zG, zH, zI, reduceCtorEq]
  repeat' apply And.intro
  all_goals try exact gB
  all_goals first | (refine hK _ ?_; clear hK K) | (simp only [push_cast]; done)
  refine awp_ret ?_
  (try simp only [AThen, ABlk])
  refine ⟨Or.inl rfl, ?_⟩
  simp only [RetOkG, outsOk, resVars, resVar, push_cast, ↓brB_true, ↓brB_false, ↓reduceIte, zA, zB, zC, zD, zE, zF, zG, zH, zI, reduceCtorEq]
  try (unfold Ar.cnt; omega)
set_option maxHeartbeats 1000000 in
theorem heldAr_fn (x : Ar) (k : Int) (h0 : 0 ≤ k) (h1 : k + x.cnt ≤ 4611686018427387904) (ha : x.Ln 4611686018427387904) : Fn Try.prog tyT 76 [.agg (dAr (mkAr k x)), .c (.int .i64 k)] [.c (.int .i64 (k + x.cnt))] := by
  have ht : x.cnt = x.owner.length + sumL x.next := by unfold Ar.cnt;  omega
  unfold dAr mkAr
  refine Fn_of (fn := Try.f76) (ts := [4]) Try.func76 (by kernel_rfl) rfl rfl (by rw [Try.ntmps76]; exact Nat.le_of_ble_eq_true rfl) rfl (by simp only [szA, List.mem_cons, List.not_mem_nil, or_false, forall_eq_or_imp, forall_eq, VT.cells, szL]; try decide) ?_
  rw [Try.ntmps76]
  simp only [push_cast, ↓brB_true, ↓brB_false, ↓reduceIte, zA, zB, zC, zD, zE, zF, zG, zH, zI, reduceCtorEq]
  refine awp_seq' fun K hK => ?_
  refine awp_region tyOk tyPos [] rfl ?_
  simp only [push_cast, ↓brB_true, ↓brB_false, ↓reduceIte, zA, zB, zC, zD, zE, zF, zG, zH, zI, reduceCtorEq]
  repeat' apply And.intro
  all_goals try exact gB
  all_goals first | (refine hK _ ?_; clear hK K) | (simp only [push_cast]; done)
  have hA := heldInt64S_fn x.owner.length (k) (by omega) (by omega)
  refine awp_seq' fun K hK => ?_
  refine awp_region tyOk tyPos [] rfl ?_
  simp only [push_cast, ↓brB_true, ↓brB_false, ↓reduceIte, zA, zB, zC, zD, zE, zF, zG, zH, zI, reduceCtorEq]
  refine ⟨_, hA, ?_⟩
  simp only [push_cast, ↓brB_true, ↓brB_false, ↓reduceIte, zA, zB, zC, zD, zE, zF, zG, zH, zI, reduceCtorEq]
  repeat' apply And.intro
  all_goals try exact gB
  refine hK _ ?_
  clear hK K hA
  refine awp_seq' fun K0 hK0 => ?_
  refine awp_seq' fun K hK => ?_
  refine awp_region tyOk tyPos [] rfl ?_
  simp only [push_cast, ↓brB_true, ↓brB_false, ↓reduceIte, zA, zB, zC, zD, zE, zF, zG, zH, zI, reduceCtorEq]
  repeat' apply And.intro
  all_goals try exact gB
  all_goals first | (refine hK _ ?_; clear hK K) | (simp only [push_cast]; done)
  refine awp_cond rfl (fun hc => by simp only [decide_eq_true_eq] at hc; omega) (fun _ => ?_)
  refine awp_skip ?_
  (try simp only [AThen, ABlk, reduceIte, zF]); refine hK0 _ ?_
  have hA := heldInt64SS_fn x.next (k + (x.owner.length : Nat)) (by omega) (by omega) ha.next.1
  refine awp_seq' fun K hK => ?_
  refine awp_region tyOk tyPos [] rfl ?_
  simp only [push_cast, ↓brB_true, ↓brB_false, ↓reduceIte, zA, zB, zC, zD, zE, zF, zG, zH, zI, reduceCtorEq]
  refine ⟨_, hA, ?_⟩
  simp only [push_cast, ↓brB_true, ↓brB_false, ↓reduceIte, zA, zB, zC, zD, zE, zF, zG, zH, zI, reduceCtorEq]
  repeat' apply And.intro
  all_goals try exact gB
  refine hK _ ?_
  clear hK K hA
  refine awp_seq' fun K1 hK1 => ?_
  refine awp_seq' fun K hK => ?_
  refine awp_region tyOk tyPos [] rfl ?_
  simp only [push_cast, ↓brB_true, ↓brB_false, ↓reduceIte, zA, zB, zC, zD, zE, zF, zG, zH, zI, reduceCtorEq]
  repeat' apply And.intro
  all_goals try exact gB
  all_goals first | (refine hK _ ?_; clear hK K) | (simp only [push_cast]; done)
  refine awp_cond rfl (fun hc => by simp only [decide_eq_true_eq] at hc; omega) (fun _ => ?_)
  refine awp_skip ?_
  (try simp only [AThen, ABlk, reduceIte, zF]); refine hK1 _ ?_
  refine awp_seq' fun K hK => ?_
  refine awp_region tyOk tyPos [] rfl ?_
  simp only [push_cast, ↓brB_true, ↓brB_false, ↓reduceIte, zA, zB, zC, zD, zE, zF, zG, zH, zI, reduceCtorEq]
  repeat' apply And.intro
  all_goals try exact gB
  all_goals first | (refine hK _ ?_; clear hK K) | (simp only [push_cast]; done)
  refine awp_ret ?_
  (try simp only [AThen, ABlk])
  refine ⟨Or.inl rfl, ?_⟩
  simp only [RetOk, push_cast, ↓brB_true, ↓brB_false, ↓reduceIte, zA, zB, zC, zD, zE, zF, zG, zH, zI, reduceCtorEq]
  try (unfold Ar.cnt; omega)
end Go.Proofs.Ytklconkoamoabaa

namespace Go.Proofs.Ytklconkoamoabaa
open Nat renaming reduceMod → zA, reduceMul → zB, reduceDiv → zC, reduceAdd → zD, reduceSub → zE, reduceEqDiff → zF, reduceBEq → zG, reduceLT → zH, reduceLeDiff → zI
open Go.RowKit
set_option linter.unusedVariables false
set_option linter.unusedSimpArgs false

structure Wt where
  a : Ar
  cost : List (List Int)
  deriving DecidableEq
def Wt.tot (x : Wt) : Nat := x.a.owner.length + totII x.a.next + totII x.cost
structure Wt.Ln (B : Nat) (x : Wt) : Prop where
  a : x.a.Ln B
  cost : LnII B x.cost
theorem Wt.ln_of {B : Nat} {x : Wt} (h : x.tot ≤ B) : x.Ln B := by
  unfold Wt.tot at h
  exact ⟨Ar.ln_of (by unfold Ar.tot; omega), LnII_of (by omega)⟩
def Wt.cnt (x : Wt) : Nat := x.a.owner.length + sumL x.a.next + sumL x.cost
theorem Wt.ln_mono {B C : Nat} (hB : B ≤ C) {x : Wt} (h : x.Ln B) : x.Ln C := ⟨Ar.ln_mono hB h.a, LnII.mono hB h.cost⟩
theorem Wt.cnt_le {x : Wt} (h : x.Ln 1048576) : x.cnt ≤ 3298534883328 := by
  have h0 := Ar.cnt_le h.a
  have h1 := cnt_LII h.cost
  unfold Wt.cnt
  try unfold Ar.cnt at *
  omega
end Go.Proofs.Ytklconkoamoabaa

namespace Go.Proofs.Ytklconkoamoabaa
open Nat renaming reduceMod → zA, reduceMul → zB, reduceDiv → zC, reduceAdd → zD, reduceSub → zE, reduceEqDiff → zF, reduceBEq → zG, reduceLT → zH, reduceLeDiff → zI
open Go.RowKit
set_option linter.unusedVariables false
set_option linter.unusedSimpArgs false

structure Ls where
  stem : List Int
  loop : List Int
  deriving DecidableEq
def Ls.tot (x : Ls) : Nat := x.stem.length + x.loop.length
structure Ls.Ln (B : Nat) (x : Ls) : Prop where
  stem : LnI B x.stem
  loop : LnI B x.loop
theorem Ls.ln_of {B : Nat} {x : Ls} (h : x.tot ≤ B) : x.Ln B := by
  unfold Ls.tot at h
  exact ⟨LnI_of (by omega), LnI_of (by omega)⟩
def Ls.cnt (x : Ls) : Nat := x.stem.length + x.loop.length
theorem Ls.ln_mono {B C : Nat} (hB : B ≤ C) {x : Ls} (h : x.Ln B) : x.Ln C := ⟨LnI.mono hB h.stem, LnI.mono hB h.loop⟩
theorem Ls.cnt_le {x : Ls} (h : x.Ln 1048576) : x.cnt ≤ 2199023255552 := by
  have h0 := cnt_LI h.stem
  have h1 := cnt_LI h.loop
  unfold Ls.cnt
  omega
end Go.Proofs.Ytklconkoamoabaa

namespace Go.Proofs.Ytklconkoamoabaa
open Nat renaming reduceMod → zA, reduceMul → zB, reduceDiv → zC, reduceAdd → zD, reduceSub → zE, reduceEqDiff → zF, reduceBEq → zG, reduceLT → zH, reduceLeDiff → zI
open Go.RowKit
set_option linter.unusedVariables false
set_option linter.unusedSimpArgs false

structure Fm where
  names : List Int
  sets : List (List Int)
  deriving DecidableEq
def Fm.tot (x : Fm) : Nat := x.names.length + totII x.sets
structure Fm.Ln (B : Nat) (x : Fm) : Prop where
  names : LnI B x.names
  sets : LnII B x.sets
theorem Fm.ln_of {B : Nat} {x : Fm} (h : x.tot ≤ B) : x.Ln B := by
  unfold Fm.tot at h
  exact ⟨LnI_of (by omega), LnII_of (by omega)⟩
def Fm.cnt (x : Fm) : Nat := x.names.length + sumL x.sets
theorem Fm.ln_mono {B C : Nat} (hB : B ≤ C) {x : Fm} (h : x.Ln B) : x.Ln C := ⟨LnI.mono hB h.names, LnII.mono hB h.sets⟩
theorem Fm.cnt_le {x : Fm} (h : x.Ln 1048576) : x.cnt ≤ 2199023255552 := by
  have h0 := cnt_LI h.names
  have h1 := cnt_LII h.sets
  unfold Fm.cnt
  omega
end Go.Proofs.Ytklconkoamoabaa

namespace Go.Proofs.Ytklconkoamoabaa
open Nat renaming reduceMod → zA, reduceMul → zB, reduceDiv → zC, reduceAdd → zD, reduceSub → zE, reduceEqDiff → zF, reduceBEq → zG, reduceLT → zH, reduceLeDiff → zI
open Go.RowKit
set_option linter.unusedVariables false
set_option linter.unusedSimpArgs false

structure Pr where
  ask : List Int
  give : List Int
  deriving DecidableEq
def dPr (x : Pr) : List D := [DI x.ask, DI x.give]
def Pr.tot (x : Pr) : Nat := x.ask.length + x.give.length
structure Pr.Ln (B : Nat) (x : Pr) : Prop where
  ask : LnI B x.ask
  give : LnI B x.give
theorem Pr.ln_of {B : Nat} {x : Pr} (h : x.tot ≤ B) : x.Ln B := by
  unfold Pr.tot at h
  exact ⟨LnI_of (by omega), LnI_of (by omega)⟩
set_option maxHeartbeats 1000000 in
theorem szPr_fn (x : Pr) (l : Int) (h0 : 0 ≤ l) (h1 : l ≤ 1048576) (ha : x.Ln 9223372036854775807) : Fn Try.prog tyT 77 [.agg (dPr x), .c (.int .i64 l)] [.c (.int .i64 (szl l x.tot))] := by
  have ht : x.tot = x.ask.length + x.give.length := by unfold Pr.tot;  omega
  unfold dPr
  refine Fn_of (fn := Try.f77) (ts := [4]) Try.func77 (by kernel_rfl) rfl rfl (by rw [Try.ntmps77]; exact Nat.le_of_ble_eq_true rfl) rfl (by simp only [szA, List.mem_cons, List.not_mem_nil, or_false, forall_eq_or_imp, forall_eq, VT.cells, szL]; try decide) ?_
  rw [Try.ntmps77]
  simp only [push_cast, ↓brB_true, ↓brB_false, ↓reduceIte, zA, zB, zC, zD, zE, zF, zG, zH, zI, reduceCtorEq]
  refine awp_seq' fun K hK => ?_
  refine awp_region tyOk tyPos [] rfl ?_
  simp only [push_cast, ↓brB_true, ↓brB_false, ↓reduceIte, zA, zB, zC, zD, zE, zF, zG, zH, zI, reduceCtorEq]
  repeat' apply And.intro
  all_goals try exact gB
  all_goals first | (refine hK _ ?_; clear hK K) | (simp only [push_cast]; done)
  have hA := szI_fn x.ask (l) (by omega) (by omega) ha.ask
  refine awp_seq' fun K hK => ?_
  refine awp_region tyOk tyPos [] rfl ?_
  simp only [push_cast, ↓brB_true, ↓brB_false, ↓reduceIte, zA, zB, zC, zD, zE, zF, zG, zH, zI, reduceCtorEq]
  refine ⟨_, hA, ?_⟩
  simp only [push_cast, ↓brB_true, ↓brB_false, ↓reduceIte, zA, zB, zC, zD, zE, zF, zG, zH, zI, reduceCtorEq]
  repeat' apply And.intro
  all_goals try exact gB
  refine hK _ ?_
  clear hK K hA
  refine awp_seq' fun K0 hK0 => ?_
  refine awp_seq' fun K hK => ?_
  refine awp_region tyOk tyPos [] rfl ?_
  simp only [push_cast, ↓brB_true, ↓brB_false, ↓reduceIte, zA, zB, zC, zD, zE, zF, zG, zH, zI, reduceCtorEq]
  repeat' apply And.intro
  all_goals try exact gB
  all_goals first | (refine hK _ ?_; clear hK K) | (simp only [push_cast]; done)
  by_cases hn0 : (l) < (x.ask.length : Nat)
  · rw [szl_neg hn0]
    refine awp_cond rfl (fun hc => ?_) (fun hc => ?_) <;> (try simp only [push_cast] at hc)
    ·
      refine awp_seq' fun K hK => ?_
      refine awp_region tyOk tyPos [] rfl ?_
      simp only [push_cast, ↓brB_true, ↓brB_false, ↓reduceIte, zA, zB, zC, zD, zE, zF, zG, zH, zI, reduceCtorEq]
      repeat' apply And.intro
      all_goals try exact gB
      all_goals first | (refine hK _ ?_; clear hK K) | (simp only [push_cast]; done)
      refine awp_ret ?_
      (try simp only [AThen, ABlk])
      refine ⟨Or.inl rfl, ?_⟩
      simp only [RetOk, push_cast, ↓brB_true, ↓brB_false, ↓reduceIte, zA, zB, zC, zD, zE, zF, zG, zH, zI, reduceCtorEq]
      rw [szl_neg (by omega)]
    · exact absurd hc (by decide)
  · rw [szl_pos hn0]
    refine awp_cond rfl (fun hc => ?_) (fun hc => ?_) <;> (try simp only [push_cast] at hc)
    · exfalso; omega
    · refine awp_skip ?_
      (try simp only [AThen, ABlk, reduceIte, zF]); refine hK0 _ ?_
      have hA := szI_fn x.give (l - (x.ask.length : Nat)) (by omega) (by omega) ha.give
      refine awp_seq' fun K hK => ?_
      refine awp_region tyOk tyPos [] rfl ?_
      simp only [push_cast, ↓brB_true, ↓brB_false, ↓reduceIte, zA, zB, zC, zD, zE, zF, zG, zH, zI, reduceCtorEq]
      refine ⟨_, hA, ?_⟩
      simp only [push_cast, ↓brB_true, ↓brB_false, ↓reduceIte, zA, zB, zC, zD, zE, zF, zG, zH, zI, reduceCtorEq]
      repeat' apply And.intro
      all_goals try exact gB
      refine hK _ ?_
      clear hK K hA
      refine awp_seq' fun K1 hK1 => ?_
      refine awp_seq' fun K hK => ?_
      refine awp_region tyOk tyPos [] rfl ?_
      simp only [push_cast, ↓brB_true, ↓brB_false, ↓reduceIte, zA, zB, zC, zD, zE, zF, zG, zH, zI, reduceCtorEq]
      repeat' apply And.intro
      all_goals try exact gB
      all_goals first | (refine hK _ ?_; clear hK K) | (simp only [push_cast]; done)
      by_cases hn1 : (l - (x.ask.length : Nat)) < (x.give.length : Nat)
      · rw [szl_neg hn1]
        refine awp_cond rfl (fun hc => ?_) (fun hc => ?_) <;> (try simp only [push_cast] at hc)
        ·
          refine awp_seq' fun K hK => ?_
          refine awp_region tyOk tyPos [] rfl ?_
          simp only [push_cast, ↓brB_true, ↓brB_false, ↓reduceIte, zA, zB, zC, zD, zE, zF, zG, zH, zI, reduceCtorEq]
          repeat' apply And.intro
          all_goals try exact gB
          all_goals first | (refine hK _ ?_; clear hK K) | (simp only [push_cast]; done)
          refine awp_ret ?_
          (try simp only [AThen, ABlk])
          refine ⟨Or.inl rfl, ?_⟩
          simp only [RetOk, push_cast, ↓brB_true, ↓brB_false, ↓reduceIte, zA, zB, zC, zD, zE, zF, zG, zH, zI, reduceCtorEq]
          rw [szl_neg (by omega)]
        · exact absurd hc (by decide)
      · rw [szl_pos hn1]
        refine awp_cond rfl (fun hc => ?_) (fun hc => ?_) <;> (try simp only [push_cast] at hc)
        · exfalso; omega
        · refine awp_skip ?_
          (try simp only [AThen, ABlk, reduceIte, zF]); refine hK1 _ ?_
          refine awp_seq' fun K hK => ?_
          refine awp_region tyOk tyPos [] rfl ?_
          simp only [push_cast, ↓brB_true, ↓brB_false, ↓reduceIte, zA, zB, zC, zD, zE, zF, zG, zH, zI, reduceCtorEq]
          repeat' apply And.intro
          all_goals try exact gB
          all_goals first | (refine hK _ ?_; clear hK K) | (simp only [push_cast]; done)
          refine awp_ret ?_
          (try simp only [AThen, ABlk])
          refine ⟨Or.inl rfl, ?_⟩
          simp only [RetOk, push_cast, ↓brB_true, ↓brB_false, ↓reduceIte, zA, zB, zC, zD, zE, zF, zG, zH, zI, reduceCtorEq]
          rw [szl_pos (by omega)]; omega
set_option maxHeartbeats 1000000 in
theorem toPr_fn (x : Pr) (ha : x.Ln 1048576) : Fn Try.prog tyT 81 [.agg (dPr x)] [.agg (dPr x)] := by
  unfold dPr
  refine Fn_ofR (fn := Try.f81) (rs := [.cell 2 99]) tyOk tyPos Try.func81 (by kernel_rfl) rfl rfl (by rw [Try.ntmps81]; exact Nat.le_of_ble_eq_true rfl) rfl (by simp only [szA, List.mem_cons, List.not_mem_nil, or_false, forall_eq_or_imp, forall_eq, VT.cells, szL]; try decide) ?_
  rw [Try.ntmps81]
  simp only [push_cast, ↓brB_true, ↓brB_false, ↓reduceIte, zA, zB, zC, zD, zE, zF, zG, zH, zI, reduceCtorEq]
  refine awp_seq' fun K hK => ?_
  refine awp_region tyOk tyPos [] rfl ?_
  simp only [push_cast, ↓brB_true, ↓brB_false, ↓reduceIte, zA, zB, zC, zD, zE, zF, zG, zH, zI, reduceCtorEq]
  repeat' apply And.intro
  all_goals try exact gB
  all_goals first | (refine hK _ ?_; clear hK K) | (simp only [push_cast]; done)
  refine awp_seq' fun K hK => ?_
  refine awp_region tyOk tyPos [] rfl ?_
  simp only [push_cast, ↓brB_true, ↓brB_false, ↓reduceIte, zA, zB, zC, zD, zE, zF, zG, zH, zI, reduceCtorEq]
  repeat' apply And.intro
  all_goals try exact gB
  all_goals first | (refine hK _ ?_; clear hK K) | (simp only [push_cast]; done)
  have hA := toI_fn x.ask ha.ask
  refine awp_seq' fun K hK => ?_
  refine awp_region tyOk tyPos [] rfl ?_
  simp only [push_cast, ↓brB_true, ↓brB_false, ↓reduceIte, zA, zB, zC, zD, zE, zF, zG, zH, zI, reduceCtorEq]
  refine ⟨_, hA, ?_⟩
  simp only [push_cast, ↓brB_true, ↓brB_false, ↓reduceIte, zA, zB, zC, zD, zE, zF, zG, zH, zI, reduceCtorEq]
  repeat' apply And.intro
  all_goals try exact gB
  refine hK _ ?_
  clear hK K hA
  have hA := toI_fn x.give ha.give
  refine awp_seq' fun K hK => ?_
  refine awp_region tyOk tyPos [] rfl ?_
  simp only [push_cast, ↓brB_true, ↓brB_false, ↓reduceIte, zA, zB, zC, zD, zE, zF, zG, zH, zI, reduceCtorEq]
  refine ⟨_, hA, ?_⟩
  simp only [push_cast, ↓brB_true, ↓brB_false, ↓reduceIte, zA, zB, zC, zD, zE, zF, zG, zH, zI, reduceCtorEq]
  repeat' apply And.intro
  all_goals try exact gB
  refine hK _ ?_
  clear hK K hA
  refine awp_seq' fun K hK => ?_
  refine awp_region tyOk tyPos [] rfl ?_
  simp only [push_cast, ↓brB_true, ↓brB_false, ↓reduceIte, zA, zB, zC, zD, zE, zF, zG, zH, zI, reduceCtorEq]
  repeat' apply And.intro
  all_goals try exact gB
  all_goals first | (refine hK _ ?_; clear hK K) | (simp only [push_cast]; done)
  refine awp_ret ?_
  (try simp only [AThen, ABlk])
  refine ⟨Or.inl rfl, ?_⟩
  simp only [RetOk, resVars, resVar, push_cast, ↓brB_true, ↓brB_false, ↓reduceIte, zA, zB, zC, zD, zE, zF, zG, zH, zI, reduceCtorEq]
  try rfl
set_option maxHeartbeats 1000000 in
theorem eqPr_fn (x : Pr) (ha : x.Ln 1048576) : Fn Try.prog tyT 84 [.agg (dPr x), .agg (dPr x)] [.c (.bool true)] := by
  unfold dPr
  refine Fn_of (fn := Try.f84) (ts := [4]) Try.func84 (by kernel_rfl) rfl rfl (by rw [Try.ntmps84]; exact Nat.le_of_ble_eq_true rfl) rfl (by simp only [szA, List.mem_cons, List.not_mem_nil, or_false, forall_eq_or_imp, forall_eq, VT.cells, szL]; try decide) ?_
  rw [Try.ntmps84]
  simp only [push_cast, ↓brB_true, ↓brB_false, ↓reduceIte, zA, zB, zC, zD, zE, zF, zG, zH, zI, reduceCtorEq]
  refine awp_seq' fun K hK => ?_
  refine awp_region tyOk tyPos [] rfl ?_
  simp only [push_cast, ↓brB_true, ↓brB_false, ↓reduceIte, zA, zB, zC, zD, zE, zF, zG, zH, zI, reduceCtorEq]
  repeat' apply And.intro
  all_goals try exact gB
  all_goals first | (refine hK _ ?_; clear hK K) | (simp only [push_cast]; done)
  refine awp_seq' fun K0 hK0 => ?_
  have hA := eqI2_fn x.ask ha.ask
  refine awp_seq' fun K hK => ?_
  refine awp_region tyOk tyPos [] rfl ?_
  simp only [push_cast, ↓brB_true, ↓brB_false, ↓reduceIte, zA, zB, zC, zD, zE, zF, zG, zH, zI, reduceCtorEq]
  refine ⟨_, hA, ?_⟩
  simp only [push_cast, ↓brB_true, ↓brB_false, ↓reduceIte, zA, zB, zC, zD, zE, zF, zG, zH, zI, reduceCtorEq]
  repeat' apply And.intro
  all_goals try exact gB
  refine hK _ ?_
  clear hK K hA
  refine awp_cond rfl (fun hc => by cases hc) (fun _ => ?_)
  refine awp_skip ?_
  (try simp only [AThen, ABlk, reduceIte, zF]); refine hK0 _ ?_
  refine awp_seq' fun K1 hK1 => ?_
  have hA := eqI2_fn x.give ha.give
  refine awp_seq' fun K hK => ?_
  refine awp_region tyOk tyPos [] rfl ?_
  simp only [push_cast, ↓brB_true, ↓brB_false, ↓reduceIte, zA, zB, zC, zD, zE, zF, zG, zH, zI, reduceCtorEq]
  refine ⟨_, hA, ?_⟩
  simp only [push_cast, ↓brB_true, ↓brB_false, ↓reduceIte, zA, zB, zC, zD, zE, zF, zG, zH, zI, reduceCtorEq]
  repeat' apply And.intro
  all_goals try exact gB
  refine hK _ ?_
  clear hK K hA
  refine awp_cond rfl (fun hc => by cases hc) (fun _ => ?_)
  refine awp_skip ?_
  (try simp only [AThen, ABlk, reduceIte, zF]); refine hK1 _ ?_
  refine awp_seq' fun K hK => ?_
  refine awp_region tyOk tyPos [] rfl ?_
  simp only [push_cast, ↓brB_true, ↓brB_false, ↓reduceIte, zA, zB, zC, zD, zE, zF, zG, zH, zI, reduceCtorEq]
  repeat' apply And.intro
  all_goals try exact gB
  all_goals first | (refine hK _ ?_; clear hK K) | (simp only [push_cast]; done)
  refine awp_ret ?_
  (try simp only [AThen, ABlk])
  refine ⟨Or.inl rfl, ?_⟩
  simp only [RetOk, push_cast, ↓brB_true, ↓brB_false, ↓reduceIte, zA, zB, zC, zD, zE, zF, zG, zH, zI, reduceCtorEq]
def Pr.cnt (x : Pr) : Nat := x.ask.length + x.give.length
theorem Pr.ln_mono {B C : Nat} (hB : B ≤ C) {x : Pr} (h : x.Ln B) : x.Ln C := ⟨LnI.mono hB h.ask, LnI.mono hB h.give⟩
theorem Pr.cnt_le {x : Pr} (h : x.Ln 1048576) : x.cnt ≤ 2199023255552 := by
  have h0 := cnt_LI h.ask
  have h1 := cnt_LI h.give
  unfold Pr.cnt
  omega
end Go.Proofs.Ytklconkoamoabaa

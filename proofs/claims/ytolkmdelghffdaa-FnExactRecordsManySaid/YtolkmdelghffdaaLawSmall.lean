/- The walks and the rows of the statements on RecordsMany and SigOk. -/
import Derived.Test.YtolkmdelghffdaaFrac
import Derived.Deep.RegionHeld3
namespace Go.Proofs.Ytolkmdelghffdaa.small
open Go.ChangeShapes Go.WideShapes Go.ChangeAt Go.RowKit Go.Joins
set_option linter.unusedVariables false
set_option linter.unusedSimpArgs false

theorem own_law : ownKnob Try.prog.godebug = none := by kernel_rfl
theorem lay_law : laidOutB Try.prog = true := by kernel_rfl

def fac : Nat → Int
  | 0 => 1
  | n + 1 => ((n : Int) + 1) * fac n

theorem fac_le (n : Nat) (h : n ≤ 4) : 1 ≤ fac n ∧ fac n ≤ 24 := by
  match n, h with
  | 0, _ => decide
  | 1, _ => decide
  | 2, _ => decide
  | 3, _ => decide
  | 4, _ => decide

def manyOf (k : Int) : Int := if inB k 0 4 then fac k.toNat else 0

theorem manyI (k : Int) (w : World) :
    Calls Try.prog 12 #[.int .i64 k] w fun e w' => e = .returned (.int .i64 (manyOf k)) ∧ w = w' := by
  by_cases h : inB k 0 4 = true
  · have hm : manyOf k = fac k.toNat := by unfold manyOf; rw [if_pos h]
    rw [hm]; clear hm
    have h0 := inB_true h
    obtain ⟨n, rfl⟩ := Int.eq_ofNat_of_zero_le h0.1
    have hn : n ≤ 4 := by omega
    have h1 : ¬ (n : Int) < 0 := by omega
    have h2 : ¬ 4 < (n : Int) := by omega
    clear h0
    rw [Int.toNat_natCast]
    go_enter Try.func12, Try.ntmps12
    go_wp2_with fail
    go_loop [3, 4] (fun o i => ∃ j : Nat, 1 ≤ j ∧ j ≤ 4 ∧ (j ≤ n ∨ j = 1) ∧ o = .int .i64 (fac j) ∧ i = .int .i64 (j + 1)) (fun _ i => n + 1 - (intOf i).toNat)
    case atStart => exact ⟨1, by omega, by omega, by omega, rfl, rfl⟩
    case round =>
      obtain ⟨j, hj1, hj4, hjn, rfl, rfl⟩ := hrel
      have hf := fac_le j hj4
      by_cases hlt : j < n
      · have hm1 : fac j * ((j : Int) + 1) = fac (j + 1) := by rw [Int.mul_comm]; rfl
        have H := Lib.hid hm1; clear hm1
        have hf2 := fac_le (j + 1) (by omega)
        have hb : fac j * ((j : Int) + 1) ≤ 24 := by rw [H.out]; exact hf2.2
        have hb2 : 1 ≤ fac j * ((j : Int) + 1) := by rw [H.out]; exact hf2.1
        go_wp2
        go_round
        case rel => exact ⟨j + 1, by omega, by omega, by omega, by rw [← H.out], by go_num⟩
        case measure => simp [intOf]; omega
      · go_wp2
        go_ret
        refine ⟨?_, rfl⟩
        rcases hjn with h | h
        · have : j = n := by omega
          subst this; rfl
        · subst h
          match n, hlt with
          | 0, _ => rfl
          | 1, _ => rfl
  · have h : inB k 0 4 = false := by simpa using h
    have hm : manyOf k = 0 := by unfold manyOf; rw [h]; rfl
    rw [hm]; clear hm
    have h0 : k < 0 ∨ (¬ k < 0 ∧ 4 < k) := by unfold inB at h; simp at h; omega
    rcases h0 with h1 | ⟨h1, h2⟩
    all_goals
      go_enter Try.func12, Try.ntmps12
      go_wp2_with fail
      go_ret
      exact ⟨rfl, rfl⟩

theorem manyS (k : Int) (w : World) :
    Calls Try.prog 11 #[.int .i64 k] w fun e w' => e = .returned (.int .i64 (manyOf k)) ∧ w = w' := by
  by_cases h : inB k 0 4 = true
  · have hm : manyOf k = fac k.toNat := by unfold manyOf; rw [if_pos h]
    rw [hm]; clear hm
    have h0 := inB_true h
    obtain ⟨n, rfl⟩ := Int.eq_ofNat_of_zero_le h0.1
    have hn : n ≤ 4 := by omega
    have h1 : ¬ (n : Int) < 0 := by omega
    have h2 : ¬ 4 < (n : Int) := by omega
    clear h0
    rw [Int.toNat_natCast]
    go_enter Try.func11, Try.ntmps11
    go_wp2_with (go_at_call 21; refine (l1In_any _ _ _ _).mono ?_; rintro e w' ⟨rfl, rfl⟩)
    go_loop [3, 4] (fun o i => ∃ j : Nat, 1 ≤ j ∧ j ≤ 4 ∧ (j ≤ n ∨ j = 1) ∧ o = .int .i64 (fac j) ∧ i = .int .i64 (j + 1)) (fun _ i => n + 1 - (intOf i).toNat)
    case atStart => exact ⟨1, by omega, by omega, by omega, rfl, rfl⟩
    case round =>
      obtain ⟨j, hj1, hj4, hjn, rfl, rfl⟩ := hrel
      have hf := fac_le j hj4
      by_cases hlt : j < n
      · have hm1 : fac j * ((j : Int) + 1) = fac (j + 1) := by rw [Int.mul_comm]; rfl
        have H := Lib.hid hm1; clear hm1
        have hf2 := fac_le (j + 1) (by omega)
        have hb : fac j * ((j : Int) + 1) ≤ 24 := by rw [H.out]; exact hf2.2
        have hb2 : 1 ≤ fac j * ((j : Int) + 1) := by rw [H.out]; exact hf2.1
        go_wp2
        go_round
        case rel => exact ⟨j + 1, by omega, by omega, by omega, by rw [← H.out], by go_num⟩
        case measure => simp [intOf]; omega
      · go_wp2
        go_ret
        refine ⟨?_, rfl⟩
        rcases hjn with h | h
        · have : j = n := by omega
          subst this; rfl
        · subst h
          match n, hlt with
          | 0, _ => rfl
          | 1, _ => rfl
  · have h : inB k 0 4 = false := by simpa using h
    have hm : manyOf k = 0 := by unfold manyOf; rw [h]; rfl
    rw [hm]; clear hm
    have h0 : k < 0 ∨ (¬ k < 0 ∧ 4 < k) := by unfold inB at h; simp at h; omega
    rcases h0 with h1 | ⟨h1, h2⟩
    all_goals
      go_enter Try.func11, Try.ntmps11
      go_wp2_with (go_at_call 21; refine (l1In_any _ _ _ _).mono ?_; rintro e w' ⟨rfl, rfl⟩)
      go_ret
      exact ⟨rfl, rfl⟩

theorem law_RecordsMany (k : Int) (w : World) :
    Calls Try.prog 4 #[.int .i64 k] w fun e w' => e = .returned (.bool true) ∧ Below w.heap.size w w' := by
  go_enter Try.func4, Try.ntmps4
  go_wp2_with (first | (go_at_call 11; refine (manyS _ _).mono ?_; rintro e w' ⟨rfl, rfl⟩) | (go_at_call 12; refine (manyI _ _).mono ?_; rintro e w' ⟨rfl, rfl⟩))
  go_ret
  exact ⟨rfl, by repeat (first | exact Below.refl _ _ | assumption | refine Below.drew ?_ | refine below_drewN ?_ _ | refine Below.setCell ?_ (by first | omega | (simp; done) | (simp; omega)) _ | refine Below.alloc ?_ (by first | omega | (simp; done) | (simp; omega)) _ | (refine Below.trans ?_ (Below.mono (by assumption) (by first | omega | (simp; done) | (simp; omega)))))⟩

set_option maxRecDepth 100000 in
theorem ExactRecordsMany_lifted (os : Os) (started : os.Started) (H : Type) (enc : TypeId × Value → H) :
    ReturnsInHanded {} Try.checked os 4 .any (Rows.fnExactRecordsManySpec.pre6 enc Try.prog Try.f4 Rows.fnExactRecordsManyRow.domain false) (Rows.fnExactRecordsManySpec.post enc Try.prog Try.f4 false true false false) := by
  refine returnsInHanded_of_change (C := Try.checked) own_law started (by kernel_rfl) Try.func4
    (ChangeSpec.witness6 (enc := enc) (C := Try.checked) false ⟨#[], #[.int .i64 0], []⟩ 8 (by kernel_rfl) (by kernel_rfl) (by kernel_rfl) (by kernel_rfl)) ?_
  intro W base args ds gs before hval0 hW hcnd _
  have hval : ∀ (j : Nat) t v, Try.f4.params[j]? = some t → args[j]? = some v → Value.okWide Try.prog W .any base t v := hval0
  have hW0 := hW
  obtain ⟨p, q, hA0, hV, rfl, hfz, hnd⟩ := hW
  have hA : DataW.TrodAll enc Try.prog W 0 (fun _ => true) true Try.f4.params.toList args.toList ds p := hA0
  obtain ⟨rfl, rfl⟩ := trodVars_none hV
  have hlt : ∀ x ∈ p, x.block < W.heap.size := fun x hx => hW0.lt x (by simp [hx])
  rw [Try.params4] at hA hval
  clear hA0 hval0 hV
  obtain ⟨v0, vs0, d0, ds0, p0, q0, hargs, rfl, rfl, h0, r0⟩ := trodAll_cons hA
  obtain ⟨rfl, rfl, rfl⟩ := trodAll_nil r0
  obtain rfl : args = #[v0] := by cases args; simp_all
  obtain ⟨a, rfl, rfl, rfl, wa⟩ := open_int Try.underlying2 (hval 0 _ v0 rfl rfl) h0
  refine (law_RecordsMany a W).mono fun e W' he => ?_
  obtain ⟨rfl, hb⟩ := he
  exact ⟨_, rfl, law_post lay_law (by rw [Try.params4]; decide +kernel) (by kernel_rfl) Try.underlying4 rfl hW0 rfl rfl rfl hb (fun W' => okWide_bool_mk Try.underlying4 true)⟩

theorem ExactRecordsMany_over : Rows.fnExactRecordsManyRow.holds Try.pinned (OpenSpec.ofChange Rows.fnExactRecordsManySpec) :=
  OpenClaim.holds_of_wide 4 Try.f4 rfl rfl rfl rfl rfl rfl rfl ⟨rfl, rfl, rfl, rfl, rfl⟩ rfl rfl rfl rfl rfl (by kernel_rfl) Try.func4 (by kernel_rfl)
    (of_decide_eq_true (by kernel_rfl)) (by unfold Func.isWrapper; first | (rw [if_pos (by decide +kernel)]; kernel_rfl) | (rw [if_neg (by decide +kernel)]; exact ⟨rfl, rfl⟩))
    (fun os started H enc _ => ExactRecordsMany_lifted os started H enc)

/-- The given statement on ExactRecordsMany. -/
theorem ExactRecordsMany_holds : Rows.FnExactRecordsManySaid := ExactRecordsMany_over

def sigOk (a b : Int) : Bool := inB a 1 2 && inB b 1 2

theorem toSig_any (n d : Int) (w : World) :
    Calls Try.prog 9 #[.agg #[.int .i64 n, .int .i64 d]] w fun e w' => e = .returned (.agg #[.int .i64 n, .int .i64 d]) ∧ Below w.heap.size w w' := by
  go_enter Try.func9, Try.ntmps9
  go_wp2
  exact bodyPost_ret (v := .agg #[.int .i64 n, .int .i64 d]) (by simp [results, Try.results9, go_sem]) rfl ⟨rfl, by repeat (first | exact Below.refl _ _ | assumption | refine Below.drew ?_ | refine below_drewN ?_ _ | refine Below.setCell ?_ (by first | omega | (simp; done) | (simp; omega)) _ | refine Below.alloc ?_ (by first | omega | (simp; done) | (simp; omega)) _ | (refine Below.trans ?_ (Below.mono (by assumption) (by first | omega | (simp; done) | (simp; omega)))))⟩

theorem sigS (a b : Int) (w : World) :
    Calls Try.prog 8 #[.agg #[.int .i64 a, .int .i64 b]] w fun e w' => e = .returned (.bool (sigOk a b)) ∧ Below w.heap.size w w' := by
  unfold sigOk
  rcases h1 : inB a 1 2 <;> rcases h2 : inB b 1 2 <;> simp only [Bool.and_true, Bool.and_false, Bool.true_and, Bool.false_and]
  all_goals
    go_enter Try.func8, Try.ntmps8
    go_wp2_with (go_at_call 21; refine (l1In_any _ _ _ _).mono ?_; rintro e w' ⟨rfl, rfl⟩)
    go_ret
    exact ⟨rfl, by repeat (first | exact Below.refl _ _ | assumption | refine Below.drew ?_ | refine below_drewN ?_ _ | refine Below.setCell ?_ (by first | omega | (simp; done) | (simp; omega)) _ | refine Below.alloc ?_ (by first | omega | (simp; done) | (simp; omega)) _ | (refine Below.trans ?_ (Below.mono (by assumption) (by first | omega | (simp; done) | (simp; omega)))))⟩

theorem isSig_any (a b : Int) (w : World) :
    Calls Try.prog 22 #[.agg #[.int .i64 a, .int .i64 b]] w fun e w' => e = .returned (.bool (sigOk a b)) ∧ Below w.heap.size w w' := by
  by_cases h1 : 1 ≤ a
  all_goals by_cases h2 : a ≤ 2
  all_goals by_cases h3 : 1 ≤ b
  all_goals by_cases h4 : b ≤ 2
  all_goals try (exfalso; omega)
  all_goals
    go_enter Try.func22, Try.ntmps22
    go_wp2
    all_goals
      go_ret
      exact ⟨ret_bool (by unfold sigOk inB; rw [Bool.eq_iff_iff]; simp; omega), by repeat (first | exact Below.refl _ _ | assumption | refine Below.drew ?_ | refine below_drewN ?_ _ | refine Below.setCell ?_ (by first | omega | (simp; done) | (simp; omega)) _ | refine Below.alloc ?_ (by first | omega | (simp; done) | (simp; omega)) _ | (refine Below.trans ?_ (Below.mono (by assumption) (by first | omega | (simp; done) | (simp; omega)))))⟩

theorem sigI (a b : Int) (w : World) :
    Calls Try.prog 10 #[.agg #[.int .i64 a, .int .i64 b]] w fun e w' => e = .returned (.bool (sigOk a b)) ∧ Below w.heap.size w w' := by
  go_enter Try.func10, Try.ntmps10
  go_wp2_with (go_at_call 22; refine (isSig_any _ _ _).mono ?_; rintro e w1 ⟨rfl, hb⟩; have hz := hb.size; (try simp at hz); (try (refine bat_k hb w.heap.size ?_ ?_; (focus first | omega | (simp; done) | (simp; omega)); intro hc0 hf0 hs0)); (try (refine bat_k hb (w.heap.size + 1) ?_ ?_; (focus first | omega | (simp; done) | (simp; omega)); intro hc1 hf1 hs1)))
  go_ret
  exact ⟨rfl, by repeat (first | exact Below.refl _ _ | assumption | refine Below.drew ?_ | refine below_drewN ?_ _ | refine Below.setCell ?_ (by first | omega | (simp; done) | (simp; omega)) _ | refine Below.alloc ?_ (by first | omega | (simp; done) | (simp; omega)) _ | (refine Below.trans ?_ (Below.mono (by assumption) (by first | omega | (simp; done) | (simp; omega)))))⟩

theorem law_SigOk (n d : Int) (w : World) :
    Calls Try.prog 3 #[.agg #[.int .i64 n, .int .i64 d]] w fun e w' => e = .returned (.bool true) ∧ Below w.heap.size w w' := by
  go_enter Try.func3, Try.ntmps3
  go_wp2_with (first | (go_at_call 9; refine (toSig_any _ _ _).mono ?_; rintro e w1 ⟨rfl, hb⟩; have hz := hb.size; (try simp at hz); (try (refine bat_k hb w.heap.size ?_ ?_; (focus first | omega | (simp; done) | (simp; omega)); intro hc0 hf0 hs0)); (try (refine bat_k hb (w.heap.size + 1) ?_ ?_; (focus first | omega | (simp; done) | (simp; omega)); intro hc1 hf1 hs1))) | (go_at_call 8; refine (sigS _ _ _).mono ?_; rintro e w1 ⟨rfl, hb⟩; have hz := hb.size; (try simp at hz); (try (refine bat_k hb w.heap.size ?_ ?_; (focus first | omega | (simp; done) | (simp; omega)); intro hc0 hf0 hs0)); (try (refine bat_k hb (w.heap.size + 1) ?_ ?_; (focus first | omega | (simp; done) | (simp; omega)); intro hc1 hf1 hs1))) | (go_at_call 10; refine (sigI _ _ _).mono ?_; rintro e w1 ⟨rfl, hb⟩; have hz := hb.size; (try simp at hz); (try (refine bat_k hb w.heap.size ?_ ?_; (focus first | omega | (simp; done) | (simp; omega)); intro hc0 hf0 hs0)); (try (refine bat_k hb (w.heap.size + 1) ?_ ?_; (focus first | omega | (simp; done) | (simp; omega)); intro hc1 hf1 hs1))))
  go_ret
  exact ⟨rfl, by repeat (first | exact Below.refl _ _ | assumption | refine Below.drew ?_ | refine below_drewN ?_ _ | refine Below.setCell ?_ (by first | omega | (simp; done) | (simp; omega)) _ | refine Below.alloc ?_ (by first | omega | (simp; done) | (simp; omega)) _ | (refine Below.trans ?_ (Below.mono (by assumption) (by first | omega | (simp; done) | (simp; omega)))))⟩

theorem open_sig {H : Type} {enc : TypeId × Value → H} {W : World} {base : Nat} {v : Value} {d : DataW H} {p : List MemPlace}
    (hv : Value.okWide Try.prog W .any base 23 v) (h : DataW.Trod enc Try.prog W 0 (fun _ => true) true 23 v d p) : ∃ a b : Int, v = .agg #[.int .i64 a, .int .i64 b] := by
  obtain ⟨c0, c1, y0, y1, m, rfl, _, _, hy0, hy1⟩ := open_agg2 Try.underlying23 (by kernel_rfl) (by kernel_rfl) hv h
  obtain ⟨a, e0, _, wa⟩ := DataW.trod_int Try.underlying2 hy0
  obtain ⟨b, e1, _, wb⟩ := DataW.trod_int Try.underlying2 hy1
  simp at e0 e1
  subst e0 e1
  exact ⟨a, b, rfl⟩

set_option maxRecDepth 100000 in
theorem ExactSigOk_lifted (os : Os) (started : os.Started) (H : Type) (enc : TypeId × Value → H) :
    ReturnsInHanded {} Try.checked os 3 .any (Rows.fnExactSigOkSpec.pre6 enc Try.prog Try.f3 Rows.fnExactSigOkRow.domain false) (Rows.fnExactSigOkSpec.post enc Try.prog Try.f3 false true false false) := by
  refine returnsInHanded_of_change (C := Try.checked) own_law started (by kernel_rfl) Try.func3
    (ChangeSpec.witness6 (enc := enc) (C := Try.checked) false ⟨#[], #[.agg #[.int .i64 0, .int .i64 0]], []⟩ 8 (by kernel_rfl) (by kernel_rfl) (by kernel_rfl) (by kernel_rfl)) ?_
  intro W base args ds gs before hval0 hW hcnd _
  have hval : ∀ (j : Nat) t v, Try.f3.params[j]? = some t → args[j]? = some v → Value.okWide Try.prog W .any base t v := hval0
  have hW0 := hW
  obtain ⟨p, q, hA0, hV, rfl, hfz, hnd⟩ := hW
  have hA : DataW.TrodAll enc Try.prog W 0 (fun _ => true) true Try.f3.params.toList args.toList ds p := hA0
  obtain ⟨rfl, rfl⟩ := trodVars_none hV
  have hlt : ∀ x ∈ p, x.block < W.heap.size := fun x hx => hW0.lt x (by simp [hx])
  rw [Try.params3] at hA hval
  clear hA0 hval0 hV
  obtain ⟨v0, vs0, d0, ds0, p0, q0, hargs, rfl, rfl, h0, r0⟩ := trodAll_cons hA
  obtain ⟨rfl, rfl, rfl⟩ := trodAll_nil r0
  obtain rfl : args = #[v0] := by cases args; simp_all
  obtain ⟨a, b, rfl⟩ := open_sig (hval 0 _ v0 rfl rfl) h0
  refine (law_SigOk a b W).mono fun e W' he => ?_
  obtain ⟨rfl, hb⟩ := he
  exact ⟨_, rfl, law_post lay_law (by rw [Try.params3]; decide +kernel) (by kernel_rfl) Try.underlying4 rfl hW0 rfl rfl rfl hb (fun W' => okWide_bool_mk Try.underlying4 true)⟩

theorem ExactSigOk_over : Rows.fnExactSigOkRow.holds Try.pinned (OpenSpec.ofChange Rows.fnExactSigOkSpec) :=
  OpenClaim.holds_of_wide 3 Try.f3 rfl rfl rfl rfl rfl rfl rfl ⟨rfl, rfl, rfl, rfl, rfl⟩ rfl rfl rfl rfl rfl (by kernel_rfl) Try.func3 (by kernel_rfl)
    (of_decide_eq_true (by kernel_rfl)) (by unfold Func.isWrapper; first | (rw [if_pos (by decide +kernel)]; kernel_rfl) | (rw [if_neg (by decide +kernel)]; exact ⟨rfl, rfl⟩))
    (fun os started H enc _ => ExactSigOk_lifted os started H enc)

/-- The given statement on ExactSigOk. -/
theorem ExactSigOk_holds : Rows.FnExactSigOkSaid := ExactSigOk_over
end Go.Proofs.Ytolkmdelghffdaa.small

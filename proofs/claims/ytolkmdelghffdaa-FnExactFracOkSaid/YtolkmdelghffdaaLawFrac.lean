/- The walks and the rows of the statements on fractions. -/
import Derived.Test.YtolkmdelghffdaaFracOf
import Derived.Deep.RegionHeld3
namespace Go.Proofs.Ytolkmdelghffdaa
open Go.ChangeShapes Go.WideShapes Go.ChangeAt Go.RowKit Go.Joins
set_option linter.unusedVariables false
set_option linter.unusedSimpArgs false

theorem own_law : ownKnob Try.prog.godebug = none := by kernel_rfl
theorem lay_law : laidOutB Try.prog = true := by kernel_rfl

theorem law_FracLess (n d m f : Int) (w : World) :
    Calls Try.prog 6 #[.agg #[.int .i64 n, .int .i64 d], .agg #[.int .i64 m, .int .i64 f]] w fun e w' => e = .returned (.bool true) ∧ Below w.heap.size w w' := by
  go_enter Try.func6, Try.ntmps6
  go_wp2_with fail
  go_region_held3 (fun w' => (w'.cell? ⟨w.heap.size, 0, none⟩ = some (.int .i64 n) ∧ w'.cell? ⟨w.heap.size, 1, none⟩ = some (.int .i64 d)) ∧ w'.cell? ⟨w.heap.size + 1, 0, none⟩ = some (.int .i64 m) ∧ w'.cell? ⟨w.heap.size + 1, 1, none⟩ = some (.int .i64 f)) (go_keep)
    (first | (go_at_call 14; refine (toFrac_any _ _ _).mono ?_; rintro e w1 ⟨rfl, hb⟩; have hz := hb.size; (try simp at hz); (try (refine bat_k hb w.heap.size ?_ ?_; (focus first | omega | (simp; done) | (simp; omega)); intro hc0 hf0 hs0)); (try (refine bat_k hb (w.heap.size + 1) ?_ ?_; (focus first | omega | (simp; done) | (simp; omega)); intro hc1 hf1 hs1))) | (go_at_call 16; refine (FracLessS_any _ _ _ _ _).mono ?_; rintro e w1 ⟨rfl, hb⟩; have hz := hb.size; (try simp at hz); (try (refine bat_k hb w.heap.size ?_ ?_; (focus first | omega | (simp; done) | (simp; omega)); intro hc0 hf0 hs0)); (try (refine bat_k hb (w.heap.size + 1) ?_ ?_; (focus first | omega | (simp; done) | (simp; omega)); intro hc1 hf1 hs1))))
  go_wp2_with fail
  go_region_held3 (fun w' => (w'.cell? ⟨w.heap.size, 0, none⟩ = some (.int .i64 n) ∧ w'.cell? ⟨w.heap.size, 1, none⟩ = some (.int .i64 d)) ∧ w'.cell? ⟨w.heap.size + 1, 0, none⟩ = some (.int .i64 m) ∧ w'.cell? ⟨w.heap.size + 1, 1, none⟩ = some (.int .i64 f)) (go_keep)
    (first | (go_at_call 14; refine (toFrac_any _ _ _).mono ?_; rintro e w1 ⟨rfl, hb⟩; have hz := hb.size; (try simp at hz); (try (refine bat_k hb w.heap.size ?_ ?_; (focus first | omega | (simp; done) | (simp; omega)); intro hc0 hf0 hs0)); (try (refine bat_k hb (w.heap.size + 1) ?_ ?_; (focus first | omega | (simp; done) | (simp; omega)); intro hc1 hf1 hs1))) | (go_at_call 17; refine (FracLessI_any _ _ _ _ _).mono ?_; rintro e w1 ⟨rfl, hb⟩; have hz := hb.size; (try simp at hz); (try (refine bat_k hb w.heap.size ?_ ?_; (focus first | omega | (simp; done) | (simp; omega)); intro hc0 hf0 hs0)); (try (refine bat_k hb (w.heap.size + 1) ?_ ?_; (focus first | omega | (simp; done) | (simp; omega)); intro hc1 hf1 hs1))))
  go_wp2
  go_ret
  exact ⟨rfl, by repeat (first | exact Below.refl _ _ | assumption | refine Below.drew ?_ | refine below_drewN ?_ _ | refine Below.setCell ?_ (by first | omega | (simp; done) | (simp; omega)) _ | refine Below.alloc ?_ (by first | omega | (simp; done) | (simp; omega)) _ | (refine Below.trans ?_ (Below.mono (by assumption) (by first | omega | (simp; done) | (simp; omega)))))⟩

theorem open_frac {H : Type} {enc : TypeId × Value → H} {W : World} {base : Nat} {v : Value} {d : DataW H} {p : List MemPlace}
    (hv : Value.okWide Try.prog W .any base 31 v) (h : DataW.Trod enc Try.prog W 0 (fun _ => true) true 31 v d p) : ∃ a b : Int, v = .agg #[.int .i64 a, .int .i64 b] := by
  obtain ⟨c0, c1, y0, y1, m, rfl, _, _, hy0, hy1⟩ := open_agg2 Try.underlying31 (by kernel_rfl) (by kernel_rfl) hv h
  obtain ⟨a, e0, _, wa⟩ := DataW.trod_int Try.underlying2 hy0
  obtain ⟨b, e1, _, wb⟩ := DataW.trod_int Try.underlying2 hy1
  simp at e0 e1
  subst e0 e1
  exact ⟨a, b, rfl⟩

set_option maxRecDepth 100000 in
theorem ExactFracLess_lifted (os : Os) (started : os.Started) (H : Type) (enc : TypeId × Value → H) :
    ReturnsInHanded {} Try.checked os 6 .any (Rows.fnExactFracLessSpec.pre6 enc Try.prog Try.f6 Rows.fnExactFracLessRow.domain false) (Rows.fnExactFracLessSpec.post enc Try.prog Try.f6 false true false false) := by
  refine returnsInHanded_of_change (C := Try.checked) own_law started (by kernel_rfl) Try.func6
    (ChangeSpec.witness6 (enc := enc) (C := Try.checked) false ⟨#[], #[.agg #[.int .i64 0, .int .i64 0], .agg #[.int .i64 0, .int .i64 0]], []⟩ 8 (by kernel_rfl) (by kernel_rfl) (by kernel_rfl) (by kernel_rfl)) ?_
  intro W base args ds gs before hval0 hW hcnd _
  have hval : ∀ (j : Nat) t v, Try.f6.params[j]? = some t → args[j]? = some v → Value.okWide Try.prog W .any base t v := hval0
  have hW0 := hW
  obtain ⟨p, q, hA0, hV, rfl, hfz, hnd⟩ := hW
  have hA : DataW.TrodAll enc Try.prog W 0 (fun _ => true) true Try.f6.params.toList args.toList ds p := hA0
  obtain ⟨rfl, rfl⟩ := trodVars_none hV
  have hlt : ∀ x ∈ p, x.block < W.heap.size := fun x hx => hW0.lt x (by simp [hx])
  rw [Try.params6] at hA hval
  clear hA0 hval0 hV
  obtain ⟨v0, vs0, d0, ds0, p0, q0, hargs, rfl, rfl, h0, r0⟩ := trodAll_cons hA
  obtain ⟨v1, vs1, d1, ds1, p1, q1, rfl, rfl, rfl, h1, r1⟩ := trodAll_cons r0
  obtain ⟨rfl, rfl, rfl⟩ := trodAll_nil r1
  obtain rfl : args = #[v0, v1] := by cases args; simp_all
  obtain ⟨a, b, rfl⟩ := open_frac (hval 0 _ v0 rfl rfl) h0
  obtain ⟨c, d, rfl⟩ := open_frac (hval 1 _ v1 rfl rfl) h1
  refine (law_FracLess a b c d W).mono fun e W' he => ?_
  obtain ⟨rfl, hb⟩ := he
  exact ⟨_, rfl, law_post lay_law (by rw [Try.params6]; decide +kernel) (by kernel_rfl) Try.underlying4 rfl hW0 rfl rfl rfl hb (fun W' => okWide_bool_mk Try.underlying4 true)⟩

theorem ExactFracLess_over : Rows.fnExactFracLessRow.holds Try.pinned (OpenSpec.ofChange Rows.fnExactFracLessSpec) :=
  OpenClaim.holds_of_wide 6 Try.f6 rfl rfl rfl rfl rfl rfl rfl ⟨rfl, rfl, rfl, rfl, rfl⟩ rfl rfl rfl rfl rfl (by kernel_rfl) Try.func6 (by kernel_rfl)
    (of_decide_eq_true (by kernel_rfl)) (by unfold Func.isWrapper; first | (rw [if_pos (by decide +kernel)]; kernel_rfl) | (rw [if_neg (by decide +kernel)]; exact ⟨rfl, rfl⟩))
    (fun os started H enc _ => ExactFracLess_lifted os started H enc)

/-- The given statement on ExactFracLess. -/
theorem ExactFracLess_holds : Rows.FnExactFracLessSaid := ExactFracLess_over

theorem FracOkI_any (n d : Int) (w : World) :
    Calls Try.prog 15 #[.agg #[.int .i64 n, .int .i64 d]] w fun e w' => e = .returned (.bool (fracOk n d)) ∧ Below w.heap.size w w' := by
  go_enter Try.func15, Try.ntmps15
  go_wp2_with (go_at_call 24; refine (isFrac_any _ _ _).mono ?_; rintro e w1 ⟨rfl, hb⟩; have hz := hb.size; (try simp at hz); (try (refine bat_k hb w.heap.size ?_ ?_; (focus first | omega | (simp; done) | (simp; omega)); intro hc0 hf0 hs0)); (try (refine bat_k hb (w.heap.size + 1) ?_ ?_; (focus first | omega | (simp; done) | (simp; omega)); intro hc1 hf1 hs1)))
  go_ret
  exact ⟨rfl, by repeat (first | exact Below.refl _ _ | assumption | refine Below.drew ?_ | refine below_drewN ?_ _ | refine Below.setCell ?_ (by first | omega | (simp; done) | (simp; omega)) _ | refine Below.alloc ?_ (by first | omega | (simp; done) | (simp; omega)) _ | (refine Below.trans ?_ (Below.mono (by assumption) (by first | omega | (simp; done) | (simp; omega)))))⟩

theorem law_FracOk (n d : Int) (w : World) :
    Calls Try.prog 5 #[.agg #[.int .i64 n, .int .i64 d]] w fun e w' => e = .returned (.bool true) ∧ Below w.heap.size w w' := by
  go_enter Try.func5, Try.ntmps5
  go_wp2_with (first | (go_at_call 14; refine (toFrac_any _ _ _).mono ?_; rintro e w1 ⟨rfl, hb⟩; have hz := hb.size; (try simp at hz); (try (refine bat_k hb w.heap.size ?_ ?_; (focus first | omega | (simp; done) | (simp; omega)); intro hc0 hf0 hs0)); (try (refine bat_k hb (w.heap.size + 1) ?_ ?_; (focus first | omega | (simp; done) | (simp; omega)); intro hc1 hf1 hs1))) | (go_at_call 13; refine (FracOkS_any _ _ _).mono ?_; rintro e w1 ⟨rfl, hb⟩; have hz := hb.size; (try simp at hz); (try (refine bat_k hb w.heap.size ?_ ?_; (focus first | omega | (simp; done) | (simp; omega)); intro hc0 hf0 hs0)); (try (refine bat_k hb (w.heap.size + 1) ?_ ?_; (focus first | omega | (simp; done) | (simp; omega)); intro hc1 hf1 hs1))) | (go_at_call 15; refine (FracOkI_any _ _ _).mono ?_; rintro e w1 ⟨rfl, hb⟩; have hz := hb.size; (try simp at hz); (try (refine bat_k hb w.heap.size ?_ ?_; (focus first | omega | (simp; done) | (simp; omega)); intro hc0 hf0 hs0)); (try (refine bat_k hb (w.heap.size + 1) ?_ ?_; (focus first | omega | (simp; done) | (simp; omega)); intro hc1 hf1 hs1))))
  go_ret
  exact ⟨rfl, by repeat (first | exact Below.refl _ _ | assumption | refine Below.drew ?_ | refine below_drewN ?_ _ | refine Below.setCell ?_ (by first | omega | (simp; done) | (simp; omega)) _ | refine Below.alloc ?_ (by first | omega | (simp; done) | (simp; omega)) _ | (refine Below.trans ?_ (Below.mono (by assumption) (by first | omega | (simp; done) | (simp; omega)))))⟩

set_option maxRecDepth 100000 in
theorem ExactFracOk_lifted (os : Os) (started : os.Started) (H : Type) (enc : TypeId × Value → H) :
    ReturnsInHanded {} Try.checked os 5 .any (Rows.fnExactFracOkSpec.pre6 enc Try.prog Try.f5 Rows.fnExactFracOkRow.domain false) (Rows.fnExactFracOkSpec.post enc Try.prog Try.f5 false true false false) := by
  refine returnsInHanded_of_change (C := Try.checked) own_law started (by kernel_rfl) Try.func5
    (ChangeSpec.witness6 (enc := enc) (C := Try.checked) false ⟨#[], #[.agg #[.int .i64 0, .int .i64 0]], []⟩ 8 (by kernel_rfl) (by kernel_rfl) (by kernel_rfl) (by kernel_rfl)) ?_
  intro W base args ds gs before hval0 hW hcnd _
  have hval : ∀ (j : Nat) t v, Try.f5.params[j]? = some t → args[j]? = some v → Value.okWide Try.prog W .any base t v := hval0
  have hW0 := hW
  obtain ⟨p, q, hA0, hV, rfl, hfz, hnd⟩ := hW
  have hA : DataW.TrodAll enc Try.prog W 0 (fun _ => true) true Try.f5.params.toList args.toList ds p := hA0
  obtain ⟨rfl, rfl⟩ := trodVars_none hV
  have hlt : ∀ x ∈ p, x.block < W.heap.size := fun x hx => hW0.lt x (by simp [hx])
  rw [Try.params5] at hA hval
  clear hA0 hval0 hV
  obtain ⟨v0, vs0, d0, ds0, p0, q0, hargs, rfl, rfl, h0, r0⟩ := trodAll_cons hA
  obtain ⟨rfl, rfl, rfl⟩ := trodAll_nil r0
  obtain rfl : args = #[v0] := by cases args; simp_all
  obtain ⟨a, b, rfl⟩ := open_frac (hval 0 _ v0 rfl rfl) h0
  refine (law_FracOk a b W).mono fun e W' he => ?_
  obtain ⟨rfl, hb⟩ := he
  exact ⟨_, rfl, law_post lay_law (by rw [Try.params5]; decide +kernel) (by kernel_rfl) Try.underlying4 rfl hW0 rfl rfl rfl hb (fun W' => okWide_bool_mk Try.underlying4 true)⟩

theorem ExactFracOk_over : Rows.fnExactFracOkRow.holds Try.pinned (OpenSpec.ofChange Rows.fnExactFracOkSpec) :=
  OpenClaim.holds_of_wide 5 Try.f5 rfl rfl rfl rfl rfl rfl rfl ⟨rfl, rfl, rfl, rfl, rfl⟩ rfl rfl rfl rfl rfl (by kernel_rfl) Try.func5 (by kernel_rfl)
    (of_decide_eq_true (by kernel_rfl)) (by unfold Func.isWrapper; first | (rw [if_pos (by decide +kernel)]; kernel_rfl) | (rw [if_neg (by decide +kernel)]; exact ⟨rfl, rfl⟩))
    (fun os started H enc _ => ExactFracOk_lifted os started H enc)

/-- The given statement on ExactFracOk. -/
theorem ExactFracOk_holds : Rows.FnExactFracOkSaid := ExactFracOk_over

theorem law_FracOf (n d : Int) (w : World) :
    Calls Try.prog 7 #[.int .i64 n, .int .i64 d] w fun e w' => e = .returned (.bool true) ∧ Below w.heap.size w w' := by
  by_cases h : fracIn n d = true
  · have e : fracRes n d = .tuple #[.agg #[.int .i64 (fracNum n d), .int .i64 (fracDen n d)], .bool true] := by unfold fracRes; simp [h]
    have H := Lib.hid e; clear e h
    go_enter Try.func7, Try.ntmps7
    go_wp2_with fail
    refine (FracOfS_any _ _ _).mono ?_
    rw [H.out]
    rintro e wa ⟨rfl, ha⟩
    have hza := ha.size
    go_wp2_with fail
    refine (FracOfI_any _ _ _).mono ?_
    rw [H.out]
    rintro e wb ⟨rfl, hb⟩
    have hzb := hb.size
    simp at hzb
    refine bat_k hb wa.heap.size ?_ ?_
    · simp
    intro hc0 hf0 hs0
    go_wp2_with fail
    refine (eqFrac_same _ _ _).mono ?_
    rintro e wc ⟨rfl, hcc⟩
    go_wp2
    go_ret
    exact ⟨rfl, by repeat (first | exact Below.refl _ _ | assumption | refine Below.drew ?_ | refine below_drewN ?_ _ | refine Below.setCell ?_ (by first | omega | (simp; done) | (simp; omega)) _ | refine Below.alloc ?_ (by first | omega | (simp; done) | (simp; omega)) _ | (refine Below.trans ?_ (Below.mono (by assumption) (by first | omega | (simp; done) | (simp; omega)))))⟩
  · have e : fracRes n d = .tuple #[.agg #[.int .i64 0, .int .i64 0], .bool false] := by unfold fracRes; simp [h]
    have H := Lib.hid e; clear e h
    go_enter Try.func7, Try.ntmps7
    go_wp2_with fail
    refine (FracOfS_any _ _ _).mono ?_
    rw [H.out]
    rintro e wa ⟨rfl, ha⟩
    have hza := ha.size
    go_wp2_with fail
    refine (FracOfI_any _ _ _).mono ?_
    rw [H.out]
    rintro e wb ⟨rfl, hb⟩
    have hzb := hb.size
    simp at hzb
    refine bat_k hb wa.heap.size ?_ ?_
    · simp
    intro hc0 hf0 hs0
    go_wp2_with fail
    refine (eqFrac_same _ _ _).mono ?_
    rintro e wc ⟨rfl, hcc⟩
    go_wp2
    go_ret
    exact ⟨rfl, by repeat (first | exact Below.refl _ _ | assumption | refine Below.drew ?_ | refine below_drewN ?_ _ | refine Below.setCell ?_ (by first | omega | (simp; done) | (simp; omega)) _ | refine Below.alloc ?_ (by first | omega | (simp; done) | (simp; omega)) _ | (refine Below.trans ?_ (Below.mono (by assumption) (by first | omega | (simp; done) | (simp; omega)))))⟩

set_option maxRecDepth 100000 in
theorem ExactFracOf_lifted (os : Os) (started : os.Started) (H : Type) (enc : TypeId × Value → H) :
    ReturnsInHanded {} Try.checked os 7 .any (Rows.fnExactFracOfSpec.pre6 enc Try.prog Try.f7 Rows.fnExactFracOfRow.domain false) (Rows.fnExactFracOfSpec.post enc Try.prog Try.f7 false true false false) := by
  refine returnsInHanded_of_change (C := Try.checked) own_law started (by kernel_rfl) Try.func7
    (ChangeSpec.witness6 (enc := enc) (C := Try.checked) false ⟨#[], #[.int .i64 0, .int .i64 0], []⟩ 8 (by kernel_rfl) (by kernel_rfl) (by kernel_rfl) (by kernel_rfl)) ?_
  intro W base args ds gs before hval0 hW hcnd _
  have hval : ∀ (j : Nat) t v, Try.f7.params[j]? = some t → args[j]? = some v → Value.okWide Try.prog W .any base t v := hval0
  have hW0 := hW
  obtain ⟨p, q, hA0, hV, rfl, hfz, hnd⟩ := hW
  have hA : DataW.TrodAll enc Try.prog W 0 (fun _ => true) true Try.f7.params.toList args.toList ds p := hA0
  obtain ⟨rfl, rfl⟩ := trodVars_none hV
  have hlt : ∀ x ∈ p, x.block < W.heap.size := fun x hx => hW0.lt x (by simp [hx])
  rw [Try.params7] at hA hval
  clear hA0 hval0 hV
  obtain ⟨v0, vs0, d0, ds0, p0, q0, hargs, rfl, rfl, h0, r0⟩ := trodAll_cons hA
  obtain ⟨v1, vs1, d1, ds1, p1, q1, rfl, rfl, rfl, h1, r1⟩ := trodAll_cons r0
  obtain ⟨rfl, rfl, rfl⟩ := trodAll_nil r1
  obtain rfl : args = #[v0, v1] := by cases args; simp_all
  obtain ⟨a, rfl, rfl, rfl, wa⟩ := open_int Try.underlying2 (hval 0 _ v0 rfl rfl) h0
  obtain ⟨b, rfl, rfl, rfl, wb⟩ := open_int Try.underlying2 (hval 1 _ v1 rfl rfl) h1
  refine (law_FracOf a b W).mono fun e W' he => ?_
  obtain ⟨rfl, hb⟩ := he
  exact ⟨_, rfl, law_post lay_law (by rw [Try.params7]; decide +kernel) (by kernel_rfl) Try.underlying4 rfl hW0 rfl rfl rfl hb (fun W' => okWide_bool_mk Try.underlying4 true)⟩

theorem ExactFracOf_over : Rows.fnExactFracOfRow.holds Try.pinned (OpenSpec.ofChange Rows.fnExactFracOfSpec) :=
  OpenClaim.holds_of_wide 7 Try.f7 rfl rfl rfl rfl rfl rfl rfl ⟨rfl, rfl, rfl, rfl, rfl⟩ rfl rfl rfl rfl rfl (by kernel_rfl) Try.func7 (by kernel_rfl)
    (of_decide_eq_true (by kernel_rfl)) (by unfold Func.isWrapper; first | (rw [if_pos (by decide +kernel)]; kernel_rfl) | (rw [if_neg (by decide +kernel)]; exact ⟨rfl, rfl⟩))
    (fun os started H enc _ => ExactFracOf_lifted os started H enc)

/-- The given statement on ExactFracOf. -/
theorem ExactFracOf_holds : Rows.FnExactFracOfSaid := ExactFracOf_over
end Go.Proofs.Ytolkmdelghffdaa

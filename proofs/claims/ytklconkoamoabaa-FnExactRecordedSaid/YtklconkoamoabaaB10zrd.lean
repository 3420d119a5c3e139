/- A drawn region parted at an operation that is ordered to all others; function values made and called in drawn regions. -/
import Derived.Test.YtklconkoamoabaaB9zrd
import Derived.Test.YtklconkoamoabaaB7zrd
import Derived.Test.YtklconkoamoabaaB6zrd
namespace Go.Proofs.Ytklconkoamoabaa
open Go.RowKit
set_option linter.unusedVariables false
set_option linter.unusedSimpArgs false

section
variable {P : Program} {all : List Oper} {T : List (List Nat)} {c : Nat} {Q' : Exit → Act → World → Prop}
def cutAt (all : List Oper) (T : List (List Nat)) (c : Nat) : Bool := (List.range all.length).all fun j => decide (j < c) || (List.range c).all fun i => befo T j i
def noGuard (all : List Oper) : Bool := all.all fun o => o.guard.isNone
def edgesLt (all : List Oper) : Bool := (List.range all.length).all fun j => match all[j]? with | some o => o.after.toList.all fun e => !(Region.binds .any e) || decide (e.on < j) | none => true
def extL (N : Nat) (l : Array Bool) : Array Bool := l ++ Array.replicate (N - l.size) false
theorem extL_f {N : Nat} {l : Array Bool} (i : Nat) : (extL N l).getD i false = l.getD i false := by
  unfold extL
  rw [Array.getD_eq_getD_getElem?, Array.getD_eq_getD_getElem?]
  rcases Nat.lt_or_ge i l.size with h | h
  · rw [Array.getElem?_append_left h]
  · rw [Array.getElem?_append_right h, Array.getElem?_eq_none h, Array.getElem?_replicate]
    split <;> rfl
theorem extL_t {N : Nat} {l : Array Bool} {i : Nat} (h : i < l.size) : (extL N l).getD i true = l.getD i true := by
  unfold extL
  rw [Array.getD_eq_getD_getElem?, Array.getD_eq_getD_getElem?, Array.getElem?_append_left h]
theorem extL_set {N : Nat} {l : Array Bool} {i : Nat} (h : i < l.size) : (extL N l).setIfInBounds i true = extL N (l.setIfInBounds i true) := by
  unfold extL
  refine Array.ext_getElem? fun j => ?_
  rw [Array.getElem?_setIfInBounds]
  have e1 : (l.setIfInBounds i true).size = l.size := Array.size_setIfInBounds ..
  rw [e1, Array.getElem?_append, Array.getElem?_append, e1]
  rcases Nat.lt_or_ge j l.size with hj | hj
  · rw [if_pos hj, if_pos hj, Array.getElem?_setIfInBounds]
    split
    · rename_i e
      rw [if_pos (by rw [Array.size_append]; omega)]
    · rfl
  · rw [if_neg (by omega), if_neg (by omega), if_neg (by omega)]
theorem getTF {l : Array Bool} {i : Nat} (h : i < l.size) : l.getD i true = l.getD i false := by
  rw [Array.getD_eq_getD_getElem?, Array.getD_eq_getD_getElem?, Array.getElem?_eq_getElem h]
  rfl
theorem edge_lt (hlt : edgesLt all = true) {j : Nat} {o : Oper} (ho : all[j]? = some o) {e : Edge} (he : e ∈ o.after) (hb : Region.binds .any e = true) : e.on < j := by
  have hj := (List.getElem?_eq_some_iff.1 ho).1
  have h1 := List.all_eq_true.1 hlt j (List.mem_range.2 hj)
  rw [ho] at h1
  have h2 := List.all_eq_true.1 h1 e (by simpa using he)
  simpa [hb] using h2
theorem wpAny_up {md : Region.Mode} {ops : Array Oper} {Q : Exit → Act → World → Prop} : ∀ (f : Nat) (l : Array Bool) (a : Act) (w : World), wpAny P md ops Q f l a w → wpAny P md ops Q (f + 1) l a w
  | 0, l, a, w, h => ⟨fun _ => h.2, fun i hi => by rw [h.1] at hi; cases hi⟩
  | f + 1, l, a, w, h => ⟨h.1, fun i hi => wpOp_mono (fun a w h => wpAny_up f _ a w h) (h.2 i hi)⟩
theorem wpAny_add {md : Region.Mode} {ops : Array Oper} {Q : Exit → Act → World → Prop} {f : Nat} {l : Array Bool} {a : Act} {w : World} (h : wpAny P md ops Q f l a w) : ∀ k, wpAny P md ops Q (f + k) l a w
  | 0 => h
  | k + 1 => wpAny_up _ _ _ _ (wpAny_add h k)
def thenAny (P : Program) (all : List Oper) (Q' : Exit → Act → World → Prop) (f : Nat) (l : Array Bool) : Exit → Act → World → Prop
  | .normal, a, w => wpAny P .any all.toArray Q' f l a w
  | e, a, w => Q' e a w
theorem wp_then {o : Oper} {a : Act} {w : World} {K : Act → World → Prop} {f : Nat} {l : Array Bool} (h : o.wp P a w K (thenAny P all Q' f l)) : o.wp P a w K Q' := by
  unfold Oper.wp at *
  generalize (execOp a.eval o).run P w = r at *
  cases r with
  | ok n w' => cases n <;> exact h
  | halt b w' => cases b <;> exact h
theorem ready_part (hng : noGuard all = true) {l1 : Array Bool} (hs : l1.size = c) {j : Nat} (hj : j < c) (hc : c ≤ all.length) : j ∈ Region.ready .any all.toArray (extL all.length l1) ↔ j ∈ Region.ready .any (all.take c).toArray l1 := by
  rw [mem_ready, mem_ready, extL_t (by omega)]
  simp only [extL_f, List.getElem?_toArray, List.getElem?_take, if_pos hj]
theorem wpAny_part (hA : befOk all T = true) (hc : c ≤ all.length) (hcut : cutAt all T c = true) (hng : noGuard all = true) (hlt : edgesLt all = true) {f2 : Nat} :
    ∀ (f1 : Nat) (l1 : Array Bool) (a : Act) (w : World), l1.size = c → Down all (extL all.length l1) → wpAny P .any (all.take c).toArray (thenAny P all Q' f2 (extL all.length (Array.replicate c true))) f1 l1 a w → wpAny P .any all.toArray Q' (f1 + f2) (extL all.length l1) a w := by
  have full : ∀ l1 : Array Bool, l1.size = c → (∀ i, i < c → l1.getD i false = true) → l1 = Array.replicate c true := fun l1 hs h => by
    refine Array.ext_getElem? fun i => ?_
    rw [Array.getElem?_replicate]
    split
    · rename_i hi
      have h1 := h i hi
      rw [Array.getD_eq_getD_getElem?] at h1
      cases hx : l1[i]? with
      | none => rw [hx] at h1; simp at h1
      | some b => rw [hx] at h1; simp at h1; rw [h1]
    · rw [Array.getElem?_eq_none (by omega)]
  have least : ∀ l1 : Array Bool, l1.size = c → ¬ (∀ i, i < c → l1.getD i false = true) → ∃ i, i < c ∧ l1.getD i false = false ∧ ∀ k, k < i → l1.getD k false = true := fun l1 hs h => by
    have key : ∀ n, n ≤ c → (∀ i, i < n → l1.getD i false = true) ∨ ∃ i, i < c ∧ l1.getD i false = false ∧ ∀ k, k < i → l1.getD k false = true := by
      intro n
      induction n with
      | zero => exact fun _ => .inl fun i hi => absurd hi (Nat.not_lt_zero i)
      | succ n ih =>
        intro hn
        rcases ih (by omega) with h1 | h1
        · cases hx : l1.getD n false with
          | true =>
            refine .inl fun i hi => ?_
            by_cases e : i = n
            · rw [e]; exact hx
            · exact h1 i (by omega)
          | false => exact .inr ⟨n, by omega, hx, h1⟩
        · exact .inr h1
    exact (key c (Nat.le_refl _)).resolve_left h
  have rdy : ∀ l1 : Array Bool, l1.size = c → ∀ i, i < c → l1.getD i false = false → (∀ k, k < i → l1.getD k false = true) → i ∈ Region.ready .any (all.take c).toArray l1 := fun l1 hs i hi h0 hk => by
    rw [mem_ready, getTF (by omega)]
    have ho : all[i]? = some (all[i]'(by omega)) := List.getElem?_eq_getElem (by omega)
    exact ⟨h0, _, by rw [List.getElem?_toArray, List.getElem?_take, if_pos hi]; exact ho, fun e he hb => hk _ (edge_lt hlt ho he hb)⟩
  intro f1
  induction f1 with
  | zero =>
    intro l1 a w hs hdn h
    by_cases hall : ∀ i, i < c → l1.getD i false = true
    · rw [full l1 hs hall, Nat.zero_add]
      exact h.2
    · obtain ⟨i, hi, h0, hk⟩ := least l1 hs hall
      have := rdy l1 hs i hi h0 hk
      rw [h.1] at this
      cases this
  | succ f1 ih =>
    intro l1 a w hs hdn h
    by_cases hall : ∀ i, i < c → l1.getD i false = true
    · have hn : Region.ready .any (all.take c).toArray l1 = [] := by
        refine List.eq_nil_iff_forall_not_mem.2 fun j hj => ?_
        obtain ⟨h1, o, h2, -⟩ := mem_ready.1 hj
        have hjc : j < c := by
          rw [List.getElem?_toArray] at h2
          have := (List.getElem?_eq_some_iff.1 h2).1
          rw [List.length_take] at this
          omega
        rw [getTF (by omega), hall j hjc] at h1
        cases h1
      have h3 := h.1 hn
      have h4 : wpAny P .any all.toArray Q' f2 (extL all.length (Array.replicate c true)) a w := h3
      rw [full l1 hs hall, show f1 + 1 + f2 = f2 + (f1 + 1) from by omega]
      exact wpAny_add h4 _
    · obtain ⟨i, hi, h0, hk⟩ := least l1 hs hall
      rw [show f1 + 1 + f2 = (f1 + f2) + 1 from by omega]
      refine ⟨fun hn => ?_, fun j hj => ?_⟩
      · have := (ready_part hng hs hi hc).2 (rdy l1 hs i hi h0 hk)
        rw [hn] at this
        cases this
      · have hjc : j < c := by
          rcases Nat.lt_or_ge j c with h1 | h1
          · exact h1
          · exfalso
            obtain ⟨-, o, ho, -⟩ := mem_ready.1 hj
            rw [List.getElem?_toArray] at ho
            have hjl := (List.getElem?_eq_some_iff.1 ho).1
            have h2 := List.all_eq_true.1 hcut j (List.mem_range.2 hjl)
            rw [Bool.or_eq_true, decide_eq_true_eq] at h2
            have h3 := List.all_eq_true.1 (h2.resolve_left (by omega)) i (List.mem_range.2 hi)
            have h4 := bef_listed hA hdn j i (.inr hj) h3
            rw [extL_f, h0] at h4
            cases h4
        have hjA := (ready_part hng hs hjc hc).1 hj
        have h5 := h.2 j hjA
        have ho : all[j]? = some (all[j]'(by omega)) := List.getElem?_eq_getElem (by omega)
        have hg : (all[j]'(by omega)).guard = none := by
          have := List.all_eq_true.1 hng _ (List.mem_of_getElem? ho)
          simpa using this
        unfold wpOp at h5 ⊢
        rw [List.getElem?_toArray, List.getElem?_take, if_pos hjc, ho] at h5
        rw [List.getElem?_toArray, ho]
        simp only at h5 ⊢
        rw [if_pos (by simp [Region.wanted, hg])] at h5 ⊢
        have hnext : ∀ a w, wpAny P .any (all.take c).toArray (thenAny P all Q' f2 (extL all.length (Array.replicate c true))) f1 (l1.setIfInBounds j true) a w → wpAny P .any all.toArray Q' (f1 + f2) ((extL all.length l1).setIfInBounds j true) a w := fun a w h6 => by
          rw [extL_set (by omega)]
          refine ih _ a w (by simpa using hs) ?_ h6
          rw [← extL_set (by omega)]
          exact down_set hdn hj
        rcases h5 with h5 | ⟨h5, h6⟩
        · exact .inl (wp_then (Oper.wp_mono hnext h5))
        · exact .inr ⟨h5, h6⟩
theorem wpAny_cut (hA : befOk all T = true) (hcut : cutAt all T (c + 1) = true) (hng : noGuard all = true) (hlt : edgesLt all = true) {oc : Oper} (hoc : all[c]? = some oc) {f : Nat} {a : Act} {w : World}
    (h : oc.wp P a w (wpAny P .any all.toArray Q' f (extL all.length (Array.replicate (c + 1) true))) Q') : wpAny P .any all.toArray Q' (f + 1) (extL all.length (Array.replicate c true)) a w := by
  have hcl := (List.getElem?_eq_some_iff.1 hoc).1
  have hl : ∀ i, i < c → (extL all.length (Array.replicate c true)).getD i false = true := fun i hi => by
    rw [extL_f, Array.getD_eq_getD_getElem?, Array.getElem?_replicate, if_pos hi]; rfl
  have hu : (extL all.length (Array.replicate c true)).getD c true = false := by
    unfold extL
    rw [Array.getD_eq_getD_getElem?, Array.getElem?_append_right (by simp), Array.getElem?_replicate, if_pos (by simp; omega)]
    rfl
  have hset : (extL all.length (Array.replicate c true)).setIfInBounds c true = extL all.length (Array.replicate (c + 1) true) := by
    unfold extL
    refine Array.ext_getElem? fun j => ?_
    rw [Array.getElem?_setIfInBounds, Array.getElem?_append, Array.getElem?_append]
    simp only [Array.size_replicate, Array.getElem?_replicate, Array.size_append]
    repeat' split
    all_goals first | rfl | omega
  have hr : c ∈ Region.ready .any all.toArray (extL all.length (Array.replicate c true)) := by
    rw [mem_ready]
    exact ⟨hu, oc, by rw [List.getElem?_toArray]; exact hoc, fun e he hb => hl _ (edge_lt hlt hoc he hb)⟩
  refine ⟨fun hn => (by rw [hn] at hr; cases hr), fun j hj => ?_⟩
  have hdn : Down all (extL all.length (Array.replicate c true)) := fun k o ho hk e he hb => by
    rw [extL_f, Array.getD_eq_getD_getElem?, Array.getElem?_replicate] at hk
    split at hk
    · have := edge_lt hlt ho he hb
      exact hl _ (by omega)
    · simp at hk
  have hjc : j = c := by
    obtain ⟨h1, o, ho, -⟩ := mem_ready.1 hj
    rw [List.getElem?_toArray] at ho
    have hjl := (List.getElem?_eq_some_iff.1 ho).1
    rcases Nat.lt_trichotomy j c with h2 | h2 | h2
    · have h3 := getD_tf (hl j h2)
      rw [h1] at h3; cases h3
    · exact h2
    · have h3 := List.all_eq_true.1 hcut j (List.mem_range.2 hjl)
      rw [Bool.or_eq_true, decide_eq_true_eq] at h3
      have h4 := List.all_eq_true.1 (h3.resolve_left (by omega)) c (List.mem_range.2 (by omega))
      have h5 := getD_tf (bef_listed hA hdn j c (.inr hj) h4)
      rw [hu] at h5; cases h5
  subst hjc
  have hg : oc.guard = none := by
    have := List.all_eq_true.1 hng _ (List.mem_of_getElem? hoc)
    simpa using this
  unfold wpOp
  rw [List.getElem?_toArray, hoc]
  simp only
  rw [if_pos (by simp [Region.wanted, hg]), hset]
  exact .inl h
end

section
variable {P : Program} {τ : Ty} {lo : Nat} {w0 : Fz} {st : St} {a : Act} {w : World}
def statC (npA npB : Bool) (ops : List Oper) (c : Nat) : Bool :=
  statOk npA (ops.take c) (ancT (ops.take c)) && (befOk ops (ancT ops) && (makersOk npB ops && (decide (c < ops.length) && (cutAt ops (ancT ops) c && (cutAt ops (ancT ops) (c + 1) && (noGuard ops && (edgesLt ops && inOrder ops (ops.drop (c + 1)).length (c + 1) (extL ops.length (Array.replicate (c + 1) true)))))))))
theorem awp_regionC (npA npB : Bool) (c : Nat) (XA : Oper → St → (Dl → Prop) → Prop) (tA : List Nat) (hXA : ∀ o st K, XA o st K → ∃ δ, Act1 P npA τ o st δ ∧ K δ) (X : Oper → (St → Prop) → St → Prop)
    (hX : ∀ (lo : Nat) (w0 : Fz) (st : St) (a : Act) (w : World) (o : Oper) (K : St → Prop) (Q : Exit → Act → World → Prop) (K' : Act → World → Prop), (∀ k, o.dst = some k → k < a.tmps.size) → Rel τ lo w0 st a w → X o K st → (∀ st' x w', K st' → Rel τ lo w0 st' (a.put o.dst x) w' → K' (a.put o.dst x) w') → o.wp P a w K' Q)
    (hτ : TyOk P τ) (hpos : TyPos τ) (hmix : P.follows .mixedOrders = true) {Q : Exit → St → Prop} {id : Nat} {ops : List Oper} (hs : statC npA npB ops c = true) (hd : dstOk st.n ops = true) {oc : Oper} (hoc : ops[c]? = some oc)
    (h : ∀ EA : List Rec → St → Prop, (∀ cs st1, chk (ops.take c) (ancT (ops.take c)) cs = true → dstOk st1.n ops = true → X oc (fun st2 => ∀ EB : List Rec → St → Prop, (∀ cs st3, chk ops (ancT ops) cs = true → Q .normal st3 → EB cs st3) → lexF P npB τ ops EB (ops.drop (c + 1)) (c + 1) [] (st2.start npB (ops.drop (c + 1)))) st1 → EA cs st1) →
      lexU XA P npA τ tA (ops.take c) EA (ops.take c) 0 [] (st.start npA (ops.take c))) : awp P τ (.region id ops.toArray true) Q st := fun lo w0 a w hr => by
  simp only [statC, statOk, Bool.and_eq_true, decide_eq_true_eq] at hs
  obtain ⟨⟨a1, a2, a3⟩, b1, b2, hcl, c1, c2, hng, hlt, b3⟩ := hs
  have hn : a.tmps.size = st.n := by obtain ⟨ow, hd, bk, h⟩ := hr; exact h.size
  have hdr : Rel τ lo w0 st a { w with drawn := w.drawn + 1 } := by
    obtain ⟨ow, hd, bk, h⟩ := hr
    exact ⟨ow, hd, bk, RelC_drew h⟩
  have hr' := Rel_start (np := npA) hdr (ops.take c)
  refine wp_region_any hmix ?_
  have htake : (ops.take c).length = c := by rw [List.length_take]; omega
  have hdsub : ∀ (l : List Oper), (∀ o ∈ l, o ∈ ops) → ∀ m, dstOk m ops = true → dstOk m l = true := fun l hl m hm => List.all_eq_true.2 fun o ho => List.all_eq_true.1 hm o (hl o ho)
  -- the first part
  have hlex := (lexU_lexP hXA (A := ancT (ops.take c)) (Q := fun st1 => dstOk st1.n ops = true ∧ X oc (fun st2 => ∀ EB : List Rec → St → Prop, (∀ cs st3, chk ops (ancT ops) cs = true → Q .normal st3 → EB cs st3) → lexF P npB τ ops EB (ops.drop (c + 1)) (c + 1) [] (st2.start npB (ops.drop (c + 1)))) st1) (ops.take c) 0 [] _ (h _ fun cs st h1 h2 h3 => ⟨h1, h2, h3⟩)).2
  have hany := anyA_lex (fun st st' he ⟨s, h1, h2⟩ => ⟨s, he.symm.trans h1, h2⟩) a1 (ops.take c) 0 [] (Array.replicate (ops.take c).length false) _ (by simp) (fun j o _ hj => by
    rw [Array.getD_eq_getD_getElem?, Array.getElem?_replicate] at hj
    split at hj <;> simp at hj) a3 hlex
  have hfirst := anyA_sound (Q' := thenAny P ops (fun e a' w' => ∃ st', Rel τ lo w0 st' a' w' ∧ Q e st') (ops.length - c) (extL ops.length (Array.replicate c true))) hτ hpos a2 (fun st1 a1 w1 hq hr1 => by
      obtain ⟨s, he, hds, hx⟩ := hq
      have hrs : Rel τ lo w0 s a1 w1 := Rel_cov hr1 he.cov
      show wpAny P .any ops.toArray _ (ops.length - c) _ a1 w1
      rw [show ops.length - c = (ops.length - c - 1) + 1 from by omega]
      refine wpAny_cut b1 c2 hng hlt hoc ?_
      have hna : a1.tmps.size = s.n := by obtain ⟨ow, hd, bk, h⟩ := hrs; exact h.size
      have hdo : ∀ k, oc.dst = some k → k < a1.tmps.size := fun k hk => by
        have := List.all_eq_true.1 hds oc (List.mem_of_getElem? hoc)
        rw [hk] at this
        rw [hna]
        simpa using this
      refine hX lo w0 s a1 w1 oc _ _ _ hdo hrs hx fun st2 x w2 hK hr2 => ?_
      have hr2' := Rel_start (np := npB) hr2 (ops.drop (c + 1))
      have hB := hK (fun cs st => chk ops (ancT ops) cs = true ∧ Q .normal st) fun cs st h1 h2 => ⟨h1, h2⟩
      rw [lexF_eq (fun cs => chk ops (ancT ops) cs = true) (Q .normal)] at hB
      have hlexB := (lexE_lexP (ops.drop (c + 1)) (c + 1) [] _ _ (Eqv.refl _) hB).2
      have hlf : ∀ i, i < c + 1 → (extL ops.length (Array.replicate (c + 1) true)).getD i false = true := fun i hi => by
        rw [extL_f, Array.getD_eq_getD_getElem?, Array.getElem?_replicate, if_pos hi]; rfl
      have hanyB := anyA_lex (fun st st' he ⟨s, h1, h2⟩ => ⟨s, he.symm.trans h1, h2⟩) b1 (ops.drop (c + 1)) (c + 1) [] (extL ops.length (Array.replicate (c + 1) true)) _ (fun j => by rw [List.getElem?_drop]) (fun j o ho hj e he hb => by
        rw [extL_f, Array.getD_eq_getD_getElem?, Array.getElem?_replicate] at hj
        split at hj
        · have := edge_lt hlt ho he hb
          exact hlf _ (by omega)
        · simp at hj) b3 hlexB
      have hlast := anyA_sound (Q' := fun e a' w' => ∃ st', Rel τ lo w0 st' a' w' ∧ Q e st') hτ hpos b2 (fun st' a w ⟨s, he, hq⟩ hr => ⟨s, Rel_cov hr he.cov, hq⟩) (ops.drop (c + 1)).length [] (extL ops.length (Array.replicate (c + 1) true)) (st2.start npB (ops.drop (c + 1))) (a1.put oc.dst x) w2 (by rw [size_put, hna]; exact hds) (fun j o ho hj hm => by
        have hjc : c + 1 ≤ j := by
          rcases Nat.lt_or_ge j (c + 1) with h1 | h1
          · have := getD_tf (hlf j h1)
            rw [hj] at this; cases this
          · exact h1
        exact start_free (j := j - (c + 1)) (by rw [List.getElem?_drop, show c + 1 + (j - (c + 1)) = j from by omega]; exact ho) hm) (fun e => by unfold St.start; rw [if_pos e]; exact cut_PF _) hr2' hanyB
      rw [show ops.length - c - 1 = (ops.drop (c + 1)).length from by rw [List.length_drop]; omega]
      exact hlast) (ops.take c).length [] (Array.replicate (ops.take c).length false) (st.start npA (ops.take c)) a { w with drawn := w.drawn + 1 } (by rw [hn]; exact hdsub _ (fun o ho => List.mem_of_mem_take ho) _ hd) (fun j o ho _ hm => start_free ho hm) (fun e => by unfold St.start; rw [if_pos e]; exact cut_PF _) hr' hany
  have hpart := wpAny_part (P := P) (Q' := fun e a' w' => ∃ st', Rel τ lo w0 st' a' w' ∧ Q e st') b1 (by omega) c1 hng hlt (f2 := ops.length - c) c (Array.replicate c false) a { w with drawn := w.drawn + 1 } (by simp) (fun k o ho hk => by
    rw [extL_f, Array.getD_eq_getD_getElem?, Array.getElem?_replicate] at hk
    split at hk <;> simp at hk) (by rw [htake] at hfirst; exact hfirst)
  rw [show c + (ops.length - c) = ops.length from by omega] at hpart
  have hrep : extL ops.length (Array.replicate c false) = Array.replicate ops.toArray.size false := by
    unfold extL
    refine Array.ext_getElem? fun j => ?_
    rw [Array.getElem?_append]
    simp only [Array.size_replicate, Array.getElem?_replicate, List.size_toArray]
    repeat' split
    all_goals first | rfl | omega
  rw [hrep] at hpart
  simpa using hpart

variable {np : Bool} {ow : Nat → Option Pl} {hd : Nat → Value} {bk : Nat → Nat} {st' : St}
def plainA : AV → Bool
  | .fn _ _ => false
  | .bp _ _ => false
  | _ => true
theorem argX_plain {e1 : TypeId} {t : TypeId} {v : AV} (hp : plainA v = true) (h : AgV st st' v) : argX τ e1 st' t v = argX τ e1 st t v := by
  cases v <;> simp only [argX] <;> first | (cases hp; done) | skip
  all_goals first
    | (rw [argOf_l h]; done)
    | (rename_i d p i
       simp only [boxOf]
       have := h.1 d (by simp [AV.nm])
       cases p with
       | cons _ _ => rfl
       | nil => cases i with
         | succ _ => rfl
         | zero => simp only [this])
theorem boxOf_cap {e1 : TypeId} {v : AV} (h : AgV st st' v) (hb : ∀ T i cs, v = .bp T i → lk st.b T = some cs → AgV st st' (.agg cs)) : boxOf τ e1 st' v = boxOf τ e1 st v := by
  cases v <;> simp only [boxOf]
  · rename_i d p i
    have := h.1 d (by simp [AV.nm])
    cases p with
    | cons _ _ => rfl
    | nil => cases i with
      | succ _ => rfl
      | zero => simp only [this]
  · rename_i T i
    have h2 := h.2 T (by simp [AV.nm])
    cases i with
    | succ _ => rfl
    | zero =>
      simp only [h2]
      cases hx : lk st.b T with
      | none => rfl
      | some cs => simp only [cellsOfL_l (hb T 0 cs rfl hx)]
theorem argX_cap {e1 : TypeId} {t : TypeId} {v : AV} (hf : (match v with | .fn _ _ => false | _ => true) = true) (h : AgV st st' v) (hb : ∀ T i cs, v = .bp T i → lk st.b T = some cs → AgV st st' (.agg cs)) : argX τ e1 st' t v = argX τ e1 st t v := by
  cases v <;> simp only [argX] <;> first | (cases hf; done) | skip
  all_goals first
    | (rw [argOf_l h]; done)
    | (rw [boxOf_cap h hb])
theorem argsX_cong {e1 : TypeId} : ∀ {vs : List AV} {ts : List TypeId}, (∀ v ∈ vs, ∀ t, argX τ e1 st' t v = argX τ e1 st t v) → argsX τ e1 st' ts vs = argsX τ e1 st ts vs
  | [], ts, _ => rfl
  | v :: vs, ts, h => by
    simp only [argsX]
    rw [h v List.mem_cons_self, argsX_cong (vs := vs) fun u hu => h u (List.mem_cons_of_mem _ hu)]
def actFE (P : Program) (τ : Ty) (e1 : TypeId) (o : Oper) (st : St) (K : Dl → Prop) : Prop :=
  match mkF o with
  | some (f, caps) => K ⟨.fn f (caps.map (ev st)), [], [], []⟩
  | none =>
    match callOf o with
    | some _ => False
    | none =>
      match callX st o with
      | some (f, vs, ts) =>
        match argsX τ e1 st ts vs with
        | some (as9, ob) => vs.all (fun v => match v with | .fn _ _ => false | _ => true) = true ∧ ((vs.take (vs.length - (calleeV o st).length)).all plainA = true) ∧ ob ∧ ∃ k n, FnX P τ f as9 [.c (.int k n)] ∧ K ⟨.int k n, [], [], []⟩
        | none => False
      | none => False
theorem callX_is {o : Oper} {f : FuncId} {vs : List AV} {ts : List TypeId} (hc : callX st o = some (f, vs, ts)) : ∃ (args : List Operand), vs = args.map (ev st) ++ calleeV o st ∧ (∀ x ∈ args, x ∈ opsOf o.op) := by
  unfold callX at hc
  unfold calleeV
  cases ho : o.op with
  | call c =>
    rw [ho] at hc
    obtain ⟨callee, args, ats⟩ := c
    cases callee with
    | value x =>
      simp only at hc ⊢
      split at hc
      · rename_i f' us hx
        cases hc
        rw [hx]
        exact ⟨args.toList, rfl, fun y hy => by simp [opsOf, Op.operands, Call.operands]; exact .inr (by simpa using hy)⟩
      · cases hc
    | _ => simp at hc
  | _ => rw [ho] at hc; simp at hc
theorem callX_l {o : Oper} (h : Agree o st st') : callX st' o = callX st o := by
  have he := h.e
  unfold callX
  cases ho : o.op with
  | call c =>
    rw [ho] at he
    obtain ⟨callee, args, ats⟩ := c
    cases callee with
    | value x =>
      simp only
      rw [he x (by simp [Op.operands, Call.operands]), List.map_congr_left fun y hy => he y (by simp [Op.operands, Call.operands]; exact .inr (by simpa using hy))]
    | _ => rfl
  | _ => rfl
theorem actFE_act {e1 : TypeId} (h1 : sz τ e1 = 1) {o : Oper} {K : Dl → Prop} (h : actFE P τ e1 o st K) : ∃ δ, Act1 P np τ o st δ ∧ K δ := by
  unfold actFE at h
  cases hm : mkF o with
  | some y =>
    obtain ⟨f, caps⟩ := y
    rw [hm] at h
    have hops : ∀ x ∈ caps, x ∈ opsOf o.op := fun x hx => by
      unfold mkF at hm
      split at hm
      · rename_i f' first caps' ho
        split at hm
        · cases hm
          rw [ho]
          simp only [opsOf, Op.operands, Array.toList_append, List.mem_append]
          exact .inr hx
        · cases hm
      · cases hm
    refine ⟨_, .inl ⟨trivial, trivial, .inr ⟨f, caps, rfl, hops⟩, rfl, rfl, .inl rfl, fun st' hag hpf lo w0 a w Q K' hdn hrel hK' => ?_⟩, h⟩
    obtain ⟨ow, hd, bk, hr⟩ := hrel
    obtain ⟨z, hz, hv⟩ := mkF_sound (P := P) hr hm
    rw [List.map_congr_left fun x hx => hag.e x (opsOf_sub (hops x hx))] at hv
    exact does_app hdn ⟨z, w, ow, hd, bk, .inl hz, hr, hv⟩ (plain_cov _) hK'
  | none =>
    rw [hm] at h
    simp only at h
    cases hc : callOf o with
    | some _ => rw [hc] at h; exact h.elim
    | none =>
      rw [hc] at h
      simp only at h
      cases hx : callX st o with
      | none => rw [hx] at h; exact h.elim
      | some y =>
        obtain ⟨f, vs, ts⟩ := y
        rw [hx] at h
        simp only at h
        cases ha : argsX τ e1 st ts vs with
        | none => rw [ha] at h; exact h.elim
        | some z =>
          obtain ⟨as9, ob⟩ := z
          rw [ha] at h
          obtain ⟨hnf, hpl, hob, k, n, hF, hK⟩ := h
          obtain ⟨args, hvs, hargs⟩ := callX_is hx
          refine ⟨_, .inl ⟨trivial, trivial, .inl ⟨k, n, rfl⟩, rfl, rfl, .inl rfl, fun st' hag hpf lo w0 a w Q K' hdn hrel hK' => ?_⟩, hK⟩
          have hax : argsX τ e1 st' ts vs = some (as9, ob) := by
            rw [← ha]
            refine argsX_cong fun v hv t => ?_
            have hnfv := List.all_eq_true.1 hnf v hv
            rw [hvs, List.mem_append] at hv
            rcases hv with hv | hv
            · refine argX_plain ?_ ?_
              · refine List.all_eq_true.1 hpl v ?_
                rw [hvs, List.length_append, Nat.add_sub_cancel, List.take_append_of_le_length (Nat.le_refl _), List.take_length]
                exact hv
              · obtain ⟨x, hx1, rfl⟩ := List.mem_map.1 hv
                exact hag.v (hargs x hx1)
            · refine argX_cap hnfv ?_ fun T i cs e hcs => ?_
              · obtain ⟨x, hx1, f2, us, he, hu⟩ := calleeV_at hv
                have h2 := hag.v hx1
                rw [he] at h2
                exact ⟨fun d hd => h2.1 d (by simp only [AV.nm]; exact mem_nmL.2 ⟨v, hu, hd⟩), fun t ht => h2.2 t (by simp only [AV.nm]; exact mem_nmL.2 ⟨v, hu, ht⟩)⟩
              · subst e
                exact hag.cap hc hv hcs
          have hcall : aCallX P τ e1 o (fun s => s = st'.put o.dst (.int k n)) st' := by
            unfold aCallX
            rw [callX_l hag, hx]
            simp only
            rw [hax]
            exact ⟨hob, _, hF, by simp [szL, flat, VT.cells], rfl⟩
          exact aCallX_sound h1 hdn hrel hcall fun s x w' hs hr => hK' x w' (Rel_cov (by rw [hs] at hr; exact hr) (plain_cov _))
def St.cutI (ids : List Nat) (st : St) : St := { st with s := mapv (AV.cut ids) st.s, b := mapv (AV.cutL ids) st.b }
theorem cutI_box {ids : List Nat} (t : Nat) (hl : ∃ cs, lk (st.cutI ids).b t = some cs) : ∃ cs, lk st.b t = some cs := by
  obtain ⟨cs, hcs⟩ := hl
  simp only [St.cutI, lk_mapv] at hcs
  cases hx : lk st.b t with
  | none => rw [hx] at hcs; cases hcs
  | some u => exact ⟨u, rfl⟩
theorem RelC_cutI (h : RelC τ lo w0 ow hd bk st a w) (ids : List Nat) : RelC τ lo w0 ow hd bk (st.cutI ids) a w := by
  refine ⟨h.big, h.defers, h.size, h.low, h.below, h.ge, h.new, fun k v hv' => ?_, h.root, fun t vs hv' => ?_, h.pin⟩
  · simp only [St.cutI, lk_mapv] at hv'
    cases hx : lk st.s k with
    | none => rw [hx] at hv'; cases hv'
    | some u => rw [hx] at hv'; cases hv'; exact cut_sound (fun t => cutI_box t) u _ (h.slot k u hx)
  · simp only [St.cutI, lk_mapv] at hv'
    cases hx : lk st.b t with
    | none => rw [hx] at hv'; cases hv'
    | some u =>
      rw [hx] at hv'; cases hv'
      obtain ⟨cs, ty, h1, h2, h3⟩ := h.box t u hx
      exact ⟨cs, ty, h1, h2, cutL_sound (fun t => cutI_box t) u cs h3⟩
theorem cutI_noway {ids : List Nat} {d : Nat} (hd : d ∈ ids) : NoWay d (st.cutI ids) := by
  have hc : ids.contains d = true := by simpa using hd
  refine ⟨fun k v hv hm => ?_, fun k cs hcs hm => ?_⟩
  · simp only [St.cutI, lk_mapv] at hv
    cases hx : lk st.s k with
    | none => rw [hx] at hv; cases hv
    | some u => rw [hx] at hv; cases hv; rw [cut_pm u d hm] at hc; cases hc
  · simp only [St.cutI, lk_mapv] at hcs
    cases hx : lk st.b k with
    | none => rw [hx] at hcs; cases hcs
    | some u => rw [hx] at hcs; cases hcs; rw [cutL_pm u d hm] at hc; cases hc
theorem lendsOf_cutI {ids : List Nat} {vs : List AV} {outs : List Out} : ∀ {own : List Nat}, lendsOf τ (st.cutI ids) vs outs own = lendsOf τ st vs outs own
  | [] => rfl
  | id :: own => by
    have ih := lendsOf_cutI (ids := ids) (vs := vs) (outs := outs) (own := own)
    simp only [lendsOf, ih]
    rfl
def aCallG1 (P : Program) (τ : Ty) (own : List Nat) (outs : List Out) (o : Oper) (K : St → Prop) (st : St) : Prop :=
  match callOf o with
  | some (f, args, ts) =>
    match argsOf τ st ts.toList (args.toList.map (ev st)), lendsOf τ st (args.toList.map (ev st)) outs own with
    | some (as9, ob), some (ls, ob2) => apart (restNm own 0 (args.toList.map (ev st))) ls = true ∧ nodupB own = true ∧ few as9 = true ∧ ob ∧ ob2 ∧ sepAll ls ∧
        ∃ ress, FnG P τ f as9 own outs ress ∧ szL τ (flat ress) ∧ (flat ress).length ≤ 1000000 ∧ K ((resS (dstN o) 0 (flat ress) (lentSt0 (st.cutI (ls.map (·.d))) ls)).put o.dst (retA (resV τ (dstN o) 0 ress)))
    | _, _ => False
  | none => False
theorem aCallG1_sound {own : List Nat} {outs : List Out} {o : Oper} {K : St → Prop} {Q : Exit → Act → World → Prop} {K' : Act → World → Prop} (hd : ∀ k, o.dst = some k → k < a.tmps.size) (h : Rel τ lo w0 st a w) (ha : aCallG1 P τ own outs o K st)
    (hK : ∀ st' x w', K st' → Rel τ lo w0 st' (a.put o.dst x) w' → K' (a.put o.dst x) w') : o.wp P a w K' Q := by
  obtain ⟨ow, hd', bk, hr⟩ := h
  unfold aCallG1 at ha
  split at ha
  · rename_i f args ts hc
    split at ha
    · rename_i as9 ob ls ob2 hargs hlends
      obtain ⟨hap, hnd, hfew, hob, hob2, hsep, ress, ⟨hcl, hcall⟩, hsz, hfl, hK1⟩ := ha
      have hev : AvRL τ w st.r st.b hd' bk (args.toList.map (ev st)) (args.toList.map a.eval) := AvRL_iff.2 ⟨by simp, fun i v x hv hx => by
        rw [List.getElem?_map] at hv hx
        cases hk : args.toList[i]? with
        | none => rw [hk] at hv; cases hv
        | some p => rw [hk] at hv hx; cases hv; cases hx; exact ev_sound hr p⟩
      have hA := argsG_sound hr hev hargs hob hlends hob2 hsep hap hfew
      have hC := hcall lo w (owIn ow ls) _ hr.low (fun b p hb => by
        obtain ⟨d, q, ho, x, hx, -, q', -, hp⟩ := owIn_some hb
        have hlt : b < w.heap.size := by
          rcases Nat.lt_or_ge b w.heap.size with h' | h'
          · exact h'
          · rw [hr.new b h'] at ho; cases ho
        exact ⟨hlt, (hr.ge b _ hlt ho (by simp)).1, _, _, hp⟩) hA
      unfold Oper.wp
      rw [callG_exec hr hc hcl]
      simp only [Oper.upon]
      refine hC.mono fun e w' hpost => ?_
      have hev2 : AvRL τ w (st.cutI (ls.map (·.d))).r (st.cutI (ls.map (·.d))).b hd' bk (args.toList.map (ev st)) (args.toList.map a.eval) := by
        have := AvRL_keep (τ := τ) (w := w) (w' := w) (rr := st.r) (rr' := st.r) (bb := st.b) (bb' := (st.cutI (ls.map (·.d))).b) (hd := hd') (hd' := hd') (bk := bk) (bk' := bk) (ds := noB) (bs := noB) (fun d _ R hR => ⟨R, hR, rfl, fun p hp => ⟨hp, rfl⟩⟩) (fun t _ hl => ⟨cutI_box t hl, rfl⟩) _ _ hev
        rwa [killL_no] at this
      obtain ⟨z, ow', hd2, he, r1, r2⟩ := postG0_sound (RelC_cutI hr (ls.map (·.d))) hev2 (fun d ⟨x, hx, e⟩ => cutI_noway (List.mem_map.2 ⟨x, hx, e⟩)) (by rw [lendsOf_cutI]; exact hlends) hob2 hsep (nodupB_spec hnd) (t := dstN o) hsz hfl hpost
      subst he
      exact hK _ z w' hK1 (rel_put r1 hd r2)
    · exact ha.elim
  · exact ha.elim
def aopsG1 (P : Program) (τ : Ty) (al : List Nat) (t : Nat) (own : List Nat) (outs : List Out) (all : List Oper) (K : St → Prop) : List Oper → St → Prop
  | [], st => K st
  | o :: os, st =>
    match o.guard with
    | none => if o.dst = some t then aCallG1 P τ own outs o (aopsG1 P τ al t own outs all K os) st else aop P τ al o (aopsG1 P τ al t own outs all K os) st
    | some (j, want) => False
theorem aopsG1_sound (hτ : TyOk P τ) (hpos : TyPos τ) {al : List Nat} {t : Nat} {own : List Nat} {outs : List Out} {all : List Oper} {K : St → Prop} {Q : Exit → Act → World → Prop} (hQ : ∀ st a w, K st → Rel τ lo w0 st a w → Q .normal a w) :
    ∀ (os : List Oper) (st : St) (a : Act) (w : World), dstOk a.tmps.size os = true → Rel τ lo w0 st a w → aopsG1 P τ al t own outs all K os st → wpList P all.toArray Q os a w
  | [], st, a, w, _, h, ha => wpList_nil (hQ st a w ha h)
  | o :: os, st, a, w, hd, h, ha => by
    have hd1 : ∀ k, o.dst = some k → k < a.tmps.size := fun k hk => by
      have := List.all_eq_true.1 hd o (by simp)
      rw [hk] at this
      simpa using this
    have hd2 : dstOk a.tmps.size os = true := List.all_eq_true.2 fun x hx => List.all_eq_true.1 hd x (by simp [hx])
    refine wpList_step fun K' hK' => ?_
    simp only [aopsG1] at ha
    split at ha
    · rename_i hg
      rw [if_pos (by simp [Region.wanted, hg])]
      split at ha
      · exact aCallG1_sound hd1 h ha fun st' x w' h1 h2 => hK' _ _ (aopsG1_sound hτ hpos hQ os st' _ w' (by rw [size_put]; exact hd2) h2 h1)
      · exact aop_sound hτ hpos hd1 h ha fun st' x w' h1 h2 => hK' _ _ (aopsG1_sound hτ hpos hQ os st' _ w' (by rw [size_put]; exact hd2) h2 h1)
    · exact ha.elim
theorem awp_regionG1 {Q : Exit → St → Prop} (t : Nat) (own : List Nat) (outs : List Out) (hτ : TyOk P τ) (hpos : TyPos τ) (al : List Nat) {id : Nat} {ops : List Oper} (hd : dstOk st.n ops = true) (h : aopsG1 P τ al t own outs ops (Q .normal) ops st) : awp P τ (.region id ops.toArray false) Q st := fun lo w0 a w hr => by
  have hn : a.tmps.size = st.n := by obtain ⟨ow, hd, bk, h⟩ := hr; exact h.size
  refine wp_region_lit (aopsG1_sound hτ hpos (fun st a w h1 h2 => ⟨st, h2, h1⟩) ops st a w (by rw [hn]; exact hd) hr h)
end
attribute [push_cast] St.cutI aCallG1 aopsG1 lentSt0 actFE plainA callX argsX argX boxOf boxOfL mkF
end Go.Proofs.Ytklconkoamoabaa

namespace Go.Proofs.Ytklconkoamoabaa
open Go.RowKit
set_option linter.unusedVariables false
set_option linter.unusedSimpArgs false

theorem st_open9 {us rc : Plc → List Int} {p0 : Plc} {n : Nat} (h : n ≤ (stQ us rc p0 n).length) : ∀ j, j < n → j < (stQ us rc p0 j).length := fun j hj => by
  rcases Nat.lt_or_ge j (stQ us rc p0 j).length with h1 | h1
  · exact h1
  · have := stQ_stop (us := us) (rc := rc) (p0 := p0) (i := j) (by omega) (j := n) (by omega)
    rw [this] at h
    omega
theorem nx_len9 {a : Ar} {rc : Plc → List Int} {p0 : Plc} {V : List Int → Prop} {B : Nat} (ha : arenaB a = true) (h : PlOk a rc p0 V B) {n : Nat} (hall : ∀ j, j < n → j < (stQ (usA a) rc p0 j).length) : ∀ r ∈ nxG a rc p0 n, r.length ≤ 16 := fun r hr => by
  unfold nxG at hr
  obtain ⟨j, hj, rfl⟩ := List.mem_map.1 hr
  have hj := hall j (List.mem_range.1 hj)
  have hp := pl_all ha h j _ (gq_mem hj)
  have h2 := (us_rg ha ⟨hp.1, hp.2.1⟩).2.1
  unfold nxQ
  rw [sortI_len]
  have h3 := (rowT_len (r := rc (gq (stQ (usA a) rc p0 j) j)) (us := usA a (gq (stQ (usA a) rc p0 j) j)) (ps := stQ (usA a) rc p0 j) (Nat.le_refl _)).1
  show (rowT _ _ _ _).2.length ≤ _
  rw [h3]
  omega
end Go.Proofs.Ytklconkoamoabaa

namespace Go.Proofs.Ytklconkoamoabaa
open Nat renaming reduceMod → zA, reduceMul → zB, reduceDiv → zC, reduceAdd → zD, reduceSub → zE, reduceEqDiff → zF, reduceBEq → zG, reduceLT → zH, reduceLeDiff → zI
open Go.RowKit
set_option linter.unusedVariables false
set_option linter.unusedSimpArgs false

def pairAt (ps : List Pr) (n : Int) (i : Nat) : Bool := isSetB (gp ps i).ask n && isSetB (gp ps i).give n
theorem pairAt_no1 {ps : List Pr} {n : Int} {i : Nat} (h : isSetB (gp ps i).ask n = false) : pairAt ps n i = false := by unfold pairAt; rw [h]; rfl
theorem pairAt_no2 {ps : List Pr} {n : Int} {i : Nat} (h : isSetB (gp ps i).give n = false) : pairAt ps n i = false := by unfold pairAt; rw [h, Bool.and_false]
theorem pairAt_yes {ps : List Pr} {n : Int} {i : Nat} (h : isSetB (gp ps i).ask n = true) (h2 : isSetB (gp ps i).give n = true) : pairAt ps n i = true := by unfold pairAt; rw [h, h2]; rfl
def arB (ps : List Pr) (n : Int) : Bool := decide (ps.length ≤ 4) && allB ps.length (pairAt ps n)
def prsB (ps : List Pr) (n : Int) : Bool := decide (0 ≤ n ∧ n ≤ 256) && arB ps n
theorem arB_no {ps : List Pr} {n : Int} {i : Nat} (hi : i < ps.length) (h : pairAt ps n i = false) : arB ps n = false := by unfold arB; rw [allB_false hi h, Bool.and_false]
theorem arB_len {ps : List Pr} {n : Int} (h : ∀ i, i < ps.length → pairAt ps n i = true) : arB ps n = decide (ps.length ≤ 4) := by unfold arB; rw [allB_true h, Bool.and_true]
theorem prsB_no1 {ps : List Pr} {n : Int} (h : ¬ (0 ≤ n ∧ n ≤ 256)) : prsB ps n = false := by unfold prsB; rw [decide_eq_false h]; rfl
theorem prsB_no2 {ps : List Pr} {n : Int} (h : arB ps n = false) : prsB ps n = false := by unfold prsB; rw [h, Bool.and_false]
theorem prsB_yes {ps : List Pr} {n : Int} (h : 0 ≤ n ∧ n ≤ 256) : prsB ps n = arB ps n := by unfold prsB; rw [decide_eq_true h]; rfl
theorem arB_no4 {ps : List Pr} {n : Int} (h : ¬ ps.length ≤ 4) : arB ps n = false := by unfold arB; rw [decide_eq_false h]; rfl
set_option maxRecDepth 20000 in
set_option maxHeartbeats 4000000 in
theorem arePairs_fn (ps : List Pr) (ha : PLn 1048576 ps) (n : Int) : Fn Try.prog tyT 82 [.c (.lst 99 (dII (ilv ps))), .c (.int .i64 n)] [.c (.bool (arB ps n))] := by
  have hl := ha.1
  have hg := fun k => gp_le ha k
  have hga : ∀ k, (gp ps k).ask.length ≤ 1048576 := fun k => (hg k).ask
  have hgg : ∀ k, (gp ps k).give.length ≤ 1048576 := fun k => (hg k).give
  have hli := len_ilv ps
  refine Fn_of (fn := Try.f82) (ts := [4]) Try.func82 (by kernel_rfl) rfl rfl (by rw [Try.ntmps82]; exact Nat.le_of_ble_eq_true rfl) rfl (by simp only [szA, List.mem_cons, List.not_mem_nil, or_false, forall_eq_or_imp, forall_eq, VT.cells, szL]; try decide) ?_
  rw [Try.ntmps82]
  simp only [push_cast, ↓brB_true, ↓brB_false, ↓reduceIte, zA, zB, zC, zD, zE, zF, zG, zH, zI, reduceCtorEq]
  refine awp_seq' fun K hK => ?_
  refine awp_region tyOk tyPos [] rfl ?_
  all_goals simp only [push_cast, ↓brB_true, ↓brB_false, ↓reduceIte, zA, zB, zC, zD, zE, zF, zG, zH, zI, reduceCtorEq]
  all_goals repeat' (first | (apply brB_mk <;> (intro hg; (try simp only [push_cast] at hg))) | apply And.intro | (intro hg; (try simp only [push_cast] at hg)))
  all_goals first | exact gA | (exact getE_dII (by simp only [push_cast]; omega)) | (exact getE_dII (by omega)) | skip
  all_goals first | (refine hK _ ?_; clear hK K) | (simp only [push_cast]; done)
  refine awp_seq' fun K1 hK1 => ?_
  refine awp_seq' fun K hK => ?_
  refine awp_region tyOk tyPos [] rfl ?_
  all_goals simp only [push_cast, ↓brB_true, ↓brB_false, ↓reduceIte, zA, zB, zC, zD, zE, zF, zG, zH, zI, reduceCtorEq]
  all_goals repeat' (first | (apply brB_mk <;> (intro hg; (try simp only [push_cast] at hg))) | apply And.intro | (intro hg; (try simp only [push_cast] at hg)))
  all_goals first | exact gA | (exact getE_dII (by simp only [push_cast]; omega)) | (exact getE_dII (by omega)) | skip
  all_goals first | (refine hK _ ?_; clear hK K) | (simp only [push_cast]; done)
  refine awp_block ?_
  refine awp_loopU [4,6,9,10,11,12,13,14,15,16,17,18,19,20,21,22,23,24,25] [] (fun (k : Nat) => [(9, .int .i64 k)]) (fun k => []) (fun k => []) (fun k => k ≤ ps.length ∧ ∀ j, j < k → pairAt ps n j = true) (fun k => ps.length - k) 0 ?_ ⟨by omega, fun j hj => by omega⟩ ?_
  ·
    refine cov_of rfl ?_ ?_ ?_ <;> simp only [covS, covL, push_cast, ↓brB_true, ↓brB_false, ↓reduceIte, zA, zB, zC, zD, zE, zF, zG, zH, zI, reduceCtorEq]
  · rintro k ⟨hk, hall⟩ KL0 hL0
    simp only [push_cast, ↓brB_true, ↓brB_false, ↓reduceIte, zA, zB, zC, zD, zE, zF, zG, zH, zI, reduceCtorEq]
    refine awp_seq' fun K hK => ?_
    refine awp_region tyOk tyPos [] rfl ?_
    all_goals simp only [push_cast, ↓brB_true, ↓brB_false, ↓reduceIte, zA, zB, zC, zD, zE, zF, zG, zH, zI, reduceCtorEq]
    all_goals repeat' (first | (apply brB_mk <;> (intro hg; (try simp only [push_cast] at hg))) | apply And.intro | (intro hg; (try simp only [push_cast] at hg)))
    all_goals first | exact gA | (exact getE_dII (by simp only [push_cast]; omega)) | (exact getE_dII (by omega)) | skip
    all_goals first | (refine hK _ ?_; clear hK K) | (simp only [push_cast]; done)
    refine awp_seq' fun K2 hK2 => ?_
    refine awp_cond rfl (fun hc => ?_) (fun hc => ?_) <;> (try simp only [push_cast] at hc)
    ·
      refine awp_skip ?_
      (try simp only [AThen, ABlk, reduceIte, zF]); refine hK2 _ ?_
      refine awp_seq' fun K3 hK3 => ?_
      refine awp_block ?_
      refine awp_seq' fun K hK => ?_
      refine awp_region tyOk tyPos [] rfl ?_
      all_goals simp only [push_cast, ↓brB_true, ↓brB_false, ↓reduceIte, zA, zB, zC, zD, zE, zF, zG, zH, zI, reduceCtorEq]
      all_goals repeat' (first | (apply brB_mk <;> (intro hg; (try simp only [push_cast] at hg))) | apply And.intro | (intro hg; (try simp only [push_cast] at hg)))
      all_goals first | exact gA | (exact getE_dII (by simp only [push_cast]; omega)) | (exact getE_dII (by omega)) | skip
      all_goals first | (refine hK _ ?_; clear hK K) | (simp only [push_cast]; done)
      refine awp_seq' fun K hK => ?_
      refine awp_regionN false tyOk tyPos ?_ rfl ?_
      · kernel_rfl
      all_goals refine seqE_cut 4 fun K9 hK9 => ?_
      all_goals simp only [push_cast, ↓brB_true, ↓brB_false, ↓reduceIte, zA, zB, zC, zD, zE, zF, zG, zH, zI, reduceCtorEq]
      all_goals repeat' (first | (apply brB_mk <;> (intro hg; (try simp only [push_cast] at hg))) | (refine ⟨_, isSet_fn (gp ps k).ask n (hga k), ?_⟩; simp only [push_cast, ↓brB_true, ↓brB_false, ↓reduceIte, zA, zB, zC, zD, zE, zF, zG, zH, zI, reduceCtorEq]) | (refine ⟨_, isSet_fn (gp ps k).give n (hgg k), ?_⟩; simp only [push_cast, ↓brB_true, ↓brB_false, ↓reduceIte, zA, zB, zC, zD, zE, zF, zG, zH, zI, reduceCtorEq]) | apply And.intro | (intro hg; (try simp only [push_cast] at hg)))
      all_goals first | exact gA | (exact getE_dII (by simp only [push_cast]; omega)) | (exact getE_dII (by omega)) | skip
      all_goals first | (refine hK9 _ ?_; clear hK9 K9) | (simp only [push_cast]; done)
      all_goals refine seqE_cut 6 fun K9 hK9 => ?_
      all_goals simp only [push_cast, ↓brB_true, ↓brB_false, ↓reduceIte, zA, zB, zC, zD, zE, zF, zG, zH, zI, reduceCtorEq]
      all_goals repeat' (first | (apply brB_mk <;> (intro hg; (try simp only [push_cast] at hg))) | (refine ⟨_, isSet_fn (gp ps k).ask n (hga k), ?_⟩; simp only [push_cast, ↓brB_true, ↓brB_false, ↓reduceIte, zA, zB, zC, zD, zE, zF, zG, zH, zI, reduceCtorEq]) | (refine ⟨_, isSet_fn (gp ps k).give n (hgg k), ?_⟩; simp only [push_cast, ↓brB_true, ↓brB_false, ↓reduceIte, zA, zB, zC, zD, zE, zF, zG, zH, zI, reduceCtorEq]) | apply And.intro | (intro hg; (try simp only [push_cast] at hg)))
      all_goals first | exact gA | (exact getE_dII (by simp only [push_cast]; omega)) | (exact getE_dII (by omega)) | skip
      all_goals first | (refine hK9 _ ?_; clear hK9 K9) | (simp only [push_cast]; done)
      all_goals simp only [push_cast, ↓brB_true, ↓brB_false, ↓reduceIte, zA, zB, zC, zD, zE, zF, zG, zH, zI, reduceCtorEq]
      all_goals repeat' (first | (apply brB_mk <;> (intro hg; (try simp only [push_cast] at hg))) | (refine ⟨_, isSet_fn (gp ps k).ask n (hga k), ?_⟩; simp only [push_cast, ↓brB_true, ↓brB_false, ↓reduceIte, zA, zB, zC, zD, zE, zF, zG, zH, zI, reduceCtorEq]) | (refine ⟨_, isSet_fn (gp ps k).give n (hgg k), ?_⟩; simp only [push_cast, ↓brB_true, ↓brB_false, ↓reduceIte, zA, zB, zC, zD, zE, zF, zG, zH, zI, reduceCtorEq]) | apply And.intro | (intro hg; (try simp only [push_cast] at hg)))
      all_goals first | exact gA | (exact getE_dII (by simp only [push_cast]; omega)) | (exact getE_dII (by omega)) | skip
      all_goals first | (refine hK _ ?_; clear hK K) | (simp only [push_cast]; done)
      all_goals refine awp_cond rfl (fun hc => ?_) (fun hc => ?_)
      all_goals (first | (cases hc; done) | skip)
      all_goals (try simp only [push_cast] at hc)
      all_goals try (
          refine awp_seq' fun K hK => ?_
          refine awp_region tyOk tyPos [] rfl ?_
          all_goals simp only [push_cast, ↓brB_true, ↓brB_false, ↓reduceIte, zA, zB, zC, zD, zE, zF, zG, zH, zI, reduceCtorEq]
          all_goals repeat' (first | (apply brB_mk <;> (intro hg; (try simp only [push_cast] at hg))) | apply And.intro | (intro hg; (try simp only [push_cast] at hg)))
          all_goals first | exact gA | (exact getE_dII (by simp only [push_cast]; omega)) | (exact getE_dII (by omega)) | skip
          all_goals first | (refine hK _ ?_; clear hK K) | (simp only [push_cast]; done)
          refine awp_ret ?_
          (try simp only [AThen, ABlk])
          refine ⟨Or.inl rfl, ?_⟩
          simp only [RetOk, push_cast, ↓brB_true, ↓brB_false, ↓reduceIte, zA, zB, zC, zD, zE, zF, zG, zH, zI, reduceCtorEq]
          first | exact (arB_no (i := k) (by omega) (pairAt_no1 (by with_reducible assumption))).symm | exact (arB_no (i := k) (by omega) (pairAt_no2 (by with_reducible assumption))).symm
          done)
      refine awp_skip ?_
      (try simp only [AThen, ABlk, reduceIte, zF]); refine hK3 _ ?_
      refine awp_region tyOk tyPos [] rfl ?_
      all_goals simp only [push_cast, ↓brB_true, ↓brB_false, ↓reduceIte, zA, zB, zC, zD, zE, zF, zG, zH, zI, reduceCtorEq]
      all_goals repeat' (first | (apply brB_mk <;> (intro hg; (try simp only [push_cast] at hg))) | apply And.intro | (intro hg; (try simp only [push_cast] at hg)))
      all_goals first | exact gA | (exact getE_dII (by simp only [push_cast]; omega)) | (exact getE_dII (by omega)) | skip
      refine hL0 _ ⟨k + 1, ⟨by omega, fun j hj => (by
          by_cases hjk : j = k
          · subst hjk; exact pairAt_yes (by with_reducible assumption) (by with_reducible assumption)
          · exact hall j (by omega))⟩, by omega, ?_⟩
      refine cov_of rfl ?_ ?_ ?_ <;> simp only [covS, covL, push_cast, ↓brB_true, ↓brB_false, ↓reduceIte, zA, zB, zC, zD, zE, zF, zG, zH, zI, reduceCtorEq]
    ·
      refine awp_exit ?_
      have hkk : k = ps.length := by omega
      subst hkk
      (try simp only [AThen, ABlk, reduceIte, zF]); refine hK1 _ ?_
      refine awp_seq' fun K hK => ?_
      refine awp_region tyOk tyPos [] rfl ?_
      all_goals simp only [push_cast, ↓brB_true, ↓brB_false, ↓reduceIte, zA, zB, zC, zD, zE, zF, zG, zH, zI, reduceCtorEq]
      all_goals repeat' (first | (apply brB_mk <;> (intro hg; (try simp only [push_cast] at hg))) | apply And.intro | (intro hg; (try simp only [push_cast] at hg)))
      all_goals first | exact gA | (exact getE_dII (by simp only [push_cast]; omega)) | (exact getE_dII (by omega)) | skip
      all_goals first | (refine hK _ ?_; clear hK K) | (simp only [push_cast]; done)
      refine awp_ret ?_
      (try simp only [AThen, ABlk])
      refine ⟨Or.inl rfl, ?_⟩
      simp only [RetOk, push_cast, ↓brB_true, ↓brB_false, ↓reduceIte, zA, zB, zC, zD, zE, zF, zG, zH, zI, reduceCtorEq]
      rw [arB_len hall]
      all_goals first | rfl | (simp; done) | (refine decide_eq_decide.2 ?_; omega) | (symm; refine decide_eq_decide.2 ?_; omega)
set_option maxRecDepth 20000 in
set_option maxHeartbeats 4000000 in
theorem PairsOkS_fn (ps : List Pr) (ha : PLn 1048576 ps) (n : Int) : Fn Try.prog tyT 78 [.c (.lst 99 (dII (ilv ps))), .c (.int .i64 n)] [.c (.bool (prsB ps n))] := by
  have hl := ha.1
  have hg := fun k => gp_le ha k
  have hga : ∀ k, (gp ps k).ask.length ≤ 1048576 := fun k => (hg k).ask
  have hgg : ∀ k, (gp ps k).give.length ≤ 1048576 := fun k => (hg k).give
  have hli := len_ilv ps
  refine Fn_of (fn := Try.f78) (ts := [4]) Try.func78 (by kernel_rfl) rfl rfl (by rw [Try.ntmps78]; exact Nat.le_of_ble_eq_true rfl) rfl (by simp only [szA, List.mem_cons, List.not_mem_nil, or_false, forall_eq_or_imp, forall_eq, VT.cells, szL]; try decide) ?_
  rw [Try.ntmps78]
  simp only [push_cast, ↓brB_true, ↓brB_false, ↓reduceIte, zA, zB, zC, zD, zE, zF, zG, zH, zI, reduceCtorEq]
  refine awp_seq' fun K hK => ?_
  refine awp_region tyOk tyPos [] rfl ?_
  all_goals simp only [push_cast, ↓brB_true, ↓brB_false, ↓reduceIte, zA, zB, zC, zD, zE, zF, zG, zH, zI, reduceCtorEq]
  all_goals repeat' (first | (apply brB_mk <;> (intro hg; (try simp only [push_cast] at hg))) | apply And.intro | (intro hg; (try simp only [push_cast] at hg)))
  all_goals first | exact gA | (exact getE_dII (by simp only [push_cast]; omega)) | (exact getE_dII (by omega)) | skip
  all_goals first | (refine hK _ ?_; clear hK K) | (simp only [push_cast]; done)
  refine awp_seq' fun K1 hK1 => ?_
  refine awp_seq' fun K hK => ?_
  refine awp_regionN false tyOk tyPos ?_ rfl ?_
  · kernel_rfl
  all_goals refine seqE_cut 2 fun K9 hK9 => ?_
  all_goals simp only [push_cast, ↓brB_true, ↓brB_false, ↓reduceIte, zA, zB, zC, zD, zE, zF, zG, zH, zI, reduceCtorEq]
  all_goals repeat' (first | (apply brB_mk <;> (intro hg; (try simp only [push_cast] at hg))) | (refine ⟨_, l1In_fn n 0 256, ?_⟩; simp only [push_cast, ↓brB_true, ↓brB_false, ↓reduceIte, zA, zB, zC, zD, zE, zF, zG, zH, zI, reduceCtorEq]) | apply And.intro | (intro hg; (try simp only [push_cast] at hg)))
  all_goals first | exact gA | (exact getE_dII (by simp only [push_cast]; omega)) | (exact getE_dII (by omega)) | skip
  all_goals first | (refine hK9 _ ?_; clear hK9 K9) | (simp only [push_cast]; done)
  all_goals simp only [push_cast, ↓brB_true, ↓brB_false, ↓reduceIte, zA, zB, zC, zD, zE, zF, zG, zH, zI, reduceCtorEq]
  all_goals repeat' (first | (apply brB_mk <;> (intro hg; (try simp only [push_cast] at hg))) | (refine ⟨_, l1In_fn n 0 256, ?_⟩; simp only [push_cast, ↓brB_true, ↓brB_false, ↓reduceIte, zA, zB, zC, zD, zE, zF, zG, zH, zI, reduceCtorEq]) | apply And.intro | (intro hg; (try simp only [push_cast] at hg)))
  all_goals first | exact gA | (exact getE_dII (by simp only [push_cast]; omega)) | (exact getE_dII (by omega)) | skip
  all_goals first | (refine hK _ ?_; clear hK K) | (simp only [push_cast]; done)
  all_goals refine awp_cond rfl (fun hc => ?_) (fun hc => ?_)
  all_goals (first | (cases hc; done) | skip)
  all_goals (try simp only [push_cast] at hc)
  all_goals try (
      refine awp_seq' fun K hK => ?_
      refine awp_region tyOk tyPos [] rfl ?_
      all_goals simp only [push_cast, ↓brB_true, ↓brB_false, ↓reduceIte, zA, zB, zC, zD, zE, zF, zG, zH, zI, reduceCtorEq]
      all_goals repeat' (first | (apply brB_mk <;> (intro hg; (try simp only [push_cast] at hg))) | apply And.intro | (intro hg; (try simp only [push_cast] at hg)))
      all_goals first | exact gA | (exact getE_dII (by simp only [push_cast]; omega)) | (exact getE_dII (by omega)) | skip
      all_goals first | (refine hK _ ?_; clear hK K) | (simp only [push_cast]; done)
      refine awp_ret ?_
      (try simp only [AThen, ABlk])
      refine ⟨Or.inl rfl, ?_⟩
      simp only [RetOk, push_cast, ↓brB_true, ↓brB_false, ↓reduceIte, zA, zB, zC, zD, zE, zF, zG, zH, zI, reduceCtorEq]
      all_goals first | exact (prsB_no1 (by omega)).symm | exact (prsB_no2 (arB_no4 (by omega))).symm
      done)
  refine awp_skip ?_
  (try simp only [AThen, ABlk, reduceIte, zF]); refine hK1 _ ?_
  refine awp_seq' fun K2 hK2 => ?_
  refine awp_seq' fun K hK => ?_
  refine awp_region tyOk tyPos [] rfl ?_
  all_goals simp only [push_cast, ↓brB_true, ↓brB_false, ↓reduceIte, zA, zB, zC, zD, zE, zF, zG, zH, zI, reduceCtorEq]
  all_goals repeat' (first | (apply brB_mk <;> (intro hg; (try simp only [push_cast] at hg))) | apply And.intro | (intro hg; (try simp only [push_cast] at hg)))
  all_goals first | exact gA | (exact getE_dII (by simp only [push_cast]; omega)) | (exact getE_dII (by omega)) | skip
  all_goals first | (refine hK _ ?_; clear hK K) | (simp only [push_cast]; done)
  refine awp_block ?_
  refine awp_loopU [4,5,9,14,15,16,17,18,19,20,21,22,23,24,25,26,27,28,29,30,31,32,33,34,35,36,37] [] (fun (k : Nat) => [(5, .int .i64 k)]) (fun k => []) (fun k => []) (fun k => k ≤ ps.length ∧ ∀ j, j < k → pairAt ps n j = true) (fun k => ps.length - k) 0 ?_ ⟨by omega, fun j hj => by omega⟩ ?_
  ·
    refine cov_of rfl ?_ ?_ ?_ <;> simp only [covS, covL, push_cast, ↓brB_true, ↓brB_false, ↓reduceIte, zA, zB, zC, zD, zE, zF, zG, zH, zI, reduceCtorEq]
  · rintro k ⟨hk, hall⟩ KL0 hL0
    simp only [push_cast, ↓brB_true, ↓brB_false, ↓reduceIte, zA, zB, zC, zD, zE, zF, zG, zH, zI, reduceCtorEq]
    refine awp_seq' fun K3 hK3 => ?_
    refine awp_seq' fun K hK => ?_
    refine awp_region tyOk tyPos [] rfl ?_
    all_goals simp only [push_cast, ↓brB_true, ↓brB_false, ↓reduceIte, zA, zB, zC, zD, zE, zF, zG, zH, zI, reduceCtorEq]
    all_goals repeat' (first | (apply brB_mk <;> (intro hg; (try simp only [push_cast] at hg))) | apply And.intro | (intro hg; (try simp only [push_cast] at hg)))
    all_goals first | exact gA | (exact getE_dII (by simp only [push_cast]; omega)) | (exact getE_dII (by omega)) | skip
    all_goals first | (refine hK _ ?_; clear hK K) | (simp only [push_cast]; done)
    refine awp_cond rfl (fun hc => ?_) (fun hc => ?_) <;> (try simp only [push_cast] at hc)
    ·
      refine awp_skip ?_
      (try simp only [AThen, ABlk, reduceIte, zF]); refine hK3 _ ?_
      refine awp_seq' fun K4 hK4 => ?_
      refine awp_block ?_
      refine awp_seq' fun K hK => ?_
      refine awp_regionN false tyOk tyPos ?_ rfl ?_
      · kernel_rfl
      all_goals refine seqE_cut 7 fun K9 hK9 => ?_
      all_goals simp only [push_cast, ↓brB_true, ↓brB_false, ↓reduceIte, zA, zB, zC, zD, zE, zF, zG, zH, zI, reduceCtorEq]
      all_goals repeat' (first | (apply brB_mk <;> (intro hg; (try simp only [push_cast] at hg))) | (refine ⟨_, SetOkS_fn (gp ps k).ask (hga k) n (by omega), ?_⟩; simp only [push_cast, ↓brB_true, ↓brB_false, ↓reduceIte, zA, zB, zC, zD, zE, zF, zG, zH, zI, reduceCtorEq]) | (refine ⟨_, SetOkS_fn (gp ps k).give (hgg k) n (by omega), ?_⟩; simp only [push_cast, ↓brB_true, ↓brB_false, ↓reduceIte, zA, zB, zC, zD, zE, zF, zG, zH, zI, reduceCtorEq]) | apply And.intro | (intro hg; (try simp only [push_cast] at hg)))
      all_goals first | exact gA | (exact getE_dII (by simp only [push_cast]; omega)) | (exact getE_dII (by omega)) | skip
      all_goals first | (refine hK9 _ ?_; clear hK9 K9) | (simp only [push_cast]; done)
      all_goals refine seqE_cut 9 fun K9 hK9 => ?_
      all_goals simp only [push_cast, ↓brB_true, ↓brB_false, ↓reduceIte, zA, zB, zC, zD, zE, zF, zG, zH, zI, reduceCtorEq]
      all_goals repeat' (first | (apply brB_mk <;> (intro hg; (try simp only [push_cast] at hg))) | (refine ⟨_, SetOkS_fn (gp ps k).ask (hga k) n (by omega), ?_⟩; simp only [push_cast, ↓brB_true, ↓brB_false, ↓reduceIte, zA, zB, zC, zD, zE, zF, zG, zH, zI, reduceCtorEq]) | (refine ⟨_, SetOkS_fn (gp ps k).give (hgg k) n (by omega), ?_⟩; simp only [push_cast, ↓brB_true, ↓brB_false, ↓reduceIte, zA, zB, zC, zD, zE, zF, zG, zH, zI, reduceCtorEq]) | apply And.intro | (intro hg; (try simp only [push_cast] at hg)))
      all_goals first | exact gA | (exact getE_dII (by simp only [push_cast]; omega)) | (exact getE_dII (by omega)) | skip
      all_goals first | (refine hK9 _ ?_; clear hK9 K9) | (simp only [push_cast]; done)
      all_goals simp only [push_cast, ↓brB_true, ↓brB_false, ↓reduceIte, zA, zB, zC, zD, zE, zF, zG, zH, zI, reduceCtorEq]
      all_goals repeat' (first | (apply brB_mk <;> (intro hg; (try simp only [push_cast] at hg))) | (refine ⟨_, SetOkS_fn (gp ps k).ask (hga k) n (by omega), ?_⟩; simp only [push_cast, ↓brB_true, ↓brB_false, ↓reduceIte, zA, zB, zC, zD, zE, zF, zG, zH, zI, reduceCtorEq]) | (refine ⟨_, SetOkS_fn (gp ps k).give (hgg k) n (by omega), ?_⟩; simp only [push_cast, ↓brB_true, ↓brB_false, ↓reduceIte, zA, zB, zC, zD, zE, zF, zG, zH, zI, reduceCtorEq]) | apply And.intro | (intro hg; (try simp only [push_cast] at hg)))
      all_goals first | exact gA | (exact getE_dII (by simp only [push_cast]; omega)) | (exact getE_dII (by omega)) | skip
      all_goals first | (refine hK _ ?_; clear hK K) | (simp only [push_cast]; done)
      all_goals refine awp_cond rfl (fun hc => ?_) (fun hc => ?_)
      all_goals (first | (cases hc; done) | skip)
      all_goals (try simp only [push_cast] at hc)
      all_goals try (
          refine awp_seq' fun K hK => ?_
          refine awp_region tyOk tyPos [] rfl ?_
          all_goals simp only [push_cast, ↓brB_true, ↓brB_false, ↓reduceIte, zA, zB, zC, zD, zE, zF, zG, zH, zI, reduceCtorEq]
          all_goals repeat' (first | (apply brB_mk <;> (intro hg; (try simp only [push_cast] at hg))) | apply And.intro | (intro hg; (try simp only [push_cast] at hg)))
          all_goals first | exact gA | (exact getE_dII (by simp only [push_cast]; omega)) | (exact getE_dII (by omega)) | skip
          all_goals first | (refine hK _ ?_; clear hK K) | (simp only [push_cast]; done)
          refine awp_ret ?_
          (try simp only [AThen, ABlk])
          refine ⟨Or.inl rfl, ?_⟩
          simp only [RetOk, push_cast, ↓brB_true, ↓brB_false, ↓reduceIte, zA, zB, zC, zD, zE, zF, zG, zH, zI, reduceCtorEq]
          first | exact (prsB_no2 (arB_no (i := k) (by omega) (pairAt_no1 (by with_reducible assumption)))).symm | exact (prsB_no2 (arB_no (i := k) (by omega) (pairAt_no2 (by with_reducible assumption)))).symm
          done)
      refine awp_skip ?_
      (try simp only [AThen, ABlk, reduceIte, zF]); refine hK4 _ ?_
      refine awp_region tyOk tyPos [] rfl ?_
      all_goals simp only [push_cast, ↓brB_true, ↓brB_false, ↓reduceIte, zA, zB, zC, zD, zE, zF, zG, zH, zI, reduceCtorEq]
      all_goals repeat' (first | (apply brB_mk <;> (intro hg; (try simp only [push_cast] at hg))) | apply And.intro | (intro hg; (try simp only [push_cast] at hg)))
      all_goals first | exact gA | (exact getE_dII (by simp only [push_cast]; omega)) | (exact getE_dII (by omega)) | skip
      refine hL0 _ ⟨k + 1, ⟨by omega, fun j hj => (by
          by_cases hjk : j = k
          · subst hjk; exact pairAt_yes (by with_reducible assumption) (by with_reducible assumption)
          · exact hall j (by omega))⟩, by omega, ?_⟩
      refine cov_of rfl ?_ ?_ ?_ <;> simp only [covS, covL, push_cast, ↓brB_true, ↓brB_false, ↓reduceIte, zA, zB, zC, zD, zE, zF, zG, zH, zI, reduceCtorEq]
    ·
      refine awp_exit ?_
      have hkk : k = ps.length := by omega
      subst hkk
      (try simp only [AThen, ABlk, reduceIte, zF]); refine hK2 _ ?_
      refine awp_seq' fun K hK => ?_
      refine awp_region tyOk tyPos [] rfl ?_
      all_goals simp only [push_cast, ↓brB_true, ↓brB_false, ↓reduceIte, zA, zB, zC, zD, zE, zF, zG, zH, zI, reduceCtorEq]
      all_goals repeat' (first | (apply brB_mk <;> (intro hg; (try simp only [push_cast] at hg))) | apply And.intro | (intro hg; (try simp only [push_cast] at hg)))
      all_goals first | exact gA | (exact getE_dII (by simp only [push_cast]; omega)) | (exact getE_dII (by omega)) | skip
      all_goals first | (refine hK _ ?_; clear hK K) | (simp only [push_cast]; done)
      refine awp_ret ?_
      (try simp only [AThen, ABlk])
      refine ⟨Or.inl rfl, ?_⟩
      simp only [RetOk, push_cast, ↓brB_true, ↓brB_false, ↓reduceIte, zA, zB, zC, zD, zE, zF, zG, zH, zI, reduceCtorEq]
      rw [prsB_yes (by omega), arB_len hall]
      exact (decide_eq_true (by omega)).symm
end Go.Proofs.Ytklconkoamoabaa

namespace Go.Proofs.Ytklconkoamoabaa
open Nat renaming reduceMod → zA, reduceMul → zB, reduceDiv → zC, reduceAdd → zD, reduceSub → zE, reduceEqDiff → zF, reduceBEq → zG, reduceLT → zH, reduceLeDiff → zI
open Go.RowKit
set_option linter.unusedVariables false
set_option linter.unusedSimpArgs false

def gvB (ps : List Pr) (r : List Int) (v : Int) (i : Nat) : Bool := hasB (gp ps (gi r i).toNat).give v
def nrF (ps : List Pr) (r : List Int) (v : Int) : Nat → List Int
  | 0 => []
  | i + 1 => if gvB ps r v i = true then nrF ps r v i ++ [gi r i] else nrF ps r v i
def nrR (ps : List Pr) (r : List Int) (v : Int) : Nat → List Int
  | 0 => []
  | i + 1 => if gvB ps r v i = true then nrR ps r v i else nrR ps r v i ++ [gi r i]
theorem nrF_yes {ps : List Pr} {r : List Int} {v : Int} {i : Nat} (h : gvB ps r v i = true) : nrF ps r v (i + 1) = nrF ps r v i ++ [gi r i] := if_pos h
theorem nrF_no {ps : List Pr} {r : List Int} {v : Int} {i : Nat} (h : gvB ps r v i = false) : nrF ps r v (i + 1) = nrF ps r v i := if_neg (by rw [h]; decide)
theorem nrR_yes {ps : List Pr} {r : List Int} {v : Int} {i : Nat} (h : gvB ps r v i = true) : nrR ps r v (i + 1) = nrR ps r v i := if_pos h
theorem nrR_no {ps : List Pr} {r : List Int} {v : Int} {i : Nat} (h : gvB ps r v i = false) : nrR ps r v (i + 1) = nrR ps r v i ++ [gi r i] := if_neg (by rw [h]; decide)
theorem nr_len (ps : List Pr) (r : List Int) (v : Int) : ∀ i, (nrF ps r v i).length + (nrR ps r v i).length = i
  | 0 => rfl
  | i + 1 => by
    have h := nr_len ps r v i
    cases hb : gvB ps r v i with
    | true => rw [nrF_yes hb, nrR_yes hb, List.length_append, List.length_singleton]; omega
    | false => rw [nrF_no hb, nrR_no hb, List.length_append, List.length_singleton]; omega
set_option maxRecDepth 20000 in
set_option maxHeartbeats 4000000 in
theorem nextRecI_fn (ps : List Pr) (ha : PLn 1048576 ps) (r : List Int) (hr : r.length ≤ 1048576) (hrr : ∀ i, i < r.length → 0 ≤ gi r i ∧ gi r i < (ps.length : Int)) (v : Int) : Fn Try.prog tyT 107 [.c (.lst 99 (dII (ilv ps))), .c (DI r), .c (.int .i64 v)] [.c (DI (nrF ps r v r.length ++ nrR ps r v r.length))] := by
  have hl := ha.1
  have hg := fun k => gp_le ha k
  have hgg : ∀ k, (gp ps k).give.length ≤ 1048576 := fun k => (hg k).give
  have hli := len_ilv ps
  have hnl := nr_len ps r v
  refine Fn_of (fn := Try.f107) (ts := [6]) Try.func107 (by kernel_rfl) rfl rfl (by rw [Try.ntmps107]; exact Nat.le_of_ble_eq_true rfl) rfl (by simp only [szA, List.mem_cons, List.not_mem_nil, or_false, forall_eq_or_imp, forall_eq, VT.cells, szL]; try decide) ?_
  rw [Try.ntmps107]
  simp only [push_cast, ↓brB_true, ↓brB_false, ↓reduceIte, zA, zB, zC, zD, zE, zF, zG, zH, zI, reduceCtorEq]
  refine awp_seq' fun K hK => ?_
  refine awp_region tyOk tyPos [] rfl ?_
  all_goals simp only [push_cast, ↓brB_true, ↓brB_false, ↓reduceIte, zA, zB, zC, zD, zE, zF, zG, zH, zI, reduceCtorEq]
  all_goals repeat' (first | (apply brB_mk <;> (intro hg; (try simp only [push_cast] at hg))) | apply And.intro | (intro hg; (try simp only [push_cast] at hg)))
  all_goals first | exact gA | (exact getE_dII (by simp only [push_cast]; omega)) | (exact getE_dII (by omega)) | skip
  all_goals first | (refine hK _ ?_; clear hK K) | (simp only [push_cast]; done)
  refine awp_seq' fun K hK => ?_
  refine awp_region tyOk tyPos [] rfl ?_
  all_goals simp only [push_cast, ↓brB_true, ↓brB_false, ↓reduceIte, zA, zB, zC, zD, zE, zF, zG, zH, zI, reduceCtorEq]
  all_goals repeat' (first | (apply brB_mk <;> (intro hg; (try simp only [push_cast] at hg))) | apply And.intro | (intro hg; (try simp only [push_cast] at hg)))
  all_goals first | exact gA | (exact getE_dII (by simp only [push_cast]; omega)) | (exact getE_dII (by omega)) | skip
  all_goals first | (refine hK _ ?_; clear hK K) | (simp only [push_cast]; done)
  refine awp_seq' fun K1 hK1 => ?_
  refine awp_seq' fun K hK => ?_
  refine awp_region tyOk tyPos [] rfl ?_
  all_goals simp only [push_cast, ↓brB_true, ↓brB_false, ↓reduceIte, zA, zB, zC, zD, zE, zF, zG, zH, zI, reduceCtorEq]
  all_goals repeat' (first | (apply brB_mk <;> (intro hg; (try simp only [push_cast] at hg))) | apply And.intro | (intro hg; (try simp only [push_cast] at hg)))
  all_goals first | exact gA | (exact getE_dII (by simp only [push_cast]; omega)) | (exact getE_dII (by omega)) | skip
  all_goals first | (refine hK _ ?_; clear hK K) | (simp only [push_cast]; done)
  refine awp_block ?_
  refine awp_loopU [7,8,10,15,16,17,18,19,20,21,22,23,24,25,26,27,28,29,30,31,32,33,34] [112,128] (fun (k : Nat) => [(15, .int .i64 k), (7, .sl 112 [] 0 (nrF ps r v k).length 2), (8, .sl 128 [] 0 (nrR ps r v k).length 2)]) (fun k => []) (fun k => [(112, ⟨.ex, 2, dI (nrF ps r v k), none⟩), (128, ⟨.ex, 2, dI (nrR ps r v k), none⟩)]) (fun k => k ≤ r.length) (fun k => r.length - k) 0 ?_ (by omega) ?_
  ·
    rw [show nrF ps r v 0 = [] from rfl, show nrR ps r v 0 = [] from rfl, show dI ([] : List Int) = [] from rfl]
    refine cov_of rfl ?_ ?_ ?_ <;> simp only [covS, covL, push_cast, ↓brB_true, ↓brB_false, ↓reduceIte, zA, zB, zC, zD, zE, zF, zG, zH, zI, reduceCtorEq]
  · rintro k hk KL0 hL0
    simp only [push_cast, ↓brB_true, ↓brB_false, ↓reduceIte, zA, zB, zC, zD, zE, zF, zG, zH, zI, reduceCtorEq]
    refine awp_seq' fun K hK => ?_
    refine awp_region tyOk tyPos [] rfl ?_
    all_goals simp only [push_cast, ↓brB_true, ↓brB_false, ↓reduceIte, zA, zB, zC, zD, zE, zF, zG, zH, zI, reduceCtorEq]
    all_goals repeat' (first | (apply brB_mk <;> (intro hg; (try simp only [push_cast] at hg))) | apply And.intro | (intro hg; (try simp only [push_cast] at hg)))
    all_goals first | exact gA | (exact getE_dII (by simp only [push_cast]; omega)) | (exact getE_dII (by omega)) | skip
    all_goals first | (refine hK _ ?_; clear hK K) | (simp only [push_cast]; done)
    refine awp_seq' fun K2 hK2 => ?_
    refine awp_cond rfl (fun hc => ?_) (fun hc => ?_) <;> (try simp only [push_cast] at hc)
    ·
      refine awp_skip ?_
      (try simp only [AThen, ABlk, reduceIte, zF]); refine hK2 _ ?_
      refine awp_seq' fun K3 hK3 => ?_
      refine awp_block ?_
      have hrk := hrr k (by omega)
      have hnk := hnl k
      refine awp_seq' fun K hK => ?_
      refine awp_region tyOk tyPos [] rfl ?_
      all_goals simp only [push_cast, ↓brB_true, ↓brB_false, ↓reduceIte, zA, zB, zC, zD, zE, zF, zG, zH, zI, reduceCtorEq]
      all_goals repeat' (first | (apply brB_mk <;> (intro hg; (try simp only [push_cast] at hg))) | apply And.intro | (intro hg; (try simp only [push_cast] at hg)))
      all_goals first | exact gA | (exact getE_dII (by simp only [push_cast]; omega)) | (exact getE_dII (by omega)) | skip
      all_goals first | (refine hK _ ?_; clear hK K) | (simp only [push_cast]; done)
      refine awp_seq' fun K hK => ?_
      refine awp_region tyOk tyPos [] rfl ?_
      all_goals refine aops_cut 7 fun K9 hK9 => ?_
      all_goals simp only [push_cast, ↓brB_true, ↓brB_false, ↓reduceIte, zA, zB, zC, zD, zE, zF, zG, zH, zI, reduceCtorEq]
      all_goals repeat' (first | (apply brB_mk <;> (intro hg; (try simp only [push_cast] at hg))) | (refine ⟨_, Contains_fn (gp ps (gi r k).toNat).give v (hgg _), ?_⟩; simp only [push_cast, ↓brB_true, ↓brB_false, ↓reduceIte, zA, zB, zC, zD, zE, zF, zG, zH, zI, reduceCtorEq]) | apply And.intro | (intro hg; (try simp only [push_cast] at hg)))
      all_goals first | exact gA | (exact getE_dII (by simp only [push_cast]; omega)) | (exact getE_dII (by omega)) | skip
      all_goals first | (refine hK9 _ ?_; clear hK9 K9) | (simp only [push_cast]; done)
      all_goals simp only [push_cast, ↓brB_true, ↓brB_false, ↓reduceIte, zA, zB, zC, zD, zE, zF, zG, zH, zI, reduceCtorEq]
      all_goals repeat' (first | (apply brB_mk <;> (intro hg; (try simp only [push_cast] at hg))) | (refine ⟨_, Contains_fn (gp ps (gi r k).toNat).give v (hgg _), ?_⟩; simp only [push_cast, ↓brB_true, ↓brB_false, ↓reduceIte, zA, zB, zC, zD, zE, zF, zG, zH, zI, reduceCtorEq]) | apply And.intro | (intro hg; (try simp only [push_cast] at hg)))
      all_goals first | exact gA | (exact getE_dII (by simp only [push_cast]; omega)) | (exact getE_dII (by omega)) | skip
      all_goals first | (refine hK _ ?_; clear hK K) | (simp only [push_cast]; done)
      refine awp_cond rfl (fun hc => ?_) (fun hc => ?_) <;> (try simp only [push_cast] at hc)
      ·
        refine awp_region tyOk tyPos [] rfl ?_
        all_goals simp only [push_cast, ↓brB_true, ↓brB_false, ↓reduceIte, zA, zB, zC, zD, zE, zF, zG, zH, zI, reduceCtorEq]
        all_goals repeat' (first | (apply brB_mk <;> (intro hg; (try simp only [push_cast] at hg))) | apply And.intro | (intro hg; (try simp only [push_cast] at hg)))
        all_goals first | exact gA | (exact getE_dII (by simp only [push_cast]; omega)) | (exact getE_dII (by omega)) | skip
        (try simp only [AThen, ABlk, reduceIte, zF]); refine hK3 _ ?_
        refine awp_region tyOk tyPos [] rfl ?_
        all_goals simp only [push_cast, ↓brB_true, ↓brB_false, ↓reduceIte, zA, zB, zC, zD, zE, zF, zG, zH, zI, reduceCtorEq]
        all_goals repeat' (first | (apply brB_mk <;> (intro hg; (try simp only [push_cast] at hg))) | apply And.intro | (intro hg; (try simp only [push_cast] at hg)))
        all_goals first | exact gA | (exact getE_dII (by simp only [push_cast]; omega)) | (exact getE_dII (by omega)) | skip
        refine hL0 _ ⟨k + 1, by omega, by omega, ?_⟩
        rw [nrF_yes (by unfold gvB; with_reducible assumption), nrR_yes (by unfold gvB; with_reducible assumption)]
        refine cov_of rfl ?_ ?_ ?_ <;> simp only [covS, covL, push_cast, ↓brB_true, ↓brB_false, ↓reduceIte, zA, zB, zC, zD, zE, zF, zG, zH, zI, reduceCtorEq]
        all_goals (try (rw [List.length_append]; rfl))
      ·
        refine awp_region tyOk tyPos [] rfl ?_
        all_goals simp only [push_cast, ↓brB_true, ↓brB_false, ↓reduceIte, zA, zB, zC, zD, zE, zF, zG, zH, zI, reduceCtorEq]
        all_goals repeat' (first | (apply brB_mk <;> (intro hg; (try simp only [push_cast] at hg))) | apply And.intro | (intro hg; (try simp only [push_cast] at hg)))
        all_goals first | exact gA | (exact getE_dII (by simp only [push_cast]; omega)) | (exact getE_dII (by omega)) | skip
        (try simp only [AThen, ABlk, reduceIte, zF]); refine hK3 _ ?_
        refine awp_region tyOk tyPos [] rfl ?_
        all_goals simp only [push_cast, ↓brB_true, ↓brB_false, ↓reduceIte, zA, zB, zC, zD, zE, zF, zG, zH, zI, reduceCtorEq]
        all_goals repeat' (first | (apply brB_mk <;> (intro hg; (try simp only [push_cast] at hg))) | apply And.intro | (intro hg; (try simp only [push_cast] at hg)))
        all_goals first | exact gA | (exact getE_dII (by simp only [push_cast]; omega)) | (exact getE_dII (by omega)) | skip
        refine hL0 _ ⟨k + 1, by omega, by omega, ?_⟩
        rw [nrF_no (by unfold gvB; with_reducible assumption), nrR_no (by unfold gvB; with_reducible assumption)]
        refine cov_of rfl ?_ ?_ ?_ <;> simp only [covS, covL, push_cast, ↓brB_true, ↓brB_false, ↓reduceIte, zA, zB, zC, zD, zE, zF, zG, zH, zI, reduceCtorEq]
        all_goals (try (rw [List.length_append]; rfl))
    ·
      refine awp_exit ?_
      have hkk : k = r.length := by omega
      subst hkk
      have hnk9 := hnl r.length
      (try simp only [AThen, ABlk, reduceIte, zF]); refine hK1 _ ?_
      refine awp_seq' fun K hK => ?_
      refine awp_region tyOk tyPos [] rfl ?_
      all_goals simp only [push_cast, ↓brB_true, ↓brB_false, ↓reduceIte, zA, zB, zC, zD, zE, zF, zG, zH, zI, reduceCtorEq]
      all_goals repeat' (first | (apply brB_mk <;> (intro hg; (try simp only [push_cast] at hg))) | apply And.intro | (intro hg; (try simp only [push_cast] at hg)))
      all_goals first | exact gA | (exact getE_dII (by simp only [push_cast]; omega)) | (exact getE_dII (by omega)) | skip
      all_goals first | (refine hK _ ?_; clear hK K) | (simp only [push_cast]; done)
      refine awp_ret ?_
      (try simp only [AThen, ABlk])
      refine ⟨Or.inl rfl, ?_⟩
      simp only [RetOk, push_cast, ↓brB_true, ↓brB_false, ↓reduceIte, zA, zB, zC, zD, zE, zF, zG, zH, zI, reduceCtorEq]
      first | exact List.length_append.symm | exact ⟨rfl, List.length_append.symm⟩ | skip
end Go.Proofs.Ytklconkoamoabaa

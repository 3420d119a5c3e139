/- Regions whose order is drawn, VI: a step is what the real operation does; nothing new is spoken of; the rule. -/
import Derived.Test.YtdbecmmeifdafaaGCzrs
namespace Go.Proofs.Ytdbecmmeifdafaa
open Go.RowKit
set_option linter.unusedVariables false
set_option linter.unusedSimpArgs false

def makes (np : Bool) (o : Oper) : Bool :=
  match o.op with
  | .box _ _ => true
  | .alloc _ => true
  | .makeSlice _ _ _ => true
  | .buildSlice _ _ _ => true
  | .load _ _ => np
  | .call c => match c.callee with
    | .value _ => true
    | .builtin .append => true
    | _ => false
  | _ => false
theorem callOf_makes {np : Bool} {o : Oper} {x : FuncId × Array Operand × Array TypeId} (h : callOf o = some x) : makes np o = true := by
  unfold callOf at h
  unfold makes
  cases ho : o.op <;> rw [ho] at h <;> simp at h ⊢
  rename_i c
  cases hc : c.callee <;> rw [hc] at h <;> simp at h ⊢

section
variable {P : Program} {np : Bool} {τ : Ty} {lo : Nat} {w0 : Fz} {ow : Nat → Option Pl} {hd : Nat → Value} {bk : Nat → Nat} {st : St} {a : Act} {w : World}

theorem resS_same (t : Nat) : ∀ (ds : List D) (j : Nat) (st : St), Free (own t) st → j + ds.length ≤ 16 → Same st (resS t j ds st) ∧ ∀ k, lk (resS t j ds st).r k = (lk (newR t j ds) k).or (lk st.r k)
  | [], j, st, _, _ => ⟨Same.refl st, fun k => by simp [resS, newR, lk_nil]⟩
  | .int _ _ :: ds, j, st, hf, hl => by
    simp only [resS, newR]
    exact resS_same t ds (j + 1) st hf (by simp only [List.length_cons] at hl; omega)
  | .bool _ :: ds, j, st, hf, hl => by
    simp only [resS, newR]
    exact resS_same t ds (j + 1) st hf (by simp only [List.length_cons] at hl; omega)
  | .hole :: ds, j, st, hf, hl => by
    simp only [resS, newR]
    exact resS_same t ds (j + 1) st hf (by simp only [List.length_cons] at hl; omega)
  | .lst e xs :: ds, j, st, hf, hl => by
    simp only [List.length_cons] at hl
    have s1 := addR_same hf (own_home (t := t) (j := j) (by omega)) ⟨.ex, e, xs, none⟩
    obtain ⟨h1, h2⟩ := resS_same t ds (j + 1) (st.addR (home t j) ⟨.ex, e, xs, none⟩) (s1.free hf) (by omega)
    simp only [resS, newR]
    refine ⟨s1.trans h1, fun k => ?_⟩
    rw [h2, lk_append]
    simp only [St.addR, lk_cons, lk_nil]
    cases lk (newR t (j + 1) ds) k with
    | some x => simp
    | none =>
      by_cases e : home t j = k
      · simp [e]
      · simp [e]

theorem orE_cases {x y : Option (Dl × Prop)} {z : Dl × Prop} (h : orE x y = some z) : x = some z ∨ y = some z := by
  unfold orE at h
  split at h
  · exact .inl h
  · exact .inr h
theorem plain_cov {v : AV} (d : Option Tmp) : Cov (st.put d v) (st.app d ⟨v, [], [], []⟩) := cov_app (Same.refl st) rfl rfl fun k R h => by simpa [lk_nil] using h
theorem effD_does (hτ : TyOk P τ) (hpos : TyPos τ) (h : RelC τ lo w0 ow hd bk st a w) {o : Oper} (hf : makes np o = true → Free (own (dstN o)) st) (hpf : np = true → PF st) {δ : Dl} {ob : Prop} (he : effD np τ o st = some (δ, ob)) (hob : ob) :
    ∃ st1 v, Does P τ lo w0 a w o st1 v ∧ Cov (st1.put o.dst v) (st.app o.dst δ) := by
  have plain : ((effV τ o st).map fun y => ((⟨y.1, [], [], []⟩ : Dl), y.2)) = some (δ, ob) → ∃ st1 v, Does P τ lo w0 a w o st1 v ∧ Cov (st1.put o.dst v) (st.app o.dst δ) := fun he => by
    cases hv : effV τ o st with
    | none => rw [hv] at he; cases he
    | some y =>
      rw [hv] at he
      simp only [Option.map_some, Option.some.injEq, Prod.mk.injEq] at he
      obtain ⟨rfl, rfl⟩ := he
      obtain ⟨z, hz, hr⟩ := effV_sound hτ hpos h hv hob
      exact ⟨st, y.1, ⟨z, w, ow, hd, bk, .inl hz, h, hr⟩, plain_cov _⟩
  have wrapV : ∀ {s : Sem Value} {z : Value} {w' : World}, s.run P w = .ok z w' → (do pure (.value (← s)) : Sem Next).run P w = .ok (.value z) w' := fun {s z w'} hs => by rw [Sem.run_bind, hs, Result.andThen_ok, Sem.run_pure]
  obtain ⟨dst, op, ty, pos, after, guard⟩ := o
  unfold effD at he
  cases op <;> simp only at he
  case box e x =>
    split at he
    · rename_i t vs hvs
      simp only [Option.some.injEq, Prod.mk.injEq] at he
      obtain ⟨rfl, rfl⟩ := he
      have hf' := hf rfl
      obtain ⟨us, hus, hur⟩ := fieldsOf_sound hvs (ev_sound h x)
      obtain ⟨ow', bk', r1, r2, r3, r4⟩ := box0_sound h t hob e vs us hur hf' (fun n hn => hf'.ev x n (fieldsOf_nm hvs n hn))
      refine ⟨_, .bp t 0, ⟨.pointer (some ⟨w.heap.size, 0, none⟩), _, ow', hd, bk', .inl (wrapV ?_), r1, by simp only [AvR]; exact ⟨⟨_, rfl⟩, fun _ => by rw [r2]⟩⟩, box_cov _ r3 r4⟩
      simp [Instr.box, newVar, newRow, newObj, Sem.run, hus]
    · cases he
  case alloc e =>
    split at he
    · rename_i t k b ht
      simp only [Option.some.injEq, Prod.mk.injEq] at he
      obtain ⟨rfl, rfl⟩ := he
      have hf' := hf rfl
      have hz : ∃ z : Value, (zeroValue e).run P w = .ok z w ∧ z.cells = (k.cells.map CK.zero).toArray := by
        cases k with
        | sc c => obtain ⟨i, i1, i2, i3, i4⟩ := info_sc hτ ht; exact ⟨c.zero, by simp [zeroValue, typeInfo, i1, i3], by cases c <;> rfl⟩
        | st cs fs => obtain ⟨F, _, _, i, i1, i2, i3, i4⟩ := info_of hτ ht; exact ⟨_, by simp [zeroValue, typeInfo, i1, i3]; rfl, by simp [Value.cells, TK.cells]⟩
      obtain ⟨z, hz1, hz2⟩ := hz
      obtain ⟨ow', bk', r1, r2, r3, r4⟩ := box0_sound h t hob e (k.cells.map zeroV) (k.cells.map CK.zero) (AvRL_iff.2 ⟨by simp, fun i v x hv hx => by
        rw [List.getElem?_map] at hv hx
        cases hk : k.cells[i]? with
        | none => rw [hk] at hv; cases hv
        | some c => rw [hk] at hv hx; cases hv; cases hx; exact zeroV_sound c⟩) hf' (fun n hn => by
        obtain ⟨v, hv, hm⟩ := mem_nmL.1 hn
        obtain ⟨c, _, rfl⟩ := List.mem_map.1 hv
        cases c <;> simp [zeroV, AV.nm] at hm)
      refine ⟨_, .bp t 0, ⟨.pointer (some ⟨w.heap.size, 0, none⟩), _, ow', hd, bk', .inl (wrapV ?_), r1, by simp only [AvR]; exact ⟨⟨_, rfl⟩, fun _ => by rw [r2]⟩⟩, box_cov _ r3 r4⟩
      unfold Instr.alloc
      rw [Sem.run_bind, hz1, Result.andThen_ok]
      simp [newVar, newRow, newObj, Sem.run, hz2]
    · cases he
  case makeSlice t l c =>
    split at he
    · obtain ⟨st1, v, h1, h2⟩ := makeD_app (hf rfl) he
      exact ⟨st1, v, makeE_sound hτ h rfl h1 hob, h2 _⟩
    · cases he
  case buildSlice t len parts =>
    split at he
    · rcases orE_cases he with he | he
      · obtain ⟨st1, v, h1, h2⟩ := litD_app (hf rfl) he
        exact ⟨st1, v, litE_sound hτ h rfl h1, h2 _⟩
      · rcases orE_cases he with he | he
        · obtain ⟨st1, v, h1, h2⟩ := litN_does (o := ⟨some _, .buildSlice t len parts, ty, pos, after, guard⟩) hτ h rfl (hf rfl) he
          exact ⟨st1, v, h1, h2 _⟩
        · obtain ⟨st1, v, h1, h2⟩ := litS_does (o := ⟨some _, .buildSlice t len parts, ty, pos, after, guard⟩) hτ h rfl (hf rfl) he hob
          exact ⟨st1, v, h1, h2 _⟩
    · cases he
  case load t x =>
    rcases orE_cases he with he | he
    · cases dst with
      | none => simp [loadS] at he
      | some t0 =>
        have hnp : np = true := by
          unfold loadS at he
          split at he
          · split at he
            · split at he
              · rename_i hc; exact hc.1
              · cases he
            · cases he
          · cases he
        obtain ⟨st1, v, h1, h2⟩ := loadS_does (o := ⟨some t0, .load t x, ty, pos, after, guard⟩) hτ hpos h rfl rfl (hf hnp) he hob
        exact ⟨st1, v, h1, h2 _⟩
    unfold loadN at he
    cases hv : loadE τ st t (ev st x) with
    | none => rw [hv] at he; cases he
    | some y =>
      rw [hv] at he
      simp only [Option.map_some, Option.some.injEq, Prod.mk.injEq] at he
      obtain ⟨rfl, rfl⟩ := he
      obtain ⟨z, hz, hr⟩ := effV_sound (o := ⟨dst, .load t x, ty, pos, after, guard⟩) hτ hpos h (show effV τ _ st = some (y.1, y.2) from hv) hob
      exact ⟨st, _, ⟨z, w, ow, hd, bk, .inl hz, h, noWay_sound hr⟩, plain_cov _⟩
  case store t p x =>
    rcases orE_cases he with he | he
    rotate_left
    · split at he
      · rename_i hnp
        obtain ⟨st1, h1, h2⟩ := storeN_does (o := ⟨dst, .store t p x, ty, pos, after, guard⟩) hτ h (hpf hnp) rfl he hob
        exact ⟨st1, _, h1, h2 _⟩
      · cases he
    cases hp : ev st p with
    | bp b i =>
      rw [hp] at he
      obtain ⟨st1, h1, h2⟩ := storeB_does (o := ⟨dst, .store t p x, ty, pos, after, guard⟩) hτ h rfl hp he
      exact ⟨st1, _, h1, h2 _⟩
    | ep d q i =>
      rw [hp] at he
      obtain ⟨st1, u, h1, h2⟩ := storeD_app he
      exact ⟨st1, u, storeE_sound (al := []) hτ hpos h rfl (by rw [hp]; exact h1) hob, h2 _⟩
    | _ => rw [hp] at he; simp [storeD] at he
  case call c =>
    obtain ⟨callee, args, argTypes⟩ := c
    simp only at he
    split at he
    · split at he
      · rename_i t x y t1 t2 h1 h2
        split at he
        · rename_i htt
          subst htt
          have e1 : args = #[x, y] := by cases args; simp at h1; subst h1; rfl
          have e2 : argTypes = #[t1, t1] := by cases argTypes; simp at h2; subst h2; rfl
          subst e1; subst e2
          rcases orE_cases he with he | he
          · obtain ⟨st1, v, ob1, k1, k2, k3⟩ := appD_app (hf rfl) he hob
            refine ⟨st1, v, appG_sound (dl := St.delR0) (fun st ow hd d h => ⟨RelC_delR0 h d, by simp [St.delR0, lk_rm, is1]⟩) hτ h (fun v w' hr => ?_) k1 k2, k3 _⟩
            simp [execOp, resolve, invoke, builtin, hr]
          · obtain ⟨st1, v, k1, k2⟩ := appN_does (o := ⟨some _, .call ⟨.builtin .append, #[x, y], #[t1, t1]⟩, ty, pos, after, guard⟩) hτ h (fun v w' hr => by simp [execOp, resolve, invoke, builtin, hr]) (hf rfl) he hob
            exact ⟨st1, v, k1, k2 _⟩
        · cases he
      · cases he
    · exact plain he
  all_goals exact plain he

theorem actB_sound {o : Oper} {δ : Dl} {Q : Exit → Act → World → Prop} {K' : Act → World → Prop} (hdn : ∀ k, o.dst = some k → k < a.tmps.size) (h : Rel τ lo w0 st a w) (hf : Free (own (dstN o)) st) (ha : ActB P τ o st δ)
    (hK : ∀ x w', Rel τ lo w0 (st.app o.dst δ) (a.put o.dst x) w' → K' (a.put o.dst x) w') : o.wp P a w K' Q := by
  unfold ActB at ha
  split at ha
  rotate_left
  · exact ha.elim
  rename_i f as T cells ds ob hact
  obtain ⟨hob, ds', ress, ⟨⟨fn, hfn, hname, hbody⟩, hlen, hcall⟩, hsz, h16, rfl⟩ := ha
  unfold actBOf at hact
  cases hc : callOf o with
  | none => rw [hc] at hact; cases hact
  | some y =>
    obtain ⟨f', args, ts⟩ := y
    rw [hc] at hact
    simp only at hact
    split at hact
    rotate_left
    · cases hact
    rename_i T' vs hvs
    cases hT : lk st.b T' with
    | none => rw [hT] at hact; cases hact
    | some cells' =>
      rw [hT] at hact
      simp only at hact
      split at hact
      rotate_left
      · cases hact
      rename_i ds0 ob1 as0 ob2 hds has
      simp only [Option.some.injEq, Prod.mk.injEq] at hact
      obtain ⟨rfl, rfl, rfl, rfl, rfl, rfl⟩ := hact
      obtain ⟨ow, hd, bk, hr⟩ := h
      have hev : AvRL τ w st.r st.b hd bk (args.toList.map (ev st)) (args.toList.map a.eval) := AvRL_iff.2 ⟨by simp, fun i v x hv hx => by
        rw [List.getElem?_map] at hv hx
        cases hk : args.toList[i]? with
        | none => rw [hk] at hv; cases hv
        | some p => rw [hk] at hv hx; cases hv; cases hx; exact ev_sound hr p⟩
      rw [hvs] at hev
      simp only [AvRL] at hev
      obtain ⟨x0, xs, hxs, hx0, hxs2⟩ := hev
      simp only [AvR] at hx0
      have hptr := hx0.2 ⟨_, hT⟩
      subst hptr
      obtain ⟨cs, ty, b1, b2, b3, b4, b5⟩ := boxB_sound hr hT hds hob.1
      have hA := argsB_sound hr hT hxs2 has hob.2
      have hC := hcall w (bk T') cs xs ty b1 b2 b5 hA
      have hexec : (execOp a.eval o).run P w = .ok (.enter f' (args.toList.map a.eval).toArray) w := by
        obtain ⟨dst, op, oty, pos, after, guard⟩ := o
        unfold callOf at hc
        simp only at hc
        split at hc
        · rename_i c
          split at hc
          · rename_i f' hcal
            cases hc
            obtain ⟨callee, args', ats⟩ := c
            simp only at hcal
            subst hcal
            rw [execOp_call_go]
            unfold callFunc
            have h1 : ¬ fn.name = "runtime.NumGoroutine" := by simpa using hname
            have h2 : ¬ fn.body = none := by cases hb : fn.body with
              | none => rw [hb] at hbody; simp at hbody
              | some c => simp
            have h3 : Array.map a.eval args' = (args'.toList.map a.eval).toArray := by cases args'; simp
            simp [hfn, h1, h2, h3]
          · cases hc
        · cases hc
      unfold Oper.wp
      rw [hexec, hxs]
      simp only [Oper.upon]
      refine hC.mono fun e w' hpost => ?_
      obtain ⟨z, ow', hd2, he, r1, r2⟩ := postB_sound hr hT b3 (by rw [hlen, b4]) (t := dstN o) hsz hpost
      subst he
      have hfree : Free (own (dstN o)) (st.setB T' (mergeB cells' ds')) := ⟨hf.s, fun k cs' hcs' => by
        simp only [St.setB, lk_cons] at hcs'
        split at hcs'
        · cases hcs'
          intro n hn
          obtain ⟨v, hv, hm⟩ := mem_nmL.1 hn
          rcases mergeB_mem hv with hv | ⟨k, m, rfl⟩ | ⟨b, rfl⟩
          · exact hf.b T' cells' hT n (mem_nmL.2 ⟨v, hv, hm⟩)
          · simp [AV.nm] at hm
          · simp [AV.nm] at hm
        · exact hf.b k cs' hcs'⟩
      obtain ⟨k1, k2⟩ := resS_same (dstN o) (flat ress) 0 _ hfree (by omega)
      refine hK z w' (Rel_cov (rel_put r1 hdn r2) ⟨?_, fun k v hv => .inr ?_, fun k us hus => ?_, fun k R hR => ?_⟩)
      · rw [app_n, put_n]; exact k1.n.symm
      · rw [app_s] at hv
        cases hdd : o.dst with
        | none => rw [hdd] at hv; simp only [St.put]; rw [k1.s]; simpa [St.setB] using hv
        | some d =>
          rw [hdd] at hv
          simp only [St.put, lk_cons]
          simp only [Option.some.injEq] at hv
          split at hv
          · rename_i e; rw [if_pos e]; exact hv
          · rename_i e; rw [if_neg e, k1.s]; exact hv
      · rw [app_b] at hus
        have e : lk ((resS (dstN o) 0 (flat ress) (st.setB T' (mergeB cells' ds'))).put o.dst (retA (resV τ (dstN o) 0 ress))).b k = lk (st.setB T' (mergeB cells' ds')).b k := by
          cases o.dst <;> exact k1.b k
        rw [e]
        simp only [St.setB, lk_cons] at hus ⊢
        split
        · rename_i e; rw [if_pos e] at hus; simpa using hus
        · rename_i e; rw [if_neg e, lk_nil] at hus; simpa using hus
      · rw [app_r] at hR
        have e : lk ((resS (dstN o) 0 (flat ress) (st.setB T' (mergeB cells' ds'))).put o.dst (retA (resV τ (dstN o) 0 ress))).r k = lk (resS (dstN o) 0 (flat ress) (st.setB T' (mergeB cells' ds'))).r k := by
          cases o.dst <;> rfl
        rw [e, k2]
        simpa [St.setB] using hR
theorem act1_sound (hτ : TyOk P τ) (hpos : TyPos τ) {o : Oper} {δ : Dl} {Q : Exit → Act → World → Prop} {K' : Act → World → Prop} (hdn : ∀ k, o.dst = some k → k < a.tmps.size) (h : Rel τ lo w0 st a w) (hf : makes np o = true → Free (own (dstN o)) st) (hpf : np = true → PF st) (ha : Act1 P np τ o st δ)
    (hK : ∀ x w', Rel τ lo w0 (st.app o.dst δ) (a.put o.dst x) w' → K' (a.put o.dst x) w') : o.wp P a w K' Q := by
  unfold Act1 at ha
  rcases ha with ha | ha | ha
  · exact ha.2.2.2.2.2.2 st ⟨fun _ _ => rfl, fun _ _ => rfl, fun _ _ => rfl⟩ (hpf ha.1) lo w0 a w Q K' hdn h hK
  · unfold ActT at ha
    cases hc : callOf o with
    | none => rw [hc] at ha; exact ha.elim
    | some x =>
      obtain ⟨f, args, ts⟩ := x
      rw [hc] at ha
      simp only at ha
      split at ha
      · rename_i as ob us vs hargs hevs
        obtain ⟨hob, pm, ress, ⟨hcl, hcall⟩, hpm, hsz, hlen, rfl⟩ := ha
        obtain ⟨ow, hd', bk, hr⟩ := h
        have hev : AvRL τ w st.r st.b hd' bk (args.toList.map (ev st)) (args.toList.map a.eval) := AvRL_iff.2 ⟨by simp, fun i v x hv hx => by
          rw [List.getElem?_map] at hv hx
          cases hk : args.toList[i]? with
          | none => rw [hk] at hv; cases hv
          | some p => rw [hk] at hv hx; cases hv; cases hx; exact ev_sound hr p⟩
        have hA := argsOf_sound hr w.heap.size hev hargs hob
        have hC := hcall w _ hA
        unfold Oper.wp
        rw [callT_exec hc hcl]
        simp only [Oper.upon]
        refine hC.mono fun e w' hpost => ?_
        obtain ⟨cs0, cs, ow', hd2, h0, he, r1, r2⟩ := postT_sound hr (t := dstN o) hsz hpost
        subst he
        obtain ⟨k1, k2⟩ := resS_same (dstN o) ress 0 st (hf (callOf_makes hc)) (by omega)
        obtain ⟨x0, xs, hx0, hv0⟩ : ∃ x0 xs, args.toList = x0 :: xs ∧ ev st x0 = .agg us := by
          cases hal : args.toList with
          | nil => rw [hal] at hevs; simp at hevs
          | cons x0 xs =>
            rw [hal] at hevs
            simp only [List.map_cons, List.cons.injEq] at hevs
            exact ⟨x0, xs, rfl, hevs.1⟩
        have hv1 : ev (resS (dstN o) 0 ress st) x0 = .agg us := by
          rw [← hv0]
          cases x0 <;> simp only [ev]
          rw [k1.s]
        have hx := ev_sound r1 x0
        rw [hv1] at hx
        simp only [AvR] at hx
        obtain ⟨cs1, e1, r3⟩ := hx
        rw [hx0] at h0
        simp only [List.map_cons, List.getElem?_cons_zero, Option.some.injEq] at h0
        rw [e1] at h0
        have : cs1 = cs0 := by simpa using h0
        subst this
        have hrel := rel_put (d := o.dst) r1 hdn (v := .agg (selV pm .dead us ++ resC τ (dstN o) 0 ress)) (x := .agg (List.toArray (selV pm undef cs1 ++ cs))) (by
          simp only [AvR]
          exact ⟨_, rfl, AvRL_append (AvRL_sel r3 pm hpm) r2⟩)
        exact hK _ w' (Rel_cov hrel (cov_app k1 rfl rfl fun k R hR => by rw [k2]; simpa using hR))
      · exact ha.elim
  cases hc : callOf o with
  | some x =>
    obtain ⟨f, args, ts⟩ := x
    rw [hc] at ha
    simp only at ha
    cases hargs : argsOf τ st ts.toList (args.toList.map (ev st)) with
    | none => rw [hargs] at ha; exact actB_sound hdn h (hf (callOf_makes hc)) ha.2 hK
    | some y =>
      obtain ⟨as, ob⟩ := y
      rw [hargs] at ha
      obtain ⟨hob, ress, h1, h2, h3, rfl⟩ := ha
      refine aop_sound (al := []) (K := fun s => s = (resS (dstN o) 0 (flat ress) st).put o.dst (retA (resV τ (dstN o) 0 ress))) hτ hpos hdn h ?_ ?_
      · unfold aop
        rw [hc]
        simp only [hargs]
        exact ⟨hob, ress, h1, h2, rfl⟩
      · rintro st' x w' rfl hrel
        obtain ⟨k1, k2⟩ := resS_same (dstN o) (flat ress) 0 st (hf (callOf_makes hc)) (by omega)
        exact hK x w' (Rel_cov hrel (cov_app k1 rfl rfl fun k R hR => by rw [k2]; simpa using hR))
  | none =>
    rw [hc] at ha
    simp only at ha
    cases he : effD np τ o st with
    | none => rw [he] at ha; exact ha.elim
    | some y =>
      obtain ⟨δ', ob⟩ := y
      rw [he] at ha
      obtain ⟨hob, rfl⟩ := ha
      obtain ⟨ow, hd, bk, hr⟩ := h
      obtain ⟨st1, v, r1, r2⟩ := effD_does hτ hpos hr hf hpf he hob
      exact does_app hdn r1 r2 hK
end
end Go.Proofs.Ytdbecmmeifdafaa

namespace Go.Proofs.Ytdbecmmeifdafaa
open Go.RowKit
set_option linter.unusedVariables false
set_option linter.unusedSimpArgs false

section
variable {P : Program} {np : Bool} {τ : Ty} {st : St} {ns : Nat → Bool}

def NS (ns : Nat → Bool) (v : AV) : Prop := ∀ n ∈ v.nm, ns n = false
theorem NS_nil {v : AV} (h : v.nm = []) : NS ns v := fun n hn => by rw [h] at hn; simp at hn
theorem NS_agg {vs : List AV} (h : ∀ v ∈ vs, NS ns v) : NS ns (.agg vs) := fun n hn => by
  simp only [AV.nm] at hn
  obtain ⟨v, hv, hm⟩ := mem_nmL.1 hn
  exact h v hv n hm
theorem NS_ar (k : IntKind) (n : Int) : NS ns (ar k n).1 := by unfold ar; cases k <;> exact NS_nil rfl
theorem ar_ns {k : IntKind} {n : Int} {v : AV} {ob : Prop} (h : some (ar k n) = some (v, ob)) : NS ns v := by
  have h1 := Option.some.inj h
  have := NS_ar (ns := ns) k n
  rw [h1] at this
  exact this
theorem onR_ns {d : Nat} {p : List Nat} {v u : AV} {o o' : Prop} (h : onR st d p v o = some (u, o')) (hv : NS ns v) : NS ns u := by
  unfold onR at h
  split at h
  · cases h; exact hv
  · cases h
theorem cellV_ns {d : Nat} {p : List Nat} {i : Nat} {xs : List D} {c : CK} (h : ns (2 * d) = false) : NS ns (cellV τ d p i xs c) := by
  cases c with
  | int k => exact NS_nil rfl
  | bool => exact NS_nil rfl
  | sl e => intro n hn; simp only [cellV, AV.nm, List.mem_singleton] at hn; subst hn; exact h
theorem cellsV_ns {d : Nat} {p : List Nat} {xs : List D} (h : ns (2 * d) = false) : ∀ (cs : List CK) (i : Nat), ∀ v ∈ cellsV τ d p xs i cs, NS ns v
  | [], i, v, hv => by simp [cellsV] at hv
  | c :: cs, i, v, hv => by
    simp only [cellsV, List.mem_cons] at hv
    rcases hv with rfl | hv
    · exact cellV_ns h
    · exact cellsV_ns h cs (i + 1) v hv
theorem box_ns (hf : Free ns st) {b : Nat} {cs : List AV} (hb : lk st.b b = some cs) : ∀ v ∈ cs, NS ns v := fun v hv n hn => hf.b b cs hb n (mem_nmL.2 ⟨v, hv, hn⟩)
theorem loadE_ns (hf : Free ns st) {t : TypeId} {v u : AV} {ob : Prop} (hv : NS ns v) (h : loadE τ st t v = some (u, ob)) : NS ns u := by
  cases v <;> simp only [loadE] at h <;> try (cases h; done)
  · rename_i d p i
    have hd : ns (2 * d) = false := hv _ (by simp [AV.nm])
    split at h
    · cases h; exact cellV_ns hd
    · cases h; exact NS_agg (cellsV_ns hd _ _)
    · cases h
  · rename_i b i
    split at h
    · rename_i cs _ _ hcs _
      cases h
      rw [List.getD_eq_getElem?_getD]
      cases hx : cs[i]? with
      | none => exact NS_nil rfl
      | some v => exact box_ns hf hcs v (List.mem_of_getElem? hx)
    · rename_i cs _ _ _ hcs _
      cases h
      exact NS_agg fun v hv => box_ns hf hcs v (List.mem_of_mem_drop (List.mem_of_mem_take hv))
    · cases h
mutual
theorem kill_ns {ds bs : Nat → Bool} : ∀ (v : AV), NS ns v → NS ns (v.kill ds bs)
  | .int k n, h => h
  | .bool b, h => h
  | .sl d p off len e, h => by
    simp only [AV.kill]; split
    · exact NS_nil rfl
    · exact h
  | .nil, h => h
  | .ep d p i, h => by
    simp only [AV.kill]; split
    · exact NS_nil rfl
    · exact h
  | .bp t i, h => by
    simp only [AV.kill]; split
    · exact NS_nil rfl
    · exact h
  | .agg vs, h => fun n hn => killL_ns vs (fun n hn => h n (by simpa only [AV.nm] using hn)) n (by simpa only [AV.kill, AV.nm] using hn)
  | .tup vs, h => fun n hn => killL_ns vs (fun n hn => h n (by simpa only [AV.nm] using hn)) n (by simpa only [AV.kill, AV.nm] using hn)
  | .fn f vs, h => fun n hn => killL_ns vs (fun n hn => h n (by simpa only [AV.nm] using hn)) n (by simpa only [AV.kill, AV.nm] using hn)
  | .dead, h => h
  | .raw u, h => h
theorem killL_ns {ds bs : Nat → Bool} : ∀ (vs : List AV), (∀ n ∈ AV.nmL vs, ns n = false) → ∀ n ∈ AV.nmL (AV.killL ds bs vs), ns n = false
  | [], h, n, hn => by simp [AV.killL, AV.nmL] at hn
  | v :: vs, h, n, hn => by
    simp only [AV.killL, AV.nmL, List.mem_append] at hn
    rcases hn with hn | hn
    · exact kill_ns v (fun n hn => h n (by simp [AV.nmL, hn])) n hn
    · exact killL_ns vs (fun n hn => h n (by simp [AV.nmL, hn])) n hn
end
theorem noWay_ns {np : Bool} {v u : AV} (h : NS ns u) : NS ns (noWay np st v u) := by
  unfold noWay
  split
  · split
    · split
      · exact kill_ns u h
      · exact h
    · exact h
  · exact h
theorem fieldsOf_ns {v : AV} {vs : List AV} (h : fieldsOf v = some vs) (hv : NS ns v) : ∀ u ∈ vs, NS ns u := fun u hu n hn => hv n (fieldsOf_nm h n (mem_nmL.2 ⟨u, hu, hn⟩))
theorem lay_mem {α : Type} {cells vs : List α} {i : Nat} {x : α} (h : x ∈ lay cells i vs) : x ∈ cells ∨ x ∈ vs := by
  unfold lay at h
  simp only [List.mem_append] at h
  rcases h with (h | h) | h
  · exact .inl (List.mem_of_mem_take h)
  · exact .inr h
  · exact .inl (List.mem_of_mem_drop h)
theorem fillE_ns {fs : List (Nat × TypeId)} : ∀ (parts : List (Nat × AV)) (cells us : List AV), (∀ v ∈ cells, NS ns v) → (∀ x ∈ parts, NS ns x.2) → fillE τ fs cells parts = some us → ∀ v ∈ us, NS ns v
  | [], cells, us, hc, _, h => by simp only [fillE, Option.some.injEq] at h; subst h; exact hc
  | (i, v) :: rest, cells, us, hc, hp, h => by
    simp only [fillE] at h
    split at h
    · rename_i x vs h1 h2
      split at h
      · refine fillE_ns rest _ us (fun u hu => ?_) (fun x hx => hp x (by simp [hx])) h
        rcases lay_mem hu with hu | hu
        · exact hc u hu
        · exact fieldsOf_ns h2 (hp (i, v) (by simp)) u hu
      · cases h
    · cases h
theorem effV_ns (hf : Free ns st) {o : Oper} {v : AV} {ob : Prop} (h : effV τ o st = some (v, ob)) : NS ns v := by
  obtain ⟨dst, op, ty, pos, after, guard⟩ := o
  have ev' : ∀ x, NS ns (ev st x) := fun x => hf.ev x
  unfold effV at h
  cases op <;> simp only at h <;> try (cases h; done)
  case move x => cases h; exact ev' x
  case assign x => cases h; exact ev' x
  case nilCheck x =>
    unfold nilE at h
    have hx := ev' x
    split at h
    · rename_i t i hev
      rw [hev] at hx
      split at h
      · cases h; exact hx
      · cases h
    · cases h
  case pick c x y =>
    split at h
    · cases h; split
      · exact ev' x
      · exact ev' y
    · cases h
  case load t x => exact loadE_ns hf (ev' x) h
  case fieldAddr t x f =>
    unfold fieldE at h
    have hx := ev' x
    split at h
    · split at h
      · cases hv : ev st x <;> rw [hv] at h <;> rw [hv] at hx <;> simp only at h <;> try (cases h; done)
        · exact onR_ns h (fun n hn => hx n (by simpa [AV.nm] using hn))
        · split at h
          · cases h; exact fun n hn => hx n (by simpa [AV.nm] using hn)
          · cases h
      · cases h
    · cases h
  case indexAddr t x ix =>
    unfold indexE at h
    have hx := ev' x
    split at h
    · cases hv : ev st x <;> rw [hv] at h <;> rw [hv] at hx <;> (try simp only at h) <;> try (cases h; done)
      cases hi : ev st ix <;> rw [hi] at h <;> (try simp only at h) <;> try (cases h; done)
      split at h
      · exact onR_ns h (fun n hn => hx n (by simpa [AV.nm] using hn))
      · cases h
    · cases h
  case field t x f =>
    have hx := ev' x
    obtain ⟨us, k, e1, e2⟩ := fieldV_some h
    rw [e1] at hx
    exact fun n hn => hx n (by simp only [AV.nm]; exact mem_nmL.2 ⟨_, List.mem_of_getElem? e2, hn⟩)
  case extract x i =>
    have hx := ev' x
    cases hv : ev st x <;> rw [hv] at h <;> rw [hv] at hx <;> simp only at h <;> try (cases h; done)
    rename_i vs
    cases hi : vs[i]? with
    | none => rw [hi] at h; cases h
    | some u =>
      rw [hi] at h; cases h
      exact fun n hn => hx n (by simp only [AV.nm]; exact mem_nmL.2 ⟨_, List.mem_of_getElem? hi, hn⟩)
  case binOp op t x y r =>
    split at h
    · rcases binE_flat h with ⟨k, n, rfl⟩ | ⟨b, rfl⟩ <;> exact NS_nil rfl
    · unfold boolE at h
      split at h
      · split at h <;> cases h <;> exact NS_nil rfl
      · cases h
    · rcases aggE_flat h with ⟨b, rfl⟩; exact NS_nil rfl
    · cases h
  case unOp op t x =>
    unfold unE at h
    split at h
    · exact ar_ns h
    · cases h; exact NS_nil rfl
    · cases h
  case build t parts =>
    unfold buildE at h
    split at h
    · rename_i ks fs b ht
      cases hfl : fillE τ fs (ks.map zeroV) (parts.toList.map fun x => (x.1, ev st x.2)) with
      | none => rw [hfl] at h; cases h
      | some us =>
        rw [hfl] at h; cases h
        refine NS_agg (fillE_ns _ _ _ (fun v hv => ?_) (fun x hx => ?_) hfl)
        · obtain ⟨c, _, rfl⟩ := List.mem_map.1 hv
          cases c <;> exact NS_nil rfl
        · obtain ⟨y, _, rfl⟩ := List.mem_map.1 hx
          exact ev' _
    · cases h
  case convert s d x =>
    split at h
    · rcases arC_flat h with ⟨k, n, rfl⟩ <;> exact NS_nil rfl
    · cases h
  case slice t x l u m =>
    split at h
    · unfold sliceE at h
      have hx := ev' x
      split at h
      · cases hv : ev st x <;> rw [hv] at h <;> rw [hv] at hx <;> simp only at h <;> try (cases h; done)
        split at h
        · split at h
          · exact onR_ns h (fun n hn => hx n (by simpa [AV.nm] using hn))
          · cases h
        · cases h
      · cases h
    · cases h
  case call c =>
    unfold builtinE at h
    split at h
    · split at h
      · split at h
        · unfold lenE at h
          split at h
          · exact onR_ns h (NS_nil rfl)
          · cases h; exact NS_nil rfl
          · cases h
        · cases h
      · unfold maxE at h
        split at h
        · cases h; exact NS_nil rfl
        · cases h
      · unfold minE at h
        split at h
        · cases h; exact NS_nil rfl
        · cases h
      · unfold max3E at h
        split at h
        · cases h; exact NS_nil rfl
        · cases h
      · cases h
    · cases h
theorem resC_ns (t : Nat) (ho : ∀ n, own t n = true → ns n = false) : ∀ (ds : List D) (j : Nat), j + ds.length ≤ 16 → ∀ v ∈ resC τ t j ds, NS ns v
  | [], j, _, v, hv => by simp [resC] at hv
  | .lst e xs :: ds, j, hl, v, hv => by
    simp only [List.length_cons] at hl
    simp only [resC, List.mem_cons] at hv
    rcases hv with rfl | hv
    · intro n hn
      simp only [AV.nm, List.mem_singleton] at hn
      subst hn
      exact ho _ (own_home (by omega))
    · exact resC_ns t ho ds (j + 1) (by omega) v hv
  | .int k n :: ds, j, hl, v, hv => by
    simp only [List.length_cons] at hl
    simp only [resC, List.mem_cons] at hv
    rcases hv with rfl | hv
    · exact NS_nil rfl
    · exact resC_ns t ho ds (j + 1) (by omega) v hv
  | .bool b :: ds, j, hl, v, hv => by
    simp only [List.length_cons] at hl
    simp only [resC, List.mem_cons] at hv
    rcases hv with rfl | hv
    · exact NS_nil rfl
    · exact resC_ns t ho ds (j + 1) (by omega) v hv
  | .hole :: ds, j, hl, v, hv => by
    simp only [List.length_cons] at hl
    simp only [resC, List.mem_cons] at hv
    rcases hv with rfl | hv
    · exact NS_nil rfl
    · exact resC_ns t ho ds (j + 1) (by omega) v hv
theorem resV_ns (t : Nat) (ho : ∀ n, own t n = true → ns n = false) : ∀ (xs : List VT) (j : Nat), j + (flat xs).length ≤ 16 → ∀ v ∈ resV τ t j xs, NS ns v
  | [], j, _, v, hv => by simp [resV] at hv
  | .c d :: xs, j, hl, v, hv => by
    simp only [flat, VT.cells, List.length_append, List.length_cons, List.length_nil] at hl
    simp only [resV, List.mem_cons] at hv
    rcases hv with rfl | hv
    · have := resC_ns (τ := τ) t ho [d] j (by simp only [List.length_cons, List.length_nil]; omega)
      cases hr : resC τ t j [d] with
      | nil => exact NS_nil rfl
      | cons y ys => rw [hr] at this; exact this y (by simp)
    · exact resV_ns t ho xs (j + 1) (by omega) v hv
  | .agg ds :: xs, j, hl, v, hv => by
    simp only [flat, VT.cells, List.length_append] at hl
    simp only [resV, List.mem_cons] at hv
    rcases hv with rfl | hv
    · exact NS_agg (resC_ns t ho ds j (by omega))
    · exact resV_ns t ho xs (j + ds.length) (by omega) v hv
  | .fn f ds :: xs, j, hl, v, hv => by
    simp only [flat, VT.cells, List.length_append] at hl
    simp only [resV, List.mem_cons] at hv
    rcases hv with rfl | hv
    · exact NS_nil rfl
    · exact resV_ns t ho xs (j + ds.length) (by omega) v hv
theorem act1_ns (hf : Free ns st) {o : Oper} {δ : Dl} (ho : makes np o = true → ∀ n, own (dstN o) n = true → ns n = false) (ha : Act1 P np τ o st δ) : NS ns δ.v ∧ ∀ x ∈ δ.bx, ∀ v ∈ x.2, NS ns v := by
  have sl : ∀ {t : Nat} {len : Nat} {e : TypeId}, (∀ n, own t n = true → ns n = false) → NS ns (.sl (home t 0) [] 0 len e) := fun {t len e} h n hn => by
    simp only [AV.nm, List.mem_singleton] at hn; subst hn; exact h _ (own_home (by omega))
  unfold Act1 at ha
  rcases ha with ha | ha | ha
  · obtain ⟨-, -, ⟨k, m, h3⟩, -, h5, -⟩ := ha
    refine ⟨?_, fun x hx => by rw [h5] at hx; simp at hx⟩
    rw [h3]
    intro n hn
    simp [AV.nm] at hn
  · unfold ActT at ha
    cases hc : callOf o with
    | none => rw [hc] at ha; exact ha.elim
    | some x =>
      obtain ⟨f, args, ts⟩ := x
      rw [hc] at ha
      simp only at ha
      split at ha
      · rename_i as ob us vs hargs hevs
        obtain ⟨hob, pm, ress, hfn, hpm, hsz, hlen, rfl⟩ := ha
        refine ⟨?_, fun x hx => by simp at hx⟩
        obtain ⟨x0, hv0⟩ : ∃ x0, ev st x0 = .agg us := by
          cases hal : args.toList with
          | nil => rw [hal] at hevs; simp at hevs
          | cons x0 xs =>
            rw [hal] at hevs
            simp only [List.map_cons, List.cons.injEq] at hevs
            exact ⟨x0, hevs.1⟩
        have hu := hf.ev x0
        rw [hv0] at hu
        have hr := resV_ns (τ := τ) (dstN o) (ho (callOf_makes hc)) [.agg ress] 0 (by simpa only [flat, VT.cells, List.append_nil, Nat.zero_add] using hlen)
        have hr2 := hr _ List.mem_cons_self
        intro n hn
        simp only [AV.nm] at hn
        obtain ⟨v, hv, hm⟩ := mem_nmL.1 hn
        rcases List.mem_append.1 hv with hv | hv
        · obtain ⟨i, hi, rfl⟩ := List.mem_map.1 hv
          have hil := hpm i hi
          refine hu n ?_
          simp only [AV.nm]
          refine mem_nmL.2 ⟨us.getD i .dead, ?_, hm⟩
          rw [List.getD_eq_getElem?_getD, List.getElem?_eq_getElem hil]
          exact List.getElem_mem hil
        · refine hr2 n ?_
          simp only [AV.nm]
          exact mem_nmL.2 ⟨v, hv, hm⟩
      · exact ha.elim
  cases hc : callOf o with
  | some x =>
    obtain ⟨f, args, ts⟩ := x
    rw [hc] at ha
    simp only at ha
    cases hargs : argsOf τ st ts.toList (args.toList.map (ev st)) with
    | none =>
      rw [hargs] at ha
      have hab := ha.2
      unfold ActB at hab
      split at hab
      rotate_left
      · exact hab.elim
      rename_i f' as T cells ds ob hact
      obtain ⟨-, ds', ress, -, -, h3, rfl⟩ := hab
      have hT : lk st.b T = some cells := by
        unfold actBOf at hact
        rw [hc] at hact
        simp only at hact
        split at hact
        · rename_i T' vs hvs
          cases hT : lk st.b T' with
          | none => rw [hT] at hact; cases hact
          | some cells' =>
            rw [hT] at hact
            simp only at hact
            split at hact
            · simp only [Option.some.injEq, Prod.mk.injEq] at hact
              obtain ⟨rfl, rfl, rfl, rfl, rfl, rfl⟩ := hact
              exact hT
            · cases hact
        · cases hact
      refine ⟨?_, fun x hx => ?_⟩
      · have hr := resV_ns (τ := τ) (dstN o) (ho (callOf_makes hc)) ress 0 (by omega)
        unfold retA
        split
        · rename_i v hv; rw [hv] at hr; exact hr v (by simp)
        · intro n hn
          simp only [AV.nm] at hn
          obtain ⟨v, hv, hm⟩ := mem_nmL.1 hn
          exact hr v hv n hm
      · simp only [List.mem_singleton] at hx; subst hx
        intro v hv
        rcases mergeB_mem hv with hv | ⟨k, m, rfl⟩ | ⟨b, rfl⟩
        · exact box_ns hf hT v hv
        · exact NS_nil rfl
        · exact NS_nil rfl
    | some y =>
      rw [hargs] at ha
      obtain ⟨hob, ress, h1, h2, h3, rfl⟩ := ha
      refine ⟨?_, fun x hx => by simp at hx⟩
      have hr := resV_ns (τ := τ) (dstN o) (ho (callOf_makes hc)) ress 0 (by omega)
      unfold retA
      split
      · rename_i v hv; rw [hv] at hr; exact hr v (by simp)
      · intro n hn
        simp only [AV.nm] at hn
        obtain ⟨v, hv, hm⟩ := mem_nmL.1 hn
        exact hr v hv n hm
  | none =>
    rw [hc] at ha
    simp only at ha
    cases he : effD np τ o st with
    | none => rw [he] at ha; exact ha.elim
    | some y =>
      obtain ⟨δ', ob⟩ := y
      rw [he] at ha
      obtain ⟨hob, rfl⟩ := ha
      clear hob hc
      have plain : ((effV τ o st).map fun y => ((⟨y.1, [], [], []⟩ : Dl), y.2)) = some (δ, ob) → NS ns δ.v ∧ ∀ x ∈ δ.bx, ∀ v ∈ x.2, NS ns v := fun he => by
        cases hv : effV τ o st with
        | none => rw [hv] at he; cases he
        | some y => rw [hv] at he; cases he; exact ⟨effV_ns hf hv, fun x hx => by simp at hx⟩
      obtain ⟨dst, op, ty, pos, after, guard⟩ := o
      unfold effD at he
      cases op <;> simp only at he
      case box e x =>
        split at he
        · rename_i t vs hvs
          cases he
          refine ⟨fun n hn => ?_, fun x hx => ?_⟩
          · simp only [AV.nm, List.mem_singleton] at hn; subst hn; exact ho rfl _ own_box
          · simp only [List.mem_singleton] at hx; subst hx; exact fieldsOf_ns hvs (hf.ev _)
        · cases he
      case alloc e =>
        split at he
        · rename_i t k b ht
          cases he
          refine ⟨fun n hn => ?_, fun x hx => ?_⟩
          · simp only [AV.nm, List.mem_singleton] at hn; subst hn; exact ho rfl _ own_box
          · simp only [List.mem_singleton] at hx; subst hx
            intro v hv
            obtain ⟨c, _, rfl⟩ := List.mem_map.1 hv
            cases c <;> exact NS_nil rfl
        · cases he
      case makeSlice t l c =>
        split at he
        · unfold makeD at he
          split at he
          · split at he
            · split at he
              · cases he; exact ⟨sl (ho rfl), fun x hx => by simp at hx⟩
              · cases he
            · cases he
          · cases he
        · cases he
      case buildSlice t len parts =>
        split at he
        · rcases orE_cases he with he | he
          · unfold litD at he
            split at he
            · split at he
              · split at he
                · cases he; exact ⟨sl (ho rfl), fun x hx => by simp at hx⟩
                · cases he
              · cases he
            · cases he
          · rcases orE_cases he with he | he
            · unfold litN at he
              split at he
              · split at he
                · split at he
                  · split at he
                    · cases he; exact ⟨sl (ho rfl), fun x hx => by simp at hx⟩
                    · cases he
                  · cases he
                · cases he
              · cases he
            · unfold litS at he
              split at he
              · split at he
                · split at he
                  · rename_i R _ _ hR _
                    split at he
                    · cases he; exact ⟨sl (ho rfl), fun x hx => by simp at hx⟩
                    · cases he
                  · cases he
                · cases he
              · cases he
        · cases he
      case load t x =>
        rcases orE_cases he with he | he
        · unfold loadS at he
          split at he
          · split at he
            · split at he
              · rename_i hc; cases he; exact ⟨sl (ho hc.1), fun x hx => by simp at hx⟩
              · cases he
            · cases he
          · cases he
        unfold loadN at he
        cases hv : loadE τ st t (ev st x) with
        | none => rw [hv] at he; cases he
        | some y => rw [hv] at he; cases he; exact ⟨noWay_ns (loadE_ns hf (hf.ev x) hv), fun x hx => by simp at hx⟩
      case store t p x =>
        rcases orE_cases he with he | he
        rotate_left
        · split at he
          · cases hp : ev st p <;> rw [hp] at he <;> simp only [storeN] at he <;> try (cases he; done)
            rename_i d q i
            cases q with
            | cons _ _ => simp at he
            | nil =>
              simp only at he
              split at he
              · split at he
                · split at he
                  · cases he; exact ⟨NS_nil rfl, fun x hx => by simp at hx⟩
                  · cases he
                · cases he
              · cases he
          · cases he
        cases hp : ev st p <;> rw [hp] at he <;> simp only [storeD] at he <;> try (cases he; done)
        · split at he
          · split at he
            · split at he
              · cases he; exact ⟨NS_nil rfl, fun x hx => by simp at hx⟩
              · cases he; exact ⟨NS_nil rfl, fun x hx => by simp at hx⟩
              · cases he
            · cases he
          · cases he
        · split at he
          · rename_i vs cells hvs hcells
            split at he
            · cases he
              refine ⟨NS_nil rfl, fun x hx => ?_⟩
              simp only [List.mem_singleton] at hx; subst hx
              intro v hv
              rcases lay_mem hv with hv | hv
              · exact box_ns hf hcells v hv
              · exact fieldsOf_ns hvs (hf.ev _) v hv
            · cases he
          · cases he
      case call c =>
        obtain ⟨callee, args, argTypes⟩ := c
        simp only at he
        split at he
        · split at he
          · split at he
            · have h1 := ho rfl
              rcases orE_cases he with he | he
              · unfold appD at he
                split at he
                · split at he
                  · split at he
                    · split at he
                      · unfold appX at he
                        split at he
                        · cases he; exact ⟨sl h1, fun x hx => by simp at hx⟩
                        · split at he
                          · split at he
                            · cases he; exact ⟨sl h1, fun x hx => by simp at hx⟩
                            · cases he
                          · cases he
                        · cases he
                      · cases he
                    · cases he
                  · cases he
                · cases he
              · unfold appN at he
                split at he
                · split at he
                  · split at he
                    · split at he
                      · unfold appY at he
                        split at he
                        · cases he; exact ⟨sl h1, fun x hx => by simp at hx⟩
                        · split at he
                          · split at he
                            · cases he; exact ⟨sl h1, fun x hx => by simp at hx⟩
                            · cases he
                          · cases he
                        · cases he
                      · cases he
                    · cases he
                  · cases he
                · cases he
            · cases he
          · cases he
        · exact plain he
      all_goals exact plain he
theorem free_app (hf : Free ns st) {d : Option Tmp} {δ : Dl} (h : NS ns δ.v ∧ ∀ x ∈ δ.bx, ∀ v ∈ x.2, NS ns v) : Free ns (st.app d δ) := by
  refine ⟨fun k v hv => ?_, fun k cs hc => ?_⟩
  · rw [app_s] at hv
    split at hv
    · cases hv; exact h.1
    · exact hf.s k v hv
  · rw [app_b] at hc
    cases hx : lk δ.bx k with
    | some cs' =>
      rw [hx] at hc
      simp only [Option.some_or, Option.some.injEq] at hc
      subst hc
      intro n hn
      obtain ⟨v, hv, hm⟩ := mem_nmL.1 hn
      exact h.2 _ (lk_some hx) v hv n hm
    | none => rw [hx] at hc; simp only [Option.none_or] at hc; exact hf.b k cs hc
theorem step_free {all : List Oper} (hf : Free ns st) {o : Oper} {δ : Dl} (ho : makes np o = true → ∀ n, own (dstN o) n = true → ns n = false) (ha : Step P np τ all o st δ) : Free ns (st.app o.dst δ) := by
  have skip : Free ns (st.app o.dst Dl.skip) := free_app hf ⟨NS_nil rfl, fun x hx => by simp [Dl.skip] at hx⟩
  unfold Step at ha
  split at ha
  · exact free_app hf (act1_ns hf ho ha)
  · rename_i j want _
    split at ha
    · rename_i b _
      by_cases e : b = want
      · exact free_app hf (act1_ns hf ho (ha.1 e))
      · have := ha.2 (by cases b <;> cases want <;> simp_all); subst this; exact skip
    · subst ha; exact skip
    · exact ha.elim
end
end Go.Proofs.Ytdbecmmeifdafaa

namespace Go.Proofs.Ytdbecmmeifdafaa
open Go.RowKit
set_option linter.unusedVariables false
set_option linter.unusedSimpArgs false

structure FreeP (ns : Nat → Bool) (st : St) : Prop where
  s : ∀ k v, lk st.s k = some v → ∀ n ∈ v.pm, ns n = false
  b : ∀ k cs, lk st.b k = some cs → ∀ n ∈ AV.pmL cs, ns n = false
theorem cv1_pm (v : Value) : (cv1 v).pm = [] := by unfold cv1; split <;> rfl
theorem cv_pm (v : Value) : (cv v).pm = [] := by
  unfold cv
  split
  · rename_i cs
    simp only [AV.pm]
    rw [List.eq_nil_iff_forall_not_mem]
    intro n hn
    obtain ⟨v, hv, hm⟩ := mem_pmL.1 hn
    obtain ⟨x, _, rfl⟩ := List.mem_map.1 hv
    rw [cv1_pm] at hm
    simp at hm
  · exact cv1_pm _
theorem FreeP.ev {ns : Nat → Bool} {st : St} (h : FreeP ns st) (x : Operand) : ∀ n ∈ (ev st x).pm, ns n = false := by
  intro n hn
  cases x with
  | tmp t =>
    simp only [Go.Proofs.Ytdbecmmeifdafaa.ev] at hn
    cases hx : lk st.s t with
    | none => rw [hx] at hn; simp [AV.pm] at hn
    | some v => rw [hx] at hn; exact h.s t v hx n hn
  | const v => simp only [Go.Proofs.Ytdbecmmeifdafaa.ev, cv_pm] at hn; simp at hn
  | func f => simp [Go.Proofs.Ytdbecmmeifdafaa.ev, AV.pm, AV.pmL] at hn
  | global g => simp [Go.Proofs.Ytdbecmmeifdafaa.ev, AV.pm] at hn
theorem pm_sl {n d : Nat} {p : List Nat} {off len : Nat} {e : TypeId} (h : n ∈ (AV.sl d p off len e).pm) : n = d := by
  cases p <;> simp [AV.pm] at h; exact h
theorem pm_ep {n d : Nat} {p : List Nat} {i : Nat} (h : n ∈ (AV.ep d p i).pm) : n = d := by
  cases p <;> simp [AV.pm] at h; exact h
theorem fieldsOf_pm {v : AV} {vs : List AV} (h : fieldsOf v = some vs) : ∀ n, n ∈ AV.pmL vs → n ∈ v.pm := by
  intro n hn
  cases v <;> simp only [fieldsOf] at h <;> cases h <;> (try simp only [AV.pmL, List.append_nil] at hn) <;> first | exact hn | (simp only [AV.pm] at hn ⊢; exact hn)
mutual
theorem pm_nm : ∀ (v : AV) (n : Nat), n ∈ v.pm → 2 * n ∈ v.nm
  | .int k m, n, h => by simp [AV.pm] at h
  | .bool b, n, h => by simp [AV.pm] at h
  | .sl d p off len e, n, h => by have := pm_sl h; subst this; simp [AV.nm]
  | .nil, n, h => by simp [AV.pm] at h
  | .ep d p i, n, h => by have := pm_ep h; subst this; simp [AV.nm]
  | .bp t i, n, h => by simp [AV.pm] at h
  | .agg vs, n, h => by simp only [AV.pm, AV.nm] at h ⊢; exact pmL_nmL vs n h
  | .tup vs, n, h => by simp only [AV.pm, AV.nm] at h ⊢; exact pmL_nmL vs n h
  | .fn f vs, n, h => by simp only [AV.pm, AV.nm] at h ⊢; exact pmL_nmL vs n h
  | .dead, n, h => by simp [AV.pm] at h
  | .raw u, n, h => by simp [AV.pm] at h
theorem pmL_nmL : ∀ (vs : List AV) (n : Nat), n ∈ AV.pmL vs → 2 * n ∈ AV.nmL vs
  | [], n, h => by simp [AV.pmL] at h
  | v :: vs, n, h => by
    simp only [AV.pmL, AV.nmL, List.mem_append] at h ⊢
    rcases h with h | h
    · exact .inl (pm_nm v n h)
    · exact .inr (pmL_nmL vs n h)
end
mutual
theorem kill_pm {ds bs : Nat → Bool} : ∀ (v : AV) (n : Nat), n ∈ (v.kill ds bs).pm → ds n = false
  | .int k m, n, h => by simp [AV.kill, AV.pm] at h
  | .bool b, n, h => by simp [AV.kill, AV.pm] at h
  | .sl d p off len e, n, h => by
    simp only [AV.kill] at h
    split at h
    · simp [AV.pm] at h
    · rename_i hd; have := pm_sl h; subst this; simpa using hd
  | .nil, n, h => by simp [AV.kill, AV.pm] at h
  | .ep d p i, n, h => by
    simp only [AV.kill] at h
    split at h
    · simp [AV.pm] at h
    · rename_i hd; have := pm_ep h; subst this; simpa using hd
  | .bp t i, n, h => by simp only [AV.kill] at h; split at h <;> simp [AV.pm] at h
  | .agg vs, n, h => by simp only [AV.kill, AV.pm] at h; exact killL_pm vs n h
  | .tup vs, n, h => by simp only [AV.kill, AV.pm] at h; exact killL_pm vs n h
  | .fn f vs, n, h => by simp only [AV.kill, AV.pm] at h; exact killL_pm vs n h
  | .dead, n, h => by simp [AV.kill, AV.pm] at h
  | .raw u, n, h => by simp [AV.kill, AV.pm] at h
theorem killL_pm {ds bs : Nat → Bool} : ∀ (vs : List AV) (n : Nat), n ∈ AV.pmL (AV.killL ds bs vs) → ds n = false
  | [], n, h => by simp [AV.killL, AV.pmL] at h
  | v :: vs, n, h => by
    simp only [AV.killL, AV.pmL, List.mem_append] at h
    rcases h with h | h
    · exact kill_pm v n h
    · exact killL_pm vs n h
end

section
variable {P : Program} {τ : Ty} {st : St} {ns : Nat → Bool}

def NSp (ns : Nat → Bool) (v : AV) : Prop := ∀ n ∈ v.pm, ns n = false
mutual
theorem kill_np {ds bs : Nat → Bool} : ∀ (v : AV), NSp ns v → NSp ns (v.kill ds bs)
  | .int k n, h => h
  | .bool b, h => h
  | .sl d p off len e, h => by
    simp only [AV.kill]; split
    · intro n hn; simp [AV.pm] at hn
    · exact h
  | .nil, h => h
  | .ep d p i, h => by
    simp only [AV.kill]; split
    · intro n hn; simp [AV.pm] at hn
    · exact h
  | .bp t i, h => by
    simp only [AV.kill]; split
    · intro n hn; simp [AV.pm] at hn
    · exact h
  | .agg vs, h => fun n hn => killL_np vs (fun n hn => h n (by simpa only [AV.pm] using hn)) n (by simpa only [AV.kill, AV.pm] using hn)
  | .tup vs, h => fun n hn => killL_np vs (fun n hn => h n (by simpa only [AV.pm] using hn)) n (by simpa only [AV.kill, AV.pm] using hn)
  | .fn f vs, h => fun n hn => killL_np vs (fun n hn => h n (by simpa only [AV.pm] using hn)) n (by simpa only [AV.kill, AV.pm] using hn)
  | .dead, h => h
  | .raw u, h => h
theorem killL_np {ds bs : Nat → Bool} : ∀ (vs : List AV), (∀ n ∈ AV.pmL vs, ns n = false) → ∀ n ∈ AV.pmL (AV.killL ds bs vs), ns n = false
  | [], h, n, hn => by simp [AV.killL, AV.pmL] at hn
  | v :: vs, h, n, hn => by
    simp only [AV.killL, AV.pmL, List.mem_append] at hn
    rcases hn with hn | hn
    · exact kill_np v (fun n hn => h n (by simp [AV.pmL, hn])) n hn
    · exact killL_np vs (fun n hn => h n (by simp [AV.pmL, hn])) n hn
end
theorem noWay_np {np : Bool} {v u : AV} (h : NSp ns u) : NSp ns (noWay np st v u) := by
  unfold noWay
  split
  · split
    · split
      · exact kill_np u h
      · exact h
    · exact h
  · exact h
theorem NSp_nil {v : AV} (h : v.pm = []) : NSp ns v := fun n hn => by rw [h] at hn; simp at hn
theorem NSp_agg {vs : List AV} (h : ∀ v ∈ vs, NSp ns v) : NSp ns (.agg vs) := fun n hn => by
  simp only [AV.pm] at hn
  obtain ⟨v, hv, hm⟩ := mem_pmL.1 hn
  exact h v hv n hm
theorem NSp_ar (k : IntKind) (n : Int) : NSp ns (ar k n).1 := by unfold ar; cases k <;> exact NSp_nil rfl
theorem ar_np {k : IntKind} {n : Int} {v : AV} {ob : Prop} (h : some (ar k n) = some (v, ob)) : NSp ns v := by
  have h1 := Option.some.inj h
  have := NSp_ar (ns := ns) k n
  rw [h1] at this
  exact this
theorem onR_np {d : Nat} {p : List Nat} {v u : AV} {o o' : Prop} (h : onR st d p v o = some (u, o')) (hv : NSp ns v) : NSp ns u := by
  unfold onR at h
  split at h
  · cases h; exact hv
  · cases h
theorem cellV_np {d : Nat} {p : List Nat} {i : Nat} {xs : List D} {c : CK} (h : ns d = false) : NSp ns (cellV τ d p i xs c) := by
  cases c with
  | int k => exact NSp_nil rfl
  | bool => exact NSp_nil rfl
  | sl e => intro n hn; simp only [cellV] at hn; have := pm_sl hn; subst this; exact h
theorem cellsV_np {d : Nat} {p : List Nat} {xs : List D} (h : ns d = false) : ∀ (cs : List CK) (i : Nat), ∀ v ∈ cellsV τ d p xs i cs, NSp ns v
  | [], i, v, hv => by simp [cellsV] at hv
  | c :: cs, i, v, hv => by
    simp only [cellsV, List.mem_cons] at hv
    rcases hv with rfl | hv
    · exact cellV_np h
    · exact cellsV_np h cs (i + 1) v hv
theorem box_np (hf : FreeP ns st) {b : Nat} {cs : List AV} (hb : lk st.b b = some cs) : ∀ v ∈ cs, NSp ns v := fun v hv n hn => hf.b b cs hb n (mem_pmL.2 ⟨v, hv, hn⟩)
theorem loadE_np (hf : FreeP ns st) {t : TypeId} {v u : AV} {ob : Prop} (hv : NSp ns v) (h : loadE τ st t v = some (u, ob)) (hex : ∀ d p i R, v = .ep d p i → lk st.r d = some R → ns d = true → R.o = .ex ∧ ∀ n, ns n = true → n = d) : NSp ns (noWay true st v u) := by
  cases v <;> simp only [loadE] at h <;> try (cases h; done)
  · rename_i d p i
    cases hR : lk st.r d with
    | none => rw [hR] at h; cases h
    | some R =>
      rw [hR] at h
      have key : (ns d = false → NSp ns u) → NSp ns (noWay true st (.ep d p i) u) := fun hu => by
        simp only [noWay, hR]
        by_cases hd : ns d = false
        · split
          · exact kill_np u (hu hd)
          · exact hu hd
        · obtain ⟨e1, e2⟩ := hex d p i R rfl hR (by simpa using hd)
          rw [if_pos ⟨trivial, by rw [e1]; rfl⟩]
          intro n hn
          have h1 := kill_pm u n hn
          cases hns : ns n with
          | false => rfl
          | true => have := e2 n hns; subst this; simp [is1] at h1
      refine key fun hd => ?_
      cases ht : tk τ t with
      | none => rw [ht] at h; cases h
      | some y =>
        obtain ⟨K, by_⟩ := y
        rw [ht] at h
        cases K with
        | sc c => simp only [Option.some.injEq, Prod.mk.injEq] at h; rw [← h.1]; exact cellV_np hd
        | st ks fs => simp only [Option.some.injEq, Prod.mk.injEq] at h; rw [← h.1]; exact NSp_agg (cellsV_np hd _ _)
  · rename_i b i
    refine noWay_np ?_
    split at h
    · rename_i cs _ _ hcs _
      cases h
      rw [List.getD_eq_getElem?_getD]
      cases hx : cs[i]? with
      | none => exact NSp_nil rfl
      | some v => exact box_np hf hcs v (List.mem_of_getElem? hx)
    · rename_i cs _ _ _ hcs _
      cases h
      exact NSp_agg fun v hv => box_np hf hcs v (List.mem_of_mem_drop (List.mem_of_mem_take hv))
    · cases h
theorem fieldsOf_np {v : AV} {vs : List AV} (h : fieldsOf v = some vs) (hv : NSp ns v) : ∀ u ∈ vs, NSp ns u := fun u hu n hn => hv n (fieldsOf_pm h n (mem_pmL.2 ⟨u, hu, hn⟩))
theorem fillE_np {fs : List (Nat × TypeId)} : ∀ (parts : List (Nat × AV)) (cells us : List AV), (∀ v ∈ cells, NSp ns v) → (∀ x ∈ parts, NSp ns x.2) → fillE τ fs cells parts = some us → ∀ v ∈ us, NSp ns v
  | [], cells, us, hc, _, h => by simp only [fillE, Option.some.injEq] at h; subst h; exact hc
  | (i, v) :: rest, cells, us, hc, hp, h => by
    simp only [fillE] at h
    split at h
    · rename_i x vs h1 h2
      split at h
      · refine fillE_np rest _ us (fun u hu => ?_) (fun x hx => hp x (by simp [hx])) h
        rcases lay_mem hu with hu | hu
        · exact hc u hu
        · exact fieldsOf_np h2 (hp (i, v) (by simp)) u hu
      · cases h
    · cases h
theorem effV_np (hf : FreeP ns st) {o : Oper} (hnl : ∀ t x, o.op ≠ .load t x) {v : AV} {ob : Prop} (h : effV τ o st = some (v, ob)) : NSp ns v := by
  obtain ⟨dst, op, ty, pos, after, guard⟩ := o
  have ev' : ∀ x, NSp ns (ev st x) := fun x => hf.ev x
  unfold effV at h
  cases op <;> simp only at h <;> try (cases h; done)
  case load t x => exact absurd rfl (hnl t x)
  case move x => cases h; exact ev' x
  case assign x => cases h; exact ev' x
  case nilCheck x =>
    unfold nilE at h
    have hx := ev' x
    split at h
    · rename_i t i hev
      rw [hev] at hx
      split at h
      · cases h; exact hx
      · cases h
    · cases h
  case pick c x y =>
    split at h
    · cases h; split
      · exact ev' x
      · exact ev' y
    · cases h
  case fieldAddr t x f =>
    unfold fieldE at h
    have hx := ev' x
    split at h
    · split at h
      · cases hv : ev st x <;> rw [hv] at h <;> rw [hv] at hx <;> simp only at h <;> try (cases h; done)
        · exact onR_np h (fun n hn => hx n (by simpa [AV.pm] using hn))
        · split at h
          · cases h; exact fun n hn => hx n (by simp [AV.pm] at hn)
          · cases h
      · cases h
    · cases h
  case indexAddr t x ix =>
    unfold indexE at h
    have hx := ev' x
    split at h
    · cases hv : ev st x <;> rw [hv] at h <;> rw [hv] at hx <;> (try simp only at h) <;> try (cases h; done)
      cases hi : ev st ix <;> rw [hi] at h <;> (try simp only at h) <;> try (cases h; done)
      split at h
      · exact onR_np h (fun n hn => hx n (by simpa [AV.pm] using hn))
      · cases h
    · cases h
  case field t x f =>
    have hx := ev' x
    obtain ⟨us, k, e1, e2⟩ := fieldV_some h
    rw [e1] at hx
    exact fun n hn => hx n (by simp only [AV.pm]; exact mem_pmL.2 ⟨_, List.mem_of_getElem? e2, hn⟩)
  case extract x i =>
    have hx := ev' x
    cases hv : ev st x <;> rw [hv] at h <;> rw [hv] at hx <;> simp only at h <;> try (cases h; done)
    rename_i vs
    cases hi : vs[i]? with
    | none => rw [hi] at h; cases h
    | some u =>
      rw [hi] at h; cases h
      exact fun n hn => hx n (by simp only [AV.pm]; exact mem_pmL.2 ⟨_, List.mem_of_getElem? hi, hn⟩)
  case binOp op t x y r =>
    split at h
    · rcases binE_flat h with ⟨k, n, rfl⟩ | ⟨b, rfl⟩ <;> exact NSp_nil rfl
    · unfold boolE at h
      split at h
      · split at h <;> cases h <;> exact NSp_nil rfl
      · cases h
    · rcases aggE_flat h with ⟨b, rfl⟩; exact NSp_nil rfl
    · cases h
  case unOp op t x =>
    unfold unE at h
    split at h
    · exact ar_np h
    · cases h; exact NSp_nil rfl
    · cases h
  case build t parts =>
    unfold buildE at h
    split at h
    · rename_i ks fs b ht
      cases hfl : fillE τ fs (ks.map zeroV) (parts.toList.map fun x => (x.1, ev st x.2)) with
      | none => rw [hfl] at h; cases h
      | some us =>
        rw [hfl] at h; cases h
        refine NSp_agg (fillE_np _ _ _ (fun v hv => ?_) (fun x hx => ?_) hfl)
        · obtain ⟨c, _, rfl⟩ := List.mem_map.1 hv
          cases c <;> exact NSp_nil rfl
        · obtain ⟨y, _, rfl⟩ := List.mem_map.1 hx
          exact ev' _
    · cases h
  case convert s d x =>
    split at h
    · rcases arC_flat h with ⟨k, n, rfl⟩ <;> exact NSp_nil rfl
    · cases h
  case slice t x l u m =>
    split at h
    · unfold sliceE at h
      have hx := ev' x
      split at h
      · cases hv : ev st x <;> rw [hv] at h <;> rw [hv] at hx <;> simp only at h <;> try (cases h; done)
        split at h
        · split at h
          · exact onR_np h (fun n hn => hx n (by simpa [AV.pm] using hn))
          · cases h
        · cases h
      · cases h
    · cases h
  case call c =>
    unfold builtinE at h
    split at h
    · split at h
      · split at h
        · unfold lenE at h
          split at h
          · exact onR_np h (NSp_nil rfl)
          · cases h; exact NSp_nil rfl
          · cases h
        · cases h
      · unfold maxE at h
        split at h
        · cases h; exact NSp_nil rfl
        · cases h
      · unfold minE at h
        split at h
        · cases h; exact NSp_nil rfl
        · cases h
      · unfold max3E at h
        split at h
        · cases h; exact NSp_nil rfl
        · cases h
      · cases h
    · cases h
theorem resC_pm (t : Nat) : ∀ (ds : List D) (j : Nat), ∀ v ∈ resC τ t j ds, v.pm = []
  | [], j, v, hv => by simp [resC] at hv
  | .lst e xs :: ds, j, v, hv => by
    simp only [resC, List.mem_cons] at hv
    rcases hv with rfl | hv
    · rfl
    · exact resC_pm t ds (j + 1) v hv
  | .int k n :: ds, j, v, hv => by
    simp only [resC, List.mem_cons] at hv
    rcases hv with rfl | hv
    · rfl
    · exact resC_pm t ds (j + 1) v hv
  | .bool b :: ds, j, v, hv => by
    simp only [resC, List.mem_cons] at hv
    rcases hv with rfl | hv
    · rfl
    · exact resC_pm t ds (j + 1) v hv
  | .hole :: ds, j, v, hv => by
    simp only [resC, List.mem_cons] at hv
    rcases hv with rfl | hv
    · rfl
    · exact resC_pm t ds (j + 1) v hv
theorem resV_np (t : Nat) : ∀ (xs : List VT) (j : Nat), ∀ v ∈ resV τ t j xs, NSp ns v
  | [], j, v, hv => by simp [resV] at hv
  | .c d :: xs, j, v, hv => by
    simp only [resV, List.mem_cons] at hv
    rcases hv with rfl | hv
    · have := resC_pm (τ := τ) t [d] j
      cases hr : resC τ t j [d] with
      | nil => exact NSp_nil rfl
      | cons y ys => rw [hr] at this; exact NSp_nil (this y (by simp))
    · exact resV_np t xs (j + 1) v hv
  | .agg ds :: xs, j, v, hv => by
    simp only [resV, List.mem_cons] at hv
    rcases hv with rfl | hv
    · exact NSp_agg fun v hv => NSp_nil (resC_pm t ds j v hv)
    · exact resV_np t xs (j + ds.length) v hv
  | .fn f ds :: xs, j, v, hv => by
    simp only [resV, List.mem_cons] at hv
    rcases hv with rfl | hv
    · exact NSp_nil rfl
    · exact resV_np t xs (j + ds.length) v hv
theorem act1_np (hf : FreeP ns st) (hex : ∀ x d p i R, ev st x = .ep d p i → lk st.r d = some R → ns d = true → R.o = .ex ∧ ∀ n, ns n = true → n = d) {o : Oper} {δ : Dl} (ha : Act1 P true τ o st δ) : NSp ns δ.v ∧ ∀ x ∈ δ.bx, ∀ v ∈ x.2, NSp ns v := by
  have sl : ∀ {t : Nat} {len : Nat} {e : TypeId}, NSp ns (.sl (home t 0) [] 0 len e) := fun {t len e} => NSp_nil rfl
  unfold Act1 at ha
  rcases ha with ha | ha | ha
  · obtain ⟨-, -, ⟨k, m, h3⟩, -, h5, -⟩ := ha
    refine ⟨?_, fun x hx => by rw [h5] at hx; simp at hx⟩
    rw [h3]
    intro n hn
    simp [AV.pm] at hn
  · unfold ActT at ha
    cases hc : callOf o with
    | none => rw [hc] at ha; exact ha.elim
    | some x =>
      obtain ⟨f, args, ts⟩ := x
      rw [hc] at ha
      simp only at ha
      split at ha
      · rename_i as ob us vs hargs hevs
        obtain ⟨hob, pm, ress, hfn, hpm, hsz, hlen, rfl⟩ := ha
        refine ⟨?_, fun x hx => by simp at hx⟩
        obtain ⟨x0, hv0⟩ : ∃ x0, ev st x0 = .agg us := by
          cases hal : args.toList with
          | nil => rw [hal] at hevs; simp at hevs
          | cons x0 xs =>
            rw [hal] at hevs
            simp only [List.map_cons, List.cons.injEq] at hevs
            exact ⟨x0, hevs.1⟩
        have hu := hf.ev x0
        rw [hv0] at hu
        have hr := resV_np (ns := ns) (τ := τ) (dstN o) [.agg ress] 0
        have hr2 := hr _ List.mem_cons_self
        intro n hn
        simp only [AV.pm] at hn
        obtain ⟨v, hv, hm⟩ := mem_pmL.1 hn
        rcases List.mem_append.1 hv with hv | hv
        · obtain ⟨i, hi, rfl⟩ := List.mem_map.1 hv
          have hil := hpm i hi
          refine hu n ?_
          simp only [AV.pm]
          refine mem_pmL.2 ⟨us.getD i .dead, ?_, hm⟩
          rw [List.getD_eq_getElem?_getD, List.getElem?_eq_getElem hil]
          exact List.getElem_mem hil
        · refine hr2 n ?_
          simp only [AV.pm]
          exact mem_pmL.2 ⟨v, hv, hm⟩
      · exact ha.elim
  cases hc : callOf o with
  | some x =>
    obtain ⟨f, args, ts⟩ := x
    rw [hc] at ha
    simp only at ha
    cases hargs : argsOf τ st ts.toList (args.toList.map (ev st)) with
    | none => rw [hargs] at ha; exact absurd ha.1 (by simp)
    | some y =>
      rw [hargs] at ha
      obtain ⟨hob, ress, h1, h2, h3, rfl⟩ := ha
      refine ⟨?_, fun x hx => by simp at hx⟩
      have hr := resV_np (ns := ns) (τ := τ) (dstN o) ress 0
      unfold retA
      split
      · rename_i v hv; rw [hv] at hr; exact hr v (by simp)
      · intro n hn
        simp only [AV.pm] at hn
        obtain ⟨v, hv, hm⟩ := mem_pmL.1 hn
        exact hr v hv n hm
  | none =>
    rw [hc] at ha
    simp only at ha
    cases he : effD true τ o st with
    | none => rw [he] at ha; exact ha.elim
    | some y =>
      obtain ⟨δ', ob⟩ := y
      rw [he] at ha
      obtain ⟨hob, rfl⟩ := ha
      clear hob hc
      have plain : (∀ t x, o.op ≠ .load t x) → ((effV τ o st).map fun y => ((⟨y.1, [], [], []⟩ : Dl), y.2)) = some (δ, ob) → NSp ns δ.v ∧ ∀ x ∈ δ.bx, ∀ v ∈ x.2, NSp ns v   := fun hnl he => by
        cases hv : effV τ o st with
        | none => rw [hv] at he; cases he
        | some y => rw [hv] at he; cases he; exact ⟨effV_np hf hnl hv, fun x hx => by simp at hx⟩
      obtain ⟨dst, op, ty, pos, after, guard⟩ := o
      unfold effD at he
      cases op <;> simp only at he
      case box e x =>
        split at he
        · rename_i t vs hvs
          cases he
          refine ⟨fun n hn => ?_, fun x hx => ?_⟩
          · simp [AV.pm] at hn
          · simp only [List.mem_singleton] at hx; subst hx; exact fieldsOf_np hvs (hf.ev _)
        · cases he
      case alloc e =>
        split at he
        · rename_i t k b ht
          cases he
          refine ⟨fun n hn => ?_, fun x hx => ?_⟩
          · simp [AV.pm] at hn
          · simp only [List.mem_singleton] at hx; subst hx
            intro v hv
            obtain ⟨c, _, rfl⟩ := List.mem_map.1 hv
            cases c <;> exact NSp_nil rfl
        · cases he
      case makeSlice t l c =>
        split at he
        · unfold makeD at he
          split at he
          · split at he
            · split at he
              · cases he; exact ⟨sl, fun x hx => by simp at hx⟩
              · cases he
            · cases he
          · cases he
        · cases he
      case buildSlice t len parts =>
        split at he
        · rcases orE_cases he with he | he
          · unfold litD at he
            split at he
            · split at he
              · split at he
                · cases he; exact ⟨sl, fun x hx => by simp at hx⟩
                · cases he
              · cases he
            · cases he
          · rcases orE_cases he with he | he
            · unfold litN at he
              split at he
              · split at he
                · split at he
                  · split at he
                    · cases he; exact ⟨sl, fun x hx => by simp at hx⟩
                    · cases he
                  · cases he
                · cases he
              · cases he
            · unfold litS at he
              split at he
              · split at he
                · split at he
                  · rename_i R _ _ hR _
                    split at he
                    · cases he; exact ⟨sl, fun x hx => by simp at hx⟩
                    · cases he
                  · cases he
                · cases he
              · cases he
        · cases he
      case load t x =>
        rcases orE_cases he with he | he
        · unfold loadS at he
          split at he
          · split at he
            · split at he
              · cases he; exact ⟨sl, fun x hx => by simp at hx⟩
              · cases he
            · cases he
          · cases he
        unfold loadN at he
        cases hv : loadE τ st t (ev st x) with
        | none => rw [hv] at he; cases he
        | some y => rw [hv] at he; cases he; exact ⟨loadE_np hf (hf.ev x) hv (fun d p i R e1 e2 e3 => hex x d p i R e1 e2 e3), fun x hx => by simp at hx⟩
      case store t p x =>
        rcases orE_cases he with he | he
        rotate_left
        · split at he
          · cases hp : ev st p <;> rw [hp] at he <;> simp only [storeN] at he <;> try (cases he; done)
            rename_i d q i
            cases q with
            | cons _ _ => simp at he
            | nil =>
              simp only at he
              split at he
              · split at he
                · split at he
                  · cases he; exact ⟨NSp_nil rfl, fun x hx => by simp at hx⟩
                  · cases he
                · cases he
              · cases he
          · cases he
        cases hp : ev st p <;> rw [hp] at he <;> simp only [storeD] at he <;> try (cases he; done)
        · split at he
          · split at he
            · split at he
              · cases he; exact ⟨NSp_nil rfl, fun x hx => by simp at hx⟩
              · cases he; exact ⟨NSp_nil rfl, fun x hx => by simp at hx⟩
              · cases he
            · cases he
          · cases he
        · split at he
          · rename_i vs cells hvs hcells
            split at he
            · cases he
              refine ⟨NSp_nil rfl, fun x hx => ?_⟩
              simp only [List.mem_singleton] at hx; subst hx
              intro v hv
              rcases lay_mem hv with hv | hv
              · exact box_np hf hcells v hv
              · exact fieldsOf_np hvs (hf.ev _) v hv
            · cases he
          · cases he
      case call c =>
        obtain ⟨callee, args, argTypes⟩ := c
        simp only at he
        split at he
        · split at he
          · split at he
            · rcases orE_cases he with he | he
              · unfold appD at he
                split at he
                · split at he
                  · split at he
                    · split at he
                      · unfold appX at he
                        split at he
                        · cases he; exact ⟨sl, fun x hx => by simp at hx⟩
                        · split at he
                          · split at he
                            · cases he; exact ⟨sl, fun x hx => by simp at hx⟩
                            · cases he
                          · cases he
                        · cases he
                      · cases he
                    · cases he
                  · cases he
                · cases he
              · unfold appN at he
                split at he
                · split at he
                  · split at he
                    · split at he
                      · unfold appY at he
                        split at he
                        · cases he; exact ⟨sl, fun x hx => by simp at hx⟩
                        · split at he
                          · split at he
                            · cases he; exact ⟨sl, fun x hx => by simp at hx⟩
                            · cases he
                          · cases he
                        · cases he
                      · cases he
                    · cases he
                  · cases he
                · cases he
            · cases he
          · cases he
        · exact plain (fun t x e => by cases e) he
      all_goals exact plain (fun t x e => by cases e) he

theorem newR_own (t : Nat) : ∀ (ds : List D) (j : Nat), j + ds.length ≤ 16 → ∀ x ∈ newR t j ds, own t (2 * x.1) = true
  | [], j, _, x, hx => by simp [newR] at hx
  | .int _ _ :: ds, j, hl, x, hx => by simp only [newR] at hx; exact newR_own t ds (j + 1) (by simp only [List.length_cons] at hl; omega) x hx
  | .bool _ :: ds, j, hl, x, hx => by simp only [newR] at hx; exact newR_own t ds (j + 1) (by simp only [List.length_cons] at hl; omega) x hx
  | .hole :: ds, j, hl, x, hx => by simp only [newR] at hx; exact newR_own t ds (j + 1) (by simp only [List.length_cons] at hl; omega) x hx
  | .lst e xs :: ds, j, hl, x, hx => by
    simp only [List.length_cons] at hl
    simp only [newR, List.mem_append, List.mem_singleton] at hx
    rcases hx with hx | rfl
    · exact newR_own t ds (j + 1) (by omega) x hx
    · exact own_home (by omega)
theorem add_cases {np : Bool} {o : Oper} {δ : Dl} (ha : Act1 P np τ o st δ) : ∀ x ∈ δ.add, (makes np o = true ∧ own (dstN o) (2 * x.1) = true) ∨ (∃ R0, lk st.r x.1 = some R0 ∧ R0.o = x.2.o) := by
  intro x hx
  unfold Act1 at ha
  rcases ha with ha | ha | ha
  · obtain ⟨-, -, -, -, -, h0 | ⟨d, R, R0, h6, h7, h8, -⟩, -⟩ := ha
    · rw [h0] at hx; cases hx
    rw [h6] at hx
    simp only [List.mem_singleton] at hx
    subst hx
    exact .inr ⟨R0, h7, h8⟩
  · unfold ActT at ha
    cases hc : callOf o with
    | none => rw [hc] at ha; exact ha.elim
    | some y =>
      obtain ⟨f, args, ts⟩ := y
      rw [hc] at ha
      simp only at ha
      split at ha
      · obtain ⟨hob, pm, ress, hfn, hpm, hsz, hlen, rfl⟩ := ha
        exact .inl ⟨callOf_makes hc, newR_own _ _ 0 (by omega) x hx⟩
      · exact ha.elim
  cases hc : callOf o with
  | some y =>
    obtain ⟨f, args, ts⟩ := y
    rw [hc] at ha
    simp only at ha
    cases hargs : argsOf τ st ts.toList (args.toList.map (ev st)) with
    | none =>
      rw [hargs] at ha
      have hab := ha.2
      unfold ActB at hab
      split at hab
      · obtain ⟨-, ds', ress, -, -, h3, rfl⟩ := hab
        exact .inl ⟨callOf_makes hc, newR_own _ _ 0 (by omega) x hx⟩
      · exact hab.elim
    | some y =>
      rw [hargs] at ha
      obtain ⟨hob, ress, h1, h2, h3, rfl⟩ := ha
      exact .inl ⟨callOf_makes hc, newR_own _ _ 0 (by omega) x hx⟩
  | none =>
    rw [hc] at ha
    simp only at ha
    cases he : effD np τ o st with
    | none => rw [he] at ha; exact ha.elim
    | some y =>
      obtain ⟨δ', ob⟩ := y
      rw [he] at ha
      obtain ⟨hob, rfl⟩ := ha
      clear hob hc
      have plain : ((effV τ o st).map fun y => ((⟨y.1, [], [], []⟩ : Dl), y.2)) = some (δ, ob) → False := fun he => by
        cases hv : effV τ o st with
        | none => rw [hv] at he; cases he
        | some y => rw [hv] at he; cases he; simp at hx
      have hm : ∀ {R : Root}, x ∈ [(home (dstN o) 0, R)] → own (dstN o) (2 * x.1) = true := fun {R} h => by
        simp only [List.mem_singleton] at h; subst h; exact own_home (by omega)
      obtain ⟨dst, op, ty, pos, after, guard⟩ := o
      unfold effD at he
      cases op <;> simp only at he
      case box e x' => split at he <;> cases he; simp at hx
      case alloc e => split at he <;> cases he; simp at hx
      case makeSlice t l c =>
        split at he
        · unfold makeD at he
          split at he
          · split at he
            · split at he
              · cases he; exact .inl ⟨rfl, hm hx⟩
              · cases he
            · cases he
          · cases he
        · cases he
      case buildSlice t len parts =>
        split at he
        · rcases orE_cases he with he | he
          · unfold litD at he
            split at he
            · split at he
              · split at he
                · cases he; exact .inl ⟨rfl, hm hx⟩
                · cases he
              · cases he
            · cases he
          · rcases orE_cases he with he | he
            · unfold litN at he
              split at he
              · split at he
                · split at he
                  · split at he
                    · cases he; exact .inl ⟨rfl, hm hx⟩
                    · cases he
                  · cases he
                · cases he
              · cases he
            · unfold litS at he
              split at he
              · split at he
                · split at he
                  · rename_i R _ _ hR _
                    split at he
                    · cases he; rcases List.mem_cons.1 hx with hx | hx
                      · exact .inl ⟨rfl, hm (List.mem_singleton.2 hx)⟩
                      · simp only [List.mem_singleton] at hx; subst hx; exact .inr ⟨R, hR, rfl⟩
                    · cases he
                  · cases he
                · cases he
              · cases he
        · cases he
      case load t x' =>
        rcases orE_cases he with he | he
        · unfold loadS at he
          split at he
          · split at he
            · rename_i R _ _ hR _
              split at he
              · rename_i hc
                cases he; rcases List.mem_cons.1 hx with hx | hx
                · exact .inl ⟨hc.1, hm (List.mem_singleton.2 hx)⟩
                · simp only [List.mem_singleton] at hx; subst hx; exact .inr ⟨R, hR, rfl⟩
              · cases he
            · cases he
          · cases he
        unfold loadN at he
        cases hv : loadE τ st t (ev st x') with
        | none => rw [hv] at he; cases he
        | some y => rw [hv] at he; cases he; simp at hx
      case store t p x' =>
        rcases orE_cases he with he | he
        · cases hp : ev st p <;> rw [hp] at he <;> simp only [storeD] at he <;> try (cases he; done)
          · split at he
            · rename_i R _ _ _ hR _ _
              split at he
              · split at he
                · cases he; simp only [List.mem_singleton] at hx; subst hx; exact .inr ⟨R, hR, rfl⟩
                · cases he; simp only [List.mem_singleton] at hx; subst hx; exact .inr ⟨R, hR, rfl⟩
                · cases he
              · cases he
            · cases he
          · split at he
            · split at he
              · cases he; simp at hx
              · cases he
            · cases he
        · split at he
          · cases hp : ev st p <;> rw [hp] at he <;> simp only [storeN] at he <;> try (cases he; done)
            rename_i d q i
            cases q with
            | cons _ _ => simp at he
            | nil =>
              simp only at he
              split at he
              · rename_i R vs hR _
                split at he
                · split at he
                  · cases he; simp only [List.mem_singleton] at hx; subst hx; exact .inr ⟨R, hR, rfl⟩
                  · cases he
                · cases he
              · cases he
          · cases he
      case call c =>
        obtain ⟨callee, args, argTypes⟩ := c
        simp only at he
        split at he
        · split at he
          · split at he
            · rcases orE_cases he with he | he
              · unfold appD at he
                split at he
                · split at he
                  · split at he
                    · split at he
                      · unfold appX at he
                        split at he
                        · cases he; exact .inl ⟨rfl, hm hx⟩
                        · split at he
                          · split at he
                            · cases he; exact .inl ⟨rfl, hm hx⟩
                            · cases he
                          · cases he
                        · cases he
                      · cases he
                    · cases he
                  · cases he
                · cases he
              · unfold appN at he
                split at he
                · split at he
                  · split at he
                    · split at he
                      · unfold appY at he
                        split at he
                        · cases he; exact .inl ⟨rfl, hm hx⟩
                        · split at he
                          · split at he
                            · cases he; exact .inl ⟨rfl, hm hx⟩
                            · cases he
                          · cases he
                        · cases he
                      · cases he
                    · cases he
                  · cases he
                · cases he
            · cases he
          · cases he
        · exact (plain he).elim
      all_goals exact (plain he).elim
theorem noWay_app {bad : Nat} (hf : FreeP (· == bad) st) {d : Option Tmp} {δ : Dl} (h : NSp (· == bad) δ.v ∧ ∀ x ∈ δ.bx, ∀ v ∈ x.2, NSp (· == bad) v) : NoWay bad (st.app d δ) := by
  refine ⟨fun k v hv hm => ?_, fun k cs hc hm => ?_⟩
  · rw [app_s] at hv
    split at hv
    · cases hv; have := h.1 bad hm; simp at this
    · have := hf.s k v hv bad hm; simp at this
  · rw [app_b] at hc
    cases hx : lk δ.bx k with
    | some cs' =>
      rw [hx] at hc
      simp only [Option.some_or, Option.some.injEq] at hc
      subst hc
      obtain ⟨v, hv, hm⟩ := mem_pmL.1 hm
      have := h.2 _ (lk_some hx) v hv bad hm
      simp at this
    | none => rw [hx] at hc; simp only [Option.none_or] at hc; have := hf.b k cs hc bad hm; simp at this
theorem noWay_free {bad : Nat} (h : NoWay bad st) : FreeP (· == bad) st := ⟨fun k v hv n hn => by
  by_cases e : n = bad
  · subst e; exact absurd hn (h.s k v hv)
  · simpa using e, fun k cs hc n hn => by
  by_cases e : n = bad
  · subst e; exact absurd hn (h.b k cs hc)
  · simpa using e⟩
theorem own_freeP {t bad : Nat} (h : Free (own t) st) (hb : own t (2 * bad) = true) : FreeP (· == bad) st := ⟨fun k v hv n hn => by
  by_cases e : n = bad
  · subst e; have := h.s k v hv _ (pm_nm v n hn); rw [hb] at this; cases this
  · simpa using e, fun k cs hc n hn => by
  by_cases e : n = bad
  · subst e; have := h.b k cs hc _ (pmL_nmL cs n hn); rw [hb] at this; cases this
  · simpa using e⟩
theorem PF_app (hpf : PF st) {o : Oper} {δ : Dl} (hf : makes true o = true → Free (own (dstN o)) st) (ha : Act1 P true τ o st δ) : PF (st.app o.dst δ) := by
  intro d R hR hex
  have old : ∀ R0, lk st.r d = some R0 → R0.o = .ex → NoWay d (st.app o.dst δ) := fun R0 h1 h2 => by
    have hfr := noWay_free (hpf d R0 h1 h2)
    refine noWay_app hfr (act1_np hfr (fun x d' p i R' e1 e2 e3 => ?_) ha)
    have : d' = d := by simpa using e3
    subst this
    rw [h1] at e2; cases e2
    exact ⟨h2, fun n hn => by simpa using hn⟩
  rw [app_r] at hR
  cases hx : lk δ.add d with
  | some R' =>
    rw [hx] at hR
    simp only [Option.some_or, Option.some.injEq] at hR
    subst hR
    rcases add_cases ha _ (lk_some hx) with ⟨h1, h2⟩ | ⟨R0, h1, h2⟩
    · have hfr := own_freeP (hf h1) h2
      refine noWay_app hfr (act1_np hfr (fun x d' p i R' e1 e2 e3 => ?_) ha)
      have : d' = d := by simpa using e3
      subst this
      have := (hf h1).ev x (2 * d') (by rw [e1]; simp [AV.nm])
      rw [h2] at this; cases this
    · exact old R0 h1 (by rw [h2]; exact hex)
  | none =>
    rw [hx] at hR
    simp only [Option.none_or] at hR
    split at hR
    · cases hR
    · exact old R hR hex
theorem PF_skip (hpf : PF st) (d : Option Tmp) : PF (st.app d Dl.skip) := by
  intro k R hR hex
  rw [app_r] at hR
  have hR' : lk st.r k = some R := by simpa [Dl.skip, lk_nil] using hR
  exact noWay_app (noWay_free (hpf k R hR' hex)) ⟨NSp_nil rfl, fun x hx => by simp [Dl.skip] at hx⟩
theorem step_PF {all : List Oper} (hpf : PF st) {o : Oper} {δ : Dl} (hf : makes true o = true → Free (own (dstN o)) st) (ha : Step P true τ all o st δ) : PF (st.app o.dst δ) := by
  unfold Step at ha
  split at ha
  · exact PF_app hpf hf ha
  · rename_i j want _
    split at ha
    · rename_i b _
      by_cases e : b = want
      · exact PF_app hpf hf (ha.1 e)
      · have := ha.2 (by cases b <;> cases want <;> simp_all); subst this; exact PF_skip hpf _
    · subst ha; exact PF_skip hpf _
    · exact ha.elim
end
end Go.Proofs.Ytdbecmmeifdafaa

namespace Go.Proofs.Ytdbecmmeifdafaa
open Go.RowKit
set_option linter.unusedVariables false
set_option linter.unusedSimpArgs false

def makersOk (np : Bool) (all : List Oper) : Bool := (List.range all.length).all fun j => (List.range all.length).all fun k => match all[j]?, all[k]? with
  | some x, some y => j == k || !(makes np x && makes np y) || dstN x != dstN y
  | _, _ => true
def ancT (ops : List Oper) : List (List Nat) :=
  ops.foldl (fun acc o => acc ++ [o.after.toList.foldl (fun l e => if Region.binds .any e then (e.on :: acc.getD e.on []).foldl (fun l n => if l.contains n then l else n :: l) l else l) []]) []
def statOk (np : Bool) (ops : List Oper) (A : List (List Nat)) : Bool := befOk ops A && (makersOk np ops && inOrder ops ops.length 0 (Array.replicate ops.length false))
def St.clean (np : Bool) (ops : List Oper) (st : St) : St :=
  let ts := (ops.filter (makes np)).map dstN
  st.kill (fun d => ts.contains (d / 16)) (fun t => ts.contains t)

theorem own_ne {t u : Nat} (h : t ≠ u) : ∀ n, own t n = true → own u n = false := fun n hn => by
  unfold own at *
  split at hn
  · rename_i h1; rw [if_pos h1]; simp only [beq_iff_eq, beq_eq_false_iff_ne] at *; omega
  · rename_i h1; rw [if_neg h1]; simp only [beq_iff_eq, beq_eq_false_iff_ne] at *; omega
mutual
theorem kill_nm {ds bs : Nat → Bool} : ∀ (v : AV) (n : Nat), n ∈ (v.kill ds bs).nm → (∃ d, n = 2 * d ∧ ds d = false) ∨ (∃ t, n = 2 * t + 1 ∧ bs t = false)
  | .int k m, n, h => by simp [AV.kill, AV.nm] at h
  | .bool b, n, h => by simp [AV.kill, AV.nm] at h
  | .sl d p off len e, n, h => by
    simp only [AV.kill] at h
    split at h
    · simp [AV.nm] at h
    · rename_i hd; simp only [AV.nm, List.mem_singleton] at h; exact .inl ⟨d, h, by simpa using hd⟩
  | .nil, n, h => by simp [AV.kill, AV.nm] at h
  | .ep d p i, n, h => by
    simp only [AV.kill] at h
    split at h
    · simp [AV.nm] at h
    · rename_i hd; simp only [AV.nm, List.mem_singleton] at h; exact .inl ⟨d, h, by simpa using hd⟩
  | .bp t i, n, h => by
    simp only [AV.kill] at h
    split at h
    · simp [AV.nm] at h
    · rename_i hd; simp only [AV.nm, List.mem_singleton] at h; exact .inr ⟨t, h, by simpa using hd⟩
  | .agg vs, n, h => killL_nm vs n (by simpa only [AV.kill, AV.nm] using h)
  | .tup vs, n, h => killL_nm vs n (by simpa only [AV.kill, AV.nm] using h)
  | .fn f vs, n, h => killL_nm vs n (by simpa only [AV.kill, AV.nm] using h)
  | .dead, n, h => by simp [AV.kill, AV.nm] at h
  | .raw u, n, h => by simp [AV.kill, AV.nm] at h
theorem killL_nm {ds bs : Nat → Bool} : ∀ (vs : List AV) (n : Nat), n ∈ AV.nmL (AV.killL ds bs vs) → (∃ d, n = 2 * d ∧ ds d = false) ∨ (∃ t, n = 2 * t + 1 ∧ bs t = false)
  | [], n, h => by simp [AV.killL, AV.nmL] at h
  | v :: vs, n, h => by
    simp only [AV.killL, AV.nmL, List.mem_append] at h
    rcases h with h | h
    · exact kill_nm v n h
    · exact killL_nm vs n h
end
theorem kill_free_own {st : St} {ds bs : Nat → Bool} {t : Nat} (h1 : ∀ d, d / 16 = t → ds d = true) (h2 : bs t = true) : Free (own t) (st.kill ds bs) := by
  have key : ∀ n, ((∃ d, n = 2 * d ∧ ds d = false) ∨ (∃ t, n = 2 * t + 1 ∧ bs t = false)) → own t n = false := by
    rintro n (⟨d, rfl, hd⟩ | ⟨u, rfl, hu⟩)
    · unfold own
      rw [if_neg (by omega)]
      simp only [beq_eq_false_iff_ne]
      intro e
      rw [h1 d (by omega)] at hd; cases hd
    · unfold own
      rw [if_pos (by omega)]
      simp only [beq_eq_false_iff_ne]
      intro e
      have : u = t := by omega
      subst this
      rw [h2] at hu; cases hu
  refine ⟨fun k v hv n hn => ?_, fun k cs hc n hn => ?_⟩
  · simp only [St.kill, lk_mapv] at hv
    cases hx : lk st.s k with
    | none => rw [hx] at hv; cases hv
    | some u => rw [hx] at hv; cases hv; exact key n (kill_nm u n hn)
  · simp only [St.kill, lk_mapv] at hc
    cases hx : lk st.b k with
    | none => rw [hx] at hc; cases hc
    | some u => rw [hx] at hc; cases hc; exact key n (killL_nm u n hn)

section
variable {P : Program} {np : Bool} {τ : Ty} {lo : Nat} {w0 : Fz} {st : St} {a : Act} {w : World}

theorem Rel_kill (h : Rel τ lo w0 st a w) (ds bs : Nat → Bool) : Rel τ lo w0 (st.kill ds bs) a w := by
  obtain ⟨ow, hd, bk, h⟩ := h
  have hD : ∀ k, ds k = false → KeepD w w st.r (st.kill ds bs).r hd hd k := fun k _ R' hR' => ⟨R', hR', rfl, fun p hp => ⟨hp, rfl⟩⟩
  have hB : ∀ t, bs t = false → KeepB st.b (st.kill ds bs).b bk bk t := fun t _ hl => by
    simp only [St.kill, lk_mapv] at hl
    obtain ⟨cs, hcs⟩ := hl
    cases hx : lk st.b t with
    | none => rw [hx] at hcs; cases hcs
    | some cs' => exact ⟨⟨cs', rfl⟩, rfl⟩
  refine ⟨ow, hd, bk, h.big, h.defers, h.size, h.low, h.below, h.ge, h.new, fun k v hv' => ?_, h.root, fun t vs hv' => ?_, h.pin⟩
  · simp only [St.kill, lk_mapv] at hv'
    cases hx : lk st.s k with
    | none => rw [hx] at hv'; cases hv'
    | some u => rw [hx] at hv'; cases hv'; exact AvR_keep hD hB u _ (h.slot k u hx)
  · simp only [St.kill, lk_mapv] at hv'
    cases hx : lk st.b t with
    | none => rw [hx] at hv'; cases hv'
    | some u =>
      rw [hx] at hv'; cases hv'
      obtain ⟨cs, ty, h1, h2, h3⟩ := h.box t u hx
      exact ⟨cs, ty, h1, h2, AvRL_keep hD hB u cs h3⟩

def Inv (np : Bool) (all : List Oper) (listed : Array Bool) (st : St) : Prop := ∀ (j : Nat) (o : Oper), all[j]? = some o → listed.getD j true = false → makes np o = true → Free (own (dstN o)) st
theorem anyA_sound (hτ : TyOk P τ) (hpos : TyPos τ) {all : List Oper} {A : List (List Nat)} (hm : makersOk np all = true) {Q : St → Prop} {Q' : Exit → Act → World → Prop} (hQ : ∀ st a w, Q st → Rel τ lo w0 st a w → Q' .normal a w) :
    ∀ (fuel : Nat) (cs : List Rec) (listed : Array Bool) (st : St) (a : Act) (w : World), dstOk a.tmps.size all = true → Inv np all listed st → (np = true → PF st) → Rel τ lo w0 st a w → anyA P np τ all A Q cs fuel listed st → wpAny P .any all.toArray Q' fuel listed a w
  | 0, cs, listed, st, a, w, _, _, _, hr, h => ⟨h.1, hQ _ _ _ h.2 hr⟩
  | fuel + 1, cs, listed, st, a, w, hd, hinv, hpf, hr, h => by
    refine ⟨fun h0 => hQ _ _ _ (h.1 h0) hr, fun j hj => ?_⟩
    obtain ⟨o, δ, ho, hstep, -, hrest⟩ := h.2 j hj
    have hun := (mem_ready.1 hj).1
    have hd1 : ∀ k, o.dst = some k → k < a.tmps.size := fun k hk => by
      have := List.all_eq_true.1 hd o (List.mem_of_getElem? ho)
      rw [hk] at this
      simpa using this
    have hf : makes np o = true → Free (own (dstN o)) st := hinv j o ho hun
    have hinv' : Inv np all (listed.setIfInBounds j true) (st.app o.dst δ) := fun k ok hk hkun hmk => by
      have hkj : k ≠ j := by
        rintro rfl
        have hlt : k < all.length := (List.getElem?_eq_some_iff.1 hk).1
        rw [Array.getD_eq_getD_getElem?] at hkun hun
        have hls : k < listed.size := by
          rcases Nat.lt_or_ge k listed.size with h | h
          · exact h
          · rw [Array.getElem?_eq_none h] at hun; cases hun
        simp [hls] at hkun
      rw [getD_set_ne true (Ne.symm hkj)] at hkun
      refine step_free (hinv k ok hk hkun hmk) (fun hmo n hn => ?_) hstep
      have hjl : j < all.length := (List.getElem?_eq_some_iff.1 ho).1
      have hkl : k < all.length := (List.getElem?_eq_some_iff.1 hk).1
      have h1 := List.all_eq_true.1 (List.all_eq_true.1 hm j (List.mem_range.2 hjl)) k (List.mem_range.2 hkl)
      rw [ho, hk] at h1
      simp only [hmo, hmk, Bool.and_self, Bool.not_true, Bool.or_false, Bool.or_eq_true, beq_iff_eq, bne_iff_ne, ne_eq] at h1
      rcases h1 with h1 | h1
      · exact absurd h1.symm hkj
      · exact own_ne h1 n hn
    have hpf' : np = true → PF (st.app o.dst δ) := fun e => by subst e; exact step_PF (hpf rfl) hf hstep
    have next : ∀ x w', Rel τ lo w0 (st.app o.dst δ) (a.put o.dst x) w' → wpAny P .any all.toArray Q' fuel (listed.setIfInBounds j true) (a.put o.dst x) w' := fun x w' hr' =>
      anyA_sound hτ hpos hm hQ fuel cs _ _ _ w' (by rw [size_put]; exact hd) hinv' hpf' hr' hrest
    unfold wpOp
    rw [List.getElem?_toArray, ho]
    simp only
    have run : Act1 P np τ o st δ → o.wp P a w (wpAny P .any all.toArray Q' fuel (listed.setIfInBounds j true)) Q' := fun ha => act1_sound hτ hpos hd1 hr hf hpf ha next
    have skip : δ = Dl.skip → wpAny P .any all.toArray Q' fuel (listed.setIfInBounds j true) (a.put o.dst undef) w := fun he => by
      refine next undef w ?_
      rw [he]
      obtain ⟨ow, hd', bk, hrr⟩ := hr
      exact Rel_cov (rel_put hrr hd1 (v := .tup []) (x := undef) (by simp only [AvR]; exact ⟨[], rfl, by simp [AvRL]⟩)) (plain_cov _)
    unfold Step at hstep
    split at hstep
    · rename_i hg
      rw [if_pos (by simp [Region.wanted, hg])]
      exact .inl (run hstep)
    · rename_i g want hg
      split at hstep
      · rename_i b hgv
        have hy := guard_sound hr hgv
        by_cases hb : b = want
        · rw [if_pos (by simp [Region.wanted, hg, hy, hb])]
          exact .inl (run (hstep.1 hb))
        · rw [if_neg (by simp [Region.wanted, hg, hy, hb])]
          exact skip (hstep.2 (by cases b <;> cases want <;> simp_all))
      · rename_i hgv
        have hy := guard_sound hr hgv
        rw [if_neg (by simp [Region.wanted, hg, hy])]
        exact skip hstep
      · exact hstep.elim

theorem makes_mem {all : List Oper} {j : Nat} {o : Oper} (h : all[j]? = some o) (hm : makes np o = true) : ((all.filter (makes np)).map dstN).contains (dstN o) = true := by
  simp only [List.contains_iff_mem]
  exact List.mem_map.2 ⟨o, List.mem_filter.2 ⟨List.mem_of_getElem? h, hm⟩, rfl⟩
def exIds (r : List (Nat × Root)) : List Nat := (r.filter fun x => x.2.o.own).map (·.1)
mutual
def AV.cut (ids : List Nat) : AV → AV
  | .int k n => .int k n
  | .bool b => .bool b
  | .sl d p off len e => match p with | [] => .sl d [] off len e | i :: q => if ids.contains d then .dead else .sl d (i :: q) off len e
  | .nil => .nil
  | .ep d p i => match p with | [] => .ep d [] i | j :: q => if ids.contains d then .dead else .ep d (j :: q) i
  | .bp t i => .bp t i
  | .agg vs => .agg (AV.cutL ids vs)
  | .tup vs => .tup (AV.cutL ids vs)
  | .fn f vs => .fn f (AV.cutL ids vs)
  | .dead => .dead
  | .raw u => .raw u
def AV.cutL (ids : List Nat) : List AV → List AV
  | [] => []
  | v :: vs => v.cut ids :: AV.cutL ids vs
end
def St.cut (st : St) : St := { st with s := mapv (AV.cut (exIds st.r)) st.s, b := mapv (AV.cutL (exIds st.r)) st.b }
mutual
theorem cut_sound {rr : List (Nat × Root)} {bb bb' : List (Nat × List AV)} {hd : Nat → Value} {bk : Nat → Nat} {ids : List Nat} (hb : ∀ t, (∃ cs, lk bb' t = some cs) → ∃ cs, lk bb t = some cs) : ∀ (v : AV) (x : Value), AvR τ w rr bb hd bk v x → AvR τ w rr bb' hd bk (v.cut ids) x
  | .int k n, x, h => by simpa only [AV.cut, AvR] using h
  | .bool b, x, h => by simpa only [AV.cut, AvR] using h
  | .sl d p off len e, x, h => by
    cases p with
    | nil => simpa only [AV.cut, AvR] using h
    | cons i q =>
      simp only [AV.cut]
      split
      · simp only [AvR]
      · simpa only [AvR] using h
  | .nil, x, h => by simpa only [AV.cut, AvR] using h
  | .ep d p i, x, h => by
    cases p with
    | nil => simpa only [AV.cut, AvR] using h
    | cons j q =>
      simp only [AV.cut]
      split
      · simp only [AvR]
      · simpa only [AvR] using h
  | .bp t i, x, h => by
    simp only [AV.cut, AvR] at h ⊢
    exact ⟨h.1, fun hl => h.2 (hb t hl)⟩
  | .agg vs, x, h => by
    simp only [AV.cut, AvR] at h ⊢
    obtain ⟨cs, h1, h2⟩ := h
    exact ⟨cs, h1, cutL_sound hb vs cs h2⟩
  | .tup vs, x, h => by
    simp only [AV.cut, AvR] at h ⊢
    obtain ⟨cs, h1, h2⟩ := h
    exact ⟨cs, h1, cutL_sound hb vs cs h2⟩
  | .fn f vs, x, h => by
    simp only [AV.cut, AvR] at h ⊢
    obtain ⟨cs, h1, h2⟩ := h
    exact ⟨cs, h1, cutL_sound hb vs cs h2⟩
  | .dead, x, h => by simp only [AV.cut, AvR]
  | .raw u, x, h => by simpa only [AV.cut, AvR] using h
theorem cutL_sound {rr : List (Nat × Root)} {bb bb' : List (Nat × List AV)} {hd : Nat → Value} {bk : Nat → Nat} {ids : List Nat} (hb : ∀ t, (∃ cs, lk bb' t = some cs) → ∃ cs, lk bb t = some cs) : ∀ (vs : List AV) (xs : List Value), AvRL τ w rr bb hd bk vs xs → AvRL τ w rr bb' hd bk (AV.cutL ids vs) xs
  | [], xs, h => by simpa only [AV.cutL, AvRL] using h
  | v :: vs, xs, h => by
    simp only [AV.cutL, AvRL] at h ⊢
    obtain ⟨x, xs', h1, h2, h3⟩ := h
    exact ⟨x, xs', h1, cut_sound hb v x h2, cutL_sound hb vs xs' h3⟩
end
mutual
theorem cut_pm {ids : List Nat} : ∀ (v : AV) (n : Nat), n ∈ (v.cut ids).pm → ids.contains n = false
  | .int k m, n, h => by simp [AV.cut, AV.pm] at h
  | .bool b, n, h => by simp [AV.cut, AV.pm] at h
  | .sl d p off len e, n, h => by
    cases p with
    | nil => simp [AV.cut, AV.pm] at h
    | cons i q =>
      simp only [AV.cut] at h
      split at h
      · simp [AV.pm] at h
      · rename_i hc; have := pm_sl h; subst this; simpa using hc
  | .nil, n, h => by simp [AV.cut, AV.pm] at h
  | .ep d p i, n, h => by
    cases p with
    | nil => simp [AV.cut, AV.pm] at h
    | cons j q =>
      simp only [AV.cut] at h
      split at h
      · simp [AV.pm] at h
      · rename_i hc; have := pm_ep h; subst this; simpa using hc
  | .bp t i, n, h => by simp [AV.cut, AV.pm] at h
  | .agg vs, n, h => by simp only [AV.cut, AV.pm] at h; exact cutL_pm vs n h
  | .tup vs, n, h => by simp only [AV.cut, AV.pm] at h; exact cutL_pm vs n h
  | .fn f vs, n, h => by simp only [AV.cut, AV.pm] at h; exact cutL_pm vs n h
  | .dead, n, h => by simp [AV.cut, AV.pm] at h
  | .raw u, n, h => by simp [AV.cut, AV.pm] at h
theorem cutL_pm {ids : List Nat} : ∀ (vs : List AV) (n : Nat), n ∈ AV.pmL (AV.cutL ids vs) → ids.contains n = false
  | [], n, h => by simp [AV.cutL, AV.pmL] at h
  | v :: vs, n, h => by
    simp only [AV.cutL, AV.pmL, List.mem_append] at h
    rcases h with h | h
    · exact cut_pm v n h
    · exact cutL_pm vs n h
end
theorem cut_PF (st : St) : PF st.cut := by
  intro d R hR hex
  have hc : (exIds st.r).contains d = true := by
    simp only [List.contains_iff_mem, exIds]
    exact List.mem_map.2 ⟨(d, R), List.mem_filter.2 ⟨lk_some hR, by rw [hex]; rfl⟩, rfl⟩
  refine ⟨fun k v hv hm => ?_, fun k cs hcs hm => ?_⟩
  · simp only [St.cut, lk_mapv] at hv
    cases hx : lk st.s k with
    | none => rw [hx] at hv; cases hv
    | some u => rw [hx] at hv; cases hv; rw [cut_pm u d hm] at hc; cases hc
  · simp only [St.cut, lk_mapv] at hcs
    cases hx : lk st.b k with
    | none => rw [hx] at hcs; cases hcs
    | some u => rw [hx] at hcs; cases hcs; rw [cutL_pm u d hm] at hc; cases hc
theorem Rel_cut (h : Rel τ lo w0 st a w) : Rel τ lo w0 st.cut a w := by
  obtain ⟨ow, hd, bk, h⟩ := h
  have hb : ∀ t, (∃ cs, lk st.cut.b t = some cs) → ∃ cs, lk st.b t = some cs := fun t ⟨cs, hcs⟩ => by
    simp only [St.cut, lk_mapv] at hcs
    cases hx : lk st.b t with
    | none => rw [hx] at hcs; cases hcs
    | some u => exact ⟨u, rfl⟩
  refine ⟨ow, hd, bk, h.big, h.defers, h.size, h.low, h.below, h.ge, h.new, fun k v hv' => ?_, h.root, fun t vs hv' => ?_, h.pin⟩
  · simp only [St.cut, lk_mapv] at hv'
    cases hx : lk st.s k with
    | none => rw [hx] at hv'; cases hv'
    | some u => rw [hx] at hv'; cases hv'; exact cut_sound hb u _ (h.slot k u hx)
  · simp only [St.cut, lk_mapv] at hv'
    cases hx : lk st.b t with
    | none => rw [hx] at hv'; cases hv'
    | some u =>
      rw [hx] at hv'; cases hv'
      obtain ⟨cs, ty, h1, h2, h3⟩ := h.box t u hx
      exact ⟨cs, ty, h1, h2, cutL_sound hb u cs h3⟩
def St.start (np : Bool) (ops : List Oper) (st : St) : St := if np = true then (st.clean np ops).cut else st.clean np ops
mutual
theorem cut_nm {ids : List Nat} : ∀ (v : AV) (n : Nat), n ∈ (v.cut ids).nm → n ∈ v.nm
  | .int k m, n, h => h
  | .bool b, n, h => h
  | .sl d p off len e, n, h => by
    cases p with
    | nil => exact h
    | cons i q =>
      simp only [AV.cut] at h
      split at h
      · simp [AV.nm] at h
      · exact h
  | .nil, n, h => h
  | .ep d p i, n, h => by
    cases p with
    | nil => exact h
    | cons j q =>
      simp only [AV.cut] at h
      split at h
      · simp [AV.nm] at h
      · exact h
  | .bp t i, n, h => h
  | .agg vs, n, h => by simp only [AV.cut, AV.nm] at h ⊢; exact cutL_nm vs n h
  | .tup vs, n, h => by simp only [AV.cut, AV.nm] at h ⊢; exact cutL_nm vs n h
  | .fn f vs, n, h => by simp only [AV.cut, AV.nm] at h ⊢; exact cutL_nm vs n h
  | .dead, n, h => h
  | .raw u, n, h => h
theorem cutL_nm {ids : List Nat} : ∀ (vs : List AV) (n : Nat), n ∈ AV.nmL (AV.cutL ids vs) → n ∈ AV.nmL vs
  | [], n, h => h
  | v :: vs, n, h => by
    simp only [AV.cutL, AV.nmL, List.mem_append] at h ⊢
    rcases h with h | h
    · exact .inl (cut_nm v n h)
    · exact .inr (cutL_nm vs n h)
end
theorem cut_Free {ns : Nat → Bool} {st : St} (h : Free ns st) : Free ns st.cut := by
  refine ⟨fun k v hv n hn => ?_, fun k cs hcs n hn => ?_⟩
  · simp only [St.cut, lk_mapv] at hv
    cases hx : lk st.s k with
    | none => rw [hx] at hv; cases hv
    | some u => rw [hx] at hv; cases hv; exact h.s k u hx n (cut_nm u n hn)
  · simp only [St.cut, lk_mapv] at hcs
    cases hx : lk st.b k with
    | none => rw [hx] at hcs; cases hcs
    | some u => rw [hx] at hcs; cases hcs; exact h.b k u hx n (cutL_nm u n hn)
theorem awp_regionD (hτ : TyOk P τ) (hpos : TyPos τ) (hmix : P.follows .mixedOrders = true) {A : List (List Nat)} {Q : Exit → St → Prop} {id : Nat} {ops : List Oper} (hs : statOk np ops A = true) (hd : dstOk st.n ops = true) (h : ∀ C : List Rec → Prop, (∀ cs, chk ops A cs = true → C cs) → lexE P np τ ops C (Q .normal) ops 0 [] (st.start np ops)) : awp P τ (.region id ops.toArray true) Q st := fun lo w0 a w hr => by
  simp only [statOk, Bool.and_eq_true] at hs
  obtain ⟨h1, h2, h3⟩ := hs
  have hn : a.tmps.size = st.n := by obtain ⟨ow, hd, bk, h⟩ := hr; exact h.size
  have hrc : Rel τ lo w0 (st.clean np ops) a { w with drawn := w.drawn + 1 } := by
    obtain ⟨ow, hd, bk, h⟩ := Rel_kill hr (fun d => ((ops.filter (makes np)).map dstN).contains (d / 16)) (fun t => ((ops.filter (makes np)).map dstN).contains t)
    exact ⟨ow, hd, bk, RelC_drew h⟩
  have hr' : Rel τ lo w0 (st.start np ops) a { w with drawn := w.drawn + 1 } := by
    unfold St.start
    split
    · exact Rel_cut hrc
    · exact hrc
  have hpf : np = true → PF (st.start np ops) := fun e => by unfold St.start; rw [if_pos e]; exact cut_PF _
  refine wp_region_any hmix ?_
  have hlex' := (lexE_lexP ops 0 [] _ _ (Eqv.refl _) (h _ fun _ h => h)).2
  have hany := anyA_lex (fun st st' he ⟨s, h1, h2⟩ => ⟨s, he.symm.trans h1, h2⟩) h1 ops 0 [] (Array.replicate ops.length false) _ (by simp) (fun j o _ hj => by
    rw [Array.getD_eq_getD_getElem?, Array.getElem?_replicate] at hj
    split at hj <;> simp at hj) h3 hlex'
  have := anyA_sound (Q' := fun e a' w' => ∃ st', Rel τ lo w0 st' a' w' ∧ Q e st') hτ hpos h2 (fun st' a w ⟨s, he, hq⟩ hr => ⟨s, Rel_cov hr he.cov, hq⟩) ops.length [] (Array.replicate ops.length false) (st.start np ops) a { w with drawn := w.drawn + 1 } (by rw [hn]; exact hd) (fun j o ho _ hm => by
    have hfc : Free (own (dstN o)) (st.clean np ops) := by
      refine kill_free_own (fun d hdt => ?_) (makes_mem ho hm)
      rw [hdt]; exact makes_mem ho hm
    unfold St.start
    split
    · exact cut_Free hfc
    · exact hfc) hpf hr' hany
  simpa using this
theorem awp_regionD0 (np : Bool) (hτ : TyOk P τ) (hpos : TyPos τ) (hmix : P.follows .mixedOrders = true) {Q : Exit → St → Prop} {id : Nat} {ops : List Oper} (hs : statOk np ops (ancT ops) = true) (hd : dstOk st.n ops = true) (h : ∀ C : List Rec → Prop, (∀ cs, chk ops (ancT ops) cs = true → C cs) → lexE P np τ ops C (Q .normal) ops 0 [] (st.start np ops)) : awp P τ (.region id ops.toArray true) Q st := awp_regionD hτ hpos hmix hs hd h
end
end Go.Proofs.Ytdbecmmeifdafaa

namespace Go.Proofs.Ytdbecmmeifdafaa
open Go.RowKit
set_option linter.unusedVariables false
set_option linter.unusedSimpArgs false

def seqE (P : Program) (np : Bool) (τ : Ty) (all : List Oper) (Q : St → Prop) : List Oper → St → Prop
  | [], st => Q st
  | o :: os, st =>
    match o.guard with
    | none => actE P np τ o st fun δ => seqE P np τ all Q os (st.app o.dst δ)
    | some (j, want) =>
      match guardV all st j with
      | some (some b) =>
        brB b (if want = true then actE P np τ o (setG all st j true) fun δ => seqE P np τ all Q os ((setG all st j true).app o.dst δ) else seqE P np τ all Q os ((setG all st j true).app o.dst Dl.skip))
          (if want = false then actE P np τ o (setG all st j false) fun δ => seqE P np τ all Q os ((setG all st j false).app o.dst δ) else seqE P np τ all Q os ((setG all st j false).app o.dst Dl.skip))
      | some none => seqE P np τ all Q os (st.app o.dst Dl.skip)
      | none => False
theorem Eqv.free {ns : Nat → Bool} {st st' : St} (h : Eqv st st') (hf : Free ns st) : Free ns st' := ⟨fun k v hv => hf.s k v (by rw [← h.s]; exact hv), fun k v hv => hf.b k v (by rw [← h.b]; exact hv)⟩
theorem Eqv.pf {st st' : St} (h : Eqv st st') (hf : PF st) : PF st' := fun d R hR hex => by
  have := hf d R (by rw [← h.r]; exact hR) hex
  exact ⟨fun k v hv => this.s k v (by rw [← h.s]; exact hv), fun k v hv => this.b k v (by rw [← h.b]; exact hv)⟩

section
variable {P : Program} {np : Bool} {τ : Ty} {lo : Nat} {w0 : Fz} {st : St} {a : Act} {w : World}

theorem seqE_sound (hτ : TyOk P τ) (hpos : TyPos τ) {all : List Oper} (hm : makersOk np all = true) {Q : St → Prop} {Q' : Exit → Act → World → Prop} (hQ : ∀ st a w, Q st → Rel τ lo w0 st a w → Q' .normal a w) :
    ∀ (os : List Oper) (k : Nat) (st : St) (a : Act) (w : World), (∀ j, os[j]? = all[k + j]?) → dstOk a.tmps.size all = true → (∀ j o, k ≤ j → all[j]? = some o → makes np o = true → Free (own (dstN o)) st) → (np = true → PF st) → Rel τ lo w0 st a w → seqE P np τ all Q os st → wpList P all.toArray Q' os a w
  | [], k, st, a, w, _, _, _, _, hr, h => wpList_nil (hQ _ _ _ h hr)
  | o :: os, k, st, a, w, hl, hd, hinv, hpf, hr, h => by
    have ho : all[k]? = some o := by simpa using (hl 0).symm
    have hd1 : ∀ j, o.dst = some j → j < a.tmps.size := fun j hj => by
      have := List.all_eq_true.1 hd o (List.mem_of_getElem? ho)
      rw [hj] at this
      simpa using this
    refine wpList_step fun K' hK' => ?_
    -- from any state that says the same
    have next : ∀ st, (∀ j o, k ≤ j → all[j]? = some o → makes np o = true → Free (own (dstN o)) st) → (np = true → PF st) → ∀ δ, Step P np τ all o st δ → seqE P np τ all Q os (st.app o.dst δ) → ∀ x w', Rel τ lo w0 (st.app o.dst δ) (a.put o.dst x) w' → K' (a.put o.dst x) w' := fun st hinv hpf δ hstep hrest x w' hr' => by
      have hf : makes np o = true → Free (own (dstN o)) st := hinv k o (Nat.le_refl _) ho
      refine hK' _ _ (seqE_sound hτ hpos hm hQ os (k + 1) _ _ w' (fun j => by have := hl (j + 1); simpa [Nat.add_assoc, Nat.add_comm 1 j] using this) (by rw [size_put]; exact hd) (fun j oj hkj hj hmk => ?_) (fun e => by subst e; exact step_PF (hpf rfl) hf hstep) hr' hrest)
      refine step_free (hinv j oj (by omega) hj hmk) (fun hmo n hn => ?_) hstep
      have hkl : k < all.length := (List.getElem?_eq_some_iff.1 ho).1
      have hjl : j < all.length := (List.getElem?_eq_some_iff.1 hj).1
      have h1 := List.all_eq_true.1 (List.all_eq_true.1 hm k (List.mem_range.2 hkl)) j (List.mem_range.2 hjl)
      rw [ho, hj] at h1
      simp only [hmo, hmk, Bool.and_self, Bool.not_true, Bool.or_false, Bool.or_eq_true, beq_iff_eq, bne_iff_ne, ne_eq] at h1
      rcases h1 with h1 | h1
      · omega
      · exact own_ne h1 n hn
    have run : ∀ st, (∀ j o, k ≤ j → all[j]? = some o → makes np o = true → Free (own (dstN o)) st) → (np = true → PF st) → Rel τ lo w0 st a w → ∀ δ, Act1 P np τ o st δ → Step P np τ all o st δ → seqE P np τ all Q os (st.app o.dst δ) → o.wp P a w K' Q' := fun st hinv hpf hr δ ha hs hrest => act1_sound hτ hpos hd1 hr (hinv k o (Nat.le_refl _) ho) hpf ha (next st hinv hpf δ hs hrest)
    have skip : ∀ st, (∀ j o, k ≤ j → all[j]? = some o → makes np o = true → Free (own (dstN o)) st) → (np = true → PF st) → Rel τ lo w0 st a w → Step P np τ all o st Dl.skip → seqE P np τ all Q os (st.app o.dst Dl.skip) → K' (a.put o.dst undef) w := fun st hinv hpf hr hs hrest => by
      refine next st hinv hpf Dl.skip hs hrest undef w ?_
      obtain ⟨ow, hd', bk, hrr⟩ := hr
      exact Rel_cov (rel_put hrr hd1 (v := .tup []) (x := undef) (by simp only [AvR]; exact ⟨[], rfl, by simp [AvRL]⟩)) (plain_cov _)
    simp only [seqE] at h
    split at h
    · rename_i hg
      rw [if_pos (by simp [Region.wanted, hg])]
      obtain ⟨δ, h1, h2⟩ := actE_act h
      exact run st hinv hpf hr δ h1 (by unfold Step; rw [hg]; exact h1) h2
    · rename_i g want hg
      split at h
      · rename_i b hgv
        have hy := guard_sound hr hgv
        have he := setG_eqv hgv
        have hgv' : guardV all (setG all st g b) g = some (some b) := by rw [guard_l (st := st) fun o' d _ _ => he.s d]; exact hgv
        have hinv' : ∀ j o, k ≤ j → all[j]? = some o → makes np o = true → Free (own (dstN o)) (setG all st g b) := fun j o h1 h2 h3 => he.free (hinv j o h1 h2 h3)
        have hpf' : np = true → PF (setG all st g b) := fun e => he.pf (hpf e)
        have hr' : Rel τ lo w0 (setG all st g b) a w := Rel_cov hr he.cov
        have hb : if want = b then actE P np τ o (setG all st g b) fun δ => seqE P np τ all Q os ((setG all st g b).app o.dst δ) else seqE P np τ all Q os ((setG all st g b).app o.dst Dl.skip) := by
          cases b
          · exact h.2 rfl
          · exact h.1 rfl
        by_cases hw : want = b
        · rw [if_pos hw] at hb
          rw [if_pos (by simp [Region.wanted, hg, hy, hw])]
          obtain ⟨δ, h1, h2⟩ := actE_act hb
          refine run _ hinv' hpf' hr' δ h1 ?_ h2
          unfold Step; rw [hg]; simp only [hgv']
          exact ⟨fun _ => h1, fun e' => by subst hw; cases want <;> cases e'⟩
        · rw [if_neg hw] at hb
          rw [if_neg (by simp [Region.wanted, hg, hy]; exact fun e => hw e.symm)]
          refine skip _ hinv' hpf' hr' ?_ hb
          unfold Step; rw [hg]; simp only [hgv']
          exact ⟨fun h => absurd h.symm hw, fun _ => by first | rfl | trivial⟩
      · rename_i hgv
        have hy := guard_sound hr hgv
        rw [if_neg (by simp [Region.wanted, hg, hy])]
        refine skip st hinv hpf hr ?_ h
        unfold Step; rw [hg]; simp only [hgv]
      · exact h.elim

theorem Rel_start (h : Rel τ lo w0 st a w) (ops : List Oper) : Rel τ lo w0 (st.start np ops) a w := by
  have h1 : Rel τ lo w0 (st.clean np ops) a w := Rel_kill h _ _
  unfold St.start
  split
  · exact Rel_cut h1
  · exact h1
theorem start_free {ops : List Oper} {j : Nat} {o : Oper} (ho : ops[j]? = some o) (hm : makes np o = true) : Free (own (dstN o)) (st.start np ops) := by
  have hfc : Free (own (dstN o)) (st.clean np ops) := by
    refine kill_free_own (fun d hdt => ?_) (makes_mem ho hm)
    rw [hdt]; exact makes_mem ho hm
  unfold St.start
  split
  · exact cut_Free hfc
  · exact hfc
theorem awp_regionN (np : Bool) (hτ : TyOk P τ) (hpos : TyPos τ) {Q : Exit → St → Prop} {id : Nat} {ops : List Oper} (hs : makersOk np ops = true) (hd : dstOk st.n ops = true) (h : seqE P np τ ops (Q .normal) ops (st.start np ops)) : awp P τ (.region id ops.toArray false) Q st := fun lo w0 a w hr => by
  have hn : a.tmps.size = st.n := by obtain ⟨ow, hd, bk, h⟩ := hr; exact h.size
  refine wp_region_lit (seqE_sound (np := np) hτ hpos hs (fun st a w h1 h2 => ⟨st, h2, h1⟩) ops 0 (st.start np ops) a w (by simp) (by rw [hn]; exact hd) (fun j o _ ho hm => start_free ho hm) (fun e => by unfold St.start; rw [if_pos e]; exact cut_PF _) (Rel_start hr ops) h)

def St.settle (e : TypeId) (t : Nat) (st : St) : St :=
  let y := hom [] (.sl e) st (home t 0) (ev st (.tmp t))
  y.1.put (some t) y.2.1
theorem awp_settle (e : TypeId) (t : Nat) (ht : t < st.n) {c : Code} {Q : Exit → St → Prop} (h : awp P τ c Q (st.settle e t)) : awp P τ c Q st := fun lo w0 a w hr => by
  obtain ⟨ow, hd, bk, hrr⟩ := hr
  have hx := ev_sound hrr (.tmp t)
  obtain ⟨ow', hd', r1, r2, -, -⟩ := hom_sound hrr [] (.sl e) (home t 0) hx
  have hsz : t < a.tmps.size := by rw [hrr.size]; exact ht
  have hrel := rel_put (d := some t) r1 (fun k hk => by cases hk; exact hsz) r2
  have hput : a.put (some t) (a.eval (.tmp t)) = a := by
    unfold Act.put Act.eval
    simp only
    congr 1
    apply Array.ext_getElem?
    intro i
    rw [Array.getElem?_setIfInBounds]
    split
    · rename_i e; subst e
      first
        | (rw [if_pos hsz, Array.getD_eq_getD_getElem?, Array.getElem?_eq_getElem hsz]; rfl)
        | (rw [Array.getD_eq_getD_getElem?, Array.getElem?_eq_getElem hsz]; simp)
        | (simp [hsz])
    · rfl
  rw [hput] at hrel
  exact h lo w0 a w hrel
end
end Go.Proofs.Ytdbecmmeifdafaa

namespace Go.Proofs.Ytdbecmmeifdafaa
open Go.RowKit
set_option linter.unusedVariables false
set_option linter.unusedSimpArgs false

def resVar (τ : Ty) (st : St) : ResultVar → Option (AV × Prop)
  | .tmp t => some (ev st (.tmp t), True)
  | .cell a t => loadE τ st t (ev st (.tmp a))
def resVars (τ : Ty) (st : St) : List ResultVar → Option (List AV × Prop)
  | [] => some ([], True)
  | r :: rs => match resVar τ st r, resVars τ st rs with
    | some (v, p), some (vs, q) => some (v :: vs, p ∧ q)
    | _, _ => none
def RetR (τ : Ty) (rs : List ResultVar) (ress : List VT) (e : Exit) (st : St) : Prop := (e = .ret ∨ e = .normal) ∧
  match resVars τ st rs with
  | some (vs, ob) => ob ∧ RetOk τ st vs ress
  | none => False

section
variable {P : Program} {τ : Ty} {lo : Nat} {w0 : Fz} {ow : Nat → Option Pl} {hd : Nat → Value} {bk : Nat → Nat} {st : St} {a : Act} {w : World}

theorem load_as {t : TypeId} {u z : Value} (h : (Instr.loadAt t u).run P w = .ok z w) : (do loadVar t (← asAddr u) : Sem Value).run P w = .ok z w := by
  unfold Instr.loadAt at h
  rw [Sem.run_bind] at h ⊢
  have bad : Instr.sureAddr u = stuck "an address expected (no nilCheck in front?)" → False := fun e => by
    rw [e] at h
    simp [stuck, Sem.run, Result.andThen] at h
  cases u with
  | pointer q =>
    cases q with
    | none => exact (bad rfl).elim
    | some b => simpa [Instr.sureAddr, asAddr] using h
  | _ => exact (bad rfl).elim
theorem resVar_run (hτ : TyOk P τ) (hpos : TyPos τ) (h : RelC τ lo w0 ow hd bk st a w) {r : ResultVar} {v : AV} {ob : Prop} (he : resVar τ st r = some (v, ob)) (hob : ob) :
    ∃ z, (match r with | .tmp t => pure (a.tmps.getD t undef) | .cell c t => do loadVar t (← asAddr (a.tmps.getD c undef)) : Sem Value).run P w = .ok z w ∧ AvR τ w st.r st.b hd bk v z := by
  cases r with
  | tmp t =>
    simp only [resVar, Option.some.injEq, Prod.mk.injEq] at he
    obtain ⟨rfl, rfl⟩ := he
    exact ⟨a.tmps.getD t undef, Sem.run_pure .., ev_sound h (.tmp t)⟩
  | cell c t =>
    obtain ⟨z, hz, hv⟩ := loadE_sound hτ hpos h (ev_sound h (.tmp c)) he hob
    exact ⟨z, load_as hz, hv⟩
theorem results_runR (hτ : TyOk P τ) (hpos : TyPos τ) (h : RelC τ lo w0 ow hd bk st a w) {fn : Func} {rs : List ResultVar} (hrs : fn.results = rs.toArray) {vs : List AV} {ob : Prop} (he : resVars τ st rs = some (vs, ob)) (hob : ob) :
    ∃ xs, (results fn a.tmps).run P w = .ok (retV xs) w ∧ AvRL τ w st.r st.b hd bk vs xs := by
  have key : ∀ (g : ResultVar → Sem Value), (∀ t, g (.tmp t) = pure (a.tmps.getD t undef)) → (∀ c t, g (.cell c t) = do loadVar t (← asAddr (a.tmps.getD c undef))) → ∀ (rs : List ResultVar) (vs : List AV) (ob : Prop), resVars τ st rs = some (vs, ob) → ob → ∃ xs, (rs.mapM g).run P w = .ok xs w ∧ AvRL τ w st.r st.b hd bk vs xs := by
    intro g hg1 hg2 rs
    induction rs with
    | nil =>
      intro vs ob he _
      simp only [resVars, Option.some.injEq, Prod.mk.injEq] at he
      obtain ⟨rfl, rfl⟩ := he
      exact ⟨[], by simp, by simp [AvRL]⟩
    | cons r rs ih =>
      intro vs ob he hob
      simp only [resVars] at he
      split at he
      · rename_i v p vs' q e1 e2
        simp only [Option.some.injEq, Prod.mk.injEq] at he
        obtain ⟨rfl, rfl⟩ := he
        obtain ⟨z, hz, hv⟩ := resVar_run hτ hpos h e1 hob.1
        obtain ⟨xs, hx, hvs⟩ := ih vs' q e2 hob.2
        refine ⟨z :: xs, ?_, by simp only [AvRL]; exact ⟨z, xs, rfl, hv, hvs⟩⟩
        have hg : (g r).run P w = .ok z w := by
          cases r with
          | tmp t => rw [hg1]; exact hz
          | cell c t => rw [hg2]; exact hz
        rw [List.mapM_cons, Sem.run_bind, hg, Result.andThen_ok, Sem.run_bind, hx, Result.andThen_ok, Sem.run_pure]
      · cases he
  unfold results
  rw [hrs, Array.mapM_eq_mapM_toList]
  obtain ⟨xs, hx, hv⟩ := key (fun x => match x with | .tmp t => pure (a.tmps.getD t undef) | .cell c t => do loadVar t (← asAddr (a.tmps.getD c undef))) (fun _ => rfl) (fun _ _ => rfl) rs vs ob he hob
  refine ⟨xs, ?_, hv⟩
  rw [Sem.run_bind]
  have hm : ∀ (m : Sem (List Value)), m.run P w = .ok xs w → ((List.toArray <$> m : Sem (Array Value))).run P w = .ok xs.toArray w := fun m hm => by
    rw [map_eq_pure_bind, Sem.run_bind, hm, Result.andThen_ok]
    simp
  refine Eq.trans (congrArg (fun r => Result.andThen r (fun (vs : Array Value) w' => Sem.run P (pure (if h : vs.size = 1 then vs[0] else Value.tuple vs)) w')) (hm _ hx)) ?_
  rw [Result.andThen_ok, Sem.run_pure]
  match xs with
  | [] => simp [retV]
  | [t] => simp [retV]
  | t :: t' :: ts => simp [retV]
theorem Fn_ofR (hτ : TyOk P τ) (hpos : TyPos τ) {f : FuncId} {fn : Func} {c : Code} {rs : List ResultVar} {args ress : List VT} (hfn : P.funcs[f]? = some fn) (hname : (fn.name == "runtime.NumGoroutine") = false) (hb : fn.body = some c) (hres : fn.results = rs.toArray) (hn : args.length ≤ fn.ntmps) (hfew : few args = true) (hs : szA τ args)
    (h : awp P τ c (RetR τ rs ress) (argSt τ fn.ntmps args)) : Fn P τ f args ress := by
  refine ⟨⟨fn, hfn, hname, by rw [hb]; rfl⟩, fun w cargs hargs => ?_⟩
  have hstart : Rel τ w.heap.size (.plain w) (argSt τ fn.ntmps args) { tmps := cargs.toArray ++ Array.replicate (fn.ntmps - cargs.toArray.size) undef, defers := [] } w := ⟨_, _, _, argSt_sound hs hfew hn hargs⟩
  refine calls_of_wp hfn hb (Go.wp_mono (h w.heap.size (.plain w) _ w hstart) fun e a' w' ⟨st', ⟨ow, hd, bk, hr⟩, he, hret0⟩ => ?_)
  have hpost : a'.defers = [] ∧ ∃ v, (results fn a'.tmps).run P w' = .ok v w' ∧ Post τ w ress (.returned v) w' := by
    split at hret0
    · rename_i avs ob0 hrv
      obtain ⟨hob0, hret⟩ := hret0
      obtain ⟨xs, hrun, hv⟩ := results_runR hτ hpos hr hres hrv hob0
      refine ⟨hr.defers, _, hrun, ?_⟩
      unfold RetOk at hret
      split at hret
      · rename_i us hus
        split at hret
        · rename_i is ob hcells
          obtain ⟨cs, k1, k2⟩ := retFlat_sound (S := sz τ) (lo := w.heap.size) (ow := outOw ow is) 0 hus hv
          obtain ⟨m1, m2⟩ := retCells_sound hr hcells hret.2 hret.1 k1
          refine ⟨_, outOw ow is, rfl, hr.below.to_below, fun b hlt => ?_, fun b p hp => ?_, k2 m1 fun i d c hd hc => by rw [Nat.zero_add]; exact m2 i d c hd hc⟩
          · unfold outOw
            split
            · rename_i d q ho
              have := (hr.ge b _ (by have := hr.below.to_below.size; omega) ho (by simp)).1
              omega
            · rfl
          · unfold outOw at hp
            split at hp
            · rename_i d q ho
              split at hp
              · cases hp
                refine ⟨?_, by simp⟩
                rcases Nat.lt_or_ge b w'.heap.size with h' | h'
                · exact h'
                · rw [hr.new b h'] at ho; cases ho
              · cases hp
            · cases hp
        · exact hret.elim
      · exact hret.elim
    · exact hret0.elim
  rcases he with rfl | rfl <;> exact hpost
end
end Go.Proofs.Ytdbecmmeifdafaa

namespace Go.Proofs.Ytdbecmmeifdafaa
open Go.RowKit
set_option linter.unusedVariables false
set_option linter.unusedSimpArgs false

abbrev Out := Nat × TypeId × List D
section
variable {P : Program} {τ : Ty} {lo : Nat} {w0 : Fz} {ow : Nat → Option Pl} {hd : Nat → Value} {bk : Nat → Nat} {st : St} {a : Act} {w : World}

theorem outOw_some {is : List (Option Nat)} {b : Nat} {p : Pl} (h : outOw ow is b = some p) : ∃ d q j, ow b = some (.root d q) ∧ posOf is 0 d = some j ∧ p = .root j q := by
  unfold outOw at h
  split at h
  · rename_i d q ho
    split at h
    · rename_i j hj; cases h; exact ⟨d, q, j, ho, hj, rfl⟩
    · cases h
  · cases h
end
end Go.Proofs.Ytdbecmmeifdafaa

namespace Go.Proofs.Ytdbecmmeifdafaa
open Go.RowKit
set_option linter.unusedVariables false
set_option linter.unusedSimpArgs false

structure Lend where
  id : Nat
  d : Nat
  p : List Nat
  e : TypeId
  out : Option (List D)
def cellAt (vs : List AV) (id : Nat) : AV :=
  match vs.getD (id / 16) .dead with
  | .agg us => us.getD (id % 16) .dead
  | .fn _ us => us.getD (id % 16) .dead
  | v => if id % 16 = 0 then v else .dead
def apart (ns : List Nat) (ls : List Lend) : Bool := ns.all fun n => ls.all fun x => !(2 * x.d == n)

end Go.Proofs.Ytdbecmmeifdafaa

namespace Go.Proofs.Ytdbecmmeifdafaa
open Go.RowKit
set_option linter.unusedVariables false
set_option linter.unusedSimpArgs false

section
variable {P : Program} {τ : Ty} {lo : Nat} {w0 : Fz} {ow : Nat → Option Pl} {hd : Nat → Value} {bk : Nat → Nat} {st : St} {a : Act} {w : World}

structure LendOk (τ : Ty) (st : St) (vs : List AV) (outs : List Out) (x : Lend) (len : Nat) (R : Root) : Prop where
  cell : cellAt vs x.id = .sl x.d x.p 0 len x.e
  root : lk st.r x.d = some R
  ex : R.o = .ex
  pos : 0 < sz τ x.e
  path : okPath R.xs x.p
  elem : nodeE R.e R.xs x.p = x.e
  whole : len * sz τ x.e = (node R.xs x.p).length
  short : x.p = [] ∨ ∃ j ys, x.p = [j] ∧ x.out = some ys
  out : ∀ ys, x.out = some ys → (x.id, x.e, ys) ∈ outs
end
end Go.Proofs.Ytdbecmmeifdafaa

namespace Go.Proofs.Ytdbecmmeifdafaa
open Go.RowKit
set_option linter.unusedVariables false
set_option linter.unusedSimpArgs false

section
variable {P : Program} {τ : Ty} {lo : Nat} {w0 : Fz} {ow : Nat → Option Pl} {hd : Nat → Value} {bk : Nat → Nat} {st : St} {a : Act} {w : World}

end
end Go.Proofs.Ytdbecmmeifdafaa

namespace Go.Proofs.Ytdbecmmeifdafaa
open Go.RowKit
set_option linter.unusedVariables false
set_option linter.unusedSimpArgs false

section
variable {P : Program} {τ : Ty} {lo : Nat} {w0 : Fz} {ow : Nat → Option Pl} {hd : Nat → Value} {bk : Nat → Nat} {st : St} {a : Act} {w : World}

theorem callG_exec (h : RelC τ lo w0 ow hd bk st a w) {o : Oper} {f : FuncId} {args : Array Operand} {ts : Array TypeId} (hc : callOf o = some (f, args, ts)) (hcl : Callable P f) : (execOp a.eval o).run P w = .ok (.enter f (args.toList.map a.eval).toArray) w := by
  obtain ⟨fn, hfn, hname, hbody⟩ := hcl
  obtain ⟨dst, op, oty, pos, after, guard⟩ := o
  unfold callOf at hc
  simp only at hc
  split at hc
  · rename_i c
    split at hc
    · rename_i f' hcal
      cases hc
      obtain ⟨callee, args', ats⟩ := c
      simp only at hcal
      subst hcal
      rw [execOp_call_go]
      unfold callFunc
      have h1 : ¬ fn.name = "runtime.NumGoroutine" := by simpa using hname
      have h2 : ¬ fn.body = none := by cases hb : fn.body with
        | none => rw [hb] at hbody; simp at hbody
        | some c => simp
      have h3 : Array.map a.eval args' = (args'.toList.map a.eval).toArray := by cases args'; simp
      simp [hfn, h1, h2, h3]
    · cases hc
  · cases hc

end

end Go.Proofs.Ytdbecmmeifdafaa

namespace Go.Proofs.Ytdbecmmeifdafaa
open Go.RowKit
set_option linter.unusedVariables false
set_option linter.unusedSimpArgs false

section
variable {P : Program} {τ : Ty} {np : Bool} {all : List Oper}
theorem seqE_app (Q : St → Prop) (l2 : List Oper) : ∀ (l1 : List Oper) (st : St), seqE P np τ all Q (l1 ++ l2) st = seqE P np τ all (fun st => seqE P np τ all Q l2 st) l1 st
  | [], st => rfl
  | o :: os, st => by simp only [List.cons_append, seqE, seqE_app Q l2 os]
theorem seqE_cut (n : Nat) {Q : St → Prop} {os : List Oper} {st : St} (h : ∀ K : St → Prop, (∀ st, seqE P np τ all Q (os.drop n) st → K st) → seqE P np τ all K (os.take n) st) : seqE P np τ all Q os st := by
  have := h _ fun _ h => h
  rwa [← seqE_app, List.take_append_drop] at this
theorem aops_app {al : List Nat} (Q : St → Prop) (l2 : List Oper) : ∀ (l1 : List Oper) (st : St), aops P τ al all Q (l1 ++ l2) st = aops P τ al all (fun st => aops P τ al all Q l2 st) l1 st
  | [], st => rfl
  | o :: os, st => by
    have e : aops P τ al all Q (os ++ l2) = aops P τ al all (fun st => aops P τ al all Q l2 st) os := funext fun st => aops_app Q l2 os st
    simp only [List.cons_append, aops, e]
theorem aops_cut (n : Nat) {al : List Nat} {Q : St → Prop} {os : List Oper} {st : St} (h : ∀ K : St → Prop, (∀ st, aops P τ al all Q (os.drop n) st → K st) → aops P τ al all K (os.take n) st) : aops P τ al all Q os st := by
  have := h _ fun _ h => h
  rwa [← aops_app, List.take_append_drop] at this

def lexF (P : Program) (np : Bool) (τ : Ty) (all : List Oper) (E : List Rec → St → Prop) : List Oper → Nat → List Rec → St → Prop
  | [], _, cs, st => E cs st
  | o :: os, k, cs, st =>
    match o.guard with
    | none => actE P np τ o st fun δ => lexF P np τ all E os (k + 1) (⟨k, fp o st, δ.wr⟩ :: cs) (st.app o.dst δ)
    | some (j, want) =>
      match guardV all st j with
      | some (some b) =>
        brB b (if want = true then actE P np τ o (setG all st j true) fun δ => lexF P np τ all E os (k + 1) (⟨k, fp o (setG all st j true), δ.wr⟩ :: cs) ((setG all st j true).app o.dst δ) else lexF P np τ all E os (k + 1) (⟨k, fp o (setG all st j true), Dl.skip.wr⟩ :: cs) ((setG all st j true).app o.dst Dl.skip))
          (if want = false then actE P np τ o (setG all st j false) fun δ => lexF P np τ all E os (k + 1) (⟨k, fp o (setG all st j false), δ.wr⟩ :: cs) ((setG all st j false).app o.dst δ) else lexF P np τ all E os (k + 1) (⟨k, fp o (setG all st j false), Dl.skip.wr⟩ :: cs) ((setG all st j false).app o.dst Dl.skip))
      | some none => lexF P np τ all E os (k + 1) (⟨k, fp o st, Dl.skip.wr⟩ :: cs) (st.app o.dst Dl.skip)
      | none => False
theorem lexF_eq (C : List Rec → Prop) (Q : St → Prop) : ∀ (os : List Oper) (k : Nat) (cs : List Rec) (st : St), lexF P np τ all (fun cs st => C cs ∧ Q st) os k cs st = lexE P np τ all C Q os k cs st
  | [], k, cs, st => rfl
  | o :: os, k, cs, st => by
    unfold lexF lexE
    simp only [lexF_eq C Q os]
    rfl
theorem lexF_app (E : List Rec → St → Prop) (l2 : List Oper) : ∀ (l1 : List Oper) (k : Nat) (cs : List Rec) (st : St), lexF P np τ all E (l1 ++ l2) k cs st = lexF P np τ all (fun cs st => lexF P np τ all E l2 (k + l1.length) cs st) l1 k cs st
  | [], k, cs, st => rfl
  | o :: os, k, cs, st => by
    have e : ∀ cs st, lexF P np τ all E (os ++ l2) (k + 1) cs st = lexF P np τ all (fun cs st => lexF P np τ all E l2 (k + (o :: os).length) cs st) os (k + 1) cs st := fun cs st => by
      rw [lexF_app E l2 os (k + 1) cs st, List.length_cons, show k + 1 + os.length = k + (os.length + 1) from by omega]
    simp only [List.cons_append, lexF, e]
theorem lexF_cut (n : Nat) {E : List Rec → St → Prop} {os : List Oper} {k : Nat} {cs : List Rec} {st : St} (hn : n ≤ os.length) (h : ∀ K : List Rec → St → Prop, (∀ cs st, lexF P np τ all E (os.drop n) (k + n) cs st → K cs st) → lexF P np τ all K (os.take n) k cs st) : lexF P np τ all E os k cs st := by
  have := h _ fun _ _ h => h
  have hl : (os.take n).length = n := by rw [List.length_take]; omega
  have e : lexF P np τ all (fun cs st => lexF P np τ all E (os.drop n) (k + (os.take n).length) cs st) (os.take n) k cs st := by rw [hl]; exact this
  rw [← lexF_app, List.take_append_drop] at e
  exact e
theorem awp_regionD1 (np : Bool) {Q : Exit → St → Prop} {st : St} (hτ : TyOk P τ) (hpos : TyPos τ) (hmix : P.follows .mixedOrders = true) {id : Nat} {ops : List Oper} (hs : statOk np ops (ancT ops) = true) (hd : dstOk st.n ops = true) (h : ∀ E : List Rec → St → Prop, (∀ cs st, chk ops (ancT ops) cs = true → Q .normal st → E cs st) → lexF P np τ ops E ops 0 [] (st.start np ops)) : awp P τ (.region id ops.toArray true) Q st :=
  awp_regionD0 np hτ hpos hmix hs hd fun C hC => by
    rw [← lexF_eq]
    exact h _ fun cs st h1 h2 => ⟨hC cs h1, h2⟩
end
end Go.Proofs.Ytdbecmmeifdafaa

namespace Go.Proofs.Ytdbecmmeifdafaa
open Go.RowKit
set_option linter.unusedVariables false
set_option linter.unusedSimpArgs false

inductive XT where
  | v (x : VT)
  | clo (f : FuncId) (ds : List D)
  | ref (d : D)
def XT.cells : XT → List D
  | .v x => x.cells
  | .clo _ ds => ds
  | .ref d => [d]
section
variable {P : Program} {τ : Ty} {lo : Nat} {w0 : Fz} {ow : Nat → Option Pl} {hd : Nat → Value} {bk : Nat → Nat} {st : St} {a : Act} {w : World}

end

end Go.Proofs.Ytdbecmmeifdafaa

namespace Go.Proofs.Ytdbecmmeifdafaa
open Go.RowKit
set_option linter.unusedVariables false
set_option linter.unusedSimpArgs false

section
variable {P : Program} {τ : Ty} {lo : Nat} {w0 : Fz} {ow : Nat → Option Pl} {hd : Nat → Value} {bk : Nat → Nat} {st : St} {a : Act} {w : World}

end
end Go.Proofs.Ytdbecmmeifdafaa

namespace Go.Proofs.Ytdbecmmeifdafaa
open Go.RowKit
set_option linter.unusedVariables false
set_option linter.unusedSimpArgs false

section
variable {P : Program} {τ : Ty} {lo : Nat} {w0 : Fz} {ow : Nat → Option Pl} {hd : Nat → Value} {bk : Nat → Nat} {st : St} {a : Act} {w : World}

def St.moveTo (e : TypeId) (t h : Nat) (st : St) : St :=
  let y := hom [] (.sl e) st h (ev st (.tmp t))
  y.1.put (some t) y.2.1
theorem put_self {t : Nat} (hsz : t < a.tmps.size) : a.put (some t) (a.eval (.tmp t)) = a := by
  unfold Act.put Act.eval
  simp only
  congr 1
  apply Array.ext_getElem?
  intro i
  rw [Array.getElem?_setIfInBounds]
  split
  · rename_i e; subst e
    first
      | (rw [if_pos hsz, Array.getD_eq_getD_getElem?, Array.getElem?_eq_getElem hsz]; rfl)
      | (rw [Array.getD_eq_getD_getElem?, Array.getElem?_eq_getElem hsz]; simp)
      | (simp [hsz])
  · rfl
theorem awp_moveTo (e : TypeId) (t h : Nat) (ht : t < st.n) {c : Code} {Q : Exit → St → Prop} (hK : awp P τ c Q (st.moveTo e t h)) : awp P τ c Q st := fun lo w0 a w hr => by
  obtain ⟨ow, hd, bk, hrr⟩ := hr
  have hx := ev_sound hrr (.tmp t)
  obtain ⟨ow', hd', r1, r2, -, -⟩ := hom_sound hrr [] (.sl e) h hx
  have hsz : t < a.tmps.size := by rw [hrr.size]; exact ht
  have hrel := rel_put (d := some t) r1 (fun k hk => by cases hk; exact hsz) r2
  rw [put_self hsz] at hrel
  exact hK lo w0 a w hrel

def pinR : List (Nat × Root) → List (Nat × Root)
  | [] => []
  | (d, R) :: l => (d, ⟨R.o, R.e, R.xs, some d⟩) :: pinR l
theorem lk_pinR : ∀ (l : List (Nat × Root)) (d : Nat), lk (pinR l) d = (lk l d).map fun R => ⟨R.o, R.e, R.xs, some d⟩
  | [], d => rfl
  | (k, R) :: l, d => by
    simp only [pinR, lk_cons]
    split
    · rename_i e; subst e; rfl
    · exact lk_pinR l d
def argStS (τ : Ty) (n : Nat) (args : List VT) : St := { n := n, s := argSlots τ 0 args, b := [], r := pinR (argRoots 0 args) }
theorem argStS_sound {n : Nat} {args : List VT} {cargs : List Value} (hs : szA τ args) (hfew : few args = true) (hn : args.length ≤ n) (h : ArgsR (sz τ) w.heap.size w (fun _ => none) args cargs) :
    RelC τ w.heap.size ⟨w, fun _ => True, fun id => some (hdArgs cargs id)⟩ (fun _ => none) (hdArgs cargs) (bk0 (hdArgs cargs 999999)) (argStS τ n args) { tmps := cargs.toArray ++ Array.replicate (n - cargs.toArray.size) undef, defers := [] } w := by
  have h0 := argSt_sound hs hfew hn h
  have hD : ∀ k, noB k = false → KeepD w w (argSt τ n args).r (argStS τ n args).r (hdArgs cargs) (hdArgs cargs) k := fun k _ R' hR' => by
    simp only [argStS, lk_pinR] at hR'
    cases hx : lk (argRoots 0 args) k with
    | none => rw [hx] at hR'; cases hR'
    | some R => rw [hx] at hR'; cases hR'; exact ⟨R, hx, rfl, fun p hp => ⟨hp, rfl⟩⟩
  have hB : ∀ t, noB t = false → KeepB (argSt τ n args).b (argStS τ n args).b (fun _ => 0) (bk0 (hdArgs cargs 999999)) t := fun t _ hl => by
    obtain ⟨cs, hl⟩ := hl
    simp [argStS, lk] at hl
  refine ⟨fun ad had => (by simp only [Option.some.injEq] at had; simp [bk0, had]), h0.defers, h0.size, h0.low, ⟨h0.below.os, h0.below.tape, h0.below.output, h0.below.size, h0.below.block⟩, h0.ge, h0.new, fun k v hv => ?_, fun k R' hR' => ?_, fun t cs hcs => ?_, fun k R' j hR' hp => ?_⟩
  · have := AvR_keep (τ := τ) hD hB v _ (h0.slot k v hv)
    rwa [kill_no] at this
  · simp only [argStS, lk_pinR] at hR'
    cases hx : lk (argRoots 0 args) k with
    | none => rw [hx] at hR'; cases hR'
    | some R => rw [hx] at hR'; cases hR'; exact h0.root k R hx
  · simp [argStS, lk] at hcs
  · simp only [argStS, lk_pinR] at hR'
    cases hx : lk (argRoots 0 args) k with
    | none => rw [hx] at hR'; cases hR'
    | some R => rw [hx] at hR'; cases hR'; cases hp; rfl
end
end Go.Proofs.Ytdbecmmeifdafaa

namespace Go.Proofs.Ytdbecmmeifdafaa
open Go.RowKit
set_option linter.unusedVariables false
set_option linter.unusedSimpArgs false

section
variable {P : Program} {τ : Ty} {lo : Nat} {w0 : Fz} {ow : Nat → Option Pl} {hd : Nat → Value} {bk : Nat → Nat} {st : St} {a : Act} {w : World}

attribute [push_cast] List.set_cons_succ
end
end Go.Proofs.Ytdbecmmeifdafaa

namespace Go.Proofs.Ytdbecmmeifdafaa
open Go.RowKit
set_option linter.unusedVariables false
set_option linter.unusedSimpArgs false

def argStB (τ : Ty) (n : Nat) (ds : List D) (args : List VT) : St := { n := n, s := (0, .bp 1000000 0) :: argSlots τ 1 args, b := [(1000000, resC τ 1000000 0 ds)], r := pinR (cellRoots 1000000 0 ds) ++ argRoots 1 args }
def cellsB (τ : Ty) (st : St) : Nat → List AV → List D → Prop
  | _, [], [] => True
  | j, u :: us, d :: ds => (match d, u with
      | .int k n, .int k' n' => k' = k ∧ n' = n
      | .bool b, .bool b' => b' = b
      | .lst e xs, .sl d0 [] 0 len e' => d0 = home 1000000 j ∧ (match lk st.r d0 with | some R => R.pin = some d0 ∧ e' = e ∧ R.e = e ∧ R.xs.length = len * sz τ e ∧ sz τ e ≠ 0 | none => False)
      | _, _ => False) ∧ cellsB τ st (j + 1) us ds
  | _, _, _ => False
def RetB (τ : Ty) (rs : List ResultVar) (ds' : List D) (ress : List VT) (e : Exit) (st : St) : Prop := (e = .ret ∨ e = .normal) ∧
  match resVars τ st rs with
  | some (vs, ob) => ob ∧ RetOk τ st vs ress ∧ (match lk st.b 1000000 with | some us => cellsB τ st 0 us ds' | none => False)
  | none => False
section
variable {P : Program} {τ : Ty} {lo : Nat} {w0 : Fz} {ow : Nat → Option Pl} {hd : Nat → Value} {bk : Nat → Nat} {st : St} {a : Act} {w : World}

mutual
theorem Rp_raise {S : TypeId → Nat} {lo lo2 : Nat} {w : World} {ow : Nat → Option Pl} : ∀ (d : D) (j : Nat) (p : List Nat) (v : Value), (∀ b q, ow b = some (.root j (p ++ q)) → lo2 ≤ b) → Rp S lo w ow (.ex j p) d v → Rp S lo2 w ow (.ex j p) d v
  | .int k n, j, p, v, _, h => by simpa only [Rp] using h
  | .bool b, j, p, v, _, h => by simpa only [Rp] using h
  | .hole, j, p, v, _, h => by simpa only [Rp] using h
  | .lst e xs, j, p, v, hb, h => by
    simp only [Rp] at h ⊢
    obtain ⟨vs, ⟨h0, n, h1, h2, h3⟩, h4⟩ := h
    refine ⟨vs, ⟨h0, n, h1, ⟨h2.1, ?_⟩, h3⟩, RpL_raise xs j p 0 vs hb h4⟩
    rcases h2.2 with hn | ⟨g, cap, cur, hv, hg, rest⟩
    · exact .inl hn
    · exact .inr ⟨g, cap, cur, hv, hb g [] (by simpa using h3 g (by rw [hv]; rfl)), rest⟩
theorem RpL_raise {S : TypeId → Nat} {lo lo2 : Nat} {w : World} {ow : Nat → Option Pl} : ∀ (xs : List D) (j : Nat) (p : List Nat) (k : Nat) (vs : List Value), (∀ b q, ow b = some (.root j (p ++ q)) → lo2 ≤ b) → RpL S lo w ow (.ex j p) k xs vs → RpL S lo2 w ow (.ex j p) k xs vs
  | [], j, p, k, vs, _, h => by simpa only [RpL] using h
  | x :: xs, j, p, k, vs, hb, h => by
    simp only [RpL] at h ⊢
    obtain ⟨v, vs', h1, h2, h3⟩ := h
    exact ⟨v, vs', h1, Rp_raise x j (p ++ [k]) v (fun b q e => hb b (k :: q) (by simpa using e)) h2, RpL_raise xs j p (k + 1) vs' hb h3⟩
end

def hdB (cs cargs : List Value) (g d : Nat) : Value := if d / 16 = 1000000 then cs.getD (d % 16) undef else hdArgs (Value.pointer (some ⟨g, 0, none⟩) :: cargs) d
def fzB (w : World) (g : Nat) (cs : List Value) : Fz := ⟨w, fun b => b ≠ g, fun id => if id = 999999 then some (.pointer (some ⟨g, 0, none⟩)) else if id / 16 = 1000000 then some (cs.getD (id % 16) undef) else none⟩
def owB (g : Nat) : Nat → Option Pl := fun b => if b = g then some (.box 1000000) else none

theorem argStB_sound {n : Nat} {ds : List D} {args : List VT} {g : Nat} {cs cargs : List Value} {ty : TypeId} (hs : szA τ args) (hfew : few args = true) (hsm : args.length < 100) (hn : args.length + 1 ≤ n) (hds : szL τ ds) (h16 : ds.length ≤ 16)
    (hg : w.heap[g]? = some (.cells cs.toArray ty (0, 0))) (hcl : cs.length = ds.length) (hrd : ∀ (i : Nat) (d : D) (c : Value), ds[i]? = some d → cs[i]? = some c → Rp (sz τ) 0 w (owG g) .sh d c) (h : ArgsG (sz τ) 0 w (owG g) [] args cargs) :
    RelC τ 0 (fzB w g cs) (owB g) (hdB cs cargs g) (fun _ => g) (argStB τ n ds args) { tmps := (Value.pointer (some ⟨g, 0, none⟩) :: cargs).toArray ++ Array.replicate (n - (Value.pointer (some ⟨g, 0, none⟩) :: cargs).toArray.size) undef, defers := [] } w := by
  obtain ⟨hl, hargs⟩ := h
  have hlt : g < w.heap.size := (Array.getElem?_eq_some_iff.1 hg).1
  have conv : ∀ {x : D} {c : Value}, Rp (sz τ) 0 w (owG g) .sh x c → Rp (sz τ) 0 w (owB g) .sh x c := fun hx => Rp_frame _ _ (Nat.le_refl _) _ _ _ (fun b hb hr => ⟨rfl, by
    simp only [rel, owG] at hr
    unfold owB owG
    split at hr
    · cases hr
    · rename_i e; rw [if_neg e, if_neg e]⟩) hx
  have hdiv : ∀ m i, i < 16 → (home m i) / 16 = m ∧ (home m i) % 16 = i := fun m i hi => by unfold home; omega
  have hcell : ∀ (m : Nat) (x : VT) (v : Value), args[m]? = some x → cargs[m]? = some v → ∃ cs1 : List Value, cs1.length = x.cells.length ∧ (∀ (i : Nat) (d : D) (c : Value), x.cells[i]? = some d → cs1[i]? = some c → Rp (sz τ) 0 w (owB g) .sh d c ∧ (hdB cs cargs g (home (1 + m) i) = c ∨ isSc d = true)) ∧ ShapeOf x v cs1 := fun m x v hx hv => by
    have h16 : x.cells.length ≤ 16 := by have := List.all_eq_true.1 hfew x (List.mem_of_getElem? hx); simpa using this
    have hm : m < args.length := (List.getElem?_eq_some_iff.1 hx).1
    obtain ⟨cs1, h1, h2, h3⟩ := hargs m x v hx hv
    have h2' : ∀ (i : Nat) (d : D) (c : Value), x.cells[i]? = some d → cs1[i]? = some c → Rp (sz τ) 0 w (owG g) .sh d c := fun i d c hd hc => by
      have := h2 i d c hd hc
      unfold gm at this
      rwa [if_neg (by simp)] at this
    refine ⟨cs1, h1, fun i d c hd hc => ⟨conv (h2' i d c hd hc), ?_⟩, h3⟩
    have hi : i < 16 := by have := (List.getElem?_eq_some_iff.1 hd).1; omega
    have hv' : (Value.pointer (some ⟨g, 0, none⟩) :: cargs)[1 + m]? = some v := by rw [Nat.add_comm]; simpa using hv
    have hne : ¬ 1 + m = 1000000 := by omega
    rcases h3 with ⟨d', c', rfl, rfl, rfl⟩ | ⟨ds', rfl, rfl⟩ | ⟨f, ds', rfl, rfl⟩
    · simp only [VT.cells] at hd
      cases i with
      | succ i => simp at hd
      | zero =>
        simp at hd hc; subst hd; subst hc
        cases d' with
        | int k n => right; rfl
        | bool b => right; rfl
        | hole =>
          left
          have h9 := h2' 0 _ _ rfl rfl
          simp only [Rp] at h9
          obtain ⟨A, n', c', rfl⟩ := h9
          simp only [hdB, hdArgs, (hdiv (1 + m) 0 (by omega)).1, if_neg hne, hv']
        | lst e xs =>
          left
          obtain ⟨A, n', c', rfl, -⟩ := Rp_form (h2' 0 _ _ rfl rfl)
          simp only [hdB, hdArgs, (hdiv (1 + m) 0 (by omega)).1, if_neg hne, hv']
    · left
      simp only [hdB, hdArgs, (hdiv (1 + m) i hi).1, (hdiv (1 + m) i hi).2, if_neg hne, hv']
      rw [Array.getD_eq_getD_getElem?, List.getElem?_toArray, hc]
      rfl
    · left
      simp only [hdB, hdArgs, (hdiv (1 + m) i hi).1, (hdiv (1 + m) i hi).2, if_neg hne, hv']
      rw [Array.getD_eq_getD_getElem?, List.getElem?_toArray, hc]
      rfl
  have hbx : ∀ (j : Nat) (c : Value), j < 16 → cs[j]? = some c → hdB cs cargs g (home 1000000 j) = c := fun j c hj hc => by
    unfold hdB
    rw [(hdiv 1000000 j hj).1, if_pos rfl, (hdiv 1000000 j hj).2, List.getD_eq_getElem?_getD, hc]
    rfl
  have hroot : ∀ d R, lk (argStB τ n ds args).r d = some R → (d / 16 = 1000000 ∧ R.pin = some d ∧ ∃ k c, ds[k]? = some (.lst R.e R.xs) ∧ cs[k]? = some c ∧ R.o = .sh ∧ d = home 1000000 k ∧ k < 16) ∨ (R.pin = none ∧ R.o = .sh ∧ Rp (sz τ) 0 w (owB g) .sh (.lst R.e R.xs) (hdB cs cargs g d)) := fun d R hR => by
    simp only [argStB, lk_append, lk_pinR] at hR
    cases hx : lk (cellRoots 1000000 0 ds) d with
    | some R0 =>
      rw [hx] at hR
      simp only [Option.map_some, Option.some_or, Option.some.injEq] at hR
      subst hR
      obtain ⟨k, h1, h2, h3⟩ := lk_cellRoots 1000000 ds 0 d R0 hx
      rw [Nat.zero_add] at h3
      have hk : k < ds.length := (List.getElem?_eq_some_iff.1 h1).1
      left
      refine ⟨by rw [h3]; exact (hdiv 1000000 k (by omega)).1, rfl, k, cs[k]'(by omega), h1, List.getElem?_eq_getElem _, h2, h3, by omega⟩
    | none =>
      rw [hx] at hR
      simp only [Option.map_none, Option.none_or] at hR
      obtain ⟨m, x, k, h1, h2, h3, h4⟩ := lk_argRoots args 1 d R hR
      have hm : m < cargs.length := by rw [hl]; exact (List.getElem?_eq_some_iff.1 h1).1
      obtain ⟨cs1, c1, c2, -⟩ := hcell m x _ h1 (List.getElem?_eq_getElem hm)
      have hk : k < cs1.length := by rw [c1]; exact (List.getElem?_eq_some_iff.1 h2).1
      obtain ⟨q1, q2⟩ := c2 k _ _ h2 (List.getElem?_eq_getElem hk)
      right
      refine ⟨argRoots_pin args 1 d R hR, h3, ?_⟩
      rcases q2 with q2 | q2
      · rw [h4, q2]; exact q1
      · cases q2
  refine ⟨fun ad had => ?_, rfl, ?_, Nat.zero_le _, Keep.start _, fun b p _ hb hp => ⟨Nat.zero_le _, fun hlt hk => ?_⟩, fun b hb => ?_, fun k v hv => ?_, fun d R hR => ?_, fun t vs hv => ?_, fun d R i hR hp => ?_⟩
  · simp only [fzB, if_true, Option.some.injEq, Value.pointer.injEq] at had
    rw [← had]
  · simp [argStB, hl]; omega
  · simp only [owB] at hb
    split at hb
    · rename_i e; exact hk e
    · cases hb
  · unfold owB; rw [if_neg (by omega)]
  · simp only [argStB, lk_cons] at hv
    split at hv
    · rename_i e; subst e; cases hv
      simp only [AvR]
      have hz0 : ((Value.pointer (some ⟨g, 0, none⟩) :: cargs).toArray ++ Array.replicate (n - (Value.pointer (some ⟨g, 0, none⟩) :: cargs).toArray.size) undef).getD 0 undef = .pointer (some ⟨g, 0, none⟩) := by
        rw [Array.getD_eq_getD_getElem?, Array.getElem?_append_left (by simp), List.getElem?_toArray]
        rfl
      exact ⟨⟨_, hz0⟩, fun _ => hz0⟩
    · obtain ⟨m, x, h1, h2, h3⟩ := lk_argSlots args 1 k v hv
      subst h2; subst h3
      have hm : m < cargs.length := by rw [hl]; exact (List.getElem?_eq_some_iff.1 h1).1
      have hget : ((Value.pointer (some ⟨g, 0, none⟩) :: cargs).toArray ++ Array.replicate (n - (Value.pointer (some ⟨g, 0, none⟩) :: cargs).toArray.size) undef).getD (1 + m) undef = cargs[m] := by
        rw [Array.getD_eq_getD_getElem?, Array.getElem?_append_left (by simp; omega), List.getElem?_toArray, Nat.add_comm 1 m, List.getElem?_cons_succ, List.getElem?_eq_getElem hm]
        rfl
      have hv' : cargs[m]? = some cargs[m] := List.getElem?_eq_getElem hm
      obtain ⟨cs1, c1, c2, c3⟩ := hcell m x _ h1 hv'
      have hsx : szL τ x.cells := hs x (List.mem_of_getElem? h1)
      have hres := resC_sound (τ := τ) (lo := 0) (w := w) (ow := owB g) (hd := hdB cs cargs g) (bk := fun _ => g) (rr := (argStB τ n ds args).r) (bb := (argStB τ n ds args).b) (1 + m) x.cells 0 cs1 c1 hsx (fun i d c hd hc => ⟨_, (c2 i d c hd hc).1⟩) (fun i e xs c hd hc => by
        rcases (c2 i _ c hd hc).2 with q | q
        · rw [Nat.zero_add]; exact q
        · cases q)
      rw [hget]
      rcases c3 with ⟨d, c, rfl, rfl, hc⟩ | ⟨ds', rfl, hc⟩ | ⟨f, ds', rfl, hc⟩
      · simp only [VT.cells] at hres
        rw [hc]
        have e : resC τ (1 + m) 0 [d] = [(resC τ (1 + m) 0 [d]).headD .dead] := by cases d <;> rfl
        rw [e] at hres
        simp only [AvRL] at hres
        obtain ⟨y, ys, e1, h4, -⟩ := hres
        cases e1
        exact h4
      · rw [hc]; simp only [slotAV, AvR]; exact ⟨cs1, rfl, hres⟩
      · rw [hc]; simp only [slotAV, AvR]; exact ⟨cs1, rfl, hres⟩
  · rcases hroot d R hR with ⟨h1, h2, k, c, h3, h4, h5, h6, h7⟩ | ⟨-, h2, h3⟩
    · rw [h5, h6, hbx k c h7 h4]
      exact conv (hrd k _ c h3 h4)
    · rw [h2]; exact h3
  · simp only [argStB, lk_cons, lk_nil] at hv
    split at hv
    · rename_i e; subst e; cases hv
      refine ⟨cs, ty, hg, by unfold owB; rw [if_pos rfl], ?_⟩
      refine resC_sound (τ := τ) (lo := 0) (w := w) (ow := owB g) (hd := hdB cs cargs g) (bk := fun _ => g) 1000000 ds 0 cs hcl hds (fun i d c hd hc => ⟨_, conv (hrd i d c hd hc)⟩) (fun i e xs c hd hc => ?_)
      rw [Nat.zero_add]
      exact hbx i c (by have := (List.getElem?_eq_some_iff.1 hd).1; omega) hc
    · cases hv
  · rcases hroot d R hR with ⟨h1, h2, -⟩ | ⟨h2, -⟩
    · rw [h2] at hp; cases hp
      simp only [fzB, hdB, h1, if_true]
      rw [if_neg (by omega)]
    · rw [h2] at hp; cases hp

theorem cellsB_sound (h : RelC τ lo w0 ow hd bk st a w) {cs0 : List Value} (hpin : ∀ j c, j < 16 → cs0[j]? = some c → w0.pin (home 1000000 j) = some c) : ∀ (us : List AV) (ds' : List D) (cs : List Value) (j : Nat), cellsB τ st j us ds' → AvRL τ w st.r st.b hd bk us cs → j + us.length ≤ 16 → j + us.length ≤ cs0.length →
    ds'.length = us.length ∧ ∀ (i : Nat) (d : D) (c : Value), ds'[i]? = some d → cs[i]? = some c → match d with | .int k n => c = .int k n | .bool b => c = .bool b | _ => cs0[j + i]? = some c
  | [], [], cs, j, _, _, _, _ => ⟨rfl, fun i d c hd => by simp at hd⟩
  | [], _ :: _, cs, j, h1, _, _, _ => h1.elim
  | _ :: _, [], cs, j, h1, _, _, _ => h1.elim
  | u :: us, d :: ds', cs, j, h1, h2, h3, h4 => by
    simp only [AvRL] at h2
    obtain ⟨c, cs1, rfl, k1, k2⟩ := h2
    simp only [List.length_cons] at h3 h4
    obtain ⟨r1, r2⟩ := cellsB_sound h hpin us ds' cs1 (j + 1) h1.2 k2 (by omega) (by omega)
    refine ⟨by simp [r1], fun i d' c' hd hc => ?_⟩
    cases i with
    | succ i =>
      have := r2 i d' c' (by simpa using hd) (by simpa using hc)
      rwa [show j + 1 + i = j + (i + 1) from by omega] at this
    | zero =>
      simp at hd hc
      subst hd; subst hc
      have h0 := h1.1
      cases d with
      | int k n =>
        cases u <;> (try simp only at h0) <;> first | exact h0.elim | skip
        simp only [AvR] at k1
        rw [k1, h0.1, h0.2]
      | bool b =>
        cases u <;> (try simp only at h0) <;> first | exact h0.elim | skip
        simp only [AvR] at k1
        rw [k1, h0]
      | hole => simp at h0
      | lst e xs =>
        cases u <;> (try simp only at h0) <;> first | exact h0.elim | skip
        rename_i d0 p off len e'
        cases p with
        | cons _ _ => exact h0.elim
        | nil =>
          cases off with
          | succ _ => exact h0.elim
          | zero =>
            simp only at h0
            obtain ⟨rfl, h5⟩ := h0
            cases hR : lk st.r (home 1000000 j) with
            | none => rw [hR] at h5; exact h5.elim
            | some R =>
              rw [hR] at h5
              obtain ⟨hp, rfl, he, hx, hz⟩ := h5
              have hj : j < cs0.length := by omega
              have hpv := hpin j _ (by omega) (List.getElem?_eq_getElem hj)
              have hph := h.pin _ R _ hR hp
              rw [hpv] at hph
              have hph := Option.some.inj hph
              simp only [AvR] at k1
              obtain ⟨hv, hin, A, n, c2, A', c', e1, e2, hle, hlc, hmx, hf, hA⟩ := k1.2 R hR (by simp [okPath])
              simp only [into, Option.some.injEq] at hin
              obtain ⟨rfl, rfl⟩ := hf rfl
              obtain ⟨A3, n3, c3, e3, l3, -⟩ := Rp_form (h.root _ R hR)
              rw [hin, e1] at e3; cases e3
              rw [he] at l3
              have hn : n = len := Nat.eq_of_mul_eq_mul_right (Nat.pos_of_ne_zero hz) (by rw [← l3, hx])
              simp only [Nat.add_zero]
              rw [List.getElem?_eq_getElem hj, hph, hin, e1, e2, hn]

theorem retB_post {ds ds' : List D} {ress : List VT} {g : Nat} {cs : List Value} {ty : TypeId} {st' : St} {a' : Act} {w' : World} {vs : List AV} {xs : List Value} (hlen : ds'.length = ds.length) (h16 : ds.length ≤ 16) (hg : w.heap[g]? = some (.cells cs.toArray ty (0, 0))) (hcl : cs.length = ds.length)
    (hr : RelC τ 0 (fzB w g cs) ow hd bk st' a' w') (hbox : match lk st'.b 1000000 with | some us => cellsB τ st' 0 us ds' | none => False) (hret : RetOk τ st' vs ress) (hv : AvRL τ w' st'.r st'.b hd bk vs xs) : PostB τ w g cs ds' ress (.returned (retV xs)) w' := by
  cases hT : lk st'.b 1000000 with
  | none => rw [hT] at hbox; exact hbox.elim
  | some us =>
    rw [hT] at hbox
    simp only at hbox
    obtain ⟨cs', ty', b1, b2, b3⟩ := hr.box 1000000 us hT
    have hbk : bk 1000000 = g := hr.big ⟨g, 0, none⟩ (by simp [fzB])
    rw [hbk] at b1 b2
    have hglt : g < w.heap.size := (Array.getElem?_eq_some_iff.1 hg).1
    have hul : us.length = ds.length := by
      have key : ∀ (us : List AV) (ds' : List D) (j : Nat), cellsB τ st' j us ds' → us.length = ds'.length := by
        intro us
        induction us with
        | nil => intro ds' j h; cases ds' with
          | nil => rfl
          | cons _ _ => exact h.elim
        | cons u us ih => intro ds' j h; cases ds' with
          | nil => exact h.elim
          | cons d ds' => simp [ih ds' (j + 1) h.2]
      rw [key us ds' 0 hbox, hlen]
    obtain ⟨m1, m2⟩ := cellsB_sound hr (cs0 := cs) (fun j c hj hc => by
      simp only [fzB]
      have e1 : home 1000000 j / 16 = 1000000 := by unfold home; omega
      have e2 : home 1000000 j % 16 = j := by unfold home; omega
      rw [if_neg (by unfold home; omega), if_pos e1, e2, List.getD_eq_getElem?_getD, hc]
      rfl) us ds' cs' 0 hbox b3 (by omega) (by omega)
    have hcs' : cs'.length = cs.length := by have := (AvRL_iff.1 b3).1; omega
    unfold RetOk at hret
    split at hret
    rotate_left
    · exact hret.elim
    rename_i us2 hus
    split at hret
    rotate_left
    · exact hret.elim
    rename_i is ob hcells
    have hroot : ∀ b d q, ow b = some (.root d q) → w.heap.size ≤ b := fun b d q ho => by
      rcases Nat.lt_or_ge b w.heap.size with hlt | hge
      · have hlt' : b < w'.heap.size := Nat.lt_of_lt_of_le hlt hr.below.size
        have hfr := (hr.ge b _ hlt' ho (by simp)).2 hlt
        have : b = g := by
          rcases Nat.decEq b g with hne | heq
          · exact absurd hne hfr
          · exact heq
        subst this
        rw [b2] at ho; cases ho
      · exact hge
    have hout : ∀ b p, outOw ow is b = some p → w.heap.size ≤ b := fun b p hp => by
      obtain ⟨d, q, j, h1, -, -⟩ := outOw_some hp
      exact hroot b d q h1
    obtain ⟨cs2, k1, k2⟩ := retFlat_sound (S := sz τ) (lo := (w.heap.setIfInBounds g (.cells cs'.toArray ty' (0, 0))).size) (ow := outOw ow is) 0 hus hv
    obtain ⟨n1, n2⟩ := retCells_sound hr hcells hret.2 hret.1 k1
    refine ⟨cs', ty', { w with heap := w.heap.setIfInBounds g (.cells cs'.toArray ty' (0, 0)) }, hcs', fun i d c hd hc => ?_, ⟨rfl, rfl, rfl, by simp, fun k hk => ?_, ?_⟩, ?_⟩
    · have := m2 i d c hd hc
      cases d <;> simpa using this
    · rw [Array.getElem?_setIfInBounds, if_neg (fun e => hk e.symm)]
    · rw [Array.getElem?_setIfInBounds, if_pos rfl, if_pos hglt]
    · refine ⟨_, outOw ow is, rfl, ⟨hr.below.os, hr.below.tape, hr.below.output, by have := hr.below.size; simpa [fzB] using this, fun b hb => ?_⟩, fun b hb => ?_, fun b p hp => ?_, k2 n1 fun i d c hd hc => ?_⟩
      · have hb' : b < w.heap.size := by simpa using hb
        simp only
        rw [Array.getElem?_setIfInBounds]
        split
        · rename_i e; subst e; first | exact b1 | (rw [if_pos hglt]; exact b1)
        · rename_i e; exact hr.below.block b hb' (fun e' => e e'.symm)
      · have hb' : b < w.heap.size := by simpa using hb
        cases ho : outOw ow is b with
        | none => rfl
        | some p => have := hout b p ho; omega
      · obtain ⟨d, q, j, h1, -, rfl⟩ := outOw_some hp
        refine ⟨?_, by simp⟩
        rcases Nat.lt_or_ge b w'.heap.size with h' | h'
        · exact h'
        · rw [hr.new b h'] at h1; cases h1
      · rw [Nat.zero_add]
        have := n2 i d c hd hc
        simp only [Array.size_setIfInBounds]
        exact Rp_raise d i [] c (fun b q hq => hout b _ hq) this
theorem FnB_of (hτ : TyOk P τ) (hpos : TyPos τ) {f : FuncId} {fn : Func} {c : Code} {rs : List ResultVar} {ds ds' : List D} {args ress : List VT} (hfn : P.funcs[f]? = some fn) (hname : (fn.name == "runtime.NumGoroutine") = false) (hb : fn.body = some c) (hres : fn.results = rs.toArray) (hn : args.length + 1 ≤ fn.ntmps) (hfew : few args = true) (hs : szA τ args) (hsm : args.length < 100) (hds : szL τ ds) (h16 : ds.length ≤ 16) (hlen : ds'.length = ds.length)
    (h : awp P τ c (RetB τ rs ds' ress) (argStB τ fn.ntmps ds args)) : FnB P τ f ds args ds' ress := by
  refine ⟨⟨fn, hfn, hname, by rw [hb]; rfl⟩, hlen, fun w g cs cargs ty hg hcl hrd hargs => ?_⟩
  have hst0 := argStB_sound (n := fn.ntmps) hs hfew hsm hn hds h16 hg hcl hrd hargs
  refine calls_of_wp hfn hb (Go.wp_mono (h 0 _ _ w ⟨_, _, _, hst0⟩) fun e a' w' ⟨st', ⟨ow, hd, bk, hr⟩, he, hret0⟩ => ?_)
  have hpost : a'.defers = [] ∧ ∃ v, (results fn a'.tmps).run P w' = .ok v w' ∧ PostB τ w g cs ds' ress (.returned v) w' := by
    split at hret0
    rotate_left
    · exact hret0.elim
    rename_i avs ob0 hrv
    obtain ⟨hob0, hret, hbox⟩ := hret0
    obtain ⟨xs, hrun, hv⟩ := results_runR hτ hpos hr hres hrv hob0
    exact ⟨hr.defers, _, hrun, retB_post hlen h16 hg hcl hr hbox hret hv⟩
  rcases he with rfl | rfl <;> exact hpost
end
end Go.Proofs.Ytdbecmmeifdafaa

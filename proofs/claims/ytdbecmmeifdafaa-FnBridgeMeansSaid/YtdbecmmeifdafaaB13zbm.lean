/- Calls of one kind of their own in regions: those whose result shares cells with the first argument (plain regions), those that change one object of the caller's and say a number (drawn regions). -/
import Derived.Test.YtdbecmmeifdafaaB12zbm
import Derived.Test.YtdbecmmeifdafaaB9zbm
import Derived.Test.YtdbecmmeifdafaaB5zbm
import Derived.Test.YtdbecmmeifdafaaB11zbm
import Derived.Test.YtdbecmmeifdafaaB8zbm
namespace Go.Proofs.Ytdbecmmeifdafaa
open Go.RowKit
set_option linter.unusedVariables false
set_option linter.unusedSimpArgs false

def lentSt0 (st : St) (ls : List Lend) : St := { st with r := lentR ls st.r }
section
variable {P : Program} {np : Bool} {τ : Ty} {lo : Nat} {w0 : Fz} {ow : Nat → Option Pl} {hd : Nat → Value} {bk : Nat → Nat} {st : St} {a : Act} {w : World}
theorem lentSt0_sound (h : RelC τ lo w0 ow hd bk st a w) (hpf : PF st) {vs : List AV} {cv : List Value} (hv : AvRL τ w st.r st.b hd bk vs cv) {own : List Nat} {outs : List Out} {ls : List Lend} {ob2 : Prop}
    (hl : lendsOf τ st vs outs own = some (ls, ob2)) (hob2 : ob2) (hsep : sepAll ls) (hnd : own.Nodup) {t : Nat} {w' : World} {ow' : Nat → Option Pl}
    (hk : Keep ⟨w, fun b => owIn ow ls b = none, fun _ => none⟩ w') (hlow : ∀ b, b < w.heap.size → owIn ow ls b = none → ow' b = none) (hnew : ∀ b p, ow' b = some p → b < w'.heap.size ∧ lo ≤ b ∧ ∃ d q, p = .root d q)
    (hout : ∀ x ∈ outs, Rp (sz τ) lo w' ow' (.ex (outId x.1) []) (.lst x.2.1 x.2.2) (hdArgs cv x.1)) :
    RelC τ lo w0 (owOut ow ls w.heap.size t ow') hd bk (lentSt0 st ls) a w' := by
  obtain ⟨l1, l2⟩ := lendsOf_at hl hob2
  have hok : ∀ x ∈ ls, ∃ len R, LendOk τ st vs outs x len R := fun x hx => by
    obtain ⟨ob, e1, e2⟩ := l1 x hx; exact lendOf_ok e1 e2
  have hids : (ls.map (·.id)).Nodup := by rw [l2]; exact hnd
  have old : ∀ b, b < w.heap.size → owIn ow ls b = none → w'.heap[b]? = w.heap[b]? ∧ owOut ow ls w.heap.size t ow' b = ow b := fun b hb hn =>
    ⟨hk.block b hb hn, by unfold owOut; rw [if_pos ⟨hb, by rw [hn]; rfl⟩]⟩
  have back : ∀ x ∈ ls, ∀ b q, ow' b = some (.root (outId x.id) q) → owOut ow ls w.heap.size t ow' b = some (.root x.d (x.p ++ q)) := fun x hx b q hb => by
    have : ¬ (b < w.heap.size ∧ (owIn ow ls b).isNone = true) := fun ⟨h1, h2⟩ => by
      rw [hlow b h1 (by cases ho : owIn ow ls b with | none => rfl | some p => rw [ho] at h2; cases h2)] at hb; cases hb
    unfold owOut
    rw [if_neg this, hb]
    simp only
    rw [if_pos (by unfold outId; omega), show outId x.id - 1000000 = x.id from by unfold outId; omega]
    exact backL_at hids x hx
  have hge : ∀ b p, owOut ow ls w.heap.size t ow' b = some p → p ≠ .ext → b < w'.heap.size → lo ≤ b ∧ w0.fre b := fun b p hb hp hlt => by
    by_cases hc : b < w.heap.size ∧ (owIn ow ls b).isNone = true
    · unfold owOut at hb; rw [if_pos hc] at hb; exact h.ge b p hc.1 hb hp
    · unfold owOut at hb
      rw [if_neg hc] at hb
      have ho' : ∃ p', ow' b = some p' := by
        cases ho : ow' b with
        | none => rw [ho] at hb; cases hb
        | some p' => exact ⟨p', rfl⟩
      obtain ⟨p', ho'⟩ := ho'
      refine ⟨(hnew b p' ho').2.1, fun hlt0 => ?_⟩
      have hbw : b < w.heap.size := Nat.lt_of_lt_of_le hlt0 h.below.size
      cases hoi : owIn ow ls b with
      | none => exact absurd ⟨hbw, by rw [hoi]; rfl⟩ hc
      | some p2 =>
        obtain ⟨d, q, ho, -⟩ := owIn_some hoi
        exact (h.ge b _ hbw ho (by simp)).2 hlt0
  have hc := h
  have hr : ∀ d, lk (lentSt0 st ls).r d = if goneL d ls = true then none else (lk st.r d).map fun R => { R with xs := newXs d R.xs ls } := fun d => lk_lentR ls st.r d
  have hrel : ∀ (d : Nat) (R : Root), (∀ x ∈ ls, x.d ≠ d) → ∀ b, b < w.heap.size → rel (md R.o d) (ow b) → w'.heap[b]? = w.heap[b]? ∧ owOut ow ls w.heap.size t ow' b = ow b := fun d R hn b hb hr => old b hb (owIn_other hn hr)
  have h0 : ∀ d, (∃ x ∈ ls, x.d = d) → Keep0 st.r (lentSt0 st ls).r hd hd d := fun d _ R' hR' => by
    rw [hr] at hR'
    split at hR'
    · cases hR'
    · cases hx : lk st.r d with
      | none => rw [hx] at hR'; cases hR'
      | some R => exact ⟨R, rfl, rfl⟩
  have hD : ∀ d, ¬ (∃ x ∈ ls, x.d = d) → KeepD w w' st.r (lentSt0 st ls).r hd hd d := fun d hn R' hR' => by
    have hn' : ∀ x ∈ ls, x.d ≠ d := fun x hx e => hn ⟨x, hx, e⟩
    rw [hr, goneL_no hn'] at hR'
    simp only [Bool.false_eq_true, if_false] at hR'
    cases hx : lk st.r d with
    | none => rw [hx] at hR'; cases hR'
    | some R =>
      rw [hx] at hR'
      simp only [Option.map_some, Option.some.injEq] at hR'
      subst hR'
      refine ⟨R, rfl, rfl, fun p hp => ?_⟩
      simp only [newXs_no hn'] at hp ⊢
      exact ⟨hp, into_keep p _ _ _ _ (h.root d R hx) hp (fun b o A n c hb hrl hcell => by
        rw [cell_same (hrel d R hn' b hb hrl).1]; exact hcell)⟩
  have hB : ∀ t, KeepB st.b (lentSt0 st ls).b bk bk t := fun t hl => ⟨hl, rfl⟩
  have hbad : ∀ d, (∃ x ∈ ls, x.d = d) → NoWay d st := fun d ⟨x, hx, e⟩ => by
    obtain ⟨len, R, ho⟩ := hok x hx
    subst e
    exact hpf x.d R ho.root ho.ex
  refine ⟨h.big, h.defers, h.size, Nat.le_trans h.low hk.size, h.below.step hk.os hk.tape hk.output hk.size (fun b hb hf => ?_), fun b p hlt hb hp => hge b p hb hp hlt, fun b hb => ?_, fun k v hv' => ?_, fun d R' hR' => ?_, fun k us hv' => ?_, fun d R' i hR' hp => ?_⟩
  · refine hk.block b hb ?_
    show owIn ow ls b = none
    cases hoi : owIn ow ls b with
    | none => rfl
    | some p =>
      obtain ⟨d, q, ho, -⟩ := owIn_some hoi
      exact absurd (h.ge b _ hb ho (by simp)).2 hf
  · have hb' : w.heap.size ≤ b := Nat.le_trans hk.size hb
    unfold owOut
    rw [if_neg (fun hh => by omega)]
    cases ho : ow' b with
    | none => rfl
    | some p => have := (hnew b p ho).1; omega
  · exact AvR_keepS h0 hD hB v _ (fun d hd' hb => (hbad d hb).s k v hv' hd') (hc.slot k v hv')
  · rw [hr] at hR'
    split at hR'
    · cases hR'
    · rename_i hg
      have hg : goneL d ls = false := by simpa using hg
      cases hx : lk st.r d with
      | none => rw [hx] at hR'; cases hR'
      | some R =>
        rw [hx] at hR'
        simp only [Option.map_some, Option.some.injEq] at hR'
        subst hR'
        by_cases hin : ∃ x ∈ ls, x.d = d
        · have hex : R.o = .ex := by
            obtain ⟨x, hxm, rfl⟩ := hin
            obtain ⟨len, R2, ho⟩ := hok x hxm
            have := ho.root; rw [hx] at this; cases this
            exact ho.ex
          simp only [hex]
          by_cases hroot : ∃ x ∈ ls, x.d = d ∧ x.p = []
          · obtain ⟨x, hxm, rfl, hp⟩ := hroot
            obtain ⟨ys, hys⟩ := goneL_of hg x hxm rfl
            obtain ⟨len, R2, ho⟩ := hok x hxm
            have := ho.root; rw [hx] at this; cases this
            obtain ⟨q1, -⟩ := lend_val h hv ho
            rw [hp] at q1
            simp only [into, Option.some.injEq] at q1
            have he := ho.elem
            rw [hp] at he
            simp only [nodeE] at he
            simp only [newXs_root hsep x hxm rfl hp hys]
            have := hout _ (ho.out ys hys)
            simp only at this
            rw [← q1, ← he] at this
            exact Rp_move _ _ _ _ _ [] [] _ (fun b q _ hb => by
              have := back x hxm b q (by simpa using hb)
              rw [hp] at this
              simpa using this) this
          · have hone : ∀ x ∈ ls, x.d = d → ∃ j ys, x.p = [j] ∧ x.out = some ys := fun x hxm e => by
              obtain ⟨len, R2, ho⟩ := hok x hxm
              rcases ho.short with hs | hs
              · exact absurd ⟨x, hxm, e, hs⟩ hroot
              · exact hs
            have hone' : ∀ x ∈ ls, x.d = d → ∃ j, x.p = [j] := fun x hxm e => by obtain ⟨j, ys, h1, -⟩ := hone x hxm e; exact ⟨j, h1⟩
            have hrt := h.root d R hx
            rw [hex] at hrt
            obtain ⟨zs, k1, k5⟩ := (Rp_lst _ _).1 hrt
            have hlen : (newXs d R.xs ls).length = R.xs.length := newXs_len hone'
            have hnil : ∀ b, ow b = some (.root d []) → owIn ow ls b = none := fun b hb => by
              cases hoi : owIn ow ls b with
              | none => rfl
              | some p =>
                obtain ⟨d', q, h1, x, hxm, h2, q', h3, -⟩ := owIn_some hoi
                rw [hb] at h1; cases h1
                obtain ⟨j, hj⟩ := hone' x hxm h2
                rw [hj] at h3; simp at h3
            have k1' : Hd (sz τ) lo w' (owOut ow ls w.heap.size t ow') (.ex d []) R.e (hd d) R.xs.length zs := by
              obtain ⟨m1, N, m2, m3, m4⟩ := k1
              refine ⟨m1, N, m2, ⟨m3.1, ?_⟩, fun b hb => ?_⟩
              · rcases m3.2 with hn | ⟨g, cap, cur, hv2, hb2, hg2, rest⟩
                · exact .inl hn
                · have hgo := m4 g (by rw [hv2]; rfl)
                  have hglt : g < w.heap.size := (Array.getElem?_eq_some_iff.1 hg2).1
                  exact .inr ⟨g, cap, cur, hv2, hb2, by rw [(old g hglt (hnil g hgo)).1]; exact hg2, rest⟩
              · have hgo := m4 b hb
                rw [(old b (m3.lt b hb).2 (hnil b hgo)).2]; exact hgo
            refine (Rp_lst _ _).2 ⟨zs, by rw [hlen]; exact k1', fun i y u hy hu => ?_⟩
            have hi : i < R.xs.length := by rw [← hlen]; exact (List.getElem?_eq_some_iff.1 hy).1
            by_cases hsel : ∃ x ∈ ls, x.d = d ∧ x.p = [i]
            · obtain ⟨x, hxm, rfl, hp⟩ := hsel
              obtain ⟨j, ys, hj, hys⟩ := hone x hxm rfl
              obtain ⟨len, R2, ho⟩ := hok x hxm
              have := ho.root; rw [hx] at this; cases this
              rw [newXs_in hi hsep hone' x hxm rfl hp hys] at hy
              cases hy
              obtain ⟨q1, -⟩ := lend_val h hv ho
              rw [hp] at q1
              obtain ⟨b1, o1, n1, c1, hv', hN, hb1, hr1, hc1⟩ := Hd_cell k1 hu
              rw [hv'] at q1
              simp only [into, hc1, Option.bind_some, Option.some.injEq] at q1
              have := hout _ (ho.out ys hys)
              simp only at this
              rw [← q1] at this
              refine Rp_move _ _ _ _ _ [] ([] ++ [i]) _ (fun b q _ hb => ?_) this
              have := back x hxm b q (by simpa using hb)
              rw [hp] at this
              simpa using this
            · rw [newXs_out (fun x hxm e => by
                obtain ⟨j, hj⟩ := hone' x hxm e
                exact ⟨j, hj, fun e2 => hsel ⟨x, hxm, e, by rw [hj, e2]⟩⟩)] at hy
              refine Rp_frame _ _ hk.size _ _ _ (fun b hb hr => old b hb ?_) (k5 i y u hy hu)
              obtain ⟨q, hq⟩ := hr
              cases hoi : owIn ow ls b with
              | none => rfl
              | some p =>
                obtain ⟨d', q', h1, x, hxm, h2, q2, h3, -⟩ := owIn_some hoi
                rw [hq] at h1
                simp only [Option.some.injEq, Pl.root.injEq, List.nil_append] at h1
                obtain ⟨rfl, rfl⟩ := h1
                obtain ⟨j, hj⟩ := hone' x hxm h2
                rw [hj] at h3
                simp only [List.cons_append, List.nil_append, List.cons.injEq] at h3
                exact absurd ⟨x, hxm, h2, by rw [hj, h3.1]⟩ hsel
        · have hn' : ∀ x ∈ ls, x.d ≠ d := fun x hx e => hin ⟨x, hx, e⟩
          simp only [newXs_no hn']
          exact Rp_frame _ _ hk.size _ _ _ (fun b hb hr => hrel d R hn' b hb hr) (h.root d R hx)
  · obtain ⟨cs, ty, q1, q2, q3⟩ := hc.box k us hv'
    have hlt : bk k < w.heap.size := (Array.getElem?_eq_some_iff.1 q1).1
    have hno : owIn ow ls (bk k) = none := by unfold owIn; rw [q2]
    exact ⟨cs, ty, by rw [(old _ hlt hno).1]; exact q1, by rw [(old _ hlt hno).2]; exact q2, AvRL_keepS h0 hD hB us cs (fun d hd' hb => (hbad d hb).b k us hv' hd') q3⟩
  · rw [hr] at hR'
    split at hR'
    · cases hR'
    · cases hx : lk st.r d with
      | none => rw [hx] at hR'; cases hR'
      | some R =>
        rw [hx] at hR'
        simp only [Option.map_some, Option.some.injEq] at hR'
        subst hR'
        exact h.pin d R i hx hp

theorem postG0_sound (h : RelC τ lo w0 ow hd bk st a w) (hpf : PF st) {vs : List AV} {cv : List Value} (hv : AvRL τ w st.r st.b hd bk vs cv) {own : List Nat} {outs : List Out} {ls : List Lend} {ob2 : Prop}
    (hl : lendsOf τ st vs outs own = some (ls, ob2)) (hob2 : ob2) (hsep : sepAll ls) (hnd : own.Nodup) {t : Nat} {ress : List VT} (hs : szL τ (flat ress)) (hfl : (flat ress).length ≤ 1000000) {e : Ending} {w' : World} (hp : PostG τ lo w (owIn ow ls) outs ress cv e w') :
    ∃ z ow' hd', e = .returned z ∧ RelC τ lo w0 ow' hd' bk (resS t 0 (flat ress) (lentSt0 st ls)) a w' ∧ AvR τ w' (resS t 0 (flat ress) (lentSt0 st ls)).r (resS t 0 (flat ress) (lentSt0 st ls)).b hd' bk (retA (resV τ t 0 ress)) z := by
  obtain ⟨rs, ow', he, hk, hlow, hnew, hres, hout⟩ := hp
  have h1 := lentSt0_sound h hpf hv hl hob2 hsep hnd (t := t) hk hlow hnew hout
  have e2 : ∀ b j q, j < 1000000 → ow' b = some (.root j q) → owOut ow ls w.heap.size t ow' b = some (.root (home t j) q) := fun b j q hj hq => by
    have : ¬ (b < w.heap.size ∧ (owIn ow ls b).isNone = true) := fun ⟨h1, h2⟩ => by
      rw [hlow b h1 (by cases ho : owIn ow ls b with | none => rfl | some p => rw [ho] at h2; cases h2)] at hq; cases hq
    unfold owOut
    rw [if_neg this, hq]
    simp only
    rw [if_neg (by omega)]
  obtain ⟨cs, k1, k2, k3⟩ := ResR_flat (bk := bk) (τ := τ) (rr := (resS t 0 (flat ress) (lentSt0 st ls)).r) (bb := (resS t 0 (flat ress) (lentSt0 st ls)).b) (t := t) hres
  have k2' : ∀ (i : Nat) (d : D) (c : Value), (flat ress)[i]? = some d → cs[i]? = some c → Rp (sz τ) lo w' (owOut ow ls w.heap.size t ow') (.ex (home t (0 + i)) []) d c := fun i d c hd hc => by
    have hi : i < 1000000 := Nat.lt_of_lt_of_le (List.getElem?_eq_some_iff.1 hd).1 hfl
    exact Rp_move _ _ _ _ _ [] [] _ (fun b q _ e => e2 b _ q (by omega) e) (k2 i d c hd hc)
  obtain ⟨hd', r1, r2, r3⟩ := resS_sound t (flat ress) 0 (lentSt0 st ls) hd cs h1 k1 k2'
  exact ⟨retV rs, _, hd', he, r1, retA_sound (k3 w' hd' (resC_sound (ow := owOut ow ls w.heap.size t ow') (lo := lo) t (flat ress) 0 cs k1 hs (fun i d c h1 h2 => ⟨_, k2' i d c h1 h2⟩) (fun i e xs c h1 h2 => (r3 i e xs c h1 h2).2)))⟩

def actGE (P : Program) (τ : Ty) (id : Nat) (o : Oper) (st : St) (K : Dl → Prop) : Prop :=
  match callOf o with
  | some (f, args, ts) =>
    match argsOf τ st ts.toList (args.toList.map (ev st)), cellAt (args.toList.map (ev st)) id with
    | some (as9, ob), .sl d [] 0 len e =>
      match lk st.r d with
      | some R => R.o.isEx = true ∧ (0 < sz τ e ∧ R.e = e ∧ len * sz τ e = R.xs.length) ∧ (restNm [id] 0 (args.toList.map (ev st))).all (fun n => !(2 * d == n)) = true ∧ few as9 = true ∧ ob ∧ ∃ k n ys, FnG P τ f as9 [id] [(id, e, ys)] [.c (.int k n)] ∧ K ⟨.int k n, [(d, { R with xs := ys })], [], []⟩
      | none => False
    | _, _ => False
  | none => False
theorem cellAt_nm {vs : List AV} {id d len : Nat} {e : TypeId} (h : cellAt vs id = .sl d [] 0 len e) : 2 * d ∈ AV.nmL vs := by
  unfold cellAt at h
  have get : ∀ (us : List AV) (i : Nat), us.getD i .dead = .sl d [] 0 len e → AV.sl d [] 0 len e ∈ us := fun us i h => by
    rw [List.getD_eq_getElem?_getD] at h
    cases hu : us[i]? with
    | none => rw [hu] at h; cases h
    | some u => rw [hu] at h; simp only [Option.getD_some] at h; subst h; exact List.mem_of_getElem? hu
  have top : ∀ (us : List AV) (i : Nat) (v : AV), us.getD i .dead = v → v ≠ .dead → v ∈ us := fun us i v h hn => by
    rw [List.getD_eq_getElem?_getD] at h
    cases hu : us[i]? with
    | none => rw [hu] at h; exact absurd h.symm hn
    | some u => rw [hu] at h; simp only [Option.getD_some] at h; subst h; exact List.mem_of_getElem? hu
  split at h
  · rename_i us hv
    exact mem_nmL.2 ⟨_, top _ _ _ hv (by simp), by simp only [AV.nm]; exact mem_nmL.2 ⟨_, get _ _ h, by simp [AV.nm]⟩⟩
  · rename_i f us hv
    exact mem_nmL.2 ⟨_, top _ _ _ hv (by simp), by simp only [AV.nm]; exact mem_nmL.2 ⟨_, get _ _ h, by simp [AV.nm]⟩⟩
  · split at h
    · exact mem_nmL.2 ⟨_, get _ _ h, by simp [AV.nm]⟩
    · cases h
theorem actGE_act {id : Nat} {o : Oper} {K : Dl → Prop} (h : actGE P τ id o st K) : ∃ δ, Act1 P true τ o st δ ∧ K δ := by
  unfold actGE at h
  cases hc : callOf o with
  | none => rw [hc] at h; exact h.elim
  | some x =>
    obtain ⟨f, args, ts⟩ := x
    rw [hc] at h
    simp only at h
    split at h
    rotate_left
    · exact h.elim
    rename_i as9 ob d len e hargs hcell
    split at h
    rotate_left
    · exact h.elim
    rename_i R hR
    obtain ⟨h1, ⟨h2, h3, h4⟩, h5, h6, h7, k, n, ys, hF, hK⟩ := h
    have hex : R.o = .ex := by cases ho : R.o <;> rw [ho] at h1 <;> first | rfl | cases h1
    have hin : 2 * d ∈ fp o st := by
      obtain ⟨v, hv, hm⟩ := mem_nmL.1 (cellAt_nm hcell)
      obtain ⟨x, hx, rfl⟩ := List.mem_map.1 hv
      exact List.mem_append_left _ (mem_nmL.2 ⟨_, List.mem_map.2 ⟨x, by simpa using callOf_args hc x (by simpa using hx), rfl⟩, hm⟩)
    refine ⟨_, .inl ⟨rfl, ⟨_, hc⟩, ⟨k, n, rfl⟩, rfl, rfl, ⟨d, { R with xs := ys }, R, rfl, hR, rfl, hin⟩, fun st' hag hpf lo w0 a w Q K' hdn hrel hK' => ?_⟩, hK⟩
    have h2v : AgV st st' (.agg (args.toList.map (ev st))) := by
      refine ⟨fun d hd => ?_, fun t ht => ?_⟩
      · obtain ⟨v, hv, hm⟩ := mem_nmL.1 hd
        obtain ⟨x, hx, rfl⟩ := List.mem_map.1 hv
        exact (hag.v (callOf_args hc x (by simpa using hx))).1 d hm
      · obtain ⟨v, hv, hm⟩ := mem_nmL.1 ht
        obtain ⟨x, hx, rfl⟩ := List.mem_map.1 hv
        exact (hag.v (callOf_args hc x (by simpa using hx))).2 t hm
    have hargs' : argsOf τ st' ts.toList (args.toList.map (ev st')) = some (as9, ob) := by rw [hag.args hc, argsOf_l h2v]; exact hargs
    have hcell' : cellAt (args.toList.map (ev st')) id = .sl d [] 0 len e := by rw [hag.args hc]; exact hcell
    have hR' : lk st'.r d = some R := by rw [hag.r d hin]; exact hR
    have hlend : lendsOf τ st' (args.toList.map (ev st')) [(id, e, ys)] [id] = some ([⟨id, d, [], e, some ys⟩], (R.e = e ∧ len * sz τ e = R.xs.length ∧ e = e) ∧ True) := by
      simp only [lendsOf, lendOf, hcell', hR', h1, h2, outOf, if_true, and_self]
    have hap : apart (restNm [id] 0 (args.toList.map (ev st'))) [⟨id, d, [], e, some ys⟩] = true := by
      unfold apart
      rw [hag.args hc]
      rw [List.all_eq_true] at h5 ⊢
      intro n hn
      have := h5 n hn
      simpa using this
    have hob2 : (R.e = e ∧ len * sz τ e = R.xs.length ∧ e = e) ∧ True := ⟨⟨h3, h4, rfl⟩, trivial⟩
    have hsep : sepAll [(⟨id, d, [], e, some ys⟩ : Lend)] := ⟨trivial, trivial⟩
    obtain ⟨ow, hd', bk, hr⟩ := hrel
    have hev : AvRL τ w st'.r st'.b hd' bk (args.toList.map (ev st')) (args.toList.map a.eval) := AvRL_iff.2 ⟨by simp, fun i v x hv hx => by
      rw [List.getElem?_map] at hv hx
      cases hk : args.toList[i]? with
      | none => rw [hk] at hv; cases hv
      | some p => rw [hk] at hv hx; cases hv; cases hx; exact ev_sound hr p⟩
    have hA := argsG_sound hr hev hargs' h7 hlend hob2 hsep hap h6
    obtain ⟨hcl, hcall⟩ := hF
    have hC := hcall lo w (owIn ow [⟨id, d, [], e, some ys⟩]) _ hr.low (fun b p hb => by
      obtain ⟨d, q, ho, x, hx, -, q', -, hp⟩ := owIn_some hb
      have hlt : b < w.heap.size := by
        rcases Nat.lt_or_ge b w.heap.size with h' | h'
        · exact h'
        · rw [hr.new b h'] at ho; cases ho
      exact ⟨hlt, (hr.ge b _ hlt ho (by simp)).1, _, _, hp⟩) hA
    unfold Oper.wp
    rw [callG_exec hr hc hcl]
    simp only [Oper.upon]
    refine hC.mono fun e' w' hpost => ?_
    obtain ⟨z, ow', hd2, he, r1, r2⟩ := postG0_sound hr hpf hev hlend hob2 hsep (by simp) (t := dstN o) (by simp [szL, flat, VT.cells]) (by simp [flat, VT.cells]) hpost
    subst he
    have hrel := rel_put r1 hdn r2
    refine hK' z w' (Rel_cov hrel ⟨?_, fun k2 v hv => .inr ?_, fun k2 us hus => ?_, fun k2 R2 hR2 => ?_⟩)
    · rw [app_n, put_n]; rfl
    · rw [app_s] at hv
      cases hdd : o.dst with
      | none => rw [hdd] at hv; simpa [St.put, resS, flat, VT.cells, lentSt0] using hv
      | some d0 =>
        rw [hdd] at hv
        simp only [St.put, lk_cons, resS, flat, VT.cells, lentSt0, resV, resC, retA, List.append_nil, List.nil_append, List.headD_cons]
        simpa using hv
    · rw [app_b] at hus
      have e0 : lk ((resS (dstN o) 0 (flat [.c (.int k n)]) (lentSt0 st' [⟨id, d, [], e, some ys⟩])).put o.dst (retA (resV τ (dstN o) 0 [.c (.int k n)]))).b k2 = lk st'.b k2 := by
        cases o.dst <;> rfl
      rw [e0]
      simpa [lk_nil] using hus
    · rw [app_r] at hR2
      have e0 : lk ((resS (dstN o) 0 (flat [.c (.int k n)]) (lentSt0 st' [⟨id, d, [], e, some ys⟩])).put o.dst (retA (resV τ (dstN o) 0 [.c (.int k n)]))).r k2 = lk (lentR [⟨id, d, [], e, some ys⟩] st'.r) k2 := by
        cases o.dst <;> rfl
      rw [e0, lk_lentR]
      by_cases hk2 : d = k2
      · subst hk2
        simp only [lk_cons, if_true, Option.some_or, Option.some.injEq] at hR2
        subst hR2
        simp [goneL, newXs, hR']
      · have h9 : ¬ k2 = d := fun e => hk2 e.symm
        simp [lk_cons, lk_nil, hk2, h9] at hR2
        simp [goneL, newXs, hk2, h9, hR2]
def lexU (X : Oper → St → (Dl → Prop) → Prop) (P : Program) (np : Bool) (τ : Ty) (t : Nat) (all : List Oper) (E : List Rec → St → Prop) : List Oper → Nat → List Rec → St → Prop
  | [], _, cs, st => E cs st
  | o :: os, k, cs, st =>
    match o.guard with
    | none => if o.dst = some t then X o st fun δ => lexU X P np τ t all E os (k + 1) (⟨k, fp o st, δ.wr⟩ :: cs) (st.app o.dst δ) else actE P np τ o st fun δ => lexU X P np τ t all E os (k + 1) (⟨k, fp o st, δ.wr⟩ :: cs) (st.app o.dst δ)
    | some _ => False
theorem lexU_lexP {X : Oper → St → (Dl → Prop) → Prop} (hX : ∀ o st K, X o st K → ∃ δ, Act1 P np τ o st δ ∧ K δ) {t : Nat} {all : List Oper} {A : List (List Nat)} {Q : St → Prop} : ∀ (os : List Oper) (k : Nat) (cs : List Rec) (st : St), lexU X P np τ t all (fun cs st => chk all A cs = true ∧ Q st) os k cs st → chk all A cs = true ∧ lexP P np τ all A (fun st' => ∃ s, Eqv st' s ∧ Q s) os k cs st
  | [], k, cs, st, h => ⟨h.1, st, Eqv.refl _, h.2⟩
  | o :: os, k, cs, st, h => by
    have go : (∃ δ, Step P np τ all o st δ ∧ lexU X P np τ t all (fun cs st => chk all A cs = true ∧ Q st) os (k + 1) (⟨k, fp o st, δ.wr⟩ :: cs) (st.app o.dst δ)) → chk all A cs = true ∧ lexP P np τ all A (fun st' => ∃ s, Eqv st' s ∧ Q s) (o :: os) k cs st := by
      rintro ⟨δ, h1, h2⟩
      obtain ⟨h3, h4⟩ := lexU_lexP hX os _ _ _ h2
      simp only [chk, Bool.and_eq_true] at h3
      exact ⟨h3.2, δ, h1, h3.1, h4⟩
    simp only [lexU] at h
    split at h
    · rename_i hg
      split at h
      · obtain ⟨δ, h1, h2⟩ := hX _ _ _ h
        exact go ⟨δ, by unfold Step; rw [hg]; exact h1, h2⟩
      · obtain ⟨δ, h1, h2⟩ := actE_act h
        exact go ⟨δ, by unfold Step; rw [hg]; exact h1, h2⟩
    · exact h.elim
theorem lexU_app {X : Oper → St → (Dl → Prop) → Prop} {t : Nat} {all : List Oper} (E : List Rec → St → Prop) (l2 : List Oper) : ∀ (l1 : List Oper) (k : Nat) (cs : List Rec) (st : St), lexU X P np τ t all E (l1 ++ l2) k cs st = lexU X P np τ t all (fun cs st => lexU X P np τ t all E l2 (k + l1.length) cs st) l1 k cs st
  | [], k, cs, st => rfl
  | o :: os, k, cs, st => by
    have e : ∀ cs st, lexU X P np τ t all E (os ++ l2) (k + 1) cs st = lexU X P np τ t all (fun cs st => lexU X P np τ t all E l2 (k + (o :: os).length) cs st) os (k + 1) cs st := fun cs st => by
      rw [lexU_app E l2 os (k + 1) cs st, List.length_cons, show k + 1 + os.length = k + (os.length + 1) from by omega]
    simp only [List.cons_append, lexU, e]
theorem lexU_cut (n : Nat) {X : Oper → St → (Dl → Prop) → Prop} {t : Nat} {all : List Oper} {E : List Rec → St → Prop} {os : List Oper} {k : Nat} {cs : List Rec} {st : St} (hn : n ≤ os.length) (h : ∀ K : List Rec → St → Prop, (∀ cs st, lexU X P np τ t all E (os.drop n) (k + n) cs st → K cs st) → lexU X P np τ t all K (os.take n) k cs st) : lexU X P np τ t all E os k cs st := by
  have := h _ fun _ _ h => h
  have hl : (os.take n).length = n := by rw [List.length_take]; omega
  have e : lexU X P np τ t all (fun cs st => lexU X P np τ t all E (os.drop n) (k + (os.take n).length) cs st) (os.take n) k cs st := by rw [hl]; exact this
  rw [← lexU_app, List.take_append_drop] at e
  exact e
theorem awp_regionDU (np : Bool) (X : Oper → St → (Dl → Prop) → Prop) (t : Nat) (hX : ∀ o st K, X o st K → ∃ δ, Act1 P np τ o st δ ∧ K δ) {Q : Exit → St → Prop} {st : St} (hτ : TyOk P τ) (hpos : TyPos τ) (hmix : P.follows .mixedOrders = true) {id : Nat} {ops : List Oper} (hs : statOk np ops (ancT ops) = true) (hd : dstOk st.n ops = true) (h : ∀ E : List Rec → St → Prop, (∀ cs st, chk ops (ancT ops) cs = true → Q .normal st → E cs st) → lexU X P np τ t ops E ops 0 [] (st.start np ops)) : awp P τ (.region id ops.toArray true) Q st :=
  awp_regionPE hτ hpos hmix hs hd (lexU_lexP hX (Q := Q .normal) ops 0 [] _ (h _ fun cs st h1 h2 => ⟨h1, h2⟩)).2
def seqU (X : Oper → St → (Dl → Prop) → Prop) (P : Program) (np : Bool) (τ : Ty) (t : Nat) (all : List Oper) (Q : St → Prop) : List Oper → St → Prop
  | [], st => Q st
  | o :: os, st =>
    match o.guard with
    | none => if o.dst = some t then X o st fun δ => seqU X P np τ t all Q os (st.app o.dst δ) else actE P np τ o st fun δ => seqU X P np τ t all Q os (st.app o.dst δ)
    | some _ => False
theorem seqU_sound (hτ : TyOk P τ) (hpos : TyPos τ) {X : Oper → St → (Dl → Prop) → Prop} (hX : ∀ o st K, X o st K → ∃ δ, Act1 P np τ o st δ ∧ K δ) {t : Nat} {all : List Oper} (hm : makersOk np all = true) {Q : St → Prop} {Q' : Exit → Act → World → Prop} (hQ : ∀ st a w, Q st → Rel τ lo w0 st a w → Q' .normal a w) :
    ∀ (os : List Oper) (k : Nat) (st : St) (a : Act) (w : World), (∀ j, os[j]? = all[k + j]?) → dstOk a.tmps.size all = true → (∀ j o, k ≤ j → all[j]? = some o → makes np o = true → Free (own (dstN o)) st) → (np = true → PF st) → Rel τ lo w0 st a w → seqU X P np τ t all Q os st → wpList P all.toArray Q' os a w
  | [], k, st, a, w, _, _, _, _, hr, h => wpList_nil (hQ _ _ _ h hr)
  | o :: os, k, st, a, w, hl, hd, hinv, hpf, hr, h => by
    have ho : all[k]? = some o := by simpa using (hl 0).symm
    have hd1 : ∀ j, o.dst = some j → j < a.tmps.size := fun j hj => by
      have := List.all_eq_true.1 hd o (List.mem_of_getElem? ho)
      rw [hj] at this
      simpa using this
    refine wpList_step fun K' hK' => ?_
    simp only [seqU] at h
    split at h
    rotate_left
    · exact h.elim
    rename_i hg
    obtain ⟨δ, h1, h2⟩ : ∃ δ, Act1 P np τ o st δ ∧ seqU X P np τ t all Q os (st.app o.dst δ) := by
      split at h
      · exact hX _ _ _ h
      · exact actE_act h
    rw [if_pos (by simp [Region.wanted, hg])]
    have hf : makes np o = true → Free (own (dstN o)) st := hinv k o (Nat.le_refl _) ho
    have hstep : Step P np τ all o st δ := by unfold Step; rw [hg]; exact h1
    refine act1_sound hτ hpos hd1 hr hf hpf h1 fun x w' hr' => hK' _ _ (seqU_sound hτ hpos hX hm hQ os (k + 1) _ _ w' (fun j => by have := hl (j + 1); simpa [Nat.add_assoc, Nat.add_comm 1 j] using this) (by rw [size_put]; exact hd) (fun j oj hkj hj hmk => ?_) (fun e => by subst e; exact step_PF (hpf rfl) hf hstep) hr' h2)
    refine step_free (hinv j oj (by omega) hj hmk) (fun hmo n hn => ?_) hstep
    have hkl : k < all.length := (List.getElem?_eq_some_iff.1 ho).1
    have hjl : j < all.length := (List.getElem?_eq_some_iff.1 hj).1
    have h1 := List.all_eq_true.1 (List.all_eq_true.1 hm k (List.mem_range.2 hkl)) j (List.mem_range.2 hjl)
    rw [ho, hj] at h1
    simp only [hmo, hmk, Bool.and_self, Bool.not_true, Bool.or_false, Bool.or_eq_true, beq_iff_eq, bne_iff_ne, ne_eq] at h1
    rcases h1 with h1 | h1
    · omega
    · exact own_ne h1 n hn
theorem awp_regionNU (np : Bool) (X : Oper → St → (Dl → Prop) → Prop) (t : Nat) (hX : ∀ o st K, X o st K → ∃ δ, Act1 P np τ o st δ ∧ K δ) (hτ : TyOk P τ) (hpos : TyPos τ) {Q : Exit → St → Prop} {id : Nat} {ops : List Oper} (hs : makersOk np ops = true) (hd : dstOk st.n ops = true) (h : seqU X P np τ t ops (Q .normal) ops (st.start np ops)) : awp P τ (.region id ops.toArray false) Q st := fun lo w0 a w hr => by
  have hn : a.tmps.size = st.n := by obtain ⟨ow, hd, bk, h⟩ := hr; exact h.size
  refine wp_region_lit (seqU_sound (np := np) hτ hpos hX hs (fun st a w h1 h2 => ⟨st, h2, h1⟩) ops 0 (st.start np ops) a w (by simp) (by rw [hn]; exact hd) (fun j o _ ho hm => start_free ho hm) (fun e => by unfold St.start; rw [if_pos e]; exact cut_PF _) (Rel_start hr ops) h)
end
attribute [push_cast] actTE actGE lexU seqU selV
end Go.Proofs.Ytdbecmmeifdafaa

namespace Go.Proofs.Ytdbecmmeifdafaa
open Nat renaming reduceMod → zA, reduceMul → zB, reduceDiv → zC, reduceAdd → zD, reduceSub → zE, reduceEqDiff → zF, reduceBEq → zG, reduceLT → zH, reduceLeDiff → zI
open Go.RowKit
set_option linter.unusedVariables false
set_option linter.unusedSimpArgs false

theorem noP_s (k : Nat) : noP (k + 1) = noP k ++ [-1] := List.replicate_succ'
def pkI (n v : Nat) : List Int := List.replicate v (-1) ++ List.replicate (n - v) 0
theorem pkI_len {n v : Nat} (h : v ≤ n) : (pkI n v).length = n := by unfold pkI; simp; omega
theorem pkI_0 (n : Nat) : pkI n 0 = List.replicate n 0 := by simp [pkI]
theorem pkI_n (n : Nat) : pkI n n = noP n := by simp [pkI, noP]
theorem pkI_set {n v : Nat} (h : v < n) : (pkI n v).set v (-1) = pkI n (v + 1) := by
  unfold pkI
  rw [List.set_append_right _ _ (by simp), List.length_replicate, Nat.sub_self, show n - v = (n - (v + 1)) + 1 from by omega, List.replicate_succ, List.set_cons_zero, List.replicate_succ', List.append_assoc]
  rfl
def regB (won : List Int) (who : Int) (v : Nat) : Bool := gi won v == who
def regL (won : List Int) (who : Int) : List Bool := mapB won.length (regB won who)
def holdB (region win : List Bool) (who : Int) : Bool := !anyB (mapB region.length (lostB region win who)) region.length
theorem holdB_yes {region win : List Bool} {who : Int} (h : ∀ v, v < region.length → lostB region win who v = false) : holdB region win who = true := by
  unfold holdB
  rw [Bool.not_eq_true', Bool.eq_false_iff]
  intro e
  obtain ⟨v, hv, e2⟩ := anyB_iff.1 e
  rw [mapB_at hv, h v hv] at e2
  cases e2
theorem holdB_no {region win : List Bool} {who : Int} {v : Nat} (hv : v < region.length) (h : lostB region win who v = true) : holdB region win who = false := by
  unfold holdB
  rw [Bool.not_eq_false', anyB_iff]
  exact ⟨v, hv, by rw [mapB_at hv]; exact h⟩
theorem lost_in {rest low : List Bool} {who : Int} {v : Nat} (h : gb rest v = false) : lostB rest low who v = false := by unfold lostB; rw [h]; rfl
theorem same_ext {a b : List Int} (h : a.length = b.length) (h2 : ∀ k, k < a.length → gi a k = gi b k) : a = b := by
  refine List.ext_getElem? fun k => ?_
  by_cases hk : k < a.length
  · rw [gi_lt hk, gi_lt (by omega), h2 k hk]
  · rw [List.getElem?_eq_none (by omega), List.getElem?_eq_none (by omega)]
theorem row_hole {P : List (List Int)} {u m : Nat} {r : List Int} (hu : u < P.length) (hm : r.length ≤ m) : List.take u ((dII P).set u D.hole) ++ [D.lst 2 (dI (List.take m r))] ++ List.drop (u + 1) ((dII P).set u D.hole) = dII (P.set u r) := by
  have e : dII (P.set u r) = (dII P).set u (D.lst 2 (dI r)) := by unfold dII; rw [List.map_set]
  have hl : u < (dII P).length := by rw [len_dII]; exact hu
  rw [e, List.take_of_length_le hm, List.take_set, List.set_eq_of_length_le (by simp; omega), List.drop_set_of_lt (by omega), List.set_eq_take_append_cons_drop, if_pos hl]
  simp
set_option maxRecDepth 20000 in
set_option maxHeartbeats 4000000 in
theorem l7None_fn (n : Nat) (hn : n ≤ 1048576) : Fn Try.prog tyT 100 [.c (.int .i64 n)] [.c (DI (noP n))] := by
  refine Fn_of (fn := Try.f100) (ts := [2]) Try.func100 (by kernel_rfl) rfl rfl (by rw [Try.ntmps100]; exact Nat.le_of_ble_eq_true rfl) rfl (by simp only [szA, List.mem_cons, List.not_mem_nil, or_false, forall_eq_or_imp, forall_eq, VT.cells, szL]; try decide) ?_
  rw [Try.ntmps100]
  simp only [push_cast, ↓brB_true, ↓brB_false, ↓reduceIte, zA, zB, zC, zD, zE, zF, zG, zH, zI, reduceCtorEq]
  refine awp_seq' fun K hK => ?_
  refine awp_region tyOk tyPos [] rfl ?_
  simp only [push_cast, ↓brB_true, ↓brB_false, ↓reduceIte, zA, zB, zC, zD, zE, zF, zG, zH, zI, reduceCtorEq]
  repeat' apply And.intro
  all_goals try exact gB
  all_goals first | (refine hK _ ?_; clear hK K) | (simp only [push_cast]; done)
  refine awp_seq' fun K hK => ?_
  refine awp_region tyOk tyPos [] rfl ?_
  simp only [push_cast, ↓brB_true, ↓brB_false, ↓reduceIte, zA, zB, zC, zD, zE, zF, zG, zH, zI, reduceCtorEq]
  repeat' apply And.intro
  all_goals try exact gB
  all_goals first | (refine hK _ ?_; clear hK K) | (simp only [push_cast]; done)
  refine awp_seq' fun K1 hK1 => ?_
  refine awp_seq' fun K hK => ?_
  refine awp_region tyOk tyPos [] rfl ?_
  simp only [push_cast, ↓brB_true, ↓brB_false, ↓reduceIte, zA, zB, zC, zD, zE, zF, zG, zH, zI, reduceCtorEq]
  repeat' apply And.intro
  all_goals try exact gB
  all_goals first | (refine hK _ ?_; clear hK K) | (simp only [push_cast]; done)
  refine awp_block ?_
  refine awp_loopU [3,4,6,7,8,9,10,11,12,13] [48] (fun (k : Nat) => [(4, .int .i64 k), (3, .sl 48 [] 0 k 2)]) (fun k => []) (fun k => [(48, ⟨.ex, 2, dI (noP k), none⟩)]) (fun k => k ≤ n) (fun k => n - k) 0 ?_ (by omega) ?_
  ·
    rw [show dI (noP 0) = [] from rfl]
    refine cov_of rfl ?_ ?_ ?_ <;> simp only [covS, covL, push_cast, ↓brB_true, ↓brB_false, ↓reduceIte, zA, zB, zC, zD, zE, zF, zG, zH, zI, reduceCtorEq]
  · rintro k hk KL0 hL0
    have hfl := noP_len k
    simp only [push_cast, ↓brB_true, ↓brB_false, ↓reduceIte, zA, zB, zC, zD, zE, zF, zG, zH, zI, reduceCtorEq]
    refine awp_seq' fun K2 hK2 => ?_
    refine awp_seq' fun K hK => ?_
    refine awp_region tyOk tyPos [] rfl ?_
    simp only [push_cast, ↓brB_true, ↓brB_false, ↓reduceIte, zA, zB, zC, zD, zE, zF, zG, zH, zI, reduceCtorEq]
    repeat' apply And.intro
    all_goals try exact gB
    all_goals first | (refine hK _ ?_; clear hK K) | (simp only [push_cast]; done)
    refine awp_cond rfl (fun hc => ?_) (fun hc => ?_) <;> (try simp only [push_cast] at hc)
    ·
      refine awp_skip ?_
      (try simp only [AThen, ABlk, reduceIte, zF]); refine hK2 _ ?_
      refine awp_seq' fun K3 hK3 => ?_
      refine awp_block ?_
      refine awp_region tyOk tyPos [] rfl ?_
      simp only [push_cast, ↓brB_true, ↓brB_false, ↓reduceIte, zA, zB, zC, zD, zE, zF, zG, zH, zI, reduceCtorEq]
      repeat' apply And.intro
      all_goals try exact gB
      (try simp only [AThen, ABlk, reduceIte, zF]); refine hK3 _ ?_
      refine awp_region tyOk tyPos [] rfl ?_
      simp only [push_cast, ↓brB_true, ↓brB_false, ↓reduceIte, zA, zB, zC, zD, zE, zF, zG, zH, zI, reduceCtorEq]
      repeat' apply And.intro
      all_goals try exact gB
      refine hL0 _ ⟨k + 1, by omega, by omega, ?_⟩
      (try rw [List.take_of_length_le (l := noP k) (by omega)])
      rw [noP_s]
      refine cov_of rfl ?_ ?_ ?_ <;> simp only [covS, covL, push_cast, ↓brB_true, ↓brB_false, ↓reduceIte, zA, zB, zC, zD, zE, zF, zG, zH, zI, reduceCtorEq]
    ·
      refine awp_exit ?_
      have hkk : k = n := by omega
      subst hkk
      (try simp only [AThen, ABlk, reduceIte, zF]); refine hK1 _ ?_
      refine awp_seq' fun K hK => ?_
      refine awp_region tyOk tyPos [] rfl ?_
      simp only [push_cast, ↓brB_true, ↓brB_false, ↓reduceIte, zA, zB, zC, zD, zE, zF, zG, zH, zI, reduceCtorEq]
      repeat' apply And.intro
      all_goals try exact gB
      all_goals first | (refine hK _ ?_; clear hK K) | (simp only [push_cast]; done)
      refine awp_ret ?_
      (try simp only [AThen, ABlk])
      refine ⟨Or.inl rfl, ?_⟩
      simp only [RetOk, push_cast, ↓brB_true, ↓brB_false, ↓reduceIte, zA, zB, zC, zD, zE, zF, zG, zH, zI, reduceCtorEq]
      all_goals first | rfl | exact ⟨rfl, by simp [noP_len]⟩ | (simp [noP_len]; done)
set_option maxRecDepth 20000 in
set_option maxHeartbeats 4000000 in
theorem l7Region_fn (won : List Int) (hn : won.length ≤ 256) (who : Int) : Fn Try.prog tyT 132 [.c (DI won), .c (.int .i64 who)] [.c (.lst 4 (dB (regL won who)))] := by
  refine Fn_of (fn := Try.f132) (ts := [4]) Try.func132 (by kernel_rfl) rfl rfl (by rw [Try.ntmps132]; exact Nat.le_of_ble_eq_true rfl) rfl (by simp only [szA, List.mem_cons, List.not_mem_nil, or_false, forall_eq_or_imp, forall_eq, VT.cells, szL]; try decide) ?_
  rw [Try.ntmps132]
  simp only [push_cast, ↓brB_true, ↓brB_false, ↓reduceIte, zA, zB, zC, zD, zE, zF, zG, zH, zI, reduceCtorEq]
  refine awp_seq' fun K hK => ?_
  refine awp_region tyOk tyPos [] rfl ?_
  simp only [push_cast, ↓brB_true, ↓brB_false, ↓reduceIte, zA, zB, zC, zD, zE, zF, zG, zH, zI, reduceCtorEq]
  repeat' apply And.intro
  all_goals try exact gB
  all_goals first | (refine hK _ ?_; clear hK K) | (simp only [push_cast]; done)
  refine awp_seq' fun K hK => ?_
  refine awp_region tyOk tyPos [] rfl ?_
  simp only [push_cast, ↓brB_true, ↓brB_false, ↓reduceIte, zA, zB, zC, zD, zE, zF, zG, zH, zI, reduceCtorEq]
  repeat' apply And.intro
  all_goals try exact gB
  all_goals first | (refine hK _ ?_; clear hK K) | (simp only [push_cast]; done)
  refine awp_seq' fun K1 hK1 => ?_
  refine awp_seq' fun K hK => ?_
  refine awp_region tyOk tyPos [] rfl ?_
  simp only [push_cast, ↓brB_true, ↓brB_false, ↓reduceIte, zA, zB, zC, zD, zE, zF, zG, zH, zI, reduceCtorEq]
  repeat' apply And.intro
  all_goals try exact gB
  all_goals first | (refine hK _ ?_; clear hK K) | (simp only [push_cast]; done)
  refine awp_block ?_
  refine awp_loopU [6,10,11,12,13,14,15,16,17,18,19,20,21,22,23,24] [80] (fun (k : Nat) => [(6, .int .i64 k), (5, .sl 80 [] 0 won.length 4)]) (fun k => []) (fun k => [(80, ⟨.ex, 4, dB (mkB won.length (regB won who) k), none⟩)]) (fun k => k ≤ won.length) (fun k => won.length - k) 0 ?_ (by omega) ?_
  ·
    rw [mkB_0]
    refine cov_of rfl ?_ ?_ ?_ <;> simp only [covS, covL, push_cast, ↓brB_true, ↓brB_false, ↓reduceIte, zA, zB, zC, zD, zE, zF, zG, zH, zI, reduceCtorEq]
  · rintro k hk KL0 hL0
    have hml := mkB_len (f := regB won who) hk
    simp only [push_cast, ↓brB_true, ↓brB_false, ↓reduceIte, zA, zB, zC, zD, zE, zF, zG, zH, zI, reduceCtorEq]
    refine awp_seq' fun K2 hK2 => ?_
    refine awp_seq' fun K hK => ?_
    refine awp_region tyOk tyPos [] rfl ?_
    simp only [push_cast, ↓brB_true, ↓brB_false, ↓reduceIte, zA, zB, zC, zD, zE, zF, zG, zH, zI, reduceCtorEq]
    repeat' apply And.intro
    all_goals try exact gB
    all_goals first | (refine hK _ ?_; clear hK K) | (simp only [push_cast]; done)
    refine awp_cond rfl (fun hc => ?_) (fun hc => ?_) <;> (try simp only [push_cast] at hc)
    ·
      refine awp_skip ?_
      (try simp only [AThen, ABlk, reduceIte, zF]); refine hK2 _ ?_
      refine awp_seq' fun K3 hK3 => ?_
      refine awp_block ?_
      refine awp_region tyOk tyPos [] rfl ?_
      simp only [push_cast, ↓brB_true, ↓brB_false, ↓reduceIte, zA, zB, zC, zD, zE, zF, zG, zH, zI, reduceCtorEq]
      repeat' apply And.intro
      all_goals try exact gB
      (try simp only [AThen, ABlk, reduceIte, zF]); refine hK3 _ ?_
      refine awp_region tyOk tyPos [] rfl ?_
      simp only [push_cast, ↓brB_true, ↓brB_false, ↓reduceIte, zA, zB, zC, zD, zE, zF, zG, zH, zI, reduceCtorEq]
      repeat' apply And.intro
      all_goals try exact gB
      refine hL0 _ ⟨k + 1, by omega, by omega, ?_⟩
      rw [show (mkB won.length (regB won who) k).set k (gi won k == who) = mkB won.length (regB won who) (k + 1) from mkB_set (by omega)]
      refine cov_of rfl ?_ ?_ ?_ <;> simp only [covS, covL, push_cast, ↓brB_true, ↓brB_false, ↓reduceIte, zA, zB, zC, zD, zE, zF, zG, zH, zI, reduceCtorEq]
    ·
      refine awp_exit ?_
      have hkk : k = won.length := by omega
      subst hkk
      (try simp only [AThen, ABlk, reduceIte, zF]); refine hK1 _ ?_
      refine awp_seq' fun K hK => ?_
      refine awp_region tyOk tyPos [] rfl ?_
      simp only [push_cast, ↓brB_true, ↓brB_false, ↓reduceIte, zA, zB, zC, zD, zE, zF, zG, zH, zI, reduceCtorEq]
      repeat' apply And.intro
      all_goals try exact gB
      all_goals first | (refine hK _ ?_; clear hK K) | (simp only [push_cast]; done)
      refine awp_ret ?_
      (try simp only [AThen, ABlk])
      refine ⟨Or.inl rfl, ?_⟩
      simp only [RetOk, push_cast, ↓brB_true, ↓brB_false, ↓reduceIte, zA, zB, zC, zD, zE, zF, zG, zH, zI, reduceCtorEq]
      rw [mkB_all]
      unfold regL
      all_goals first | rfl | exact ⟨rfl, by simp [mapB]⟩ | (simp [mapB]; done)
set_option maxRecDepth 20000 in
set_option maxHeartbeats 4000000 in
theorem l7Same_fn (a b : List Int) (ha : a.length ≤ 1048576) (hb : b.length ≤ 1048576) : Fn Try.prog tyT 146 [.c (DI a), .c (DI b)] [.c (.bool (decide (a = b)))] := by
  refine Fn_of (fn := Try.f146) (ts := [4]) Try.func146 (by kernel_rfl) rfl rfl (by rw [Try.ntmps146]; exact Nat.le_of_ble_eq_true rfl) rfl (by simp only [szA, List.mem_cons, List.not_mem_nil, or_false, forall_eq_or_imp, forall_eq, VT.cells, szL]; try decide) ?_
  rw [Try.ntmps146]
  simp only [push_cast, ↓brB_true, ↓brB_false, ↓reduceIte, zA, zB, zC, zD, zE, zF, zG, zH, zI, reduceCtorEq]
  refine awp_seq' fun K hK => ?_
  refine awp_region tyOk tyPos [] rfl ?_
  simp only [push_cast, ↓brB_true, ↓brB_false, ↓reduceIte, zA, zB, zC, zD, zE, zF, zG, zH, zI, reduceCtorEq]
  repeat' apply And.intro
  all_goals try exact gB
  all_goals first | (refine hK _ ?_; clear hK K) | (simp only [push_cast]; done)
  refine awp_seq' fun K1 hK1 => ?_
  refine awp_seq' fun K hK => ?_
  refine awp_region tyOk tyPos [] rfl ?_
  simp only [push_cast, ↓brB_true, ↓brB_false, ↓reduceIte, zA, zB, zC, zD, zE, zF, zG, zH, zI, reduceCtorEq]
  repeat' apply And.intro
  all_goals try exact gB
  all_goals first | (refine hK _ ?_; clear hK K) | (simp only [push_cast]; done)
  refine awp_cond rfl (fun hc => ?_) (fun hc => ?_) <;> (try simp only [push_cast] at hc)
  ·
    refine awp_seq' fun K hK => ?_
    refine awp_region tyOk tyPos [] rfl ?_
    simp only [push_cast, ↓brB_true, ↓brB_false, ↓reduceIte, zA, zB, zC, zD, zE, zF, zG, zH, zI, reduceCtorEq]
    repeat' apply And.intro
    all_goals try exact gB
    all_goals first | (refine hK _ ?_; clear hK K) | (simp only [push_cast]; done)
    refine awp_ret ?_
    (try simp only [AThen, ABlk])
    refine ⟨Or.inl rfl, ?_⟩
    simp only [RetOk, push_cast, ↓brB_true, ↓brB_false, ↓reduceIte, zA, zB, zC, zD, zE, zF, zG, zH, zI, reduceCtorEq]
    symm; exact decide_eq_false fun e => by subst e; omega
  ·
    refine awp_skip ?_
    (try simp only [AThen, ABlk, reduceIte, zF]); refine hK1 _ ?_
    refine awp_seq' fun K2 hK2 => ?_
    refine awp_seq' fun K hK => ?_
    refine awp_region tyOk tyPos [] rfl ?_
    simp only [push_cast, ↓brB_true, ↓brB_false, ↓reduceIte, zA, zB, zC, zD, zE, zF, zG, zH, zI, reduceCtorEq]
    repeat' apply And.intro
    all_goals try exact gB
    all_goals first | (refine hK _ ?_; clear hK K) | (simp only [push_cast]; done)
    refine awp_block ?_
    refine awp_loopU [4,5,11,12,13,14,15,16,17,18,19,20,21,22,23,24,25] [] (fun (k : Nat) => [(5, .int .i64 k)]) (fun k => []) (fun k => []) (fun k => k ≤ a.length ∧ ∀ j, j < k → gi a j = gi b j) (fun k => a.length - k) 0 ?_ ⟨by omega, fun j hj => by omega⟩ ?_
    ·
      refine cov_of rfl ?_ ?_ ?_ <;> simp only [covS, covL, push_cast, ↓brB_true, ↓brB_false, ↓reduceIte, zA, zB, zC, zD, zE, zF, zG, zH, zI, reduceCtorEq]
    · rintro k ⟨hk, hall⟩ KL0 hL0
      simp only [push_cast, ↓brB_true, ↓brB_false, ↓reduceIte, zA, zB, zC, zD, zE, zF, zG, zH, zI, reduceCtorEq]
      refine awp_seq' fun K3 hK3 => ?_
      refine awp_seq' fun K hK => ?_
      refine awp_region tyOk tyPos [] rfl ?_
      simp only [push_cast, ↓brB_true, ↓brB_false, ↓reduceIte, zA, zB, zC, zD, zE, zF, zG, zH, zI, reduceCtorEq]
      repeat' apply And.intro
      all_goals try exact gB
      all_goals first | (refine hK _ ?_; clear hK K) | (simp only [push_cast]; done)
      refine awp_cond rfl (fun hc => ?_) (fun hc => ?_) <;> (try simp only [push_cast] at hc)
      ·
        refine awp_skip ?_
        (try simp only [AThen, ABlk, reduceIte, zF]); refine hK3 _ ?_
        refine awp_seq' fun K4 hK4 => ?_
        refine awp_block ?_
        refine awp_seq' fun K hK => ?_
        refine awp_regionD0 false tyOk tyPos tyMix ?_ rfl ?_
        · kernel_rfl
        intro C hC
        simp only [push_cast, ↓brB_true, ↓brB_false, ↓reduceIte, zA, zB, zC, zD, zE, zF, zG, zH, zI, reduceCtorEq]
        repeat' apply And.intro
        all_goals first | omega | with_reducible assumption | (refine hC _ ?_; kernel_rfl) | (simp only [List.length_set, List.length_append, List.length_replicate, List.length_cons, List.length_nil]; omega) | skip
        all_goals first | (refine hK _ ?_; clear hC C hK K) | (simp only [push_cast]; done)
        refine awp_cond rfl (fun hc => ?_) (fun hc => ?_) <;> (try simp only [push_cast] at hc)
        ·
          refine awp_seq' fun K hK => ?_
          refine awp_region tyOk tyPos [] rfl ?_
          simp only [push_cast, ↓brB_true, ↓brB_false, ↓reduceIte, zA, zB, zC, zD, zE, zF, zG, zH, zI, reduceCtorEq]
          repeat' apply And.intro
          all_goals try exact gB
          all_goals first | (refine hK _ ?_; clear hK K) | (simp only [push_cast]; done)
          refine awp_ret ?_
          (try simp only [AThen, ABlk])
          refine ⟨Or.inl rfl, ?_⟩
          simp only [RetOk, push_cast, ↓brB_true, ↓brB_false, ↓reduceIte, zA, zB, zC, zD, zE, zF, zG, zH, zI, reduceCtorEq]
          symm; exact decide_eq_false fun e => by subst e; omega
        ·
          refine awp_skip ?_
          (try simp only [AThen, ABlk, reduceIte, zF]); refine hK4 _ ?_
          refine awp_region tyOk tyPos [] rfl ?_
          simp only [push_cast, ↓brB_true, ↓brB_false, ↓reduceIte, zA, zB, zC, zD, zE, zF, zG, zH, zI, reduceCtorEq]
          repeat' apply And.intro
          all_goals try exact gB
          refine hL0 _ ⟨k + 1, ⟨by omega, fun j hj => by
              by_cases hjk : j = k
              · subst hjk; omega
              · exact hall j (by omega)⟩, by omega, ?_⟩
          refine cov_of rfl ?_ ?_ ?_ <;> simp only [covS, covL, push_cast, ↓brB_true, ↓brB_false, ↓reduceIte, zA, zB, zC, zD, zE, zF, zG, zH, zI, reduceCtorEq]
      ·
        refine awp_exit ?_
        (try simp only [AThen, ABlk, reduceIte, zF]); refine hK2 _ ?_
        refine awp_seq' fun K hK => ?_
        refine awp_region tyOk tyPos [] rfl ?_
        simp only [push_cast, ↓brB_true, ↓brB_false, ↓reduceIte, zA, zB, zC, zD, zE, zF, zG, zH, zI, reduceCtorEq]
        repeat' apply And.intro
        all_goals try exact gB
        all_goals first | (refine hK _ ?_; clear hK K) | (simp only [push_cast]; done)
        refine awp_ret ?_
        (try simp only [AThen, ABlk])
        refine ⟨Or.inl rfl, ?_⟩
        simp only [RetOk, push_cast, ↓brB_true, ↓brB_false, ↓reduceIte, zA, zB, zC, zD, zE, zF, zG, zH, zI, reduceCtorEq]
        symm; exact decide_eq_true (same_ext (by omega) fun k2 hk2 => hall k2 (by omega))
set_option maxRecDepth 20000 in
set_option maxHeartbeats 4000000 in
theorem l7Holds_fn (x : L7) (inn : List Bool) (hx : x.Ok inn.length) (f : Nat) (hf : cntB inn inn.length < f) (who : Int) : Fn Try.prog tyT 150 [.agg (dL7 x), .c (.lst 4 (dB inn)), .c (.int .i64 who)] [.c (.bool (holdB inn (winL x inn.length f inn) who))] := by
  have hn1 := hx.hn
  have hW := l7Win_fn x f inn hx hf
  have hwl := winL_len x inn.length f inn
  generalize winL x inn.length f inn = win at hW hwl ⊢
  unfold dL7 at hW ⊢
  refine Fn_of (fn := Try.f150) (ts := [6]) Try.func150 (by kernel_rfl) rfl rfl (by rw [Try.ntmps150]; exact Nat.le_of_ble_eq_true rfl) rfl (by simp only [szA, List.mem_cons, List.not_mem_nil, or_false, forall_eq_or_imp, forall_eq, VT.cells, szL]; try decide) ?_
  rw [Try.ntmps150]
  simp only [push_cast, ↓brB_true, ↓brB_false, ↓reduceIte, zA, zB, zC, zD, zE, zF, zG, zH, zI, reduceCtorEq]
  refine awp_seq' fun K hK => ?_
  refine awp_region tyOk tyPos [] rfl ?_
  simp only [push_cast, ↓brB_true, ↓brB_false, ↓reduceIte, zA, zB, zC, zD, zE, zF, zG, zH, zI, reduceCtorEq]
  repeat' apply And.intro
  all_goals try exact gB
  all_goals first | (refine hK _ ?_; clear hK K) | (simp only [push_cast]; done)
  refine awp_seq' fun K hK => ?_
  refine awp_region tyOk tyPos [] rfl ?_
  all_goals refine aops_cut 3 fun K9 hK9 => ?_
  all_goals simp only [push_cast, ↓brB_true, ↓brB_false, ↓reduceIte, zA, zB, zC, zD, zE, zF, zG, zH, zI, reduceCtorEq]
  all_goals repeat' (first | (apply brB_mk <;> (intro hg; (try simp only [push_cast] at hg))) | (refine ⟨_, hW, ?_⟩; simp only [push_cast, ↓brB_true, ↓brB_false, ↓reduceIte, zA, zB, zC, zD, zE, zF, zG, zH, zI, reduceCtorEq]) | apply And.intro | (intro hg; (try simp only [push_cast] at hg)))
  all_goals first | exact gA | (rw [List.take_length]; exact hW) | skip
  all_goals first | (refine hK9 _ ?_; clear hK9 K9) | (simp only [push_cast]; done)
  all_goals simp only [push_cast, ↓brB_true, ↓brB_false, ↓reduceIte, zA, zB, zC, zD, zE, zF, zG, zH, zI, reduceCtorEq]
  all_goals repeat' (first | (apply brB_mk <;> (intro hg; (try simp only [push_cast] at hg))) | (refine ⟨_, hW, ?_⟩; simp only [push_cast, ↓brB_true, ↓brB_false, ↓reduceIte, zA, zB, zC, zD, zE, zF, zG, zH, zI, reduceCtorEq]) | apply And.intro | (intro hg; (try simp only [push_cast] at hg)))
  all_goals first | exact gA | (rw [List.take_length]; exact hW) | skip
  all_goals first | (refine hK _ ?_; clear hK K) | (simp only [push_cast]; done)
  refine awp_seq' fun K1 hK1 => ?_
  refine awp_seq' fun K hK => ?_
  refine awp_region tyOk tyPos [] rfl ?_
  simp only [push_cast, ↓brB_true, ↓brB_false, ↓reduceIte, zA, zB, zC, zD, zE, zF, zG, zH, zI, reduceCtorEq]
  repeat' apply And.intro
  all_goals try exact gB
  all_goals first | (refine hK _ ?_; clear hK K) | (simp only [push_cast]; done)
  refine awp_block ?_
  refine awp_loopU [6,8,12,13,14,15,16,17,18,19,20,21,22,23,24,25,26,27,28,29,30] [] (fun (k : Nat) => [(8, .int .i64 k)]) (fun k => []) (fun k => []) (fun k => k ≤ inn.length ∧ ∀ j, j < k → lostB inn win who j = false) (fun k => inn.length - k) 0 ?_ ⟨by omega, fun j hj => by omega⟩ ?_
  ·
    refine cov_of rfl ?_ ?_ ?_ <;> simp only [covS, covL, push_cast, ↓brB_true, ↓brB_false, ↓reduceIte, zA, zB, zC, zD, zE, zF, zG, zH, zI, reduceCtorEq]
  · rintro k ⟨hk, hall⟩ KL0 hL0
    simp only [push_cast, ↓brB_true, ↓brB_false, ↓reduceIte, zA, zB, zC, zD, zE, zF, zG, zH, zI, reduceCtorEq]
    refine awp_seq' fun K2 hK2 => ?_
    refine awp_seq' fun K hK => ?_
    refine awp_region tyOk tyPos [] rfl ?_
    simp only [push_cast, ↓brB_true, ↓brB_false, ↓reduceIte, zA, zB, zC, zD, zE, zF, zG, zH, zI, reduceCtorEq]
    repeat' apply And.intro
    all_goals try exact gB
    all_goals first | (refine hK _ ?_; clear hK K) | (simp only [push_cast]; done)
    refine awp_cond rfl (fun hc => ?_) (fun hc => ?_) <;> (try simp only [push_cast] at hc)
    ·
      refine awp_skip ?_
      (try simp only [AThen, ABlk, reduceIte, zF]); refine hK2 _ ?_
      refine awp_seq' fun K3 hK3 => ?_
      refine awp_block ?_
      refine awp_seq' fun K hK => ?_
      refine awp_regionN false tyOk tyPos ?_ rfl ?_
      · kernel_rfl
      all_goals simp only [push_cast, ↓brB_true, ↓brB_false, ↓reduceIte, zA, zB, zC, zD, zE, zF, zG, zH, zI, reduceCtorEq]
      all_goals repeat' (first | (apply brB_mk <;> (intro hg; (try simp only [push_cast] at hg))) | apply And.intro | (intro hg; (try simp only [push_cast] at hg)))
      all_goals try exact gA
      all_goals first | (refine hK _ ?_; clear hK K) | (simp only [push_cast]; done)
      all_goals refine awp_cond rfl (fun hc => ?_) (fun hc => ?_)
      all_goals (first | (cases hc; done) | skip)
      all_goals (try simp only [push_cast] at hc)
      all_goals first
        | (
            refine awp_skip ?_
            (try simp only [AThen, ABlk, reduceIte, zF]); refine hK3 _ ?_
            refine awp_region tyOk tyPos [] rfl ?_
            simp only [push_cast, ↓brB_true, ↓brB_false, ↓reduceIte, zA, zB, zC, zD, zE, zF, zG, zH, zI, reduceCtorEq]
            repeat' apply And.intro
            all_goals try exact gB
            refine hL0 _ ⟨k + 1, ⟨by omega, fun j hj => by
                by_cases hjk : j = k
                · subst hjk; first | exact lost_in (by with_reducible assumption) | (unfold lostB; rw [show gb inn j = true from by with_reducible assumption, Bool.true_and]; simpa using hc)
                · exact hall j (by omega)⟩, by omega, ?_⟩
            refine cov_of rfl ?_ ?_ ?_ <;> simp only [covS, covL, push_cast, ↓brB_true, ↓brB_false, ↓reduceIte, zA, zB, zC, zD, zE, zF, zG, zH, zI, reduceCtorEq]
            done)
        | (
            refine awp_seq' fun K hK => ?_
            refine awp_region tyOk tyPos [] rfl ?_
            simp only [push_cast, ↓brB_true, ↓brB_false, ↓reduceIte, zA, zB, zC, zD, zE, zF, zG, zH, zI, reduceCtorEq]
            repeat' apply And.intro
            all_goals try exact gB
            all_goals first | (refine hK _ ?_; clear hK K) | (simp only [push_cast]; done)
            refine awp_ret ?_
            (try simp only [AThen, ABlk])
            refine ⟨Or.inl rfl, ?_⟩
            simp only [RetOk, push_cast, ↓brB_true, ↓brB_false, ↓reduceIte, zA, zB, zC, zD, zE, zF, zG, zH, zI, reduceCtorEq]
            symm; refine holdB_no (v := k) (by omega) ?_
            unfold lostB; rw [show gb inn k = true from by with_reducible assumption, Bool.true_and]; simpa using hc
            done)
    ·
      refine awp_exit ?_
      (try simp only [AThen, ABlk, reduceIte, zF]); refine hK1 _ ?_
      refine awp_seq' fun K hK => ?_
      refine awp_region tyOk tyPos [] rfl ?_
      simp only [push_cast, ↓brB_true, ↓brB_false, ↓reduceIte, zA, zB, zC, zD, zE, zF, zG, zH, zI, reduceCtorEq]
      repeat' apply And.intro
      all_goals try exact gB
      all_goals first | (refine hK _ ?_; clear hK K) | (simp only [push_cast]; done)
      refine awp_ret ?_
      (try simp only [AThen, ABlk])
      refine ⟨Or.inl rfl, ?_⟩
      simp only [RetOk, push_cast, ↓brB_true, ↓brB_false, ↓reduceIte, zA, zB, zC, zD, zE, zF, zG, zH, zI, reduceCtorEq]
      symm; exact holdB_yes fun v hv => hall v (by omega)
set_option maxRecDepth 20000 in
set_option maxHeartbeats 4000000 in
theorem l7Picks_fn (g : Pa) (hg : g.Ln 1048576) : Fn Try.prog tyT 159 [.agg (dPa g), .c (DI (noP g.prio.length))] [.c (.bool true)] := by
  have hp := hg.prio
  unfold LnI at hp
  have hnl := noP_len g.prio.length
  have hng := noP_gi g.prio.length
  generalize noP g.prio.length = ps at hnl hng ⊢
  unfold dPa
  refine Fn_of (fn := Try.f159) (ts := [4]) Try.func159 (by kernel_rfl) rfl rfl (by rw [Try.ntmps159]; exact Nat.le_of_ble_eq_true rfl) rfl (by simp only [szA, List.mem_cons, List.not_mem_nil, or_false, forall_eq_or_imp, forall_eq, VT.cells, szL]; try decide) ?_
  rw [Try.ntmps159]
  simp only [push_cast, ↓brB_true, ↓brB_false, ↓reduceIte, zA, zB, zC, zD, zE, zF, zG, zH, zI, reduceCtorEq]
  refine awp_seq' fun K hK => ?_
  refine awp_region tyOk tyPos [] rfl ?_
  simp only [push_cast, ↓brB_true, ↓brB_false, ↓reduceIte, zA, zB, zC, zD, zE, zF, zG, zH, zI, reduceCtorEq]
  repeat' apply And.intro
  all_goals try exact gB
  all_goals first | (refine hK _ ?_; clear hK K) | (simp only [push_cast]; done)
  refine awp_seq' fun K1 hK1 => ?_
  refine awp_seq' fun K hK => ?_
  refine awp_region tyOk tyPos [] rfl ?_
  simp only [push_cast, ↓brB_true, ↓brB_false, ↓reduceIte, zA, zB, zC, zD, zE, zF, zG, zH, zI, reduceCtorEq]
  repeat' apply And.intro
  all_goals try exact gB
  all_goals first | (refine hK _ ?_; clear hK K) | (simp only [push_cast]; done)
  refine awp_cond rfl (fun hc => ?_) (fun hc => ?_)
  skip
  · exfalso; first | (cases hc; done) | (simp only [push_cast] at hc; done) | (simp only [push_cast] at hc; omega) | omega
  refine awp_skip ?_
  (try simp only [AThen, ABlk, reduceIte, zF]); refine hK1 _ ?_
  refine awp_seq' fun K2 hK2 => ?_
  refine awp_seq' fun K hK => ?_
  refine awp_region tyOk tyPos [] rfl ?_
  simp only [push_cast, ↓brB_true, ↓brB_false, ↓reduceIte, zA, zB, zC, zD, zE, zF, zG, zH, zI, reduceCtorEq]
  repeat' apply And.intro
  all_goals try exact gB
  all_goals first | (refine hK _ ?_; clear hK K) | (simp only [push_cast]; done)
  refine awp_block ?_
  refine awp_loopU [4,5,12,13,14,15,16,17,18,19,20,21,22,23,24,25,26,27,28,29,30,31,32,33,34,35,36] [] (fun (k : Nat) => [(5, .int .i64 k)]) (fun k => []) (fun k => []) (fun k => k ≤ ps.length) (fun k => ps.length - k) 0 ?_ (by omega) ?_
  ·
    refine cov_of rfl ?_ ?_ ?_ <;> simp only [covS, covL, push_cast, ↓brB_true, ↓brB_false, ↓reduceIte, zA, zB, zC, zD, zE, zF, zG, zH, zI, reduceCtorEq]
  · rintro k hk KL0 hL0
    simp only [push_cast, ↓brB_true, ↓brB_false, ↓reduceIte, zA, zB, zC, zD, zE, zF, zG, zH, zI, reduceCtorEq]
    refine awp_seq' fun K3 hK3 => ?_
    refine awp_seq' fun K hK => ?_
    refine awp_region tyOk tyPos [] rfl ?_
    simp only [push_cast, ↓brB_true, ↓brB_false, ↓reduceIte, zA, zB, zC, zD, zE, zF, zG, zH, zI, reduceCtorEq]
    repeat' apply And.intro
    all_goals try exact gB
    all_goals first | (refine hK _ ?_; clear hK K) | (simp only [push_cast]; done)
    refine awp_cond rfl (fun hc => ?_) (fun hc => ?_) <;> (try simp only [push_cast] at hc)
    ·
      refine awp_skip ?_
      (try simp only [AThen, ABlk, reduceIte, zF]); refine hK3 _ ?_
      refine awp_seq' fun K4 hK4 => ?_
      refine awp_block ?_
      have hpk := hng k (by omega)
      refine awp_seq' fun K hK => ?_
      refine awp_regionD1 false tyOk tyPos tyMix ?_ rfl ?_
      · kernel_rfl
      intro E hE
      all_goals refine lexF_cut 17 (by decide) fun K9 hK9 => ?_
      all_goals simp only [push_cast, ↓brB_true, ↓brB_false, ↓reduceIte, zA, zB, zC, zD, zE, zF, zG, zH, zI, reduceCtorEq]
      all_goals repeat' (first | (apply brB_mk <;> (intro hg; (try simp only [push_cast] at hg))) | apply And.intro | (intro hg; (try simp only [push_cast] at hg)))
      all_goals try exact gA
      all_goals first | (refine hK9 _ _ ?_; clear hK9 K9) | (simp only [push_cast]; done)
      all_goals simp only [push_cast, ↓brB_true, ↓brB_false, ↓reduceIte, zA, zB, zC, zD, zE, zF, zG, zH, zI, reduceCtorEq]
      all_goals repeat' (first | (apply brB_mk <;> (intro hg; (try simp only [push_cast] at hg))) | apply And.intro | (intro hg; (try simp only [push_cast] at hg)))
      all_goals first | exact gA | (refine hE _ _ ?_ ?_; kernel_rfl) | skip
      all_goals clear hE E
      all_goals first | (refine hK _ ?_; clear hK K) | (simp only [push_cast]; done)
      all_goals (
          refine awp_cond rfl (fun hc => ?_) (fun hc => ?_)
          skip
          · exfalso; first | (cases hc; done) | (simp only [push_cast] at hc; done) | (simp only [push_cast] at hc; omega) | omega
          refine awp_skip ?_
          (try simp only [AThen, ABlk, reduceIte, zF]); refine hK4 _ ?_
          refine awp_region tyOk tyPos [] rfl ?_
          simp only [push_cast, ↓brB_true, ↓brB_false, ↓reduceIte, zA, zB, zC, zD, zE, zF, zG, zH, zI, reduceCtorEq]
          repeat' apply And.intro
          all_goals try exact gB
          refine hL0 _ ⟨k + 1, by omega, by omega, ?_⟩
          refine cov_of rfl ?_ ?_ ?_ <;> simp only [covS, covL, push_cast, ↓brB_true, ↓brB_false, ↓reduceIte, zA, zB, zC, zD, zE, zF, zG, zH, zI, reduceCtorEq])
    ·
      refine awp_exit ?_
      (try simp only [AThen, ABlk, reduceIte, zF]); refine hK2 _ ?_
      refine awp_seq' fun K hK => ?_
      refine awp_region tyOk tyPos [] rfl ?_
      simp only [push_cast, ↓brB_true, ↓brB_false, ↓reduceIte, zA, zB, zC, zD, zE, zF, zG, zH, zI, reduceCtorEq]
      repeat' apply And.intro
      all_goals try exact gB
      all_goals first | (refine hK _ ?_; clear hK K) | (simp only [push_cast]; done)
      refine awp_ret ?_
      (try simp only [AThen, ABlk])
      refine ⟨Or.inl rfl, ?_⟩
      simp only [RetOk, push_cast, ↓brB_true, ↓brB_false, ↓reduceIte, zA, zB, zC, zD, zE, zF, zG, zH, zI, reduceCtorEq]
set_option maxRecDepth 20000 in
set_option maxHeartbeats 4000000 in
theorem l7Of_fn (g : Pa) (hok : parityB g = true) : FnT Try.prog tyT 131 [.agg (dPa g)] [0, 2, 1] [DII (prvI g.a g.a.owner.length g.a.owner.length 0), DI (noP g.a.owner.length)] := by
  obtain ⟨hao, hpl, hpr⟩ := parityB_facts hok
  have hal := arenaB_len hao
  have hrow := fun v hv => (arenaB_at hao (v := v) hv).2.2
  have hset := fun v j hv hj => setB_at (arenaB_at hao (v := v) hv).2.2.2.2 (j := j) hj
  obtain ⟨n, hn⟩ : ∃ n, g.a.owner.length = n := ⟨_, rfl⟩
  rw [hn] at hal hpl hrow hset
  rw [hn]
  unfold dPa
  refine FnT_of (fn := Try.f131) (rs := [.cell 2 127]) tyOk tyPos Try.func131 (by kernel_rfl) rfl rfl (by rw [Try.ntmps131]; exact Nat.le_of_ble_eq_true rfl) rfl (by simp only [szA, List.mem_cons, List.not_mem_nil, or_false, forall_eq_or_imp, forall_eq, VT.cells, szL]; try decide) rfl ?_
  rw [Try.ntmps131]
  simp only [push_cast, ↓brB_true, ↓brB_false, ↓reduceIte, zA, zB, zC, zD, zE, zF, zG, zH, zI, reduceCtorEq]
  (try rw [hn])
  (try rw [hpl])
  (try rw [hal.2.2])
  refine awp_seq' fun K hK => ?_
  refine awp_region tyOk tyPos [] rfl ?_
  all_goals simp only [push_cast, ↓brB_true, ↓brB_false, ↓reduceIte, zA, zB, zC, zD, zE, zF, zG, zH, zI, reduceCtorEq]
  all_goals repeat' (first | (apply brB_mk <;> (intro hg; (try simp only [push_cast] at hg))) | apply And.intro | (intro hg; (try simp only [push_cast] at hg)))
  all_goals first | exact gA | (exact getE_dII (by omega)) | skip
  all_goals first | (refine hK _ ?_; clear hK K) | (simp only [push_cast]; done)
  refine awp_seq' fun K hK => ?_
  refine awp_region tyOk tyPos [] rfl ?_
  all_goals simp only [push_cast, ↓brB_true, ↓brB_false, ↓reduceIte, zA, zB, zC, zD, zE, zF, zG, zH, zI, reduceCtorEq]
  all_goals repeat' (first | (apply brB_mk <;> (intro hg; (try simp only [push_cast] at hg))) | apply And.intro | (intro hg; (try simp only [push_cast] at hg)))
  all_goals first | exact gA | (exact getE_dII (by omega)) | skip
  all_goals first | (refine hK _ ?_; clear hK K) | (simp only [push_cast]; done)
  refine awp_seq' fun K hK => ?_
  refine awp_regionD1 true tyOk tyPos tyMix ?_ rfl ?_
  · kernel_rfl
  intro E hE
  all_goals simp only [push_cast, ↓brB_true, ↓brB_false, ↓reduceIte, zA, zB, zC, zD, zE, zF, zG, zH, zI, reduceCtorEq]
  all_goals repeat' (first | (apply brB_mk <;> (intro hg; (try simp only [push_cast] at hg))) | apply And.intro | (intro hg; (try simp only [push_cast] at hg)))
  all_goals first | exact gA | (refine hE _ _ ?_ ?_; kernel_rfl) | (exact getE_dII (by omega)) | skip
  all_goals clear hE E
  all_goals first | (refine hK _ ?_; clear hK K) | (simp only [push_cast]; done)
  refine awp_seq' fun K1 hK1 => ?_
  refine awp_settleBA [64, 65, 66] [.sl 2, .sl 2, .sl 27, .sl 27, .sl 2] 4 ?_
  simp only [push_cast, ↓brB_true, ↓brB_false, ↓reduceIte, zA, zB, zC, zD, zE, zF, zG, zH, zI, reduceCtorEq]
  refine awp_seq' fun K hK => ?_
  refine awp_region tyOk tyPos [] rfl ?_
  all_goals simp only [push_cast, ↓brB_true, ↓brB_false, ↓reduceIte, zA, zB, zC, zD, zE, zF, zG, zH, zI, reduceCtorEq]
  all_goals repeat' (first | (apply brB_mk <;> (intro hg; (try simp only [push_cast] at hg))) | apply And.intro | (intro hg; (try simp only [push_cast] at hg)))
  all_goals first | exact gA | (exact getE_dII (by omega)) | skip
  all_goals first | (refine hK _ ?_; clear hK K) | (simp only [push_cast]; done)
  refine awp_block ?_
  refine awp_loopU [4,5,6,7,24,25,26,27,28,29,30,31,32,33,34,35,36,37,38,39,40,41,42,43,44,45,46,47,48,49,50,51,52,53,54,55,56,57,58,59,60,61,62,63,64] [67,68] (fun (v : Nat) => [(5, .int .i64 v), (4, .bp 4 0)]) (fun v => [(4, [.sl 0 [] 0 n 2, .sl 2 [] 0 n 2, .sl 1 [] 0 n 27, .sl 67 [] 0 n 27, .sl 68 [] 0 n 2])]) (fun v => [(67, ⟨.ex, 27, dII (prvI g.a n v 0), none⟩), (68, ⟨.ex, 2, dI (pkI n v), none⟩)]) (fun v => v ≤ n) (fun v => n - v) 0 ?_ (by omega) ?_
  ·
    rw [prvI_zero, pkI_0]
    refine cov_of rfl ?_ ?_ ?_ <;> simp only [covS, covL, push_cast, ↓brB_true, ↓brB_false, ↓reduceIte, zA, zB, zC, zD, zE, zF, zG, zH, zI, reduceCtorEq]
    all_goals (simp [dII, dI]; done)
  · rintro v hv KL0 hL0
    have hpv := prvI_len g.a n v 0
    have hpk := pkI_len hv
    simp only [push_cast, ↓brB_true, ↓brB_false, ↓reduceIte, zA, zB, zC, zD, zE, zF, zG, zH, zI, reduceCtorEq]
    refine awp_seq' fun K2 hK2 => ?_
    refine awp_seq' fun K hK => ?_
    refine awp_region tyOk tyPos [] rfl ?_
    all_goals simp only [push_cast, ↓brB_true, ↓brB_false, ↓reduceIte, zA, zB, zC, zD, zE, zF, zG, zH, zI, reduceCtorEq]
    all_goals repeat' (first | (apply brB_mk <;> (intro hg; (try simp only [push_cast] at hg))) | apply And.intro | (intro hg; (try simp only [push_cast] at hg)))
    all_goals first | exact gA | (exact getE_dII (by omega)) | skip
    all_goals first | (refine hK _ ?_; clear hK K) | (simp only [push_cast]; done)
    refine awp_cond rfl (fun hc => ?_) (fun hc => ?_) <;> (try simp only [push_cast] at hc)
    ·
      refine awp_skip ?_
      (try simp only [AThen, ABlk, reduceIte, zF]); refine hK2 _ ?_
      refine awp_seq' fun K3 hK3 => ?_
      refine awp_block ?_
      refine awp_seq' fun K hK => ?_
      refine awp_region tyOk tyPos [] rfl ?_
      all_goals simp only [push_cast, ↓brB_true, ↓brB_false, ↓reduceIte, zA, zB, zC, zD, zE, zF, zG, zH, zI, reduceCtorEq]
      all_goals repeat' (first | (apply brB_mk <;> (intro hg; (try simp only [push_cast] at hg))) | apply And.intro | (intro hg; (try simp only [push_cast] at hg)))
      all_goals first | exact gA | (exact getE_dII (by omega)) | skip
      all_goals first | (refine hK _ ?_; clear hK K) | (simp only [push_cast]; done)
      refine awp_seq' fun K hK => ?_
      refine awp_region tyOk tyPos [] rfl ?_
      all_goals simp only [push_cast, ↓brB_true, ↓brB_false, ↓reduceIte, zA, zB, zC, zD, zE, zF, zG, zH, zI, reduceCtorEq]
      all_goals repeat' (first | (apply brB_mk <;> (intro hg; (try simp only [push_cast] at hg))) | apply And.intro | (intro hg; (try simp only [push_cast] at hg)))
      all_goals first | exact gA | (exact getE_dII (by omega)) | skip
      all_goals first | (refine hK _ ?_; clear hK K) | (simp only [push_cast]; done)
      refine awp_block ?_
      refine awp_loopU [4,6,7,33,34,35,36,37,38,39,40,41,42,43,44,45,46,47,48,49,50,51,52,53,54,55,56,57,58,59,60,61,62,63,64] [67,68] (fun (i : Nat) => [(6, .int .i64 i), (4, .bp 4 0)]) (fun i => [(4, [.sl 0 [] 0 n 2, .sl 2 [] 0 n 2, .sl 1 [] 0 n 27, .sl 67 [] 0 n 27, .sl 68 [] 0 n 2])]) (fun i => [(67, ⟨.ex, 27, dII (prvI g.a n v i), none⟩), (68, ⟨.ex, 2, dI (pkI n (v + 1)), none⟩)]) (fun i => i ≤ (gl g.a.next v).length) (fun i => (gl g.a.next v).length - i) 0 ?_ (by omega) ?_
      ·
        rw [pkI_set (by omega)]
        refine cov_of rfl ?_ ?_ ?_ <;> simp only [covS, covL, push_cast, ↓brB_true, ↓brB_false, ↓reduceIte, zA, zB, zC, zD, zE, zF, zG, zH, zI, reduceCtorEq]
      · rintro i hi KL1 hL1
        have hpv := prvI_len g.a n v i
        have hpk := pkI_len (n := n) (v := v + 1) (by omega)
        simp only [push_cast, ↓brB_true, ↓brB_false, ↓reduceIte, zA, zB, zC, zD, zE, zF, zG, zH, zI, reduceCtorEq]
        refine awp_seq' fun K4 hK4 => ?_
        refine awp_seq' fun K hK => ?_
        refine awp_region tyOk tyPos [] rfl ?_
        all_goals simp only [push_cast, ↓brB_true, ↓brB_false, ↓reduceIte, zA, zB, zC, zD, zE, zF, zG, zH, zI, reduceCtorEq]
        all_goals repeat' (first | (apply brB_mk <;> (intro hg; (try simp only [push_cast] at hg))) | apply And.intro | (intro hg; (try simp only [push_cast] at hg)))
        all_goals first | exact gA | (exact getE_dII (by omega)) | skip
        all_goals first | (refine hK _ ?_; clear hK K) | (simp only [push_cast]; done)
        refine awp_cond rfl (fun hc => ?_) (fun hc => ?_) <;> (try simp only [push_cast] at hc)
        ·
          refine awp_skip ?_
          (try simp only [AThen, ABlk, reduceIte, zF]); refine hK4 _ ?_
          refine awp_seq' fun K5 hK5 => ?_
          refine awp_block ?_
          refine awp_seq' fun K hK => ?_
          refine awp_region tyOk tyPos [] rfl ?_
          all_goals simp only [push_cast, ↓brB_true, ↓brB_false, ↓reduceIte, zA, zB, zC, zD, zE, zF, zG, zH, zI, reduceCtorEq]
          all_goals repeat' (first | (apply brB_mk <;> (intro hg; (try simp only [push_cast] at hg))) | apply And.intro | (intro hg; (try simp only [push_cast] at hg)))
          all_goals first | exact gA | (exact getE_dII (by omega)) | skip
          all_goals first | (refine hK _ ?_; clear hK K) | (simp only [push_cast]; done)
          have hrv := (hrow v (by omega)).2.1
          have hst := hset v i (by omega) (by omega)
          have hps := prvI_step hao (n := n) (v := v) (i := i) (by omega) (by omega) (by omega)
          have hpe : (gl (prvI g.a n v i) (gi (gl g.a.next v) i).toNat).length ≤ v + 1 := by rw [prvI_gl (by omega)]; exact prvE_len _ _ _ _
          refine awp_regionD1 true tyOk tyPos tyMix ?_ rfl ?_
          · kernel_rfl
          intro E hE
          all_goals simp only [push_cast, ↓brB_true, ↓brB_false, ↓reduceIte, zA, zB, zC, zD, zE, zF, zG, zH, zI, reduceCtorEq]
          all_goals repeat' (first | (apply brB_mk <;> (intro hg; (try simp only [push_cast] at hg))) | apply And.intro | (intro hg; (try simp only [push_cast] at hg)))
          all_goals first | exact gA | (refine hE _ _ ?_ ?_; kernel_rfl) | (rw [List.length_set, len_dII]; omega) | (exact getE_dII (by omega)) | skip
          all_goals clear hE E
          (try simp only [AThen, ABlk, reduceIte, zF]); refine hK5 _ ?_
          refine awp_region tyOk tyPos [] rfl ?_
          all_goals simp only [push_cast, ↓brB_true, ↓brB_false, ↓reduceIte, zA, zB, zC, zD, zE, zF, zG, zH, zI, reduceCtorEq]
          all_goals repeat' (first | (apply brB_mk <;> (intro hg; (try simp only [push_cast] at hg))) | apply And.intro | (intro hg; (try simp only [push_cast] at hg)))
          all_goals first | exact gA | (exact getE_dII (by omega)) | skip
          refine hL1 _ ⟨i + 1, by omega, by omega, ?_⟩
          refine cov_of rfl ?_ ?_ ?_ <;> simp only [covS, covL, push_cast, ↓brB_true, ↓brB_false, ↓reduceIte, zA, zB, zC, zD, zE, zF, zG, zH, zI, reduceCtorEq]
          all_goals (rw [row_hole (by omega) (by rw [List.length_append]; exact Nat.le_refl _), hps])
        ·
          refine awp_exit ?_
          have hii : i = (gl g.a.next v).length := by omega
          subst hii
          rw [prvI_next]
          (try simp only [AThen, ABlk, reduceIte, zF]); refine hK3 _ ?_
          refine awp_region tyOk tyPos [] rfl ?_
          all_goals simp only [push_cast, ↓brB_true, ↓brB_false, ↓reduceIte, zA, zB, zC, zD, zE, zF, zG, zH, zI, reduceCtorEq]
          all_goals repeat' (first | (apply brB_mk <;> (intro hg; (try simp only [push_cast] at hg))) | apply And.intro | (intro hg; (try simp only [push_cast] at hg)))
          all_goals first | exact gA | (exact getE_dII (by omega)) | skip
          refine hL0 _ ⟨v + 1, by omega, by omega, ?_⟩
          refine cov_of rfl ?_ ?_ ?_ <;> simp only [covS, covL, push_cast, ↓brB_true, ↓brB_false, ↓reduceIte, zA, zB, zC, zD, zE, zF, zG, zH, zI, reduceCtorEq]
    ·
      refine awp_exit ?_
      have hvv : v = n := by omega
      subst hvv
      (try simp only [AThen, ABlk, reduceIte, zF]); refine hK1 _ ?_
      refine awp_seq' fun K hK => ?_
      refine awp_region tyOk tyPos [32, 33, 34] rfl ?_
      simp only [push_cast, ↓brB_true, ↓brB_false, ↓reduceIte, zA, zB, zC, zD, zE, zF, zG, zH, zI, reduceCtorEq]
      repeat' apply And.intro
      all_goals try exact gB
      all_goals first | (refine hK _ ?_; clear hK K) | (simp only [push_cast]; done)
      refine awp_ret ?_
      (try simp only [AThen, ABlk])
      refine ⟨Or.inl rfl, ?_⟩
      simp only [RetT, resVars, resVar, shOkT, retCells, retCell, push_cast, ↓brB_true, ↓brB_false, ↓reduceIte, zA, zB, zC, zD, zE, zF, zG, zH, zI, reduceCtorEq]
      rw [pkI_n]
      exact ⟨⟨by omega, by omega, by omega⟩, by omega, rfl, by rw [noP_len]⟩
end Go.Proofs.Ytdbecmmeifdafaa

namespace Go.Proofs.Ytdbecmmeifdafaa
open Nat renaming reduceMod → zA, reduceMul → zB, reduceDiv → zC, reduceAdd → zD, reduceSub → zE, reduceEqDiff → zF, reduceBEq → zG, reduceLT → zH, reduceLeDiff → zI
open Go.RowKit
set_option linter.unusedVariables false
set_option linter.unusedSimpArgs false

end Go.Proofs.Ytdbecmmeifdafaa

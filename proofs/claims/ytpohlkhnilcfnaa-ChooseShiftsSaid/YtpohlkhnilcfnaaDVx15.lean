/- Lemmas of a small executor for the model, and contracts of functions, used for the law that this claim proves. No condition. -/
import Derived.Test.YtpohlkhnilcfnaaDVx18
set_option linter.unusedSimpArgs false
set_option linter.unusedVariables false
namespace Go.Vx
variable {P : Program}

theorem awp_sound {T : Tab} (hT : TabOK P T) {C : Cx} {n : Nat} : ∀ (c : Code) (K : Ex → St → Prop) (Q : Exit → Act → World → Prop), (∀ e ι s a w, K e s → SR C n ι s a w → Q (exOf e) a w) →
    ∀ (ι : Lay) (s : St) (a : Act) (w : World), SR C n ι s a w → awp P T n C.L0 c K s → c.wp P Q a w
  | .skip, K, Q, hQ, ι, s, a, w, h, hk => wp_skip (hQ .normal ι s a w hk h)
  | .region id ops draw, K, Q, hQ, ι, s, a, w, h, hk => by
    cases draw with
    | false =>
      refine wp_region ?_
      have := regK_sound (P := P) hT ops (K := K .normal) (Q := Q) (fun ι s a w h1 h2 => hQ .normal ι s a w h1 h2) ops.toList 0 rfl ι s a w h hk
      simpa using this
    | true => exact draw_sound hT (fun ι s a w h1 h2 => hQ .normal ι s a w h1 h2) h ((forceN_iff _ _).1 hk)
  | .seq x y, K, Q, hQ, ι, s, a, w, h, hk => by
    have direct : ∀ (hk : awp P T n C.L0 x (fun e s' => match e with
        | .normal => awp P T n C.L0 y K s'
        | .exit id => K (.exit id) s'
        | .ret => K .ret s') s), (Code.seq x y).wp P Q a w := fun hk => by
      refine wp_seq (awp_sound hT x _ _ (fun e ι s a w h1 h2 => ?_) ι s a w h hk)
      cases e with
      | normal => exact awp_sound hT y K Q hQ ι s a w h2 h1
      | exit id => exact hQ (.exit id) ι s a w h1 h2
      | ret => exact hQ .ret ι s a w h1 h2
    simp only [awp] at hk
    split at hk
    · rcases stop_out hk with hk | ⟨σ, S, h1, h2⟩
      · exact direct hk
      · refine wp_seq (awp_sound hT x _ _ (fun e ι s a w g1 g2 => ?_) ι s a w h h1)
        cases e with
        | normal =>
          obtain ⟨y', hle⟩ := stop_out g1
          obtain ⟨ι', hs'⟩ := Le_SR g2 hle
          exact awp_sound hT y K Q hQ ι' _ a w hs' (h2 y')
        | exit id => exact hQ (.exit id) ι s a w g1 g2
        | ret => exact hQ .ret ι s a w g1 g2
    · exact direct hk
  | .cond c x y, K, Q, hQ, ι, s, a, w, h, hk => by
    simp only [awp] at hk
    have hv := rel_ev h.tm c
    split at hk
    · rename_i t hc
      rw [hc] at hv
      simp only [rel] at hv
      cases t with
      | true => exact wp_cond_true hv (awp_sound hT x K Q hQ ι s a w h hk)
      | false => exact wp_cond_false hv (awp_sound hT y K Q hQ ι s a w h hk)
    · rename_i t hc
      rw [hc] at hv
      simp only [rel] at hv
      cases t with
      | true => exact wp_cond_true hv (awp_sound hT x K Q hQ ι s a w h (bcase_iff_true (stop_out hk)))
      | false => exact wp_cond_false hv (awp_sound hT y K Q hQ ι s a w h (bcase_iff_false (stop_out hk)))
    · exact hk.elim
  | .block id b, K, Q, hQ, ι, s, a, w, h, hk => by
    refine wp_block (awp_sound hT b _ _ (fun e ι s a w h1 h2 => ?_) ι s a w h hk)
    cases e with
    | normal => exact hQ .normal ι s a w h1 h2
    | exit id' =>
      simp only at h1
      cases hb : Nat.beq id' id with
      | true =>
        have e1 := Nat.eq_of_beq_eq_true hb
        subst e1
        simp only [hb, cond_true] at h1
        simp only [exOf, Exit.inBlock, if_true]
        exact hQ .normal ι s a w h1 h2
      | false =>
        have e1 : id' ≠ id := fun e => by subst e; rw [Nat.beq_refl] at hb; cases hb
        simp only [hb, cond_false] at h1
        simp only [exOf, Exit.inBlock, if_neg e1]
        exact hQ (.exit id') ι s a w h1 h2
    | ret => exact hQ .ret ι s a w h1 h2
  | .loop b, K, Q, hQ, ι, s, a, w, h, hk => by
    rcases stop_out hk with ⟨σ, S, μ, ⟨x0, hx0⟩, hround⟩ | ⟨n0, hn0⟩
    rotate_left
    · refine wp_loop_rel (fun m a w => ∃ s ι, SR C n ι s a w ∧ loopU (awp P T n C.L0 b) K m s) n0 ⟨s, ι, h, hn0⟩ ?_
      rintro m a w ⟨s, ι, hs, hm⟩
      cases m with
      | zero => exact hm.elim
      | succ m =>
        refine awp_sound hT b _ _ (fun e ι s' a w h1 h2 => ?_) ι _ a w hs hm
        cases e with
        | normal => exact ⟨m, Nat.lt_succ_self m, s', ι, h2, h1⟩
        | exit id => exact hQ (.exit id) ι s' a w h1 h2
        | ret => exact hQ .ret ι s' a w h1 h2
    obtain ⟨ι0, h0⟩ := Le_SR h hx0
    refine wp_loop_rel (fun m a w => ∃ x ι, μ x = m ∧ SR C n ι (S x).st a w) (μ x0) ⟨x0, ι0, rfl, h0⟩ ?_
    rintro m a w ⟨x, ι, rfl, hs⟩
    refine awp_sound hT b _ _ (fun e ι s' a w h1 h2 => ?_) ι _ a w hs (hround x)
    cases e with
    | normal =>
      obtain ⟨y, hlt, hle⟩ := stop_out h1
      obtain ⟨ι', hs'⟩ := Le_SR h2 hle
      exact ⟨μ y, hlt, y, ι', rfl, hs'⟩
    | exit id => exact hQ (.exit id) ι s' a w h1 h2
    | ret => exact hQ .ret ι s' a w h1 h2
  | .exit id, K, Q, hQ, ι, s, a, w, h, hk => wp_exit (hQ (.exit id) ι s a w hk h)
  | .ret, K, Q, hQ, ι, s, a, w, h, hk => wp_ret (hQ .ret ι s a w hk h)
  | .label l, K, Q, hQ, ι, s, a, w, h, hk => wp_label (hQ .normal ι s a w hk h)
  | .rangeFunc .., _, _, _, _, _, _, _, _, hk => hk.elim
  | .scope _, _, _, _, _, _, _, _, _, hk => hk.elim
  | .goto _, _, _, _, _, _, _, _, _, hk => hk.elim
  | .refuse _, _, _, _, _, _, _, _, _, hk => hk.elim

theorem readCells_agg {T : Tab} (hT : TabOK P T) {ι : Lay} {bs : Nat → Blk} {w : World} {t : TypeId} {d : TyD} (ht : T.get t = some d) {b e i j : Nat} {p : List Prop} {cs : List AV} (hb : BR ι w b (bs b))
    (hr : readCells (bs b) e i j d.sz = some (p, cs)) (hp : holdsL p) (hs : d.k.agg = true ∨ d.sz = 1) {c : Value} (hc : rel ι (.ptr b e i j) c) : ∃ u ad, c = .pointer (some ad) ∧ (loadVar t ad).run P w = .ok u w ∧ rel ι (mkAgg d.k.agg cs) u := by
  obtain ⟨l, us, h1, h2, h3, h4⟩ := read_ok hb hr hp
  simp only [rel] at hc
  obtain ⟨l', hl', rfl⟩ := hc
  rw [h1] at hl'; cases hl'
  have htk := Tab.get_ok hT ht
  have hrun := run_loadCells_list (P := P) w (⟨l.g, l.o + (i * e + j), none⟩ : Addr) us (fun m u hu => (h3 m u hu).1)
  rw [h2] at hrun
  cases ha : d.k.agg with
  | true =>
    refine ⟨.agg us.toArray, _, rfl, by simp [loadVar, tk_agg htk, tk_size htk, ha, hrun], ?_⟩
    simp only [mkAgg, rel]
    exact ⟨us, rfl, h4, fun u hu => by obtain ⟨m, hm⟩ := List.mem_iff_getElem?.1 hu; exact (h3 m u hm).2⟩
  | false =>
    have h1z : d.sz = 1 := by simpa [ha] using hs
    match us, h2.trans h1z with
    | [u], _ =>
      have hcell := (h3 0 u rfl).1
      rw [Addr.add_zero'] at hcell
      refine ⟨u, _, rfl, by simp [loadVar, tk_agg htk, ha, hcell], ?_⟩
      match cs, relL_length _ _ h4 with
      | [v], _ => exact (relL_cons.1 h4).1

def resSem (tmps : Array Value) : ResultVar → Sem Value
  | .tmp t => pure (tmps.getD t undef)
  | .cell a t => do loadVar t (← asAddr (tmps.getD a undef))
theorem results_eq (fn : Func) (tmps : Array Value) : results fn tmps = (do let vs ← fn.results.mapM (resSem tmps); pure (if h : vs.size = 1 then vs[0] else .tuple vs)) := by
  unfold results
  congr 1

theorem holdsL_append : ∀ {l r : List Prop}, holdsL (l ++ r) → holdsL l ∧ holdsL r
  | [], _, h => ⟨trivial, h⟩
  | _ :: _, _, h => ⟨⟨h.1, (holdsL_append h.2).1⟩, (holdsL_append h.2).2⟩

theorem resVals_run {T : Tab} (hT : TabOK P T) {C : Cx} {n : Nat} {ι : Lay} {s : St} {a : Act} {w : World} (h : SR C n ι s a w) : ∀ (rs : List ResultVar) (p : List Prop) (vs : List AV), resVals T s rs = some (p, vs) → holdsL p →
    ∃ us, (rs.mapM (resSem a.tmps)).run P w = .ok us w ∧ relL ι vs us
  | [], p, vs, hr, _ => by
    simp only [resVals, Option.some.injEq, Prod.mk.injEq] at hr
    obtain ⟨_, rfl⟩ := hr
    exact ⟨[], rfl, by simp [relL]⟩
  | .tmp t :: r, p, vs, hr, hp => by
    simp only [resVals] at hr
    split at hr
    · rename_i p' vs' h1
      simp only [Option.some.injEq, Prod.mk.injEq] at hr
      obtain ⟨rfl, rfl⟩ := hr
      obtain ⟨us, q1, q2⟩ := resVals_run hT h r _ _ h1 hp
      refine ⟨a.tmps.getD t undef :: us, ?_, relL_cons.2 ⟨h.tm t, q2⟩⟩
      rw [List.mapM_cons]
      simp only [Sem.run_bind, resSem, Sem.run_pure, Result.andThen_ok, q1]
    · cases hr
  | .cell x t :: r, p, vs, hr, hp => by
    simp only [resVals] at hr
    split at hr
    · rename_i p' vs' d b e i j h1 h2 h3
      split at hr
      · rename_i q cs h4
        obtain ⟨hp3, hr⟩ := bif_some hr
        simp only [Prod.mk.injEq] at hr
        obtain ⟨rfl, rfl⟩ := hr
        simp only [Bool.or_eq_true] at hp3
        have hp3 := hp3.imp id Nat.eq_of_beq_eq_true
        obtain ⟨hp2, hp1⟩ := holdsL_append hp
        obtain ⟨us, q1, q2⟩ := resVals_run hT h r _ _ h1 hp1
        have hv := h.tm x
        rw [h3] at hv
        obtain ⟨u, ad, e1, e2, e3⟩ := readCells_agg hT h2 (h.wr.br b) h4 hp2 hp3 hv
        refine ⟨u :: us, ?_, relL_cons.2 ⟨e3, q2⟩⟩
        rw [List.mapM_cons]
        have e0 : (asAddr (a.tmps.getD x undef)).run P w = .ok ad w := by rw [e1]; rfl
        simp only [Sem.run_bind, resSem, e0, Sem.run_pure, Result.andThen_ok, e2, q1]
      · cases hr
    · cases hr

def resOf : List Value → Value
  | [v] => v
  | us => .tuple us.toArray

/-- A function's contract, from its body. -/
theorem Runs.mk {T : Tab} (hT : TabOK P T) {g : FuncId} {fn : Func} {c : Code} (hcf : ∀ as w, (callFunc g as).run P w = .ok (.enter g as) w) (hf : P.funcs[g]? = some fn) (hb : fn.body = some c) {args : List AV} {L : List Blk} {R : AV → List Blk → Prop}
    {n : Nat} {rs : Array ResultVar} (hn0 : fn.ntmps = n) (hr0 : fn.results = rs) (hn : Nat.ble args.length n = true) (h : awp P T n L c (retK T rs.toList L R) ⟨argL args, blL L, L.length⟩) : Runs P g args L R := by
  subst hn0
  subst hr0
  have hn := Nat.le_of_ble_eq_true hn
  refine ⟨hcf, fun w ι cs hw hd ha => ?_⟩
  let C : Cx := ⟨w, ι, L⟩
  have hlen := relL_length _ _ ha
  have h0 : SR C fn.ntmps ι ⟨argL args, blL L, L.length⟩ { tmps := cs.toArray ++ Array.replicate (fn.ntmps - cs.toArray.size) undef, defers := [] } w := {
    size := by simp; omega
    defers := rfl
    tm := fun t => by
      have key : ∀ (vs : List AV) (us : List Value), relL ι vs us → ∀ t, rel ι (argL vs t) (us.getD t undef) := by
        intro vs
        induction vs with
        | nil => intro us _ t; simp [argL, rel]
        | cons v vs ih =>
          intro us h t
          simp only [relL] at h
          obtain ⟨c, r, rfl, h1, h2⟩ := h
          cases t with
          | zero => exact h1
          | succ t => simpa [argL] using ih r h2 t
      have := key args cs ha t
      rw [Array.getD_eq_getD_getElem?, Array.getElem?_append]
      rw [List.getD_eq_getElem?_getD] at this
      by_cases ht : t < cs.length
      · simpa [ht] using this
      · have hdead : argL args t = .dead := by
          have : ∀ (vs : List AV) t, vs.length ≤ t → argL vs t = .dead := by
            intro vs
            induction vs with
            | nil => intro t _; rfl
            | cons v vs ih => intro t ht; cases t with
              | zero => simp at ht
              | succ t => exact ih t (by simpa using ht)
          exact this args t (by omega)
        simp only; rw [hdead]; simp [rel]
    wr := hw
    dom := fun b hb => ⟨hd b hb, by
      have : ∀ (l : List Blk) b, l.length ≤ b → blL l b = .gone := by
        intro l
        induction l with
        | nil => intro b _; rfl
        | cons k l ih => intro b hb; cases b with
          | zero => simp at hb
          | succ b => exact ih b (by simpa using hb)
      exact this L b hb⟩
    low := fun _ _ => rfl
    k0 := Nat.le_refl _
    rwi := fun b hb => by
      show (blL L b).rw = true ∨ (b < L.length ∧ (blL L b).rw = false)
      by_cases hr : (blL L b).rw = true
      · exact .inl hr
      · exact .inr ⟨blL_live_lt L b hb, by simpa using hr⟩ }
  refine calls_of_wp hf hb (awp_sound hT (C := C) c _ _ (fun e ι' s a w' h1 h2 => ?_) ι _ _ w h0 h)
  have fin : (match resVals T s fn.results.toList with
      | some (p, vs) => andL p (forceL vs fun vs => stop (∃ (V : AV) (Bl : List Blk) (xs : Ix), keepsIds L.length 0 xs = true ∧ xs.nodup = true ∧ rwOK L Bl ∧ sub xs.at V (mkRes vs) ∧ subB xs.at s.bs xs Bl ∧ R V Bl))
      | none => False) → a.defers = [] ∧ ∃ v, (results fn a.tmps).run P w' = .ok v w' ∧ ∃ V Bl v' ι', Ending.returned v = .returned v' ∧ R V Bl ∧ L.length ≤ Bl.length ∧ rel ι' V v' ∧ (∀ b, b < L.length → ι' b = ι b) ∧ (∀ b, Bl.length ≤ b → ι' b = none) ∧
      (∀ b, (blL Bl b).live = true → (blL Bl b).rw = true ∨ (b < L.length ∧ (blL L b).rw = false)) ∧ WR (ambOf ι (blL L) w) ι' (blL Bl) w' := by
    intro hk
    split at hk
    · rename_i p vs hrv
      obtain ⟨hp, hk'⟩ := andL_iff _ _ hk
      obtain ⟨V, Bl, xs, k1, k2, k3, k4, k5, k6⟩ := stop_out ((forceL_iff _ _).1 hk')
      obtain ⟨us, q1, q2⟩ := resVals_run hT h2 _ _ _ hrv hp
      obtain ⟨r1, r2, r3, r4, r5⟩ := h2.low_sub k1 k2 k3 k5
      refine ⟨h2.defers, resOf us, ?_, V, Bl, _, layOf xs.at ι', rfl, k6, r3, sub_rel _ _ _ k4 ?_, r2, fun b hb => (r4 b hb).1, r5, r1⟩
      · rw [results_eq, Array.mapM_eq_mapM_toList]
        simp only [Sem.run_bind, Sem.run_map, q1, Result.andThen_ok, Sem.run_pure]
        congr 1
        match us with
        | [] => rfl
        | [v] => rfl
        | v :: u :: r => rfl
      · match vs, us, q2 with
        | [], us, q2 => simp only [relL] at q2; subst q2; simp only [mkRes, rel]; exact ⟨[], rfl, by simp [relL]⟩
        | [v], us, q2 =>
          simp only [relL] at q2
          obtain ⟨c, r, rfl, e1, rfl⟩ := q2
          exact e1
        | v :: v' :: r, us, q2 =>
          have hl := relL_length _ _ q2
          match us, hl with
          | u :: u' :: r', _ => simp only [mkRes, rel]; exact ⟨_, rfl, q2⟩
    · exact hk.elim
  cases e with
  | normal => exact fin h1
  | exit id => exact h1.elim
  | ret => exact fin h1

end Go.Vx

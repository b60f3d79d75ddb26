/- Lemmas of a small executor for the model, and contracts of functions, used for the law that this claim proves. No condition. -/
import Derived.Test.YtpohlkhnilcfnaaDVx11
set_option linter.unusedSimpArgs false
set_option linter.unusedVariables false
namespace Go.Vx
variable {P : Program}

/-- What a call of a function began with. -/
structure Cx where
  w0 : World
  ι0 : Lay
  L0 : List Blk
def Cx.amb (C : Cx) : Amb := ambOf C.ι0 (blL C.L0) C.w0

/-- A state, in a frame and a world. -/
structure SR (C : Cx) (n : Nat) (ι : Lay) (s : St) (a : Act) (w : World) : Prop where
  size : a.tmps.size = n
  defers : a.defers = []
  tm : ∀ t, rel ι (s.tm t) (a.tmps.getD t undef)
  wr : WR C.amb ι s.bs w
  dom : ∀ b, s.f ≤ b → ι b = none ∧ s.bs b = .gone
  low : ∀ b, b < C.L0.length → ι b = C.ι0 b
  k0 : C.L0.length ≤ s.f
  rwi : ∀ b, (s.bs b).live = true → (s.bs b).rw = true ∨ (b < C.L0.length ∧ (blL C.L0 b).rw = false)

theorem rel_cv (ι : Lay) (v : Value) : rel ι (cv v) v := by
  cases v <;> simp only [cv, rel]
  case agg cs =>
    cases h : cs.toList.all Value.oneCell' with
    | false => simp [rel]
    | true =>
      simp only [cond_true, rel]
      refine ⟨cs.toList, by simp, relL_map_val _ _, fun u hu => ?_⟩
      simp only [List.all_eq_true] at h
      exact h u hu
  case tuple cs => exact ⟨cs.toList, by simp, relL_map_val _ _⟩

theorem rel_ev {ι : Lay} {s : St} {a : Act} (h : ∀ t, rel ι (s.tm t) (a.tmps.getD t undef)) : ∀ x, rel ι (s.ev x) (a.eval x)
  | .tmp t => h t
  | .const v => rel_cv ι v
  | .func f => by simp only [St.ev, Act.eval, rel]; exact ⟨[], rfl, rfl⟩
  | .global _ => by simp [St.ev, rel]

theorem relL_map {ι : Lay} {ρ : Operand → AV} {ca : Operand → Value} (h : ∀ x, rel ι (ρ x) (ca x)) : ∀ l : List Operand, relL ι (l.map ρ) (l.map ca)
  | [] => by simp [relL]
  | x :: r => by simp only [List.map_cons]; exact relL_cons.2 ⟨h x, relL_map h r⟩

theorem relL_append {ι : Lay} : ∀ {vs us : List AV} {cs ds : List Value}, relL ι vs cs → relL ι us ds → relL ι (vs ++ us) (cs ++ ds)
  | [], us, cs, ds, h, h' => by simp only [relL] at h; subst h; exact h'
  | v :: vs, us, cs, ds, h, h' => by
    simp only [relL] at h
    obtain ⟨c, r, rfl, h1, h2⟩ := h
    exact relL_cons.2 ⟨h1, relL_append h2 h'⟩

theorem updT_same (tm : Nat → AV) (d : Nat) (v : AV) : updT tm d v d = v := by simp [updT]
theorem updT_ne (tm : Nat → AV) (d : Nat) (v : AV) {t : Nat} (h : t ≠ d) : updT tm d v t = tm t := by
  have : Nat.beq t d = false := by
    cases hb : Nat.beq t d
    · rfl
    · exact absurd (Nat.eq_of_beq_eq_true hb) h
  simp [updT, this]

theorem rel_put {ι : Lay} {tm : Nat → AV} {a : Act} {n : Nat} (hs : a.tmps.size = n) (h : ∀ t, rel ι (tm t) (a.tmps.getD t undef)) {dst : Option Tmp} (hd : dstOK n dst = true) {v : AV} {c : Value} (hv : rel ι v c) :
    ∀ t, rel ι (putD tm dst v t) ((a.put dst c).tmps.getD t undef) := by
  intro t
  cases dst with
  | none => exact h t
  | some d =>
    have hlt : d < a.tmps.size := by rw [hs]; simp only [dstOK, Nat.blt] at hd; exact Nat.le_of_ble_eq_true hd
    simp only [putD, Act.put]
    by_cases e : t = d
    · subst e
      rw [updT_same]
      simpa [Array.getD_eq_getD_getElem?, Array.getElem?_setIfInBounds_self_of_lt hlt] using hv
    · rw [updT_ne _ _ _ e]
      have := h t
      simpa [Array.getD_eq_getD_getElem?, Array.getElem?_setIfInBounds_ne (Ne.symm e)] using this

theorem put_size (a : Act) (dst : Option Tmp) (c : Value) : (a.put dst c).tmps.size = a.tmps.size := by cases dst <;> simp [Act.put]
theorem put_defers (a : Act) (dst : Option Tmp) (c : Value) : (a.put dst c).defers = a.defers := by cases dst <;> rfl

/-- The state behind an operation whose blocks have the numbers from f to f'. -/
theorem SR.stepAt {C : Cx} {n : Nat} {ι ι' : Lay} {s : St} {a : Act} {w w' : World} (h : SR C n ι s a w) {up : List (Nat × Blk)} {f f' F : Nat} (hk : C.L0.length ≤ f) (hff : f ≤ f') (hF : f' ≤ F) (hsF : s.f ≤ F)
    (hn : ∀ b, f ≤ b → b < f' → ι b = none ∧ s.bs b = .gone) (hd : Delta ι s.bs f f' w ι' up w') {dst : Option Tmp} (hdst : dstOK n dst = true) {v : AV} {c : Value} (hv : rel ι' v c) :
    SR C n ι' ⟨putD s.tm dst v, updL s.bs up, F⟩ (a.put dst c) w' := by
  obtain ⟨hext, hwr⟩ := hd.wr hn h.wr
  exact {
    size := by rw [put_size]; exact h.size
    defers := by rw [put_defers]; exact h.defers
    tm := rel_put h.size (fun t => rel_ext hext _ _ (h.tm t)) hdst hv
    wr := hwr
    dom := fun b hb => by
      simp only at hb
      obtain ⟨h1, h2⟩ := h.dom b (by omega)
      refine ⟨by rw [hd.ext b (by omega)]; exact h1, ?_⟩
      rcases updL_cases s.bs up b with ⟨k, q1, _⟩ | ⟨_, q2⟩
      · rcases hd.upr b k q1 with q | q
        · omega
        · rw [h2] at q; cases q
      · exact q2.trans h2
    low := fun b hb => by rw [hd.ext b (by omega)]; exact h.low b hb
    k0 := by simp only; omega
    rwi := fun b hb => by
      simp only at hb ⊢
      rcases updL_cases s.bs up b with ⟨k, q1, q2⟩ | ⟨_, q2⟩
      · rw [q2] at hb ⊢; exact .inl (hd.rwn b k q1 hb)
      · rw [q2] at hb ⊢; exact h.rwi b hb }

theorem SR.step {C : Cx} {n : Nat} {ι ι' : Lay} {s : St} {a : Act} {w w' : World} (h : SR C n ι s a w) {up : List (Nat × Blk)} {f' : Nat} (hff : s.f ≤ f') (hd : Delta ι s.bs s.f f' w ι' up w') {dst : Option Tmp} (hdst : dstOK n dst = true) {v : AV} {c : Value} (hv : rel ι' v c) :
    SR C n ι' ⟨putD s.tm dst v, updL s.bs up, f'⟩ (a.put dst c) w' :=
  h.stepAt h.k0 hff (Nat.le_refl _) hff (fun b h1 _ => h.dom b h1) hd hdst hv

theorem callOf_some {op : Op} {fo : Operand} {as : List Operand} (h : callOf op = some (fo, as)) : ∃ args tys, op = .call { callee := .value fo, args := args, argTypes := tys } ∧ as = args.toList := by
  unfold callOf at h
  split at h
  · simp only [Option.some.injEq, Prod.mk.injEq] at h
    obtain ⟨rfl, rfl⟩ := h
    exact ⟨_, _, rfl, rfl⟩
  · cases h

theorem opK_sound {T : Tab} (hT : TabOK P T) {C : Cx} {n : Nat} {ι : Lay} {s : St} {a : Act} {w : World} (h : SR C n ι s a w) {o : Oper} (hdst : dstOK n o.dst = true) {K : St → Prop}
    (hk : opK P T o s.f s.ev s.bs fun v up f => forceV v fun v => forceU up fun up => forceN f fun f => K ⟨putD s.tm o.dst v, updL s.bs up, f⟩) {next : Act → World → Prop} {Q : Exit → Act → World → Prop}
    (hnext : ∀ ι' s' a' w', K s' → SR C n ι' s' a' w' → next a' w') : o.wp P a w next Q := by
  have hev := rel_ev h.tm
  unfold opK at hk
  split at hk
  · rename_i fo as hc
    obtain ⟨args, tys, hop, rfl⟩ := callOf_some hc
    split at hk
    · rename_i g caps hf
      have hfr := hev fo
      rw [hf] at hfr
      simp only [rel] at hfr
      obtain ⟨us, hfv, hus⟩ := hfr
      have hargs : relL ι (args.toList.map s.ev ++ caps) (args.toList.map a.eval ++ us) := relL_append (relL_map hev _) hus
      obtain ⟨hcf, hcall⟩ := call_sound h.wr h.dom hargs (stop_out ((forceL_iff _ _).1 hk))
      have hrun : (execOp a.eval o).run P w = .ok (.enter g (args.toList.map a.eval ++ us).toArray) w := by
        have e1 : (#[] ++ args.map a.eval : Array Value) ++ us.toArray = (args.toList.map a.eval ++ us).toArray := by
          apply Array.ext'; simp
        simp only [execOp, hop, resolve, hfv, Deferred.ofValue, Sem.run_bind, Sem.run_pure, Result.andThen_ok, invoke, e1, hcf]
      unfold Oper.wp
      rw [hrun]
      simp only [Oper.upon]
      refine hcall.mono ?_
      rintro e w' ⟨V, up, f', c, ι', rfl, hK, hff, hv, hd⟩
      exact hnext ι' _ _ _ ((forceN_iff _ _).1 ((forceU_iff _ _).1 ((forceV_iff _ _).1 hK))) (h.step hff hd hdst hv)
    · exact hk.elim
  · split at hk
    · rename_i p len hnil
      obtain ⟨nb, hz, c, hr, hv⟩ := nilCmp_run (w := w) hT hev hnil
      have hK := stop_out hk nb hz
      unfold Oper.wp
      rw [hr]
      have hfree : ∀ b, s.f ≤ b → b < s.f → ι b = none ∧ s.bs b = .gone := fun b h1 h2 => by omega
      exact hnext ι _ _ _ ((forceN_iff _ _).1 ((forceU_iff _ _).1 ((forceV_iff _ _).1 hK))) (h.step (Nat.le_refl _) (Delta.refl hfree) hdst hv)
    · split at hk
      · rename_i q v z hlk
        obtain ⟨c, hr, hv1, hv2⟩ := mapLk_run (w := w) hT hev h.wr.br hlk
        have hK := stop_out hk
        unfold Oper.wp
        rw [hr]
        have hfree : ∀ b, s.f ≤ b → b < s.f → ι b = none ∧ s.bs b = .gone := fun b h1 h2 => by omega
        cases q with
        | true => exact hnext ι _ _ _ ((forceN_iff _ _).1 ((forceU_iff _ _).1 ((forceV_iff _ _).1 (bcase_iff_true hK)))) (h.step (Nat.le_refl _) (Delta.refl hfree) hdst (hv1 rfl))
        | false => exact hnext ι _ _ _ ((forceN_iff _ _).1 ((forceU_iff _ _).1 ((forceV_iff _ _).1 (bcase_iff_false hK)))) (h.step (Nat.le_refl _) (Delta.refl hfree) hdst (hv2 rfl))
      split at hk
      · rename_i p v up ha
        obtain ⟨hp, hK⟩ := andL_iff _ _ hk
        obtain ⟨c, w', ι', hr, hv, hd⟩ := aop_sound (f' := bump o.op s.f) hT hev (fun b h1 _ => h.dom b h1) h.wr.br h.wr.lt ha hp (Nat.le_refl _)
        unfold Oper.wp
        rcases hr with hr | ⟨hr, rfl⟩
        · rw [hr]; exact hnext ι' _ _ _ ((forceN_iff _ _).1 ((forceU_iff _ _).1 ((forceV_iff _ _).1 hK))) (h.step (bump_le _ _) hd hdst hv)
        · rw [hr]; exact hnext ι' _ _ _ ((forceN_iff _ _).1 ((forceU_iff _ _).1 ((forceV_iff _ _).1 hK))) (h.step (bump_le _ _) hd hdst hv)
      · exact hk.elim

theorem wpOps_range (ops : Array Oper) (Q : Exit → Act → World → Prop) : ∀ (r : List Oper) (i : Nat), ops.toList.drop i = r → ∀ a w,
    wpOps P ops Q ((List.range ops.size).drop i) a w = match r with
      | [] => Q .normal a w
      | o :: _ => if Region.wanted o (yielded ops a.tmps) then o.wp P a w (wpOps P ops Q ((List.range ops.size).drop (i + 1))) Q ∨ (o.asks P a w ∧ LetsOut Q)
        else wpOps P ops Q ((List.range ops.size).drop (i + 1)) (a.put o.dst undef) w := by
  intro r i hr a w
  cases r with
  | nil =>
    have : ops.size ≤ i := by simpa using hr
    rw [List.drop_eq_nil_of_le (by simpa using this)]
    rfl
  | cons o r =>
    have hi : i < ops.size := by
      rcases Nat.lt_or_ge i ops.size with h | h
      · exact h
      · rw [List.drop_eq_nil_of_le (by simpa using h)] at hr; cases hr
    have ho : ops[i]? = some o := by
      have : (ops.toList.drop i)[0]? = some o := by rw [hr]; rfl
      rw [List.getElem?_drop] at this
      simpa using this
    have hd : (List.range ops.size).drop i = i :: (List.range ops.size).drop (i + 1) := by
      rw [List.drop_eq_getElem_cons (by simpa using hi)]
      simp
    rw [hd]
    simp only [wpOps, ho]

theorem yielded_of {ops : Array Oper} {j d : Nat} {a : Act} {b : Bool} (hj : (ops.toList[j]?).bind (·.dst) = some d) (hv : a.tmps.getD d undef = .bool b) (hd : d < a.tmps.size) : yielded ops a.tmps j = some b := by
  have hj' : (ops[j]?).bind (·.dst) = some d := by simpa using hj
  have : a.tmps[d]? = some (.bool b) := by
    rw [Array.getD_eq_getD_getElem?] at hv
    rw [Array.getElem?_eq_getElem hd] at hv ⊢
    simpa using hv
  simp [yielded, hj', this]

theorem yielded_none {ops : Array Oper} {j d : Nat} {a : Act} (hj : (ops.toList[j]?).bind (·.dst) = some d) (hv : a.tmps.getD d undef = undef) : yielded ops a.tmps j = none := by
  have hj' : (ops[j]?).bind (·.dst) = some d := by simpa using hj
  rw [Array.getD_eq_getD_getElem?] at hv
  cases h : a.tmps[d]? with
  | none => simp [yielded, hj', h]
  | some v =>
    rw [h] at hv
    simp only [Option.getD_some] at hv
    subst hv
    simp [yielded, hj', h, undef]

theorem onlyIf_parts {b : Bool} {X : Prop} (h : onlyIf b X) : b = true ∧ X := by
  cases b
  · exact h.elim
  · exact ⟨rfl, h⟩
theorem oneK_parts {T : Tab} {n : Nat} {o : Oper} {s : St} {K : St → Prop} (h : oneK P T n o s K) : dstOK n o.dst = true ∧ opK P T o s.f s.ev s.bs fun v up f => forceV v fun v => forceU up fun up => forceN f fun f => K ⟨putD s.tm o.dst v, updL s.bs up, f⟩ :=
  onlyIf_parts h

theorem regK_sound {T : Tab} (hT : TabOK P T) {C : Cx} {n : Nat} (ops : Array Oper) {K : St → Prop} {Q : Exit → Act → World → Prop} (hQ : ∀ ι s a w, K s → SR C n ι s a w → Q .normal a w) :
    ∀ (r : List Oper) (i : Nat), ops.toList.drop i = r → ∀ (ι : Lay) (s : St) (a : Act) (w : World), SR C n ι s a w → regK P T n ops.toList r s K → wpOps P ops Q ((List.range ops.size).drop i) a w
  | [], i, hr, ι, s, a, w, h, hk => by
    rw [wpOps_range ops Q [] i hr]
    exact hQ ι s a w hk h
  | o :: r, i, hr, ι, s, a, w, h, hk => by
    rw [wpOps_range ops Q (o :: r) i hr]
    have hr' : ops.toList.drop (i + 1) = r := by
      rw [← List.drop_drop, hr]; rfl
    simp only
    simp only [regK] at hk
    cases hg : o.guard with
    | none =>
      simp only [hg] at hk
      have hw : Region.wanted o (yielded ops a.tmps) = true := by simp [Region.wanted, hg]
      rw [if_pos hw]
      obtain ⟨hk1, hk2⟩ := oneK_parts hk
      exact .inl (opK_sound hT h hk1 hk2 fun ι' s' a' w' h1 h2 => regK_sound hT ops hQ r (i + 1) hr' ι' s' a' w' h2 h1)
    | some jw =>
      obtain ⟨j, want⟩ := jw
      simp only [hg] at hk
      split at hk
      · rename_i d hd
        have key : ∀ b : Bool, a.tmps.getD d undef = .bool b → gsel b want (fun b => oneK P T n o { s with tm := updT s.tm d (.val (.bool b)) } fun s' => regK P T n ops.toList r s' K)
            (fun b => onlyIf (dstOK n o.dst) (regK P T n ops.toList r { s with tm := putD (updT s.tm d (.val (.bool b))) o.dst (.tup []) } K)) →
            if Region.wanted o (yielded ops a.tmps) = true then o.wp P a w (wpOps P ops Q ((List.range ops.size).drop (i + 1))) Q ∨ (o.asks P a w ∧ LetsOut Q)
            else wpOps P ops Q ((List.range ops.size).drop (i + 1)) (a.put o.dst undef) w := by
          intro b hv hk
          have hdl : d < a.tmps.size := by
            rcases Nat.lt_or_ge d a.tmps.size with h' | h'
            · exact h'
            · rw [Array.getD_eq_getD_getElem?, Array.getElem?_eq_none h'] at hv; cases hv
          have hy := yielded_of hd hv hdl
          -- the guard's slot, written out
          have hs' : SR C n ι { s with tm := updT s.tm d (.val (.bool b)) } a w := { h with tm := (fun t => by
            show rel ι (updT s.tm d (.val (.bool b)) t) _
            by_cases e : t = d
            · subst e; rw [updT_same]; simpa [rel] using hv
            · rw [updT_ne _ _ _ e]; exact h.tm t) }
          have skip : dstOK n o.dst = true → SR C n ι ⟨putD (updT s.tm d (.val (.bool b))) o.dst (.tup []), s.bs, s.f⟩ (a.put o.dst undef) w := fun hdst => {
            size := by rw [put_size]; exact h.size
            defers := by rw [put_defers]; exact h.defers
            tm := rel_put h.size hs'.tm hdst (by simp [rel, relL, undef])
            wr := h.wr
            dom := fun b hb => h.dom b (by simp only at hb; omega)
            low := h.low
            k0 := by have := h.k0; simp only; omega
            rwi := h.rwi }
          have hwant : Region.wanted o (yielded ops a.tmps) = (b == want) := by
            simp [Region.wanted, hg, hy]
          cases b <;> cases want
          · rw [hwant, if_pos (by rfl)]
            simp only [gsel] at hk
            obtain ⟨hk1, hk2⟩ := oneK_parts hk
            exact .inl (opK_sound hT hs' hk1 hk2 fun ι' s' a' w' h1 h2 => regK_sound hT ops hQ r (i + 1) hr' ι' s' a' w' h2 h1)
          · rw [hwant, if_neg (by decide)]
            simp only [gsel] at hk
            obtain ⟨hk1, hk2⟩ := onlyIf_parts hk
            exact regK_sound hT ops hQ r (i + 1) hr' ι _ _ w (skip hk1) hk2
          · rw [hwant, if_neg (by decide)]
            simp only [gsel] at hk
            obtain ⟨hk1, hk2⟩ := onlyIf_parts hk
            exact regK_sound hT ops hQ r (i + 1) hr' ι _ _ w (skip hk1) hk2
          · rw [hwant, if_pos (by rfl)]
            simp only [gsel] at hk
            obtain ⟨hk1, hk2⟩ := oneK_parts hk
            exact .inl (opK_sound hT hs' hk1 hk2 fun ι' s' a' w' h1 h2 => regK_sound hT ops hQ r (i + 1) hr' ι' s' a' w' h2 h1)
        have hv := h.tm d
        split at hk
        · rename_i b hb
          rw [hb] at hv
          simp only [rel] at hv
          exact key b hv hk
        · rename_i b hb
          rw [hb] at hv
          simp only [rel] at hv
          refine key b hv ?_
          have hk := stop_out hk
          cases b with
          | true => exact bcase_iff_true hk
          | false => exact bcase_iff_false hk
        · rename_i hb
          rw [hb] at hv
          simp only [rel] at hv
          obtain ⟨cs, hv, hcs⟩ := hv
          simp only [relL] at hcs
          subst hcs
          have hy := yielded_none hd (by rw [hv]; rfl)
          have hwant : Region.wanted o (yielded ops a.tmps) = false := by simp [Region.wanted, hg, hy]
          rw [hwant, if_neg (by decide)]
          obtain ⟨hk1, hk2⟩ := onlyIf_parts hk
          exact regK_sound hT ops hQ r (i + 1) hr' ι ⟨putD s.tm o.dst (.tup []), s.bs, s.f⟩ _ w {
            size := by rw [put_size]; exact h.size
            defers := by rw [put_defers]; exact h.defers
            tm := rel_put h.size h.tm hk1 (by simp [rel, relL, undef])
            wr := h.wr
            dom := h.dom
            low := h.low
            k0 := h.k0
            rwi := h.rwi } hk2
        · exact hk.elim
      · exact hk.elim

theorem subF_spec {ρ : Nat → Option Nat} {tm : Nat → AV} : ∀ (l : List (Nat × AV)), subF ρ tm l → ∀ t, sub ρ (frL l t) (tm t)
  | [], _, t => by simp [frL, sub]
  | (d, v) :: r, h, t => by
    simp only [subF] at h
    simp only [frL]
    cases hb : Nat.beq t d with
    | false => exact subF_spec r h.2 t
    | true => rw [Nat.eq_of_beq_eq_true hb]; exact stop_out ((forceV_iff _ _).1 h.1)

theorem keepsIds_spec : ∀ (k i : Nat) (xs : Ix), keepsIds k i xs = true → ∀ b, b < k → xs[b]? = some (some (i + b))
  | 0, _, _, _, b, h => by omega
  | k + 1, i, [], h, b, _ => by simp [keepsIds] at h
  | k + 1, i, none :: r, h, b, _ => by simp [keepsIds] at h
  | k + 1, i, some x :: r, h, b, hb => by
    simp only [keepsIds, Bool.and_eq_true] at h
    cases b with
    | zero => simp [Nat.eq_of_beq_eq_true h.1]
    | succ b =>
      have := keepsIds_spec k (i + 1) r h.2 b (by omega)
      simp only [List.getElem?_cons_succ, this]
      congr 2; omega

theorem rwOK_spec : ∀ (L ks : List Blk), rwOK L ks → ∀ b, (blL ks b).live = true → (blL ks b).rw = true ∨ (b < L.length ∧ (blL L b).rw = false)
  | _, [], _, b, h => by simp [blL, Blk.live] at h
  | [], k :: ks, h, b, hb => by
    simp only [rwOK] at h
    cases b with
    | zero => exact .inl (h.1 hb)
    | succ b => exact rwOK_spec [] ks h.2 b hb |>.imp id fun q => absurd q.1 (by simp)
  | l :: L, k :: ks, h, b, hb => by
    simp only [rwOK] at h
    cases b with
    | zero => exact (h.1 hb).imp id fun q => ⟨by simp, q⟩
    | succ b => exact (rwOK_spec L ks h.2 b hb).imp id fun q => ⟨by simp; exact q.1, q.2⟩

/-- What 'subB' leaves for the blocks, from a state. -/
theorem SR.low_sub {C : Cx} {n : Nat} {ι : Lay} {s : St} {a : Act} {w : World} (h : SR C n ι s a w) {xs : Ix} {ks : List Blk} (hk : keepsIds C.L0.length 0 xs = true) (hn : xs.nodup = true) (hrw : rwOK C.L0 ks) (hB : subB xs.at s.bs xs ks) :
    WR C.amb (layOf xs.at ι) (blL ks) w ∧ (∀ b, b < C.L0.length → layOf xs.at ι b = C.ι0 b) ∧ C.L0.length ≤ ks.length ∧ (∀ b, ks.length ≤ b → layOf xs.at ι b = none ∧ blL ks b = .gone) ∧
      (∀ b, (blL ks b).live = true → (blL ks b).rw = true ∨ (b < C.L0.length ∧ (blL C.L0 b).rw = false)) := by
  obtain ⟨hlen, hBat⟩ := subB_at xs ks hB
  have hid : ∀ b, b < C.L0.length → xs[b]? = some (some b) := fun b hb => by have := keepsIds_spec _ _ _ hk b hb; rwa [Nat.zero_add] at this
  have hle : C.L0.length ≤ ks.length := by
    rcases Nat.eq_zero_or_pos C.L0.length with h0 | h0
    · omega
    · have := (List.getElem?_eq_some_iff.1 (hid (C.L0.length - 1) (by omega))).1
      omega
  have hout : ∀ b, ks.length ≤ b → layOf xs.at ι b = none := fun b hb => by
    have : xs[b]? = none := List.getElem?_eq_none (by omega)
    simp [layOf, Ix.at, this]
  refine ⟨WR_sub h.wr hB hn h.wr.amb fun b l hr hl => ?_, fun b hb => ?_, hle, fun b hb => ⟨hout b hb, ?_⟩, fun b hb => ?_⟩
  · simp only [layOf] at hl
    cases hx : xs.at b with
    | none => simp [hx] at hl
    | some x =>
      simp only [hx, Option.bind_some] at hl
      exact h.wr.own x l (BSub_rw ((hBat b).1 x (at_some.1 hx)) hr) hl
  · simp only [layOf, at_some.2 (hid b hb), Option.bind_some]; exact h.low b hb
  · exact (hBat b).2.2 (List.getElem?_eq_none (by omega))
  · exact rwOK_spec _ _ hrw b hb

theorem Le_SR {C : Cx} {n : Nat} {ι : Lay} {s : St} {a : Act} {w : World} (h : SR C n ι s a w) {p : Sp} (hl : Le C.L0 p s) : ∃ ι', SR C n ι' p.st a w := by
  obtain ⟨xs, h1, h2, h3, h4, h5⟩ := hl
  obtain ⟨q1, q2, q3, q4, q5⟩ := h.low_sub h1 h2 h3 h5
  exact ⟨layOf xs.at ι, {
    size := h.size
    defers := h.defers
    tm := fun t => sub_rel _ _ _ (subF_spec p.fr h4 t) (h.tm t)
    wr := q1
    dom := q4
    low := q2
    k0 := q3
    rwi := q5 }⟩

/-- How an exit of the model's is one of ours. -/
def exOf : Ex → Exit
  | .normal => .normal
  | .exit id => .exit id
  | .ret => .ret

/-- A loop by a number that goes down. -/
theorem wp_loop_rel {c : Code} {Q : Exit → Act → World → Prop} (I : Nat → Act → World → Prop) (m0 : Nat) {a : Act} {w : World} (h0 : I m0 a w)
    (round : ∀ m a w, I m a w → c.wp P (Exit.then (fun a' w' => ∃ m', m' < m ∧ I m' a' w') Q) a w) : (Code.loop c).wp P Q a w := by
  intro b k cs
  have key : ∀ m a w, I m a w → ∃ e a' w', Q e a' w' ∧ Arrives P (lone (b.at a (.code c :: .inLoop c :: k)) cs w) b k cs e a' w' := by
    intro m
    induction m using Nat.strongRecOn with
    | _ m ih =>
      intro a w hI
      obtain ⟨e, a1, w1, hq, harr⟩ := round m a w hI b (.inLoop c :: k) cs
      have pass : ∀ {e}, (∀ a w, e ≠ .normal ∨ Arrives P (lone (b.at a1 (.code c :: .inLoop c :: k)) cs w1) b k cs e a w) → Q e a1 w1 → Arrives P (lone (b.at a (.code c :: .inLoop c :: k)) cs w) b (.inLoop c :: k) cs e a1 w1 → e ≠ .normal →
          ∃ e a' w', Q e a' w' ∧ Arrives P (lone (b.at a (.code c :: .inLoop c :: k)) cs w) b k cs e a' w' :=
        fun _ hq harr hne => ⟨_, a1, w1, hq, Arrives.pass (x := .inLoop c) rfl (fun _ _ => .inl hne) harr⟩
      cases e with
      | normal =>
        obtain ⟨m', hlt, hI'⟩ := hq
        obtain ⟨e2, a2, w2, hq2, harr2⟩ := ih m' hlt a1 w1 hI'
        exact ⟨e2, a2, w2, hq2, .of_steps (Steps.trans harr (.one step_inLoop)) harr2⟩
      | exit id => exact pass (fun _ _ => .inl (by simp)) hq harr (by simp)
      | goto l => exact pass (fun _ _ => .inl (by simp)) hq harr (by simp)
      | ret => exact pass (fun _ _ => .inl (by simp)) hq harr (by simp)
      | panic ch => exact pass (fun _ _ => .inl (by simp)) hq harr (by simp)
      | outgrown => exact pass (fun _ _ => .inl (by simp)) hq harr (by simp)
  obtain ⟨e, a', w', hq, harr⟩ := key m0 a w h0
  exact ⟨e, a', w', hq, .of_steps (.one step_loop) harr⟩

end Go.Vx

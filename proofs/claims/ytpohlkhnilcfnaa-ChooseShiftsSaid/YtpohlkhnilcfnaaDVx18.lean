/- Lemmas of a small executor for the model, and contracts of functions, used for the law that this claim proves. No condition. -/
import Derived.Test.YtpohlkhnilcfnaaDVx17
set_option linter.unusedSimpArgs false
set_option linter.unusedVariables false
/- The order of the text, in a region that draws: each operation does what it is said to do in whatever state that agrees on what it looks at. -/
namespace Go.Vx
variable {P : Program}

theorem mskB_in {l : List Nat} {bs : Nat → Blk} {b : Nat} (h : b ∈ l) : mskB l bs b = bs b := by simp [mskB, memN_iff.2 h]
theorem mskB_or (l : List Nat) (bs : Nat → Blk) (b : Nat) : mskB l bs b = bs b ∨ mskB l bs b = .gone := by
  unfold mskB
  cases memN b l
  · exact .inr rfl
  · exact .inl rfl
theorem mskB_rw {l : List Nat} {bs : Nat → Blk} {b : Nat} (h : (mskB l bs b).rw = true) : (bs b).rw = true := by
  rcases mskB_or l bs b with e | e
  · rw [e] at h; exact h
  · rw [e] at h; cases h
theorem mskB_congr {l : List Nat} {bs bs' : Nat → Blk} (h : ∀ b ∈ l, bs' b = bs b) : mskB l bs' = mskB l bs := by
  funext b
  unfold mskB
  cases hb : memN b l with
  | false => rfl
  | true => exact h b (memN_iff.1 hb)
theorem mskE_congr {rd : List Nat} {s s' : St} (h : ∀ t ∈ rd, s'.tm t = s.tm t) : mskE rd s'.ev = mskE rd s.ev := by
  funext x
  cases x with
  | tmp t =>
    simp only [mskE]
    cases hb : memN t rd with
    | false => rfl
    | true => exact h t (memN_iff.1 hb)
  | _ => rfl
theorem mskE_rel {ι : Lay} {rd : List Nat} {ev : Operand → AV} {ca : Operand → Value} (h : ∀ x, rel ι (ev x) (ca x)) (x : Operand) : rel ι (mskE rd ev x) (ca x) := by
  cases x with
  | tmp t =>
    simp only [mskE]
    cases memN t rd with
    | false => simp [rel]
    | true => exact h _
  | _ => exact h _
theorem BR_msk {ι : Lay} {w : World} {bs : Nat → Blk} (l : List Nat) (h : ∀ b, BR ι w b (bs b)) (b : Nat) : BR ι w b (mskB l bs b) := by
  rcases mskB_or l bs b with e | e
  · rw [e]; exact h b
  · rw [e]; trivial

theorem mem_keys {up : List (Nat × Blk)} {b : Nat} {k : Blk} (h : (b, k) ∈ up) : b ∈ up.map (·.1) := List.mem_map.2 ⟨_, h, rfl⟩

theorem Delta.unmask {ι : Lay} {l : List Nat} {bs : Nat → Blk} {f f' : Nat} {w : World} {ι' : Lay} {up : List (Nat × Blk)} {w' : World} (hn : ∀ b, f ≤ b → b < f' → bs b = .gone)
    (h : Delta ι (mskB l bs) f f' w ι' up w') : Delta ι bs f f' w ι' up w' := by
  have same : ∀ b k, (b, k) ∈ up → updL bs up b = updL (mskB l bs) up b := fun b k hk => updL_congr _ _ _ _ (.inl (mem_keys hk))
  have slot : ∀ b, f ≤ b → b < f' → (updL bs up b).live = true → updL bs up b = updL (mskB l bs) up b := fun b h1 h2 h3 => by
    rcases updL_cases bs up b with ⟨k, q1, _⟩ | ⟨_, q2⟩
    · exact same b k q1
    · rw [q2, hn b h1 h2] at h3; cases h3
  exact {
    ext := h.ext
    br := fun b ⟨k, hk⟩ => by rw [same b k hk]; exact h.br b ⟨k, hk⟩
    os := h.os
    tape := h.tape
    output := h.output
    size := h.size
    keep := fun g hg hk => h.keep g hg fun b k l' hm hr hl => hk b k l' hm (mskB_rw hr) hl
    lt := h.lt
    fresh := fun b l' h1 h2 h3 h4 => by
      rw [slot b h1 h2 h3] at h3
      rcases h.fresh b l' h1 h2 h3 h4 with q | ⟨b0, l0, q1, q2, q3, q4, q5⟩
      · exact .inl q
      · exact .inr ⟨b0, l0, q1, by rw [same b0 _ q1]; exact q2, mskB_rw q3, q4, q5⟩
    one := fun b b' l1 l2 h1 h2 h3 h4 hne h5 h6 h7 h8 => by
      rw [slot b h1 h2 (rw_live h5)] at h5
      rw [slot b' h3 h4 h6] at h6
      exact h.one b b' l1 l2 h1 h2 h3 h4 hne h5 h6 h7 h8
    rwn := h.rwn
    upr := fun b k hk => (h.upr b k hk).imp id mskB_rw }

theorem subB_congr {ρ : Nat → Option Nat} {bs bs' : Nat → Blk} : ∀ (xs : Ix) (L : List Blk), (∀ b ∈ tchX xs, bs' b = bs b) → subB ρ bs xs L → subB ρ bs' xs L
  | [], [], _, h => h
  | [], _ :: _, _, h => h.elim
  | none :: xs, [], _, h => h.elim
  | some _ :: xs, [], _, h => h.elim
  | none :: xs, k :: L, hb, h => by
    simp only [subB] at h ⊢
    exact ⟨h.1, subB_congr xs L hb h.2⟩
  | some x :: xs, k :: L, hb, h => by
    simp only [subB] at h ⊢
    rw [hb x (by simp [tchX])]
    exact ⟨h.1, subB_congr xs L (fun b hm => hb b (by simp [tchX, hm])) h.2⟩

theorem opD_sound {T : Tab} (hT : TabOK P T) {C : Cx} {n : Nat} {s : St} {o : Oper} {rd : List Nat} {K : List Nat → AV → List (Nat × Blk) → Nat → Prop} (h : opD P T o s.f (mskE rd s.ev) s.bs K) :
    ∃ tch v up f', K tch v up f' ∧ ∀ (s' : St) (ι : Lay) (a : Act) (w : World), (∀ t ∈ rd, s'.tm t = s.tm t) → (∀ b ∈ tch, s'.bs b = s.bs b) → SR C n ι s' a w →
      (∀ b, s.f ≤ b → b < f' → ι b = none ∧ s'.bs b = .gone) → ∀ (next : Act → World → Prop) (Q : Exit → Act → World → Prop),
        (∀ ι' w' c, rel ι' v c → Delta ι s'.bs s.f f' w ι' up w' → next (a.put o.dst c) w') → o.wp P a w next Q := by
  unfold opD at h
  split at h
  · rename_i fo as hc
    obtain ⟨args, tys, hop, rfl⟩ := callOf_some hc
    split at h
    · rename_i g caps hf
      obtain ⟨xs, args', L, V, B, hR, hsub, hB, hnd, hK⟩ := stop_out ((forceL_iff _ _).1 h)
      refine ⟨_, _, _, _, hK, fun s' ι a w ht hb hS hfree next Q hnext => ?_⟩
      have hev := mskE_rel (rd := rd) (rel_ev hS.tm)
      rw [mskE_congr ht] at hev
      have hfr := hev fo
      rw [hf] at hfr
      simp only [rel] at hfr
      obtain ⟨us, hfv, hus⟩ := hfr
      have hargs := relL_append (relL_map hev args.toList) hus
      obtain ⟨hcf, hcall⟩ := call_soundR hS.wr hargs hR hsub (subB_congr xs L hb hB) hnd (sl := s.f) (by rintro V' Bl' ⟨rfl, rfl⟩; exact hfree)
      have hrun : (execOp a.eval o).run P w = .ok (.enter g (args.toList.map a.eval ++ us).toArray) w := by
        have e1 : (#[] ++ args.map a.eval : Array Value) ++ us.toArray = (args.toList.map a.eval ++ us).toArray := by
          apply Array.ext'; simp
        simp only [execOp, hop, resolve, hfv, Deferred.ofValue, Sem.run_bind, Sem.run_pure, Result.andThen_ok, invoke, e1, hcf]
      unfold Oper.wp
      rw [hrun]
      simp only [Oper.upon]
      refine hcall.mono ?_
      rintro e w' ⟨V', Bl, c, ι', rfl, ⟨rfl, rfl⟩, hle, hv, hd⟩
      exact hnext ι' w' c hv hd
    · exact h.elim
  · have h := (forceNs_iff _ _).1 h
    split at h
    · rename_i p v up ha
      obtain ⟨hp, hK⟩ := andL_iff _ _ h
      refine ⟨_, _, _, _, hK, fun s' ι a w ht hb hS hfree next Q hnext => ?_⟩
      have hev := mskE_rel (rd := rd) (rel_ev hS.tm)
      rw [mskE_congr ht] at hev
      rw [← mskB_congr hb] at ha
      obtain ⟨c, w', ι', hr, hv, hd⟩ := aop_sound (f' := bump o.op s.f) hT hev (fun b h1 h2 => ⟨(hfree b h1 h2).1, by
        rcases mskB_or (touch o.op (mskE rd s.ev)) s'.bs b with e | e
        · rw [e]; exact (hfree b h1 h2).2
        · exact e⟩) (BR_msk _ hS.wr.br) hS.wr.lt ha hp (Nat.le_refl _)
      have hd' := hd.unmask fun b h1 h2 => (hfree b h1 h2).2
      unfold Oper.wp
      rcases hr with hr | ⟨hr, rfl⟩
      · rw [hr]; exact hnext ι' w' c hv hd'
      · rw [hr]; exact hnext ι' w' _ hv hd'
    · exact h.elim

theorem forceD_out {v : AV} {K : AV → Prop} (h : forceD v K) : ∃ v', K v' ∧ ∀ ι c, rel ι v c → rel ι v' c := by
  unfold forceD at h
  split at h
  · rename_i b
    have h := stop_out h
    cases b with
    | true => exact ⟨_, bcase_iff_true h, fun ι c hc => by simpa [rel] using hc⟩
    | false => exact ⟨_, bcase_iff_false h, fun ι c hc => by simpa [rel] using hc⟩
  · exact ⟨v, (forceV_iff _ _).1 h, fun _ _ h => h⟩

/-- One operation that is carried out. -/
theorem oneD_sound {T : Tab} (hT : TabOK P T) {C : Cx} {n : Nat} {ops : Array Oper} {Q : Exit → Act → World → Prop} {i : Nat} {o : Oper} (ho : ops[i]? = some o) {gd : List Nat} {s : St} {K : St → Fp → Prop}
    (hw : ∀ (a : Act), a.tmps.size = n → (∀ s' : St, (∀ t ∈ gd, s'.tm t = s.tm t) → (∃ ι, ∀ t, rel ι (s'.tm t) (a.tmps.getD t undef)) → Region.wanted o (yielded ops a.tmps) = true))
    (h : oneD P T n gd o s K) : ∃ d : DS, K ⟨(ap d s).tm, (ap d s).bs, d.x.f'⟩ d.x ∧ d.x.upk = d.up.map (·.1) ∧ StepOK P C n ops Q i s d := by
  obtain ⟨hdst, h⟩ := onlyIf_parts h
  obtain ⟨tch, v, up, f', hK, hrun⟩ := opD_sound hT ((forceNs_iff _ _).1 h)
  obtain ⟨v', hK, hv'⟩ := forceD_out hK
  have hK := (forceNs_iff _ _).1 ((forceNs_iff _ _).1 ((forceN_iff _ _).1 ((forceU_iff _ _).1 hK)))
  refine ⟨⟨⟨gd ++ tmpsOf (opds o.op), o.dst, tch, up.map (fun x : Nat × Blk => x.1), s.f, f'⟩, v', up⟩, hK, rfl, ?_⟩
  intro s' ι a w ht hb hS hk hle hF hfree K' hK'
  unfold wpOp
  rw [ho]
  simp only
  rw [if_pos (hw a hS.size s' (fun t hm => ht t (List.mem_append_left _ hm)) ⟨ι, hS.tm⟩)]
  refine .inl (hrun s' ι a w ht hb hS hfree K' Q fun ι' w' c hc hd => ?_)
  exact hK' ι' _ _ (hS.stepAt hk hle hF (Nat.le_refl _) hfree hd hdst (hv' _ _ hc)) hd.ext

theorem StepOK.congr {C : Cx} {n : Nat} {ops : Array Oper} {Q : Exit → Act → World → Prop} {i : Nat} {s s1 : St} {d : DS} (h1 : s1.tm = s.tm) (h2 : s1.bs = s.bs) (h : StepOK P C n ops Q i s d) : StepOK P C n ops Q i s1 d := by
  intro s' ι a w ht hb
  rw [h1] at ht
  rw [h2] at hb
  exact h s' ι a w ht hb

theorem fold_st (sel : Nat → Bool) (l : List DS) {s s' : St} (h1 : s.tm = s'.tm) (h2 : s.bs = s'.bs) : (fold sel l s).tm = (fold sel l s').tm ∧ (fold sel l s).bs = (fold sel l s').bs :=
  ⟨funext fun t => fold_tm l _ _ _ _ (fun _ _ _ _ => rfl) (by rw [h1]), funext fun b => fold_bs l _ _ _ _ (fun _ _ _ _ => rfl) (by rw [h2])⟩

theorem drawK_sound {T : Tab} (hT : TabOK P T) {C : Cx} {n : Nat} {ops : Array Oper} {Q : Exit → Act → World → Prop} {f0 : Nat} {K : St → Prop} :
    ∀ (r : List Oper) (i : Nat), ops.toList.drop i = r → ∀ (s : St) (acc : List Fp), drawK P T n ops.toList f0 r s acc K →
      ∃ (l : List DS) (F : Nat), (l = [] → F = s.f) ∧ l.length = r.length ∧ (∀ d ∈ l, d.x.upk = d.up.map (·.1)) ∧ (∀ (k : Nat) (d : DS), l[k]? = some d → StepOK P C n ops Q (i + k) (fold (fun j => Nat.blt j k) l s) d) ∧
        drawOK ops.toList (acc ++ l.map (·.x)) f0 F = true ∧ K ⟨(fold (fun _ => true) l s).tm, (fold (fun _ => true) l s).bs, F⟩
  | [], i, hr, s, acc, h => by
    obtain ⟨h1, h2⟩ := stop_out h
    exact ⟨[], s.f, fun _ => rfl, rfl, by simp, by simp, by simpa using h1, h2⟩
  | o :: r, i, hr, s, acc, h => by
    have ho : ops[i]? = some o := by
      have : (ops.toList.drop i)[0]? = some o := by rw [hr]; rfl
      rw [List.getElem?_drop] at this
      simpa using this
    have hr' : ops.toList.drop (i + 1) = r := by
      rw [← List.drop_drop, hr]; rfl
    -- the step, then the rest
    have glue : ∀ (d : DS) (f' : Nat), d.x.upk = d.up.map (·.1) → StepOK P C n ops Q i s d → drawK P T n ops.toList f0 r ⟨(ap d s).tm, (ap d s).bs, f'⟩ (acc ++ [d.x]) K →
        ∃ (l : List DS) (F : Nat), (l = [] → F = s.f) ∧ l.length = (o :: r).length ∧ (∀ d ∈ l, d.x.upk = d.up.map (·.1)) ∧ (∀ (k : Nat) (d : DS), l[k]? = some d → StepOK P C n ops Q (i + k) (fold (fun j => Nat.blt j k) l s) d) ∧
        drawOK ops.toList (acc ++ l.map (·.x)) f0 F = true ∧ K ⟨(fold (fun _ => true) l s).tm, (fold (fun _ => true) l s).bs, F⟩ := by
      intro d f' hu hs hk
      obtain ⟨l, F, _, h1, h2, h3, h4, h5⟩ := drawK_sound hT r (i + 1) hr' _ _ hk
      refine ⟨d :: l, F, (fun h => by cases h), by simp [h1], ?_, ?_, by simpa using h4, ?_⟩
      · intro d' hd'
        simp only [List.mem_cons] at hd'
        rcases hd' with rfl | hd'
        · exact hu
        · exact h2 d' hd'
      · intro k d' hd'
        cases k with
        | zero =>
          simp only [List.getElem?_cons_zero, Option.some.injEq] at hd'
          subst hd'
          have e : (fold (fun j => Nat.blt j 0) (d :: l) s) = s := by
            have : (fun j => Nat.blt j 0) = fun _ : Nat => false := by
              funext j
              cases hb : Nat.blt j 0 with
              | false => rfl
              | true => have : j + 1 ≤ 0 := Nat.le_of_ble_eq_true hb; omega
            rw [this]; exact fold_none _ _
          rw [e]; exact hs
        | succ k =>
          have := h3 k d' (by simpa using hd')
          rw [show i + (k + 1) = i + 1 + k from by omega]
          have e0 : Nat.blt 0 (k + 1) = true := Nat.ble_eq_true_of_le (by omega)
          have e1 : (fun j => Nat.blt (j + 1) (k + 1)) = fun j => Nat.blt j k := by funext j; rfl
          have e2 : fold (fun j => Nat.blt j (k + 1)) (d :: l) s = fold (fun j => Nat.blt j k) l (ap d s) := by
            simp only [fold, e0, cond_true, e1]
          rw [e2]
          obtain ⟨q1, q2⟩ := fold_st (fun j => Nat.blt j k) l (s := ap d s) (s' := ⟨(ap d s).tm, (ap d s).bs, f'⟩) rfl rfl
          exact this.congr q1 q2
      · obtain ⟨q1, q2⟩ := fold_st (fun _ => true) l (s := ap d s) (s' := ⟨(ap d s).tm, (ap d s).bs, f'⟩) rfl rfl
        simp only [fold, cond_true]
        rw [q1, q2]; exact h5
    simp only [drawK] at h
    cases hg : o.guard with
    | none =>
      simp only [hg] at h
      obtain ⟨d, h1, h2, h3⟩ := oneD_sound hT (C := C) (Q := Q) ho (fun a _ _ _ _ => by simp [Region.wanted, hg]) h
      exact glue d _ h2 h3 h1
    | some jw =>
      obtain ⟨j, want⟩ := jw
      simp only [hg] at h
      split at h
      · rename_i d hd
        split at h
        · rename_i b hb
          have wv : ∀ (a : Act), a.tmps.size = n → ∀ s' : St, (∀ t ∈ [d], s'.tm t = s.tm t) → (∃ ι, ∀ t, rel ι (s'.tm t) (a.tmps.getD t undef)) → Region.wanted o (yielded ops a.tmps) = (b == want) := by
            rintro a hsz s' ht ⟨ι, hrl⟩
            have hv := hrl d
            rw [ht d (by simp), hb] at hv
            simp only [rel] at hv
            have hdl : d < a.tmps.size := by
              rcases Nat.lt_or_ge d a.tmps.size with h' | h'
              · exact h'
              · rw [Array.getD_eq_getD_getElem?, Array.getElem?_eq_none h'] at hv; cases hv
            have hy := yielded_of hd hv hdl
            simp [Region.wanted, hg, hy]
          by_cases hbw : b = want
          · have h' : oneD P T n [d] o s (fun s' x => drawK P T n ops.toList f0 r s' (acc ++ [x]) K) := by
              subst hbw
              cases b <;> exact h
            obtain ⟨d', h1, h2, h3⟩ := oneD_sound hT (C := C) (Q := Q) ho (fun a hsz s' ht hι => by rw [wv a hsz s' ht hι, hbw]; exact beq_self_eq_true want) h'
            exact glue d' _ h2 h3 h1
          · have h' : onlyIf (dstOK n o.dst) (drawK P T n ops.toList f0 r { s with tm := putD s.tm o.dst (.tup []) } (acc ++ [⟨[d], o.dst, [], [], s.f, s.f⟩]) K) := by
              cases b <;> cases want <;> first | exact h | exact absurd rfl hbw
            obtain ⟨hdst, h⟩ := onlyIf_parts h'
            refine glue ⟨⟨[d], o.dst, [], [], s.f, s.f⟩, (.tup []), []⟩ s.f rfl ?_ h
            intro s' ι a w ht _ hS hk hle hF hfree K' hK'
            unfold wpOp
            rw [ho]
            simp only
            have hfalse : (b == want) = false := by simpa using hbw
            rw [if_neg (by rw [wv a hS.size s' ht ⟨ι, hS.tm⟩, hfalse]; exact Bool.false_ne_true)]
            refine hK' ι _ _ ?_ fun _ _ => rfl
            exact hS.stepAt hk (Nat.le_refl _) hF (Nat.le_refl _) hfree (Delta.refl (fun b h1 h2 => by have h1' : s.f ≤ b := h1; have h2' : b < s.f := h2; omega)) hdst (by simp [rel, relL, undef])
        · rename_i hb
          have wv : ∀ (a : Act), ∀ s' : St, (∀ t ∈ [d], s'.tm t = s.tm t) → (∃ ι, ∀ t, rel ι (s'.tm t) (a.tmps.getD t undef)) → Region.wanted o (yielded ops a.tmps) = false := by
            rintro a s' ht ⟨ι, hrl⟩
            have hv := hrl d
            rw [ht d (by simp), hb] at hv
            simp only [rel] at hv
            obtain ⟨cs, hv, hcs⟩ := hv
            simp only [relL] at hcs
            subst hcs
            have hy := yielded_none hd (by rw [hv]; rfl)
            simp [Region.wanted, hg, hy]
          obtain ⟨hdst, h⟩ := onlyIf_parts h
          refine glue ⟨⟨[d], o.dst, [], [], s.f, s.f⟩, (.tup []), []⟩ s.f rfl ?_ h
          intro s' ι a w ht _ hS hk hle hF hfree K' hK'
          unfold wpOp
          rw [ho]
          simp only
          rw [if_neg (by rw [wv a s' ht ⟨ι, hS.tm⟩]; exact Bool.false_ne_true)]
          refine hK' ι _ _ ?_ fun _ _ => rfl
          exact hS.stepAt hk (Nat.le_refl _) hF (Nat.le_refl _) hfree (Delta.refl (fun b h1 h2 => by have h1' : s.f ≤ b := h1; have h2' : b < s.f := h2; omega)) hdst (by simp [rel, relL, undef])
        · exact h.elim
      · exact h.elim

/-- A region that draws. -/
theorem draw_sound {T : Tab} (hT : TabOK P T) {C : Cx} {n : Nat} {id : Nat} {ops : Array Oper} {Q : Exit → Act → World → Prop} {K : St → Prop} (hQ : ∀ ι s a w, K s → SR C n ι s a w → Q .normal a w)
    {ι : Lay} {s : St} {a : Act} {w : World} (h : SR C n ι s a w) (hk : drawK P T n ops.toList s.f ops.toList s [] K) : (Code.region id ops true).wp P Q a w := by
  refine wp_region_any hT.2 ?_
  obtain ⟨l, F, h0, h1, h2, h3, h4, h5⟩ := drawK_sound (C := C) (Q := Q) hT ops.toList 0 rfl s [] hk
  have hspec := drawOK_spec h4
  have hF : s.f ≤ F := by
    cases l with
    | nil => rw [h0 rfl]; exact Nat.le_refl _
    | cons d r => obtain ⟨q1, q2, q3, _⟩ := hspec.fp d.x (by simp); omega
  have hnone : (fun k => (Array.replicate ops.size false).getD k false) = fun _ => false := by
    funext k
    rw [Array.getD_eq_getD_getElem?, Array.getElem?_replicate]
    split <;> rfl
  refine draw_perm (l := l) (s := s) (F := F) (by simpa using h1) h2 (fun k d hd => by have := h3 k d hd; rwa [Nat.zero_add] at this) (by simpa using hspec) h.k0 (fun ι a w hs => hQ ι _ a w h5 hs) ops.size _ ι a _ (by simp) ?_ ?_ ?_ ?_ ?_
  · exact Nat.le_trans List.countP_le_length (by simp)
  · intro k o _ hk
    have := congrFun hnone k
    rw [this] at hk; cases hk
  · rw [hnone, fold_none]
    exact { size := h.size, defers := h.defers, tm := h.tm, low := h.low, rwi := h.rwi
            dom := fun b hb => h.dom b (Nat.le_trans hF hb)
            k0 := Nat.le_trans h.k0 hF
            wr := ⟨fun b => BR_same (fun _ _ => rfl) (h.wr.br b), h.wr.sep, h.wr.lt, ⟨h.wr.amb.os, h.wr.amb.tape, h.wr.amb.output, h.wr.amb.size, h.wr.amb.block⟩, h.wr.own⟩ }
  · exact fun b hb _ => (h.dom b hb).1
  · exact fun b hb => (h.dom b hb).2

end Go.Vx

/- Lemmas of a small executor for the model, and contracts of functions, used for the law that this claim proves. No condition. -/
import Derived.Test.YtpohlkhnilcfnaaDVx10
set_option linter.unusedSimpArgs false
set_option linter.unusedVariables false
namespace Go.Vx
variable {P : Program}

theorem ups_mem (xs0 : Ix) (sl : Nat) {y : Nat} {k : Blk} : ∀ (r : Ix) (L Bl : List Blk) (j : Nat), (y, k) ∈ upsOf xs0 sl r L Bl j →
    (∃ i x, r[i]? = some (some x) ∧ (blL L i).rw = true ∧ i < L.length ∧ y = x ∧ k = (blL Bl i).ren (rb xs0 sl)) ∨
    (∃ m, L.length + m < Bl.length ∧ y = sl + (j + m) ∧ k = (blL Bl (L.length + m)).ren (rb xs0 sl))
  | [], [], [], j, h => by simp [upsOf] at h
  | [], [], b :: Bl, j, h => by
    simp only [upsOf, List.mem_cons, Prod.mk.injEq] at h
    rcases h with ⟨rfl, rfl⟩ | h
    · exact .inr ⟨0, by simp, by simp, by simp [blL]⟩
    · rcases ups_mem xs0 sl [] [] Bl (j + 1) h with ⟨i, x, h1, _⟩ | ⟨m, h1, h2, h3⟩
      · simp at h1
      · refine .inr ⟨m + 1, by simp at h1 ⊢; omega, by omega, ?_⟩
        simpa [blL] using h3
  | [], _ :: _, _, j, h => by simp [upsOf] at h
  | _ :: _, [], _, j, h => by simp [upsOf] at h
  | _ :: _, _ :: _, [], j, h => by simp [upsOf] at h
  | none :: r, l :: L, b :: Bl, j, h => by
    simp only [upsOf] at h
    rcases ups_mem xs0 sl r L Bl j h with ⟨i, x, h1, h2, h3, h4, h5⟩ | ⟨m, h1, h2, h3⟩
    · exact .inl ⟨i + 1, x, by simpa using h1, by simpa [blL] using h2, by simp; omega, h4, by simpa [blL] using h5⟩
    · refine .inr ⟨m, by simp; omega, h2, ?_⟩
      rw [List.length_cons, show L.length + 1 + m = (L.length + m) + 1 from by omega]
      exact h3
  | some x0 :: r, l :: L, b :: Bl, j, h => by
    have tail : (y, k) ∈ upsOf xs0 sl r L Bl j → _ := fun h => ups_mem xs0 sl r L Bl j h
    have lift : ((∃ i x, r[i]? = some (some x) ∧ (blL L i).rw = true ∧ i < L.length ∧ y = x ∧ k = (blL Bl i).ren (rb xs0 sl)) ∨
        (∃ m, L.length + m < Bl.length ∧ y = sl + (j + m) ∧ k = (blL Bl (L.length + m)).ren (rb xs0 sl))) →
        (∃ (i : Nat) (x : Nat), (some x0 :: r)[i]? = some (some x) ∧ (blL (l :: L) i).rw = true ∧ i < (l :: L).length ∧ y = x ∧ k = (blL (b :: Bl) i).ren (rb xs0 sl)) ∨
        (∃ m, (l :: L).length + m < (b :: Bl).length ∧ y = sl + (j + m) ∧ k = (blL (b :: Bl) ((l :: L).length + m)).ren (rb xs0 sl)) := by
      rintro (⟨i, x, h1, h2, h3, h4, h5⟩ | ⟨m, h1, h2, h3⟩)
      · exact .inl ⟨i + 1, x, by simpa using h1, by simpa [blL] using h2, by simp; omega, h4, by simpa [blL] using h5⟩
      · refine .inr ⟨m, by simp; omega, h2, ?_⟩
        rw [List.length_cons, show L.length + 1 + m = (L.length + m) + 1 from by omega]
        exact h3
    simp only [upsOf] at h
    cases hl : l.rw with
    | false => simp only [hl, cond_false] at h; exact lift (tail h)
    | true =>
      simp only [hl, cond_true, List.mem_cons, Prod.mk.injEq] at h
      rcases h with ⟨rfl, rfl⟩ | h
      · exact .inl ⟨0, _, by simp, by simpa [blL] using hl, by simp, rfl, by simp [blL]⟩
      · exact lift (tail h)

theorem ups_lent (xs0 : Ix) (sl : Nat) : ∀ (r : Ix) (L Bl : List Blk) (j i x : Nat), r.length = L.length → L.length ≤ Bl.length → r[i]? = some (some x) → (blL L i).rw = true → (x, (blL Bl i).ren (rb xs0 sl)) ∈ upsOf xs0 sl r L Bl j
  | [], _, _, _, i, x, _, _, h, _ => by simp at h
  | _ :: _, [], _, _, _, _, h, _, _, _ => by simp at h
  | _ :: _, _ :: _, [], _, _, _, _, h, _, _ => by simp at h
  | o :: r, l :: L, b :: Bl, j, 0, x, h1, h2, h3, h4 => by
    simp at h3; subst h3
    have hl : l.rw = true := by simpa [blL] using h4
    simp [upsOf, hl, blL]
  | o :: r, l :: L, b :: Bl, j, i + 1, x, h1, h2, h3, h4 => by
    have ih := ups_lent xs0 sl r L Bl j i x (by simpa using h1) (by simpa using h2) (by simpa using h3) (by simpa [blL] using h4)
    simp only [upsOf, blL]
    cases o with
    | none => exact ih
    | some y =>
      cases hl : l.rw with
      | false => simpa [hl] using ih
      | true => simp only [cond_true]; exact List.mem_cons_of_mem _ ih

theorem ups_new (xs0 : Ix) (sl : Nat) : ∀ (r : Ix) (L Bl : List Blk) (j m : Nat), r.length = L.length → L.length + m < Bl.length → (sl + (j + m), (blL Bl (L.length + m)).ren (rb xs0 sl)) ∈ upsOf xs0 sl r L Bl j
  | [], [], [], _, _, _, h => by simp at h
  | [], [], b :: Bl, j, 0, _, _ => by simp [upsOf, blL]
  | [], [], b :: Bl, j, m + 1, _, h => by
    have ih := ups_new xs0 sl [] [] Bl (j + 1) m rfl (by simp at h ⊢; omega)
    simp only [upsOf, List.mem_cons]
    right
    rw [show j + (m + 1) = j + 1 + m from by omega]
    simpa [blL] using ih
  | [], _ :: _, _, _, _, h, _ => by simp at h
  | _ :: _, [], _, _, _, h, _ => by simp at h
  | _ :: _, _ :: _, [], _, _, _, h => by simp at h
  | o :: r, l :: L, b :: Bl, j, m, h1, h2 => by
    have ih := ups_new xs0 sl r L Bl j m (by simpa using h1) (by simp at h2; omega)
    have e : blL (b :: Bl) ((l :: L).length + m) = blL Bl (L.length + m) := by
      rw [List.length_cons, show L.length + 1 + m = (L.length + m) + 1 from by omega]; rfl
    rw [e]
    simp only [upsOf]
    cases o with
    | none => exact ih
    | some y =>
      cases hl : l.rw with
      | false => simpa [hl] using ih
      | true => simp only [cond_true]; exact List.mem_cons_of_mem _ ih

theorem blL_live_lt : ∀ (l : List Blk) (b : Nat), (blL l b).live = true → b < l.length
  | [], b, h => by simp [blL, Blk.live] at h
  | _ :: _, 0, _ => by simp
  | _ :: r, b + 1, h => by have := blL_live_lt r b (by simpa [blL] using h); simp; omega

theorem live_ren (k : Blk) (r : Nat → Nat) : (k.ren r).live = k.live := by cases k <;> rfl
theorem rw_ren (k : Blk) (r : Nat → Nat) : (k.ren r).rw = k.rw := by cases k <;> rfl

theorem call_soundR {E : Amb} {ι : Lay} {bs : Nat → Blk} {w : World} (hW : WR E ι bs w) {sl : Nat} {g : FuncId} {args : List AV} {cs : List Value} (ha : relL ι args cs)
    {xs : Ix} {args' : List AV} {L : List Blk} {R : AV → List Blk → Prop} (hR : Runs P g args' L R) (hsub : subL xs.at args' args) (hB : subB xs.at bs xs L) (hnd : xs.nodup = true)
    (hfR : ∀ V Bl, R V Bl → ∀ b, sl ≤ b → b < upF sl L Bl → ι b = none ∧ bs b = .gone) :
    (∀ as w, (callFunc g as).run P w = .ok (.enter g as) w) ∧
    Calls P g cs.toArray w fun e w' => ∃ V Bl c ι', e = .returned c ∧ R V Bl ∧ sl ≤ upF sl L Bl ∧ rel ι' (V.ren (rb xs sl)) c ∧ Delta ι bs sl (upF sl L Bl) w ι' (upsOf xs sl xs L Bl 0) w' := by
  obtain ⟨hlen0, hBat⟩ := subB_at xs L hB
  let ιx := layOf xs.at ι
  have hWx : WR (ambOf ιx (blL L) w) ιx (blL L) w := WR_sub hW hB hnd (Keeps.refl _ _) fun b l hr hl => .inl ⟨b, l, hr, hl, rfl⟩
  have hdom : ∀ b, L.length ≤ b → ιx b = none := by
    intro b hb
    have : xs[b]? = none := List.getElem?_eq_none (by omega)
    simp [ιx, layOf, Ix.at, this]
  refine ⟨hR.1, (hR.2 w ιx cs hWx hdom (subL_rel _ _ _ hsub ha)).mono ?_⟩
  rintro e w' ⟨V, Bl, v, ι', rfl, hRV, hlen, hrel, hlow, hdom', hrwi, hW'⟩
  have hf := hfR V Bl hRV
  have hupf := upF_eq sl L Bl hlen
  have hupf0 := hupf
  generalize hf' : upF sl L Bl = f' at hf hupf
  let ιn : Lay := fun b => if sl ≤ b ∧ b < f' then ι' (L.length + (b - sl)) else ι b
  have nin : ∀ b, sl ≤ b → b < f' → ιn b = ι' (L.length + (b - sl)) := fun b h1 h2 => by simp [ιn, h1, h2]
  have nout : ∀ b, b < sl ∨ f' ≤ b → ιn b = ι b := fun b h => by
    have : ¬ (sl ≤ b ∧ b < f') := by omega
    simp only [ιn, if_neg this]
  have lent : ∀ b l, b < L.length → ι' b = some l → ∃ x, xs[b]? = some (some x) ∧ ι x = some l ∧ (x < sl ∨ f' ≤ x) := by
    intro b l hb hl
    rw [hlow b hb] at hl
    simp only [ιx, layOf] at hl
    cases hx : xs.at b with
    | none => simp [hx] at hl
    | some x =>
      simp only [hx, Option.bind_some] at hl
      refine ⟨x, at_some.1 hx, hl, ?_⟩
      rcases Nat.lt_or_ge x sl with h' | h'
      · exact .inl h'
      · rcases Nat.lt_or_ge x (f') with h'' | h''
        · rw [(hf x h' h'').1] at hl; cases hl
        · exact .inr h''
  have rlent : ∀ b x, xs[b]? = some (some x) → rb xs sl b = x := fun b x h => by simp [rb, h]
  have rnew : ∀ b, L.length ≤ b → rb xs sl b = sl + (b - L.length) := fun b h => by
    have : xs[b]? = none := List.getElem?_eq_none (by omega)
    simp [rb, this, hlen0]
  have hr : ∀ b l, ι' b = some l → ιn (rb xs sl b) = some l := by
    intro b l hl
    rcases Nat.lt_or_ge b L.length with h1 | h1
    · obtain ⟨x, q1, q2, q3⟩ := lent b l h1 hl
      rw [rlent b x q1, nout x q3]; exact q2
    · have h2 : b < Bl.length := by
        rcases Nat.lt_or_ge b Bl.length with h | h
        · exact h
        · rw [hdom' b h] at hl; cases hl
      rw [rnew b h1, nin _ (by omega) (by omega), show L.length + (sl + (b - L.length) - sl) = b from by omega]
      exact hl
  -- the lent block that is written lies below the slots
  have xout : ∀ b x, xs[b]? = some (some x) → (blL L b).rw = true → (bs x).rw = true ∧ (x < sl ∨ f' ≤ x) := by
    intro b x hx hrw
    have h1 := BSub_rw ((hBat b).1 x hx) hrw
    refine ⟨h1, ?_⟩
    rcases Nat.lt_or_ge x sl with h' | h'
    · exact .inl h'
    · rcases Nat.lt_or_ge x (f') with h'' | h''
      · rw [(hf x h' h'').2] at h1; cases h1
      · exact .inr h''
  have upmem : ∀ y k, (y, k) ∈ upsOf xs sl xs L Bl 0 → (∃ i, xs[i]? = some (some y) ∧ (blL L i).rw = true ∧ i < L.length ∧ k = (blL Bl i).ren (rb xs sl)) ∨ (∃ m, L.length + m < Bl.length ∧ y = sl + m ∧ k = (blL Bl (L.length + m)).ren (rb xs sl)) := by
    intro y k hm
    rcases ups_mem xs sl xs L Bl 0 hm with ⟨i, x, h1, h2, h3, rfl, h5⟩ | ⟨m, h1, h2, h3⟩
    · exact .inl ⟨i, h1, h2, h3, h5⟩
    · exact .inr ⟨m, h1, by omega, h3⟩
  have upval_lent : ∀ i x, xs[i]? = some (some x) → (blL L i).rw = true → i < L.length → updL bs (upsOf xs sl xs L Bl 0) x = (blL Bl i).ren (rb xs sl) := by
    intro i x hx hrw hi
    have hin := ups_lent xs sl xs L Bl 0 i x hlen0 hlen hx hrw
    rcases updL_cases bs (upsOf xs sl xs L Bl 0) x with ⟨k, h1, h2⟩ | ⟨h1, _⟩
    · rw [h2]
      rcases upmem x k h1 with ⟨i', q1, q2, q3, q4⟩ | ⟨m, q1, q2, q3⟩
      · rw [nodup_spec xs hnd i i' x hx q1]; exact q4
      · have := (xout i x hx hrw).2; omega
    · exact absurd hin (h1 _)
  have upval_new : ∀ m, L.length + m < Bl.length → updL bs (upsOf xs sl xs L Bl 0) (sl + m) = (blL Bl (L.length + m)).ren (rb xs sl) := by
    intro m hm
    have hin := ups_new xs sl xs L Bl 0 m hlen0 hm
    rw [Nat.zero_add] at hin
    rcases updL_cases bs (upsOf xs sl xs L Bl 0) (sl + m) with ⟨k, h1, h2⟩ | ⟨h1, _⟩
    · rw [h2]
      rcases upmem (sl + m) k h1 with ⟨i', q1, q2, q3, q4⟩ | ⟨m', q1, q2, q3⟩
      · have := (xout i' _ q1 q2).2; omega
      · have : m' = m := by omega
        subst this; exact q3
    · exact absurd hin (h1 _)
  -- a live block in the slots
  have slotlive : ∀ b, sl ≤ b → b < f' → (updL bs (upsOf xs sl xs L Bl 0) b).live = true → ∃ m, b = sl + m ∧ L.length + m < Bl.length ∧ (blL Bl (L.length + m)).live = true ∧ (blL Bl (L.length + m)).rw = true ∧ ιn b = ι' (L.length + m) := by
    intro b h1 h2 h3
    obtain ⟨m, rfl⟩ : ∃ m, b = sl + m := ⟨b - sl, by omega⟩
    have hm : L.length + m < Bl.length := by
      rcases Nat.lt_or_ge (L.length + m) Bl.length with h | h
      · exact h
      · exfalso
        rcases updL_cases bs (upsOf xs sl xs L Bl 0) (sl + m) with ⟨k, q1, q2⟩ | ⟨_, q2⟩
        · rcases upmem _ k q1 with ⟨i', r1, r2, _⟩ | ⟨m', r1, r2, _⟩
          · have := (xout i' _ r1 r2).2; omega
          · omega
        · rw [q2, (hf _ h1 h2).2] at h3; cases h3
    rw [upval_new m hm, live_ren] at h3
    refine ⟨m, rfl, hm, h3, ?_, ?_⟩
    · rcases hrwi _ h3 with h | ⟨h, _⟩
      · exact h
      · omega
    · rw [nin _ h1 h2, show sl + m - sl = m from by omega]
  refine ⟨V, Bl, v, ιn, rfl, hRV, by omega, ren_rel hr V v hrel, ?_⟩
  rw [hf']
  exact {
    ext := nout
    br := by
      rintro b ⟨k, hk⟩
      rcases upmem b k hk with ⟨i, q1, q2, q3, q4⟩ | ⟨m, q1, rfl, q3⟩
      · rw [upval_lent i b q1 q2 q3]
        refine BR_ren hr ?_ (hW'.br i)
        rw [nout b (xout i b q1 q2).2, hlow i q3]
        simp [ιx, layOf, at_some.2 q1]
      · rw [upval_new m q1]
        refine BR_ren hr ?_ (hW'.br _)
        rw [nin _ (by omega) (by omega), show sl + m - sl = m from by omega]
    os := hW'.amb.os
    tape := hW'.amb.tape
    output := hW'.amb.output
    size := hW'.amb.size
    keep := fun g hg hk => by
      refine hW'.amb.block g hg ?_
      rintro ⟨b, l, h1, h2, h3⟩
      simp only [ιx, layOf] at h2
      cases hx : xs.at b with
      | none => simp [hx] at h2
      | some x =>
        simp only [hx, Option.bind_some] at h2
        have hx' := at_some.1 hx
        exact hk x _ l (ups_lent xs sl xs L Bl 0 b x hlen0 hlen hx' h1) (xout b x hx' h1).1 h2 h3
    lt := fun b l h1 h2 h3 => by rw [nin b h1 h2] at h3; exact hW'.lt _ l h3
    fresh := fun b l h1 h2 h3 h4 => by
      obtain ⟨m, rfl, hm, hl, hrw, hι⟩ := slotlive b h1 h2 h3
      rw [hι] at h4
      rcases hW'.own _ l hrw h4 with ⟨b0, l0, q1, q2, q3⟩ | q
      · right
        have hb0 : b0 < L.length := blL_live_lt L b0 (rw_live q1)
        simp only [ιx, layOf] at q2
        cases hx : xs.at b0 with
        | none => simp [hx] at q2
        | some x =>
          simp only [hx, Option.bind_some] at q2
          have hx' := at_some.1 hx
          have hgone : blL Bl b0 = .gone := by
            cases hbb : blL Bl b0 with
            | gone => rfl
            | _ =>
              exfalso
              refine hW'.sep (L.length + m) b0 l l0 (by omega) hrw (by rw [hbb]; rfl) h4 ?_ q3.symm
              rw [hlow b0 hb0]
              simp [ιx, layOf, hx, q2]
          refine ⟨x, l0, ?_, ?_, (xout b0 x hx' q1).1, q2, q3⟩
          · have := ups_lent xs sl xs L Bl 0 b0 x hlen0 hlen hx' q1
            rw [hgone] at this; exact this
          · rw [upval_lent b0 x hx' q1 hb0, hgone]; rfl
      · exact .inl q
    one := fun b b' l l' h1 h2 h3 h4 hne h5 h6 h7 h8 => by
      obtain ⟨m, rfl, hm, hl, hrw, hι⟩ := slotlive b h1 h2 (rw_live h5)
      obtain ⟨m', rfl, hm', hl', hrw', hι'⟩ := slotlive b' h3 h4 h6
      rw [hι] at h7
      rw [hι'] at h8
      exact hW'.sep _ _ l l' (by omega) hrw hl' h7 h8
    rwn := fun b k hk hl => by
      rcases upmem b k hk with ⟨i, q1, q2, q3, rfl⟩ | ⟨m, q1, rfl, rfl⟩
      · rw [live_ren] at hl
        rw [rw_ren]
        rcases hrwi i hl with h | ⟨_, h⟩
        · exact h
        · rw [q2] at h; cases h
      · rw [live_ren] at hl
        rw [rw_ren]
        rcases hrwi _ hl with h | ⟨h, _⟩
        · exact h
        · omega
    upr := fun b k hk => by
      rcases upmem b k hk with ⟨i, q1, q2, q3, _⟩ | ⟨m, q1, rfl, _⟩
      · exact .inr (xout i b q1 q2).1
      · exact .inl (by omega) }

theorem call_sound {E : Amb} {ι : Lay} {bs : Nat → Blk} {w : World} (hW : WR E ι bs w) {sl : Nat} (hf : ∀ b, sl ≤ b → ι b = none ∧ bs b = .gone) {g : FuncId} {args : List AV} {cs : List Value} (ha : relL ι args cs)
    {K : AV → List (Nat × Blk) → Nat → Prop} (h : callK P g args bs sl K) :
    (∀ as w, (callFunc g as).run P w = .ok (.enter g as) w) ∧
    Calls P g cs.toArray w fun e w' => ∃ V up f' c ι', e = .returned c ∧ K V up f' ∧ sl ≤ f' ∧ rel ι' V c ∧ Delta ι bs sl f' w ι' up w' := by
  obtain ⟨xs, args', L, R, hR, hsub, hB, hnd, hK⟩ := h
  obtain ⟨h1, h2⟩ := call_soundR hW ha hR hsub hB hnd (sl := sl) fun _ _ _ b hb _ => hf b hb
  refine ⟨h1, h2.mono ?_⟩
  rintro e w' ⟨V, Bl, c, ι', rfl, hRV, a1, a2, a3⟩
  exact ⟨_, _, _, c, ι', rfl, hK V Bl hRV, a1, a2, a3⟩

end Go.Vx

/- Lemmas of a small executor for the model, and contracts of functions, used for the law that this claim proves. No condition. -/
import Derived.Test.YtpohlkhnilcfnaaDVx9
set_option linter.unusedSimpArgs false
set_option linter.unusedVariables false
namespace Go.Vx
variable {P : Program}

def layOf (ρ : Nat → Option Nat) (ι : Lay) : Lay := fun b => (ρ b).bind ι

mutual
theorem sub_rel {ρ : Nat → Option Nat} {ι : Lay} : ∀ (x y : AV) (c : Value), sub ρ x y → rel ι y c → rel (layOf ρ ι) x c
  | .dead, y, c => by intro _ _; simp [rel]
  | .val v, y, c => by simp only [sub]; rintro rfl h; simpa [rel] using h
  | .sb b, y, c => by simp only [sub]; rintro (rfl | rfl) h <;> simpa [rel] using h
  | .ptr b e i j, y, c => by
    simp only [sub]
    rintro ⟨x, hx, rfl⟩ h
    simp only [rel] at h ⊢
    obtain ⟨l, hl, e1⟩ := h
    exact ⟨l, by simp [layOf, hx, hl], e1⟩
  | .sl b e off len cap, y, c => by
    simp only [sub]
    rintro (⟨x, hx, rfl⟩ | ⟨h0, rfl, hc⟩) h
    · simp only [rel] at h ⊢
      obtain ⟨a, k, h1, h2, h3, h4⟩ := h
      refine ⟨a, k, h1, h2, h3, fun hk => ?_⟩
      obtain ⟨l, hl, r⟩ := h4 hk
      exact ⟨l, by simp [layOf, hx, hl], r⟩
    · simp only [rel] at h ⊢
      subst h0; subst h
      refine ⟨none, 0, rfl, Nat.le_refl _, fun m hm => ?_, fun hk => absurd hk (by omega)⟩
      rcases hc with rfl | rfl
      · cases hm
      · cases hm; rfl
  | .fn f caps, y, c => by
    simp only [sub]
    rintro ⟨cs, rfl, hs⟩ h
    simp only [rel] at h ⊢
    obtain ⟨us, e1, h1⟩ := h
    exact ⟨us, e1, subL_rel caps cs us hs h1⟩
  | .agg vs, y, c => by
    simp only [sub]
    rintro ⟨cs, rfl, hs⟩ h
    simp only [rel] at h ⊢
    obtain ⟨us, e1, h1, h2⟩ := h
    exact ⟨us, e1, subL_rel vs cs us hs h1, h2⟩
  | .tup vs, y, c => by
    simp only [sub]
    rintro ⟨cs, rfl, hs⟩ h
    simp only [rel] at h ⊢
    obtain ⟨us, e1, h1⟩ := h
    exact ⟨us, e1, subL_rel vs cs us hs h1⟩
  | .map b, y, c => by
    simp only [sub]
    rintro ⟨x, hx, rfl⟩ h
    simp only [rel] at h ⊢
    obtain ⟨l, hl, e1⟩ := h
    exact ⟨l, by simp [layOf, hx, hl], e1⟩
theorem subL_rel {ρ : Nat → Option Nat} {ι : Lay} : ∀ (xs ys : List AV) (cs : List Value), subL ρ xs ys → relL ι ys cs → relL (layOf ρ ι) xs cs
  | [], ys, cs => by simp only [subL]; rintro rfl h; simpa [relL] using h
  | x :: r, ys, cs => by
    simp only [subL]
    rintro ⟨y, r', rfl, h1, h2⟩ h
    simp only [relL] at h ⊢
    obtain ⟨c, q, rfl, h3, h4⟩ := h
    exact ⟨c, q, rfl, sub_rel x y c h1 h3, subL_rel r r' q h2 h4⟩
end

mutual
theorem ren_rel {r : Nat → Nat} {ι ι' : Lay} (hr : ∀ b l, ι' b = some l → ι (r b) = some l) : ∀ (v : AV) (c : Value), rel ι' v c → rel ι (v.ren r) c
  | .dead, c => by simp [AV.ren, rel]
  | .val v, c => by simp [AV.ren, rel]
  | .sb b, c => by simp [AV.ren, rel]
  | .ptr b e i j, c => by simp only [AV.ren, rel]; rintro ⟨l, hl, e1⟩; exact ⟨l, hr _ _ hl, e1⟩
  | .sl b e off len cap, c => by
    simp only [AV.ren, rel]
    rintro ⟨a, k, h1, h2, h3, h4⟩
    refine ⟨a, k, h1, h2, h3, fun hk => ?_⟩
    obtain ⟨l, hl, q⟩ := h4 hk
    exact ⟨l, hr _ _ hl, q⟩
  | .fn f caps, c => by simp only [AV.ren, rel]; rintro ⟨cs, e1, h⟩; exact ⟨cs, e1, renL_rel hr caps cs h⟩
  | .agg vs, c => by simp only [AV.ren, rel]; rintro ⟨cs, e1, h, h2⟩; exact ⟨cs, e1, renL_rel hr vs cs h, h2⟩
  | .tup vs, c => by simp only [AV.ren, rel]; rintro ⟨cs, e1, h⟩; exact ⟨cs, e1, renL_rel hr vs cs h⟩
  | .map b, c => by simp only [AV.ren, rel]; rintro ⟨l, hl, e1⟩; exact ⟨l, hr _ _ hl, e1⟩
theorem renL_rel {r : Nat → Nat} {ι ι' : Lay} (hr : ∀ b l, ι' b = some l → ι (r b) = some l) : ∀ (vs : List AV) (cs : List Value), relL ι' vs cs → relL ι (renL r vs) cs
  | [], cs => by simp [renL, relL]
  | v :: vs, cs => by simp only [renL, relL]; rintro ⟨c, q, e1, h1, h2⟩; exact ⟨c, q, e1, ren_rel hr v c h1, renL_rel hr vs q h2⟩
end

theorem subL_get {ρ : Nat → Option Nat} : ∀ (xs ys : List AV), subL ρ xs ys → ∀ (i : Nat) (x : AV), xs[i]? = some x → ∃ y, ys[i]? = some y ∧ sub ρ x y
  | [], ys, _, i, x, h => by simp at h
  | x :: r, ys, h, i, u, hu => by
    simp only [subL] at h
    obtain ⟨y, r', rfl, h1, h2⟩ := h
    cases i with
    | zero => simp at hu; subst hu; exact ⟨y, rfl, h1⟩
    | succ i => simpa using subL_get r r' h2 i u (by simpa using hu)

theorem renL_get (r : Nat → Nat) : ∀ (vs : List AV) (i : Nat), (renL r vs)[i]? = (vs[i]?).map (·.ren r)
  | [], i => by simp [renL]
  | v :: vs, i => by cases i <;> simp [renL, renL_get r vs]

theorem BSub_BR {ρ : Nat → Option Nat} {ι : Lay} {w : World} {k k' : Blk} {b x : Nat} (h : BSub ρ k k') (hx : ρ b = some x) (hb : BR ι w x k') : BR (layOf ρ ι) w b k := by
  have hι : layOf ρ ι b = ι x := by simp [layOf, hx]
  cases k with
  | gone => trivial
  | var cs =>
    obtain ⟨cs', rfl, hs⟩ := h
    obtain ⟨l, C, t, h1, h2, h3, h4⟩ := hb
    refine ⟨l, C, t, by rw [hι]; exact h1, h2, h3, fun j v hj => ?_⟩
    obtain ⟨y, q1, q2⟩ := subL_get _ _ hs j v hj
    obtain ⟨c, r1, r2, r3⟩ := h4 j y q1
    exact ⟨c, r1, r2, sub_rel v y c q2 r3⟩
  | arr rw t e n c =>
    rcases h with ⟨rw', t', n', c', ⟨rfl, hnn⟩, hrw, hs⟩ | ⟨hrw, hn, cs', rfl, hs⟩
    rotate_left
    · obtain ⟨l, C, t, h1, ⟨h2, h2'⟩, h3, h4⟩ := hb
      subst hn
      refine .inr ⟨l, by rw [hι]; exact h1, h2', fun i hi j hj => ?_, fun hr => by rw [hrw] at hr; cases hr⟩
      have hi0 : i = 0 := by omega
      subst hi0
      obtain ⟨v, q1, q2⟩ := hs j hj
      obtain ⟨cv, r1, r2, r3⟩ := h4 j v q1
      refine ⟨cv, ?_, r2, sub_rel _ _ cv q2 r3⟩
      rw [cell_of_row w l.g _ C t (0, 0) h3, h2, ← r1]
      congr 1; omega
    rcases hb with ⟨h1, h2⟩ | ⟨l, h1, h2, h3, h4⟩
    · exact .inl ⟨by omega, by rw [hι]; exact h2⟩
    · refine .inr ⟨l, by rw [hι]; exact h1, Nat.le_trans hnn h2, fun i hi j hj => ?_, fun hr => ?_⟩
      · obtain ⟨cv, r1, r2, r3⟩ := h3 i (by omega) j hj
        exact ⟨cv, r1, r2, sub_rel _ _ cv (hs i hi j hj) r3⟩
      · obtain ⟨e1, rfl⟩ := hrw hr
        exact h4 e1
  | map ka ks c =>
    obtain ⟨ks', c', rfl, rfl, hs⟩ := h
    obtain ⟨l, es, clock, h1, h2, h3⟩ := hb
    exact ⟨l, es, clock, by rw [hι]; exact h1, h2, h3.keys, h3.len, h3.nodup, fun i k e a1 a2 => sub_rel _ _ _ (hs k (List.mem_of_getElem? a1)) (h3.vals i k e a1 a2)⟩

theorem virt_BR {ι : Lay} {w : World} {k : Blk} {b : Nat} (h : virtOK k) (hb : ι b = none) : BR ι w b k := by
  cases k with
  | gone => trivial
  | var cs => exact h.elim
  | arr rw t e n c => exact .inl ⟨h, hb⟩
  | map ka ks c => exact h.elim

theorem BR_ren {r : Nat → Nat} {ι ι' : Lay} {w : World} {k : Blk} {b x : Nat} (hr : ∀ b l, ι' b = some l → ι (r b) = some l) (hx : ι x = ι' b) (hb : BR ι' w b k) : BR ι w x (k.ren r) := by
  cases k with
  | gone => trivial
  | var cs =>
    obtain ⟨l, C, t, h1, h2, h3, h4⟩ := hb
    refine ⟨l, C, t, hx.trans h1, h2, h3, fun j v hj => ?_⟩
    rw [renL_get] at hj
    cases hc : cs[j]? with
    | none => simp [hc] at hj
    | some u =>
      simp only [hc, Option.map_some, Option.some.injEq] at hj
      subst hj
      obtain ⟨c, r1, r2, r3⟩ := h4 j u hc
      exact ⟨c, r1, r2, ren_rel hr u c r3⟩
  | arr rw t e n c =>
    rcases hb with ⟨h1, h2⟩ | ⟨l, h1, h2, h3, h4⟩
    · exact .inl ⟨h1, hx.trans h2⟩
    · refine .inr ⟨l, hx.trans h1, h2, fun i hi j hj => ?_, h4⟩
      obtain ⟨cv, r1, r2, r3⟩ := h3 i hi j hj
      exact ⟨cv, r1, r2, ren_rel hr _ cv r3⟩
  | map ka ks c =>
    obtain ⟨l, es, clock, h1, h2, h3⟩ := hb
    exact ⟨l, es, clock, hx.trans h1, h2, h3.keys, h3.len, h3.nodup, fun i k e a1 a2 => ren_rel hr _ _ (h3.vals i k e a1 a2)⟩

/-- What 'subB' says of each block. -/
theorem subB_at {ρ : Nat → Option Nat} {bs : Nat → Blk} : ∀ (xs : Ix) (ks : List Blk), subB ρ bs xs ks → xs.length = ks.length ∧
    ∀ b, (∀ x, xs[b]? = some (some x) → BSub ρ (blL ks b) (bs x)) ∧ (xs[b]? = some none → virtOK (blL ks b)) ∧ (xs[b]? = none → blL ks b = .gone)
  | [], [], _ => ⟨rfl, fun b => by simp [blL]⟩
  | [], _ :: _, h => by simp [subB] at h
  | none :: _, [], h => by simp [subB] at h
  | some _ :: _, [], h => by simp [subB] at h
  | none :: xs, k :: ks, h => by
    simp only [subB] at h
    obtain ⟨h1, h2⟩ := subB_at xs ks h.2
    refine ⟨by simp [h1], fun b => ?_⟩
    cases b with
    | zero => simp [blL, h.1]
    | succ b => simpa [blL] using h2 b
  | some x :: xs, k :: ks, h => by
    simp only [subB] at h
    obtain ⟨h1, h2⟩ := subB_at xs ks h.2
    have h3 := stop_out ((forceB_iff _ _).1 h.1)
    refine ⟨by simp [h1], fun b => ?_⟩
    cases b with
    | zero => simp [blL, h3]
    | succ b => simpa [blL] using h2 b

theorem notIn_spec {x : Nat} : ∀ (xs : Ix), notIn x xs = true → ∀ i : Nat, xs[i]? ≠ some (some x)
  | [], _, i => by simp
  | none :: r, h, i => by
    cases i with
    | zero => simp
    | succ i => simpa using notIn_spec r (by simpa [notIn] using h) i
  | some y :: r, h, i => by
    simp only [notIn, Bool.and_eq_true, Bool.not_eq_true'] at h
    cases i with
    | zero =>
      intro e
      simp at e
      subst e
      rw [Nat.beq_refl] at h
      cases h.1
    | succ i => simpa using notIn_spec r h.2 i

theorem nodup_spec : ∀ (xs : Ix), xs.nodup = true → ∀ (i j x : Nat), xs[i]? = some (some x) → xs[j]? = some (some x) → i = j
  | [], _, i, j, x, h, _ => by simp at h
  | none :: r, h, i, j, x, hi, hj => by
    cases i with
    | zero => simp at hi
    | succ i =>
      cases j with
      | zero => simp at hj
      | succ j => rw [nodup_spec r (by simpa [Ix.nodup] using h) i j x (by simpa using hi) (by simpa using hj)]
  | some y :: r, h, i, j, x, hi, hj => by
    simp only [Ix.nodup, Bool.and_eq_true] at h
    cases i with
    | zero =>
      simp at hi; subst hi
      cases j with
      | zero => rfl
      | succ j => exact absurd (by simpa using hj) (notIn_spec r h.1 j)
    | succ i =>
      cases j with
      | zero => simp at hj; subst hj; exact absurd (by simpa using hi) (notIn_spec r h.1 i)
      | succ j => rw [nodup_spec r h.2 i j x (by simpa using hi) (by simpa using hj)]

theorem at_some {xs : Ix} {b x : Nat} : xs.at b = some x ↔ xs[b]? = some (some x) := by
  unfold Ix.at
  split
  · rename_i y h; rw [h]; simp
  · rename_i h
    constructor
    · intro e; cases e
    · intro e; exact absurd e (h x)

theorem BSub_rw {ρ : Nat → Option Nat} {k k' : Blk} (h : BSub ρ k k') (hr : k.rw = true) : k'.rw = true := by
  cases k with
  | gone => cases hr
  | var cs => obtain ⟨_, rfl, _⟩ := h; rfl
  | arr rw t e n c =>
    rcases h with ⟨rw', t', n', c', ⟨rfl, _⟩, h1, _⟩ | ⟨h1, _⟩
    · exact (h1 hr).1
    · subst h1; cases hr
  | map ka ks c => obtain ⟨_, _, rfl, _⟩ := h; rfl
theorem BSub_live {ρ : Nat → Option Nat} {k k' : Blk} (h : BSub ρ k k') (hr : k.live = true) : k'.live = true := by
  cases k with
  | gone => cases hr
  | var cs => obtain ⟨_, rfl, _⟩ := h; rfl
  | arr rw t e n c => rcases h with ⟨rw', t', n', c', ⟨rfl, _⟩, h1, _⟩ | ⟨_, _, cs', rfl, _⟩ <;> rfl
  | map ka ks c => obtain ⟨_, _, rfl, _⟩ := h; rfl

/-- The blocks of a list that say no more than the world's. -/
theorem WR_sub {E E' : Amb} {ι : Lay} {bs : Nat → Blk} {w : World} (hw : WR E ι bs w) {xs : Ix} {ks : List Blk} (hs : subB xs.at bs xs ks) (hn : xs.nodup = true) (hk : Keeps E'.G E'.w0 w)
    (ho : ∀ b l, (blL ks b).rw = true → layOf xs.at ι b = some l → E'.G l.g ∨ E'.w0.heap.size ≤ l.g) : WR E' (layOf xs.at ι) (blL ks) w where
  br := fun b => by
    obtain ⟨_, h⟩ := subB_at xs ks hs
    obtain ⟨h1, h2, h3⟩ := h b
    cases hx : xs[b]? with
    | none => rw [h3 hx]; trivial
    | some o =>
      cases o with
      | none =>
        refine virt_BR (h2 hx) ?_
        simp [layOf, Ix.at, hx]
      | some x => exact BSub_BR (h1 x hx) (at_some.2 hx) (hw.br x)
  sep := fun b b' l l' hne hr hl h1 h2 => by
    obtain ⟨_, h⟩ := subB_at xs ks hs
    have get : ∀ b l, layOf xs.at ι b = some l → ∃ x, xs[b]? = some (some x) ∧ ι x = some l := by
      intro b l hb
      simp only [layOf] at hb
      cases hx : xs.at b with
      | none => simp [hx] at hb
      | some x => simp only [hx, Option.bind_some] at hb; exact ⟨x, at_some.1 hx, hb⟩
    obtain ⟨x, q1, q2⟩ := get b l h1
    obtain ⟨x', q3, q4⟩ := get b' l' h2
    refine hw.sep x x' l l' (fun e => hne ?_) (BSub_rw ((h b).1 x q1) hr) (BSub_live ((h b').1 x' q3) hl) q2 q4
    subst e
    exact nodup_spec xs hn b b' x q1 q3
  lt := fun b l h => by
    simp only [layOf] at h
    cases hx : xs.at b with
    | none => simp [hx] at h
    | some x => simp only [hx, Option.bind_some] at h; exact hw.lt x l h
  amb := hk
  own := ho

end Go.Vx

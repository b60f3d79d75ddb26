/- Lemmas of a small executor for the model, and contracts of functions, used for the law that this claim proves. No condition. -/
import Derived.Test.YtpohlkhnilcfnaaDVx12
set_option linter.unusedSimpArgs false
set_option linter.unusedVariables false
/- A region that draws its order. Every order that is allowed does what the order of the text does, where each two operations whose order matters have a fixed order. -/
namespace Go.Vx
variable {P : Program}

/-- What one operation did. -/
structure DS where
  x : Fp
  v : AV
  up : List (Nat × Blk)

def ap (d : DS) (s : St) : St := ⟨putD s.tm d.x.dst d.v, updL s.bs d.up, s.f⟩

/-- The chosen ones of the list, in the list's order. -/
def fold : (Nat → Bool) → List DS → St → St
  | _, [], s => s
  | sel, d :: r, s => fold (fun k => sel (k + 1)) r (bif sel 0 then ap d s else s)

theorem putD_other (tm : Nat → AV) (dst : Option Nat) (v : AV) {t : Nat} (h : dst ≠ some t) : putD tm dst v t = tm t := by
  cases dst with
  | none => rfl
  | some d => exact updT_ne _ _ _ fun e => h (by rw [e])

theorem updL_other (bs : Nat → Blk) (up : List (Nat × Blk)) {b : Nat} (h : b ∉ up.map (·.1)) : updL bs up b = bs b := by
  rcases updL_cases bs up b with ⟨k, h1, _⟩ | ⟨_, h2⟩
  · exact absurd (List.mem_map.2 ⟨_, h1, rfl⟩) h
  · exact h2

theorem updL_congr (bs bs' : Nat → Blk) : ∀ (up : List (Nat × Blk)) (b : Nat), (b ∈ up.map (·.1) ∨ bs b = bs' b) → updL bs up b = updL bs' up b
  | [], b, h => by simpa [updL] using h
  | (x, k) :: r, b, h => by
    by_cases e : b = x
    · subst e; rw [updL_cons_same, updL_cons_same]
    · rw [updL_cons_ne _ _ _ _ e, updL_cons_ne _ _ _ _ e]
      refine updL_congr bs bs' r b ?_
      rcases h with h | h
      · simp only [List.map_cons, List.mem_cons] at h
        rcases h with h | h
        · exact absurd h e
        · exact .inl h
      · exact .inr h

theorem putD_congr (tm tm' : Nat → AV) (dst : Option Nat) (v : AV) (t : Nat) (h : tm t = tm' t) : putD tm dst v t = putD tm' dst v t := by
  cases dst with
  | none => exact h
  | some d =>
    simp only [putD, updT]
    rw [h]

theorem fold_f (sel : Nat → Bool) : ∀ (l : List DS) (s : St), (fold sel l s).f = s.f := by
  intro l
  induction l generalizing sel with
  | nil => intro s; rfl
  | cons d r ih =>
    intro s
    simp only [fold]
    rw [ih]
    cases sel 0 <;> rfl

/-- Two choices that agree on those that write a slot leave the same there. -/
theorem fold_tm {t : Nat} : ∀ (l : List DS) (sel sel' : Nat → Bool) (s s' : St), (∀ (k : Nat) (d : DS), l[k]? = some d → d.x.dst = some t → sel k = sel' k) → s.tm t = s'.tm t → (fold sel l s).tm t = (fold sel' l s').tm t
  | [], _, _, _, _, _, h => h
  | d :: r, sel, sel', s, s', hs, h => by
    simp only [fold]
    refine fold_tm r _ _ _ _ (fun k d' h1 h2 => hs (k + 1) d' h1 h2) ?_
    by_cases e : d.x.dst = some t
    · rw [hs 0 d rfl e]
      cases sel' 0
      · exact h
      · simp only [cond_true, ap]; exact putD_congr _ _ _ _ _ h
    · have h1 : ∀ (b : Bool) (u : St), (bif b then ap d u else u).tm t = u.tm t := fun b u => by
        cases b
        · rfl
        · exact putD_other _ _ _ e
      rw [h1, h1]; exact h

theorem fold_bs {b : Nat} : ∀ (l : List DS) (sel sel' : Nat → Bool) (s s' : St), (∀ (k : Nat) (d : DS), l[k]? = some d → b ∈ d.up.map (·.1) → sel k = sel' k) → s.bs b = s'.bs b → (fold sel l s).bs b = (fold sel' l s').bs b
  | [], _, _, _, _, _, h => h
  | d :: r, sel, sel', s, s', hs, h => by
    simp only [fold]
    refine fold_bs r _ _ _ _ (fun k d' h1 h2 => hs (k + 1) d' h1 h2) ?_
    by_cases e : b ∈ d.up.map (·.1)
    · rw [hs 0 d rfl e]
      cases sel' 0
      · exact h
      · simp only [cond_true, ap]; exact updL_congr _ _ _ _ (.inl e)
    · have h1 : ∀ (c : Bool) (u : St), (bif c then ap d u else u).bs b = u.bs b := fun c u => by
        cases c
        · rfl
        · exact updL_other _ _ e
      rw [h1, h1]; exact h

/-- Two operations that do not meet. -/
def Apart (d d' : DS) : Prop := (∀ t, d.x.dst = some t → d'.x.dst ≠ some t) ∧ ∀ b, b ∈ d.up.map (·.1) → b ∉ d'.up.map (·.1)

theorem ap_comm {d d' : DS} (h : Apart d d') (s : St) : ap d (ap d' s) = ap d' (ap d s) := by
  simp only [ap]
  congr 1
  · funext t
    by_cases e : d.x.dst = some t
    · rw [putD_other _ d'.x.dst _ (h.1 t e)]
      exact putD_congr _ _ _ _ _ (putD_other _ _ _ (h.1 t e))
    · rw [putD_other _ d.x.dst _ e]
      exact putD_congr _ _ _ _ _ (putD_other _ _ _ e).symm
  · funext b
    by_cases e : b ∈ d.up.map (·.1)
    · rw [updL_other _ d'.up (h.2 b e)]
      exact updL_congr _ _ _ _ (.inl e)
    · rw [updL_other _ d.up e]
      exact updL_congr _ _ _ _ (.inr (updL_other _ _ e).symm)

theorem fold_ap {d : DS} : ∀ (l : List DS) (sel : Nat → Bool) (s : St), (∀ (k : Nat) (d' : DS), l[k]? = some d' → sel k = true → Apart d d') → fold sel l (ap d s) = ap d (fold sel l s)
  | [], _, _, _ => rfl
  | d' :: r, sel, s, h => by
    simp only [fold]
    rw [← fold_ap r _ _ fun k d' h1 h2 => h (k + 1) d' h1 h2]
    cases hs : sel 0 with
    | false => rfl
    | true => simp only [cond_true]; rw [ap_comm (h 0 d' rfl hs)]

/-- One more that is chosen, where none behind it meets it. -/
theorem fold_insert : ∀ (l : List DS) (i : Nat) (d : DS) (sel : Nat → Bool) (s : St), l[i]? = some d → sel i = false → (∀ (k : Nat) (d' : DS), l[k]? = some d' → i < k → sel k = true → Apart d d') →
    fold (fun k => sel k || Nat.beq k i) l s = ap d (fold sel l s)
  | [], i, d, sel, s, h, _, _ => by simp at h
  | d0 :: r, 0, d, sel, s, h, h0, ha => by
    simp only [List.getElem?_cons_zero, Option.some.injEq] at h
    subst h
    have e0 : Nat.beq 0 0 = true := rfl
    simp only [fold, h0, e0, Bool.false_or, cond_true, cond_false]
    have : (fun k => sel (k + 1) || Nat.beq (k + 1) 0) = fun k => sel (k + 1) := by
      funext k
      have : Nat.beq (k + 1) 0 = false := rfl
      rw [this, Bool.or_false]
    rw [this]
    exact fold_ap r _ s fun k d' h1 h2 => ha (k + 1) d' h1 (by omega) h2
  | d0 :: r, i + 1, d, sel, s, h, h0, ha => by
    have e0 : Nat.beq 0 (i + 1) = false := rfl
    simp only [fold, e0, Bool.or_false]
    exact fold_insert r i d (fun k => sel (k + 1)) _ (by simpa using h) h0 fun k d' h1 h2 h3 => ha (k + 1) d' (by simpa using h1) (by omega) h3

theorem fold_none : ∀ (l : List DS) (s : St), fold (fun _ => false) l s = s
  | [], _ => rfl
  | _ :: r, s => by simp only [fold, cond_false]; exact fold_none r s

end Go.Vx

/- Lemmas of a small executor for the model, and contracts of functions, used for the law that this claim proves. No condition. -/
import Derived.Test.YtpohlkhnilcfnaaDVx16
set_option linter.unusedSimpArgs false
set_option linter.unusedVariables false
/- Any order of a region that draws. -/
namespace Go.Vx
variable {P : Program}

/-- The operation does what 'd' says, in whatever state that agrees with s on what it looks at. -/
def StepOK (P : Program) (C : Cx) (n : Nat) (ops : Array Oper) (Q : Exit → Act → World → Prop) (i : Nat) (s : St) (d : DS) : Prop :=
  ∀ (s' : St) (ι : Lay) (a : Act) (w : World), (∀ t ∈ d.x.rd, s'.tm t = s.tm t) → (∀ b ∈ d.x.tch, s'.bs b = s.bs b) → SR C n ι s' a w → C.L0.length ≤ d.x.f → d.x.f ≤ d.x.f' → d.x.f' ≤ s'.f →
    (∀ b, d.x.f ≤ b → b < d.x.f' → ι b = none ∧ s'.bs b = .gone) →
    ∀ K : Act → World → Prop, (∀ ι' a' w', SR C n ι' (ap d s') a' w' → (∀ b, b < d.x.f ∨ d.x.f' ≤ b → ι' b = ι b) → K a' w') → wpOp P ops Q i K a w

theorem countP_set {l : List Bool} {i : Nat} (h : l[i]? = some false) : (l.set i true).countP (!·) + 1 = l.countP (!·) := by
  induction l generalizing i with
  | nil => simp at h
  | cons b r ih =>
    cases i with
    | zero =>
      simp only [List.getElem?_cons_zero, Option.some.injEq] at h
      subst h
      simp
    | succ i =>
      simp only [List.getElem?_cons_succ] at h
      have := ih h
      simp only [List.set_cons_succ, List.countP_cons]
      omega

theorem getD_false {listed : Array Bool} {i : Nat} (h : i < listed.size) : listed.getD i true = listed.getD i false := by
  simp [Array.getD_eq_getD_getElem?, Array.getElem?_eq_getElem h]

theorem Pre_lt {ops : List Oper} {S : Nat → Prop} {j : Nat} : Pre ops S j ↔ ∀ (o : Oper), ops[j]? = some o → ∀ e ∈ o.after, Region.binds .any e = true → S e.on := Iff.rfl

theorem draw_perm {C : Cx} {n : Nat} {ops : Array Oper} {Q : Exit → Act → World → Prop} {l : List DS} {s : St} {F : Nat} (hl : l.length = ops.size)
    (hup : ∀ d ∈ l, d.x.upk = d.up.map (·.1)) (hstep : ∀ (k : Nat) (d : DS), l[k]? = some d → StepOK P C n ops Q k (fold (fun j => Nat.blt j k) l s) d)
    (hok : DrawSpec ops.toList (l.map (·.x)) s.f F) (hk0 : C.L0.length ≤ s.f)
    (hQ : ∀ ι a w, SR C n ι ⟨(fold (fun _ => true) l s).tm, (fold (fun _ => true) l s).bs, F⟩ a w → Q .normal a w) :
    ∀ (fuel : Nat) (listed : Array Bool) (ι : Lay) (a : Act) (w : World), listed.size = ops.size → listed.toList.countP (!·) ≤ fuel → Closed ops.toList (fun k => listed.getD k false = true) →
      SR C n ι ⟨(fold (fun k => listed.getD k false) l s).tm, (fold (fun k => listed.getD k false) l s).bs, F⟩ a w →
      (∀ b, s.f ≤ b → (∀ (i : Nat) (d : DS), l[i]? = some d → listed.getD i false = true → ¬ (d.x.f ≤ b ∧ b < d.x.f')) → ι b = none) →
      (∀ b, s.f ≤ b → s.bs b = .gone) → wpAny P .any ops Q fuel listed a w := by
  have hx : ∀ (k : Nat) (d : DS), l[k]? = some d → (l.map (·.x))[k]? = some d.x := fun k d h => by simp [h]
  have hin : ∀ (k : Nat) (d : DS), l[k]? = some d → d ∈ l ∧ d.x ∈ l.map (·.x) := fun k d h => ⟨List.mem_of_getElem? h, List.mem_map_of_mem (List.mem_of_getElem? h)⟩
  -- where none is ready, all have come up
  have hall : ∀ listed : Array Bool, listed.size = ops.size → Region.ready .any ops listed = [] → ∀ j, j < ops.size → listed.getD j false = true := by
    intro listed hs hr j
    induction j using Nat.strongRecOn with
    | _ j ih =>
      intro hj
      cases hb : listed.getD j false with
      | true => rfl
      | false =>
        exfalso
        have : j ∈ Region.ready .any ops listed := by
          rw [mem_ready]
          refine ⟨by rw [getD_false (by omega)]; exact hb, ops[j], Array.getElem?_eq_getElem hj, fun e he hbn => ?_⟩
          have hlt := hok.down j ops[j] (by simp) e he hbn
          exact ih e.on hlt (by omega)
        rw [hr] at this; cases this
  have fin : ∀ (listed : Array Bool) (ι : Lay) (a : Act) (w : World), listed.size = ops.size →
      SR C n ι ⟨(fold (fun k => listed.getD k false) l s).tm, (fold (fun k => listed.getD k false) l s).bs, F⟩ a w → Region.ready .any ops listed = [] → Q .normal a w := by
    intro listed ι a w hs h hr
    have hA := hall listed hs hr
    have e1 : (fold (fun k => listed.getD k false) l s).tm = (fold (fun _ => true) l s).tm := by
      funext t
      exact fold_tm l _ _ _ _ (fun k d hk _ => hA k (by have := (List.getElem?_eq_some_iff.1 hk).1; omega)) rfl
    have e2 : (fold (fun k => listed.getD k false) l s).bs = (fold (fun _ => true) l s).bs := by
      funext b
      exact fold_bs l _ _ _ _ (fun k d hk _ => hA k (by have := (List.getElem?_eq_some_iff.1 hk).1; omega)) rfl
    rw [e1, e2] at h
    exact hQ ι a w h
  intro fuel
  induction fuel with
  | zero =>
    intro listed ι a w hs hc _ h _ _
    have hr : Region.ready .any ops listed = [] := by
      apply List.eq_nil_iff_forall_not_mem.2
      intro j hj
      rw [mem_ready] at hj
      obtain ⟨hj1, o, ho, _⟩ := hj
      have hjl : j < listed.size := by have := (Array.getElem?_eq_some_iff.1 ho).1; omega
      have : listed.toList.countP (!·) = 0 := by omega
      rw [List.countP_eq_zero] at this
      have hm := this listed[j] (by simp)
      rw [Array.getD_eq_getD_getElem?, Array.getElem?_eq_getElem hjl] at hj1
      simp at hj1 hm
      rw [hj1] at hm; cases hm
    exact ⟨hr, fin listed ι a w hs h hr⟩
  | succ fuel ih =>
    intro listed ι a w hs hc hcl h hι hg
    refine ⟨fun hr => fin listed ι a w hs h hr, fun i hi => ?_⟩
    rw [mem_ready] at hi
    obtain ⟨hi1, o, ho, hpre⟩ := hi
    have hil : i < ops.size := (Array.getElem?_eq_some_iff.1 ho).1
    have hi0 : listed.getD i false = false := by rw [← getD_false (by omega)]; exact hi1
    have hoL : ops.toList[i]? = some o := by simpa using ho
    have hPre : Pre ops.toList (fun k => listed.getD k false = true) i := by
      intro o' ho' e he hb
      rw [hoL] at ho'
      cases ho'
      exact hpre e he hb
    obtain ⟨d, hd⟩ : ∃ d, l[i]? = some d := ⟨l[i]'(by omega), List.getElem?_eq_getElem (by omega)⟩
    obtain ⟨f1, f2, f3, f4, f5⟩ := hok.fp d.x (hin i d hd).2
    -- those before i that meet it have come up; those behind i that meet it have not
    have before : ∀ (k : Nat) (d' : DS), l[k]? = some d' → k < i → confl d'.x d.x = true → listed.getD k false = true := fun k d' hk hlt hcf =>
      hok.ord k i _ _ hlt (hx k d' hk) (hx i d hd) hcf _ hcl hPre
    have behind : ∀ (k : Nat) (d' : DS), l[k]? = some d' → i < k → confl d.x d'.x = true → listed.getD k false = false := fun k d' hk hlt hcf => by
      cases hb : listed.getD k false with
      | false => rfl
      | true =>
        have := hok.ord i k _ _ hlt (hx i d hd) (hx k d' hk) hcf _ hcl fun o' ho' e he hbn => hcl k o' ho' hb e he hbn
        skip
        rw [hi0] at this; cases this
    have sel : ∀ (k : Nat) (d' : DS), l[k]? = some d' → confl d'.x d.x = true → confl d.x d'.x = true → listed.getD k false = Nat.blt k i := by
      intro k d' hk hc1 hc2
      rcases Nat.lt_trichotomy k i with hlt | heq | hgt
      · rw [before k d' hk hlt hc1]
        exact (Nat.ble_eq_true_of_le hlt).symm
      · subst heq
        rw [hi0]
        cases hb : Nat.blt k k with
        | false => rfl
        | true => have := Nat.le_of_ble_eq_true hb; omega
      · rw [behind k d' hk hgt hc2]
        cases hb : Nat.blt k i with
        | false => rfl
        | true => have : k + 1 ≤ i := Nat.le_of_ble_eq_true hb; omega
    have slotgone : ∀ b, d.x.f ≤ b → b < d.x.f' → ι b = none ∧ (fold (fun k => listed.getD k false) l s).bs b = .gone := by
      intro b hb1 hb2
      constructor
      · refine hι b (by omega) fun k d' hk hkl hbk => ?_
        rcases Nat.lt_trichotomy k i with hlt | heq | hgt
        · have := hok.slots k i _ _ hlt (hx k d' hk) (hx i d hd); omega
        · subst heq; rw [hi0] at hkl; cases hkl
        · have := hok.slots i k _ _ hgt (hx i d hd) (hx k d' hk); omega
      · rw [fold_bs l _ (fun _ => false) s s (fun k d' hk hbu => ?_) rfl, fold_none]
        · exact hg b (by omega)
        · have hbu' : b ∈ d'.x.upk := by rw [hup d' (hin k d' hk).1]; exact hbu
          rcases Nat.lt_trichotomy k i with hlt | heq | hgt
          · have h1 := hok.slots k i _ _ hlt (hx k d' hk) (hx i d hd)
            have h2 := (hok.fp d'.x (hin k d' hk).2).2.2.2.2 b hbu'
            omega
          · subst heq; exact hi0
          · exact behind k d' hk hgt (confl_uu (f4 b hb1 hb2) hbu')
    refine hstep i d hd ⟨(fold (fun k => listed.getD k false) l s).tm, (fold (fun k => listed.getD k false) l s).bs, F⟩ ι a w (fun t ht => ?_) (fun b hb => ?_) h (by omega) f2 f3 slotgone _ fun ι' a' w' h' hext => ?_
    · exact fold_tm l _ _ _ _ (fun k d' hk hdt => sel k d' hk (confl_dr hdt ht) (confl_rd hdt ht)) rfl
    · refine fold_bs l _ _ _ _ (fun k d' hk hbu => ?_) rfl
      have hbu' : b ∈ d'.x.upk := by rw [hup d' (hin k d' hk).1]; exact hbu
      exact sel k d' hk (confl_ut hbu' hb) (confl_tu hb hbu')
    · have hsel : (fun k => (listed.setIfInBounds i true).getD k false) = fun k => listed.getD k false || Nat.beq k i := by
        funext k
        by_cases e : i = k
        · subst e
          have : Nat.beq i i = true := Nat.beq_refl i
          rw [this, Bool.or_true, Array.getD_eq_getD_getElem?, Array.getElem?_setIfInBounds_self_of_lt (by omega)]
          rfl
        · have : Nat.beq k i = false := by
            cases hb : Nat.beq k i with
            | false => rfl
            | true => exact absurd (Nat.eq_of_beq_eq_true hb).symm e
          rw [this, Bool.or_false]
          exact getD_set_ne false e
      have hins : fold (fun k => (listed.setIfInBounds i true).getD k false) l s = ap d (fold (fun k => listed.getD k false) l s) := by
        rw [hsel]
        refine fold_insert l i d _ s hd hi0 fun k d' hk hlt hkl => ⟨fun t ht ht' => ?_, fun b hb hb' => ?_⟩
        · have := behind k d' hk hlt (confl_dd ht ht')
          rw [hkl] at this; cases this
        · have := behind k d' hk hlt (confl_uu (x := d.x) (y := d'.x) (b := b) (by rw [hup d (hin i d hd).1]; exact hb) (by rw [hup d' (hin k d' hk).1]; exact hb'))
          rw [hkl] at this; cases this
      refine ih (listed.setIfInBounds i true) ι' a' w' (by simpa using hs) ?_ ?_ ?_ ?_ hg
      · rw [Array.toList_setIfInBounds]
        have := countP_set (l := listed.toList) (i := i) (by
          rw [Array.getElem?_toList, Array.getElem?_eq_getElem (by omega)]
          rw [Array.getD_eq_getD_getElem?, Array.getElem?_eq_getElem (by omega)] at hi0
          simpa using hi0)
        omega
      · intro k o' ho' hk e he hb
        skip
        by_cases e' : i = k
        · subst e'
          exact getD_set_true (hPre o' ho' e he hb)
        · rw [getD_set_ne false e'] at hk
          exact getD_set_true (hcl k o' ho' hk e he hb)
      · rw [hins]; exact h'
      · intro b hb hno
        have hout : b < d.x.f ∨ d.x.f' ≤ b := by
          have := hno i d hd (by rw [Array.getD_eq_getD_getElem?, Array.getElem?_setIfInBounds_self_of_lt (by omega)]; rfl)
          omega
        rw [hext b hout]
        refine hι b hb fun k d' hk hkl => hno k d' hk (getD_set_true hkl)

end Go.Vx

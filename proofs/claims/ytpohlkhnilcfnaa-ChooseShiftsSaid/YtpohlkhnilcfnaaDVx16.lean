/- Lemmas of a small executor for the model, and contracts of functions, used for the law that this claim proves. No condition. -/
import Derived.Test.YtpohlkhnilcfnaaDVx14
set_option linter.unusedSimpArgs false
set_option linter.unusedVariables false
/- What 'drawOK' leaves. -/
namespace Go.Vx

theorem memN_iff {x : Nat} : ∀ {l : List Nat}, memN x l = true ↔ x ∈ l
  | [] => by simp [memN]
  | y :: r => by
    simp only [memN, Bool.or_eq_true, List.mem_cons, memN_iff (l := r)]
    constructor
    · rintro (h | h)
      · exact .inl (Nat.eq_of_beq_eq_true h)
      · exact .inr h
    · rintro (h | h)
      · exact .inl (by rw [h]; exact Nat.beq_refl y)
      · exact .inr h

theorem meets_of {b : Nat} : ∀ {l l' : List Nat}, b ∈ l → b ∈ l' → meets l l' = true
  | [], _, h, _ => by simp at h
  | x :: r, l', h, h' => by
    simp only [meets, Bool.or_eq_true]
    simp only [List.mem_cons] at h
    rcases h with h | h
    · subst h; exact .inl (memN_iff.2 h')
    · exact .inr (meets_of h h')

theorem confl_dr {x y : Fp} {t : Nat} (h : x.dst = some t) (h' : t ∈ y.rd) : confl x y = true := by
  simp [confl, h, memO, memN_iff.2 h']
theorem confl_dd {x y : Fp} {t : Nat} (h : x.dst = some t) (h' : y.dst = some t) : confl x y = true := by
  simp [confl, h, h', sameO]
theorem confl_rd {x y : Fp} {t : Nat} (h : y.dst = some t) (h' : t ∈ x.rd) : confl x y = true := by
  simp [confl, h, memO, memN_iff.2 h']
theorem confl_ut {x y : Fp} {b : Nat} (h : b ∈ x.upk) (h' : b ∈ y.tch) : confl x y = true := by
  simp [confl, meets_of h h']
theorem confl_uu {x y : Fp} {b : Nat} (h : b ∈ x.upk) (h' : b ∈ y.upk) : confl x y = true := by
  simp [confl, meets_of h h']
theorem confl_tu {x y : Fp} {b : Nat} (h : b ∈ x.tch) (h' : b ∈ y.upk) : confl x y = true := by
  simp [confl, meets_of h h']

theorem range'_mem : ∀ (n f b : Nat), f ≤ b → b < f + n → b ∈ range' n f
  | 0, _, _, _, _ => by omega
  | n + 1, f, b, h, h' => by
    simp only [range', List.mem_cons]
    by_cases e : b = f
    · exact .inl e
    · exact .inr (range'_mem n (f + 1) b (by omega) (by omega))

theorem fpOK_spec {f0 F : Nat} {x : Fp} (h : fpOK f0 F x = true) : f0 ≤ x.f ∧ x.f ≤ x.f' ∧ x.f' ≤ F ∧ (∀ b, x.f ≤ b → b < x.f' → b ∈ x.upk) ∧ ∀ b ∈ x.upk, b < x.f' := by
  simp only [fpOK, Bool.and_eq_true, List.all_eq_true] at h
  obtain ⟨h1, h2, h3, h4, h5⟩ := h
  have h2' := Nat.le_of_ble_eq_true h2
  refine ⟨Nat.le_of_ble_eq_true h1, h2', Nat.le_of_ble_eq_true h3, fun b hb hb' => memN_iff.1 (h4 b (range'_mem _ _ _ hb (by omega))), fun b hb => Nat.le_of_ble_eq_true (h5 b hb)⟩

def Closed (ops : List Oper) (S : Nat → Prop) : Prop := ∀ (k : Nat) (o : Oper), ops[k]? = some o → S k → ∀ e ∈ o.after, Region.binds .any e = true → S e.on
def Pre (ops : List Oper) (S : Nat → Prop) (j : Nat) : Prop := ∀ (o : Oper), ops[j]? = some o → ∀ e ∈ o.after, Region.binds .any e = true → S e.on

theorem unionN_mem {x : Nat} : ∀ {l l' : List Nat}, x ∈ unionN l l' → x ∈ l ∨ x ∈ l'
  | [], _, h => .inr h
  | y :: r, l', h => by
    simp only [unionN] at h
    cases hb : memN y (unionN r l') with
    | true =>
      rw [hb] at h
      simp only [cond_true] at h
      rcases unionN_mem h with h | h
      · exact .inl (List.mem_cons_of_mem _ h)
      · exact .inr h
    | false =>
      rw [hb] at h
      simp only [cond_false, List.mem_cons] at h
      rcases h with h | h
      · exact .inl (by rw [h]; exact List.mem_cons_self ..)
      · rcases unionN_mem h with h | h
        · exact .inl (List.mem_cons_of_mem _ h)
        · exact .inr h

def OkA (ops : List Oper) (A : List (List Nat)) : Prop := ∀ (j : Nat) (l : List Nat), A[j]? = some l → ∀ i ∈ l, ∀ S, Closed ops S → Pre ops S j → S i

theorem ancE_mem {A : List (List Nat)} {i : Nat} : ∀ {es : List Edge}, i ∈ ancE A es → ∃ e ∈ es, Region.binds .any e = true ∧ (i = e.on ∨ i ∈ A.getD e.on [])
  | [], h => by simp [ancE] at h
  | e :: r, h => by
    simp only [ancE] at h
    cases hb : Region.binds .any e with
    | true =>
      rw [hb] at h
      simp only [cond_true] at h
      rcases unionN_mem h with h | h
      · simp only [List.mem_cons] at h
        exact ⟨e, by simp, hb, h⟩
      · obtain ⟨e', h1, h2⟩ := ancE_mem h
        exact ⟨e', by simp [h1], h2⟩
    | false =>
      rw [hb] at h
      simp only [cond_false] at h
      obtain ⟨e', h1, h2⟩ := ancE_mem h
      exact ⟨e', by simp [h1], h2⟩

theorem ancs_ok (ops : List Oper) : ∀ (r : List Oper) (A : List (List Nat)), ops.drop A.length = r → OkA ops A → OkA ops (ancs r A)
  | [], A, _, h => h
  | o :: r, A, hr, h => by
    refine ancs_ok ops r _ ?_ ?_
    · rw [List.length_append, List.length_singleton, ← List.drop_drop, hr]; rfl
    · intro j l hj i hi S hS hP
      rcases Nat.lt_or_ge j A.length with hlt | hge
      · rw [List.getElem?_append_left hlt] at hj
        exact h j l hj i hi S hS hP
      · have hjA : j = A.length := by
          have := (List.getElem?_eq_some_iff.1 hj).1
          simp at this
          omega
        subst hjA
        simp only [List.getElem?_concat_length, Option.some.injEq] at hj
        subst hj
        have ho : ops[A.length]? = some o := by
          have : (ops.drop A.length)[0]? = some o := by rw [hr]; rfl
          rw [List.getElem?_drop] at this
          simpa using this
        obtain ⟨e, he, hb, hc⟩ := ancE_mem hi
        have hse := hP o ho e (by simpa using he) hb
        rcases hc with hc | hc
        · rw [hc]; exact hse
        · rw [List.getD_eq_getElem?_getD] at hc
          cases hA : A[e.on]? with
          | none => rw [hA] at hc; simp at hc
          | some l' =>
            rw [hA] at hc
            exact h e.on l' hA i hc S hS fun o' ho' e' he' hb' => hS e.on o' ho' hse e' he' hb'

structure DrawSpec (ops : List Oper) (fs : List Fp) (f0 F : Nat) : Prop where
  fp : ∀ x ∈ fs, f0 ≤ x.f ∧ x.f ≤ x.f' ∧ x.f' ≤ F ∧ (∀ b, x.f ≤ b → b < x.f' → b ∈ x.upk) ∧ ∀ b ∈ x.upk, b < x.f'
  down : ∀ (j : Nat) (o : Oper), ops[j]? = some o → ∀ e ∈ o.after, Region.binds .any e = true → e.on < j
  slots : ∀ (i j : Nat) (x y : Fp), i < j → fs[i]? = some x → fs[j]? = some y → x.f' ≤ y.f
  ord : ∀ (i j : Nat) (x y : Fp), i < j → fs[i]? = some x → fs[j]? = some y → confl x y = true → ∀ S, Closed ops S → Pre ops S j → S i

theorem drawOK_spec {ops : List Oper} {fs : List Fp} {f0 F : Nat} (h : drawOK ops fs f0 F = true) : DrawSpec ops fs f0 F := by
  simp only [drawOK, Bool.and_eq_true, List.all_eq_true, List.mem_range] at h
  obtain ⟨h1, h2, h3⟩ := h
  have key : ∀ (i j : Nat) (x y : Fp), i < j → fs[i]? = some x → fs[j]? = some y → x.f' ≤ y.f ∧ (confl x y = true → ∃ l, (ancs ops [])[j]? = some l ∧ i ∈ l) := by
    intro i j x y hij hi hj
    have hjl := (List.getElem?_eq_some_iff.1 hj).1
    have := h3 j hjl i hij
    rw [hi, hj] at this
    cases hA : (ancs ops [])[j]? with
    | none => rw [hA] at this; simp at this
    | some l =>
      rw [hA] at this
      simp only [Bool.and_eq_true, Bool.or_eq_true, Bool.not_eq_true'] at this
      refine ⟨Nat.le_of_ble_eq_true this.1, fun hc => ⟨l, rfl, ?_⟩⟩
      rcases this.2 with h | h
      · rw [hc] at h; cases h
      · exact memN_iff.1 h
  exact {
    fp := fun x hx => fpOK_spec (h1 x hx)
    down := by
      intro j o ho e he hb
      have := h2 j (List.getElem?_eq_some_iff.1 ho).1
      rw [ho] at this
      have := this
      simp only [List.all_eq_true] at this
      have := this e (by simpa using he)
      rw [hb] at this
      exact Nat.le_of_ble_eq_true (by simpa [Nat.blt] using this)
    slots := fun i j x y hij hi hj => (key i j x y hij hi hj).1
    ord := by
      intro i j x y hij hi hj hc S hS hP
      obtain ⟨l, hl, hm⟩ := (key i j x y hij hi hj).2 hc
      exact ancs_ok ops ops [] rfl (fun j l hj => by simp at hj) j l hl i hm S hS hP }

end Go.Vx

/- Lemmas of a small executor for the model, and contracts of functions, used for the law that this claim proves. No condition. -/
import Derived.Test.YtpohlkhnilcfnaaDVx19
set_option linter.unusedSimpArgs false
set_option linter.unusedVariables false
namespace Go.Vx
variable {P : Program}
theorem row_app1r {α : Type} {cells : α → List AV} [FlatC cells] {d : α} {ρ : Nat → Option Nat} {ρ' : Nat → Nat} {rw : Bool} {t e n m : Nat} {x : α} {l L : List α} {c : Nat → Nat → AV}
    (hc : ∀ j, j < e → sub ρ (nth (cells x) j) (c 0 j)) (hm : m = l.length) (hL : L = l ++ [x]) (hn : n = m + 1) :
    BSub ρ (.arr rw t e n (rowF cells d L)) (.arr true t e (m + 1) (appF m (fun i j => (rowF cells d l i j).ren ρ') c)) := by
  have : (fun i j => (rowF cells d l i j).ren ρ') = rowF cells d l := by funext i j; exact ren_row FlatC.flat _ _ _ _ _
  rw [this]; exact row_app1 hc hm hL hn
theorem nil_mk {X : Bool → Prop} {len : Nat} (h1 : len = 0 → X true) (h2 : X false) : ∀ nb : Bool, (nb = true → len = 0) → X nb := fun nb h => by
  cases nb
  · exact h2
  · exact h1 (h rfl)
/-- One element is written. -/
theorem isrow_set {α : Type} {cells : α → List AV} {d : α} {e n i j m : Nat} {c : Nat → Nat → AV} {L : List α} {x : α} {vs : List AV} (h : IsRow cells d e n c L) (hj : j = 0) (hm : vs.length = m) (hme : m = e) (hv : ∀ k, k < e → vs.getD k .dead = nth (cells x) k) :
    IsRow cells d e n (fun i' j' => bif Nat.beq i' i && (Nat.ble j j' && Nat.blt j' (j + vs.length)) then vs.getD (j' - j) .dead else c i' j') (L.set i x) := by
  obtain ⟨rfl, h⟩ := h
  subst hj
  subst hm
  refine ⟨by simp, fun i' hi' j' hj' => ?_⟩
  by_cases e1 : i' = i
  · subst e1
    have a1 : Nat.beq i' i' = true := Nat.beq_refl _
    have a2 : Nat.ble 0 j' = true := Nat.ble_eq_true_of_le (by omega)
    have a3 : Nat.blt j' (0 + vs.length) = true := Nat.ble_eq_true_of_le (by omega)
    simp only [a1, a2, a3, Bool.and_true, cond_true, Nat.sub_zero]
    rw [hv j' hj']
    have : (L.set i' x).getD i' d = x := by simp [List.getD_eq_getElem?_getD, List.getElem?_set_self hi']
    rw [this]
  · have a1 : Nat.beq i' i = false := by
      cases hb : Nat.beq i' i with
      | false => rfl
      | true => exact absurd (Nat.eq_of_beq_eq_true hb) e1
    simp only [a1, Bool.false_and, cond_false]
    rw [h i' hi' j' hj']
    have : (L.set i x).getD i' d = L.getD i' d := by simp [List.getD_eq_getElem?_getD, List.getElem?_set_ne (Ne.symm e1)]
    rw [this]
/-- A result that lies in the lent block, given as a block of its own; the lent one is gone. -/
theorem Runs.move {α : Type} {cells : α → List AV} [FlatC cells] {d : α} {g : FuncId} {args : List AV} {L : List Blk} {t : TypeId} {e e' off len n : Nat} {cap : Option Nat} {l : List α} (hL : L.length = 1)
    (h : Runs P g args L (Det (.sl 0 e off len cap) [.arr true t e' n (rowF cells d l)])) : Runs P g args L (Det (.sl 1 e off len cap) [.gone, .arr true t e' n (rowF cells d l)]) := by
  refine ⟨h.1, fun w ι cs h1 h2 h3 => (h.2 w ι cs h1 h2 h3).mono ?_⟩
  rintro ed w' ⟨V, Bl, v, ι', rfl, ⟨rfl, rfl⟩, q1, q2, q3, q4, q5, q6⟩
  simp only [List.length_singleton] at q4
  have e1 : ι' 1 = none := q4 1 (by omega)
  let ι'' : Lay := fun b => if b = 1 then ι' 0 else ι' b
  have hext : Ext ι' ι'' := fun b lc hb => by
    by_cases hb1 : b = 1
    · subst hb1; rw [e1] at hb; cases hb
    · simp [ι'', hb1, hb]
  have hs1 : ι'' 1 = ι' 0 := by simp [ι'']
  have hso : ∀ b, b ≠ 1 → ι'' b = ι' b := fun b hb => by simp [ι'', hb]
  have hbl : ∀ b, 2 ≤ b → blL [.gone, .arr true t e' n (rowF cells d l)] b = .gone := fun b hb => by
    match b, hb with
    | b + 2, _ => rfl
  have only : ∀ b, (blL [.gone, .arr true t e' n (rowF cells d l)] b).live = true → b = 1 := fun b hb => by
    match b with
    | 0 => cases hb
    | 1 => rfl
    | b + 2 => cases hb
  refine ⟨_, _, v, ι'', rfl, ⟨rfl, rfl⟩, by simp [hL], ?_, fun b hb => ?_, fun b hb => ?_, fun b hb => ?_, ?_⟩
  · simp only [rel] at q2 ⊢
    obtain ⟨a, k, r1, r2, r3, r4⟩ := q2
    exact ⟨a, k, r1, r2, r3, fun hk => by obtain ⟨lc, s1, s2⟩ := r4 hk; exact ⟨lc, by rw [hs1]; exact s1, s2⟩⟩
  · rw [hso b (by omega)]; exact q3 b hb
  · simp only [List.length_cons, List.length_nil] at hb
    rw [hso b (by omega)]; exact q4 b (by omega)
  · rw [only b hb]; exact .inl rfl
  · refine ⟨fun b => ?_, fun b b' lc lc' hne hr hl => ?_, fun b lc hb => ?_, q6.amb, fun b lc hr hb => ?_⟩
    · match b with
      | 0 => trivial
      | 1 =>
        have := BR_ren (r := id) (ι := ι'') (ι' := ι') (w := w') (x := 1) (b := 0) (k := .arr true t e' n (rowF cells d l)) (fun b lc hb => hext b lc hb) hs1 (q6.br 0)
        simp only [Blk.ren] at this
        rw [show (fun i j => (rowF cells d l i j).ren id) = rowF cells d l from by funext i j; exact ren_row FlatC.flat _ _ _ _ _] at this
        exact this
      | b + 2 => trivial
    · exact absurd ((only b (rw_live hr)).trans (only b' hl).symm) hne
    · by_cases hb1 : b = 1
      · subst hb1; rw [hs1] at hb; exact q6.lt 0 lc hb
      · rw [hso b hb1] at hb; exact q6.lt b lc hb
    · have hb1 := only b (rw_live hr)
      subst hb1
      rw [hs1] at hb
      exact q6.own 0 lc rfl hb
end Go.Vx

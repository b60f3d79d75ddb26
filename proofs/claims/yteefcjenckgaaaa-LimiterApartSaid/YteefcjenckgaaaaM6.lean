/- Lemmas of a small executor for the model, and contracts of functions, used for the law that this claim proves. No condition. -/
import Derived.Test.YteefcjenckgaaaaM5
set_option linter.unusedSimpArgs false
set_option linter.unusedVariables false
set_option maxRecDepth 100000
namespace Go.Vx.L28
open Go Go.Proofs
/-- A row, one element of which is written. -/
theorem row_set {α : Type} {cells : α → List AV} [FlatC cells] {d : α} {ρ : Nat → Option Nat} {t e n n' i : Nat} {L L' : List α} {x : α} {vs : List AV} (hi : i < L.length) (hm : vs.length = e)
    (hv : ∀ k, k < e → sub ρ (nth (cells x) k) (vs.getD k .dead)) (hL : L' = L.set i x) (hn : n' = n) :
    BSub ρ (.arr true t e n (rowF cells d L')) (.arr true t e n' fun i' j' => bif Nat.beq i' i && (Nat.ble 0 j' && Nat.blt j' (0 + vs.length)) then vs.getD (j' - 0) .dead else rowF cells d L i' j') := by
  subst hL; subst hm
  refine bsub_arr (fun _ => rfl) hn fun i' hi' j' hj' => ?_
  by_cases e1 : i' = i
  · subst e1
    have a1 : Nat.beq i' i' = true := Nat.beq_refl _
    have a2 : Nat.ble 0 j' = true := Nat.ble_eq_true_of_le (by omega)
    have a3 : Nat.blt j' (0 + vs.length) = true := Nat.ble_eq_true_of_le (by omega)
    simp only [a1, a2, a3, Bool.and_true, cond_true, Nat.sub_zero]
    have : (L.set i' x).getD i' d = x := by simp [List.getD_eq_getElem?_getD, List.getElem?_set_self hi]
    simp only [rowF, this]
    exact hv j' hj'
  · have a1 : Nat.beq i' i = false := by
      cases hb : Nat.beq i' i with
      | false => rfl
      | true => exact absurd (Nat.eq_of_beq_eq_true hb) e1
    simp only [a1, Bool.false_and, cond_false]
    have : (L.set i x).getD i' d = L.getD i' d := by simp [List.getD_eq_getElem?_getD, List.getElem?_set_ne (Ne.symm e1)]
    simp only [rowF, this]
    exact sub_nth FlatC.flat ρ _ j'
theorem kall5 {p : Nat → Prop} (h0 : p 0) (h1 : p 1) (h2 : p 2) (h3 : p 3) (h4 : p 4) : ∀ k, k < 5 → p k := fun k hk => by
  match k, hk with
  | 0, _ => exact h0
  | 1, _ => exact h1
  | 2, _ => exact h2
  | 3, _ => exact h3
  | 4, _ => exact h4
def rmeetL (c : Cf) (l : List Cl) (n t : Int) : List Cl := insC (if (l.length : Int) = c.cap then l.eraseIdx (oldN l (l.length - 1)) else l) ⟨n, ⟨t, c.cost, false, 0⟩⟩
theorem rmeet_full {c : Cf} {l : List Cl} {n t : Int} (h : (l.length : Int) = c.cap) : rmeetL c l n t = insC (l.eraseIdx (oldN l (l.length - 1))) ⟨n, ⟨t, c.cost, false, 0⟩⟩ := by rw [rmeetL, if_pos h]
theorem rmeet_room {c : Cf} {l : List Cl} {n t : Int} (h : ¬ (l.length : Int) = c.cap) : rmeetL c l n t = insC l ⟨n, ⟨t, c.cost, false, 0⟩⟩ := by rw [rmeetL, if_neg h]
/-- The reference's answer to a request, and the reference behind it. -/
def raskF (c : Cf) (s : RS) (n t : Int) : (Int × Int) × RS :=
  if n < 0 ∨ ¬ (0 ≤ t ∧ t ≤ 1125899906842624) then ((0, 3), s)
  else if t < s.now then ((0, 12), s)
  else match findC n s.l with
    | some k => (((judgeF c (s.l.getD k cl0).r t).1, 0), ⟨t, s.l.set k ⟨(s.l.getD k cl0).id, (judgeF c (s.l.getD k cl0).r t).2⟩⟩)
    | none => ((0, 0), ⟨t, rmeetL c s.l n t⟩)
theorem rask_e1 {c : Cf} {s : RS} {n t : Int} (h : n < 0 ∨ ¬ (0 ≤ t ∧ t ≤ 1125899906842624)) : raskF c s n t = ((0, 3), s) := by rw [raskF, if_pos h]
theorem rask_e2 {c : Cf} {s : RS} {n t : Int} (h : ¬ (n < 0 ∨ ¬ (0 ≤ t ∧ t ≤ 1125899906842624))) (h1 : t < s.now) : raskF c s n t = ((0, 12), s) := by rw [raskF, if_neg h, if_pos h1]
theorem rask_k {c : Cf} {s : RS} {n t : Int} {k : Nat} (hk : findC n s.l = some k) (h : ¬ (n < 0 ∨ ¬ (0 ≤ t ∧ t ≤ 1125899906842624))) (h1 : ¬ t < s.now) :
    raskF c s n t = (((judgeF c (s.l.getD k cl0).r t).1, 0), ⟨t, s.l.set k ⟨(s.l.getD k cl0).id, (judgeF c (s.l.getD k cl0).r t).2⟩⟩) := by rw [raskF, if_neg h, if_neg h1, hk]
theorem rask_n {c : Cf} {s : RS} {n t : Int} (hk : findC n s.l = none) (h : ¬ (n < 0 ∨ ¬ (0 ≤ t ∧ t ≤ 1125899906842624))) (h1 : ¬ t < s.now) : raskF c s n t = ((0, 0), ⟨t, rmeetL c s.l n t⟩) := by rw [raskF, if_neg h, if_neg h1, hk]
def RInv (c : Cf) (s : RS) : Prop := 0 ≤ s.now ∧ s.now ≤ 1125899906842624 ∧ (s.l.length : Int) ≤ c.cap ∧ ∀ x ∈ s.l, recOK c x.r s.now
end Go.Vx.L28

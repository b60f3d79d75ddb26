/- Lemmas of a small executor for the model, and contracts of functions, used for the law that this claim proves. No condition. -/
import Derived.Test.YtpohlkhnilcfnaaEW2
set_option linter.unusedSimpArgs false
set_option linter.unusedVariables false
/- Maps in proofs. -/
namespace Go.Vx
theorem map_mk {ρ : Nat → Option Nat} {ka : Option Nat} {ks ks' : List (List Int)} {c c' : List Int → AV} (h : ks' = ks) (hc : ∀ x ∈ ks, sub ρ (c x) (c' x)) : BSub ρ (.map ka ks c) (.map ka ks' c') :=
  ⟨ks', c', rfl, h, hc⟩
theorem map_same {ρ : Nat → Option Nat} {ka : Option Nat} {ks ks' : List (List Int)} {g : List Int → Value} (h : ks' = ks) : BSub ρ (.map ka ks fun x => .val (g x)) (.map ka ks' fun x => .val (g x)) :=
  ⟨ks', _, rfl, h, fun _ _ => sub_refl_val _ _⟩
/-- The value of a key is turned. -/
theorem map_upd {ρ : Nat → Option Nat} {ka : Option Nat} {ks ks' : List (List Int)} {g g0 : List Int → Value} {n : List Int} {v : Value} (h : ks' = ks) (hg : ∀ x ∈ ks, g x = if x = n then v else g0 x) :
    BSub ρ (.map ka ks fun x => .val (g x)) (.map ka ks' (updK (fun x => .val (g0 x)) n (.val v))) :=
  ⟨ks', _, rfl, h, fun x hx => by
    by_cases he : x = n
    · have hb : (x == n) = true := by rw [he]; exact beq_self_eq_true n
      simp only [updK, hb, cond_true, hg x hx, if_pos he]; exact sub_refl_val _ _
    · have hb : (x == n) = false := beq_eq_false_iff_ne.2 he
      simp only [updK, hb, cond_false, hg x hx, if_neg he]; exact sub_refl_val _ _⟩
theorem map_updc {ρ : Nat → Option Nat} {ka : Option Nat} {ks ks' : List (List Int)} {n : List Int} {v : Value} (h : ks' = ks) :
    BSub ρ (.map ka ks fun _ => .val v) (.map ka ks' (updK (fun _ => .val v) n (.val v))) := map_upd (g := fun _ => v) (g0 := fun _ => v) h (fun x _ => by simp)
theorem sub_map {ρ : Nat → Option Nat} {b b' : Nat} (h : ρ b = some b') : sub ρ (.map b) (.map b') := by simpa [sub] using h
end Go.Vx

/- Lemmas of a small executor for the model, and contracts of functions, used for the law that this claim proves. No condition. -/
import Derived.Test.YtodbfpjjahpahaaGreatDoorCGBA
set_option linter.unusedSimpArgs false
set_option linter.unusedVariables false
set_option maxRecDepth 100000
namespace Go.Vx.L58
open Go Go.Proofs
theorem ckL_all (n : Int) : ∀ (l : List Ed) (seen : List (List Int)), ckL n l seen = 0 → ∀ e ∈ l, (endB n e.a e.pa = true ∧ endB n e.b e.pb = true) ∧ e.a ≠ e.b
 | [], _, _, e, he => by cases he
 | x :: r, seen, h, e, he => by
  unfold ckL at h
  split at h
  ·cases h
  ·rename_i h1
   split at h
   ·cases h
   ·rename_i h2
    split at h
    ·cases h
    ·rcases List.mem_cons.1 he with rfl | he
     ·exact ⟨by simpa using h1, h2⟩
     ·exact ckL_all n r _ h e he
/-- An edge between two of n nodes. -/
def edOK (n : Nat) (e : Ed) : Prop := (0 ≤ e.a ∧ e.a < n) ∧ (0 ≤ e.b ∧ e.b < n) ∧ e.a ≠ e.b
theorem ckC_parts {n : Int} {l : List Ed} (h : ckC n l = 0) : ∃ m : Nat, n = m ∧ (1 ≤ m ∧ m ≤ 24) ∧ l.length ≤ 64 ∧ ∀ e ∈ l, edOK m e := by
 unfold ckC at h
 split at h
 ·cases h
 ·split at h
  ·cases h
  ·refine ⟨n.toNat, by omega, by omega, by omega, fun e he => ?_⟩
   obtain ⟨⟨h1, h2⟩, h3⟩ := ckL_all n l _ h e he
   simp only [endB, decide_eq_true_eq] at h1 h2
   exact ⟨by omega, by omega, h3⟩
/-- The distances from a node. -/
def dsF (n : Nat) (l : List Ed) (a : Nat) : List Int := bfs (nrF n l) 24 0 [(a : Int)] ((List.replicate n (-1)).set a 0)
/-- What Dist answers. -/
def dsA (n : Int) (l : List Ed) (a : Int) : List Int := if hasB n l a = true then dsF n.toNat l a.toNat else []
end Go.Vx.L58

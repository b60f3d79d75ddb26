/- Lemmas of a small executor for the model, and contracts of functions, used for the law that this claim proves. No condition. -/
import Derived.Test.YtblcjjlggfpehaaBC27
set_option linter.unusedSimpArgs false
set_option linter.unusedVariables false

set_option maxRecDepth 100000
namespace Go.Vx.L53
open Go Go.Proofs
theorem sameInts_ok (l m : List Int) (cap cap' : Option Nat) (hl : l.length ≤ maxLen) (hm : m.length ≤ maxLen) :
    Runs Try.prog 22 [.sl 0 1 0 l.length cap, .sl 1 1 0 m.length cap'] [iB false l, iB false m] (Det (.sb (decide (l = m))) [iB false l, iB false m]) := by
  have hmx : maxLen = 9223372036854775807 := by decide
  refine Runs.mk tabOK Try.call22 Try.func22 rfl Try.ntmps22 Try.results22 rfl ?_
  (repeat' (first
    | (intro Q h; refine h ?_; clear h Q)
    | (refine bcase_mk (fun hb => ?_) (fun hb => ?_) <;> (try simp only [nS, nT, eq_self, reduceCtorEq] at hb))
    | refine seq_go ?_
    | (apply ret_mk [some 0, some 1]; (focus (iterate 2 (all_goals (repeat' (first | exact trivial | (intro Q h; refine h ?_; clear h Q) | refine And.intro ?_ ?_ | exact row_same rfl rfl rfl | refine sub_sbl ?_ ))))); (any_goals (apply okIx_mk; rfl)))
    ))
  · symm; apply decide_eq_false; rintro rfl; omega
  refine loop_inv (σ := Nat) (fun x => x ≤ l.length ∧ l.take x = m.take x) (fun x => ⟨[(0, .sl 0 1 0 l.length cap), (1, .sl 1 1 0 m.length cap'), (12, .val (.int .i64 l.length)), (13, .val (.int .i64 x))], [iB false l, iB false m]⟩) (fun x => l.length - x) (0) ?_ ?_ ?_
  · simp
  · (apply le_mk [some 0, some 1]; (focus (iterate 2 (all_goals (repeat' (first | exact trivial | (intro Q h; refine h ?_; clear h Q) | refine And.intro ?_ ?_ | exact sub_sl rfl rfl rfl | exact sub_refl_val _ _ | exact row_same rfl rfl rfl ))))); (any_goals (apply okIx_mk; rfl)))
  rintro k ⟨hk, ht⟩
  (repeat' (first
    | (intro Q h; refine h ?_; clear h Q)
    | (refine bcase_mk (fun hb => ?_) (fun hb => ?_) <;> (try simp only [nS, nT, eq_self, reduceCtorEq] at hb))
    | refine draw_mk (by decide +kernel) ?_
    | refine seq_go ?_
    | refine And.intro (by first | omega | ((try simp only [wS]); omega) | rfl | decide) ?_
    | (apply ret_mk [some 0, some 1]; (focus (iterate 2 (all_goals (repeat' (first | exact trivial | (intro Q h; refine h ?_; clear h Q) | refine And.intro ?_ ?_ | exact row_same rfl rfl rfl | refine sub_sbl ?_ ))))); (any_goals (apply okIx_mk; rfl)))
    | (apply next_sub (Subtype.mk (k + 1) _); (focus (apply le_mk [some 0, some 1]; (focus (iterate 2 (all_goals (repeat' (first | exact trivial | (intro Q h; refine h ?_; clear h Q) | refine And.intro ?_ ?_ | exact sub_sl rfl rfl rfl | exact sub_refl_val _ _ | exact row_same rfl rfl rfl | ((first | refine sub_int ?_ ); first | with_reducible rfl | omega | ((try simp only [wS]); omega) | rfl) ))))); (any_goals (apply okIx_mk; rfl)))); (all_goals (try (first | (simp only; omega)))))
    ))
  all_goals (try simp only [Nat.zero_add, Int.toNat_natCast] at *)
  · symm; apply decide_eq_false; rintro rfl; exact hb rfl
  · have h1 : k < l.length := by omega
    have h2 : k < m.length := by omega
    have e1 : l.take (k + 1) = l.take k ++ [l.getD k 0] := by
      rw [List.getD_eq_getElem?_getD, List.getElem?_eq_getElem h1, Option.getD_some]; exact (List.take_append_getElem h1).symm
    have e2 : m.take (k + 1) = m.take k ++ [m.getD k 0] := by
      rw [List.getD_eq_getElem?_getD, List.getElem?_eq_getElem h2, Option.getD_some]; exact (List.take_append_getElem h2).symm
    rw [e1, e2, ht, hb]
  · symm; apply decide_eq_true
    have h1 : l.take k = l := List.take_of_length_le (by omega)
    have h2 : m.take k = m := List.take_of_length_le (by omega)
    rw [← h1, ht, h2]
end Go.Vx.L53

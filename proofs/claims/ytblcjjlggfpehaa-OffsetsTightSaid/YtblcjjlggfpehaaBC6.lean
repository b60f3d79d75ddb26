/- Lemmas of a small executor for the model, and contracts of functions, used for the law that this claim proves. No condition. -/
import Derived.Test.YtblcjjlggfpehaaBC5
set_option linter.unusedSimpArgs false
set_option linter.unusedVariables false
set_option maxRecDepth 100000
namespace Go.Vx.L53
open Go Go.Proofs
def elLo (raw tol : Int) : Int := if raw = 0 then 0 else (raw - 1) * 1000000000 / (1000000000 + tol) + 1
def elHi (raw tol : Int) : Int := cdiv (raw + 1) 1000000000 (1000000000 - tol) - 1
def elOK (raw tol : Int) : Prop := (0 ≤ raw ∧ raw ≤ 2251799813685248) ∧ (0 ≤ tol ∧ tol ≤ 500000)
instance (raw tol : Int) : Decidable (elOK raw tol) := inferInstanceAs (Decidable (_ ∧ _))
theorem cdiv_one {c : Int} (c0 : 1000000000 ≤ c) : cdiv 1 1000000000 c = 1 := by
  unfold cdiv
  obtain ⟨h, _⟩ := div_unique (N := 1 * 1000000000 + c - 1) (c := c) (q := 1) (r := 999999999) (by omega) (by omega) (by omega)
  exact h
theorem lo_bd {raw tol : Int} (h : elOK raw tol) (h1 : raw ≠ 0) : 0 ≤ (raw - 1) * 1000000000 / (1000000000 + tol) ∧ (raw - 1) * 1000000000 / (1000000000 + tol) ≤ raw - 1 := by
  obtain ⟨⟨a0, a1⟩, b0, b1⟩ := h
  refine ⟨Int.ediv_nonneg (by omega) (by omega), ?_⟩
  have e := Int.mul_ediv_add_emod ((raw - 1) * 1000000000) (1000000000 + tol)
  have e1 := Int.emod_nonneg ((raw - 1) * 1000000000) (show 1000000000 + tol ≠ 0 by omega)
  have k0 : 0 ≤ (raw - 1) * 1000000000 / (1000000000 + tol) := Int.ediv_nonneg (by omega) (by omega)
  have e2 : 1000000000 * ((raw - 1) * 1000000000 / (1000000000 + tol)) ≤ (1000000000 + tol) * ((raw - 1) * 1000000000 / (1000000000 + tol)) := Int.mul_le_mul_of_nonneg_right (by omega) k0
  omega
theorem hi_bd {raw tol : Int} (h : elOK raw tol) : raw ≤ elHi raw tol ∧ elHi raw tol ≤ 2252926276823661 := by
  obtain ⟨⟨a0, a1⟩, b0, b1⟩ := h
  unfold elHi cdiv
  have e := Int.mul_ediv_add_emod ((raw + 1) * 1000000000 + (1000000000 - tol) - 1) (1000000000 - tol)
  have e1 := Int.emod_nonneg ((raw + 1) * 1000000000 + (1000000000 - tol) - 1) (show 1000000000 - tol ≠ 0 by omega)
  have e2 := Int.emod_lt_of_pos ((raw + 1) * 1000000000 + (1000000000 - tol) - 1) (show 0 < 1000000000 - tol by omega)
  have k0 : 0 ≤ ((raw + 1) * 1000000000 + (1000000000 - tol) - 1) / (1000000000 - tol) := Int.ediv_nonneg (by omega) (by omega)
  generalize ((raw + 1) * 1000000000 + (1000000000 - tol) - 1) / (1000000000 - tol) = q at *
  generalize ((raw + 1) * 1000000000 + (1000000000 - tol) - 1) % (1000000000 - tol) = r at *
  have u1 : 999500000 * q ≤ (1000000000 - tol) * q := Int.mul_le_mul_of_nonneg_right (by omega) k0
  have u2 : (1000000000 - tol) * q ≤ 1000000000 * q := Int.mul_le_mul_of_nonneg_right (by omega) k0
  generalize (1000000000 - tol) * q = X at *
  omega
theorem lo_bd' {raw tol : Int} (h : elOK raw tol) : 0 ≤ elLo raw tol ∧ elLo raw tol ≤ raw := by
  unfold elLo
  split
  · obtain ⟨⟨a0, a1⟩, b0, b1⟩ := h; omega
  · rename_i h1
    have := lo_bd h h1
    omega
def elA (raw tol : Int) : AV := if elOK raw tol then .tup [.val (.int .i64 (elLo raw tol)), .val (.int .i64 (elHi raw tol)), .val (.int .i64 0)] else .tup [.val (.int .i64 0), .val (.int .i64 0), .val (.int .i64 3)]
theorem elapsed_ok (raw tol : Int) (hr : -4611686018427387904 ≤ raw ∧ raw ≤ 4611686018427387904) (ht : -4611686018427387904 ≤ tol ∧ tol ≤ 4611686018427387904) : Runs Try.prog 51 [.val (.int .i64 raw), .val (.int .i64 tol)] [] (Det (elA raw tol) []) := by
  unfold elA
  by_cases h : elOK raw tol
  · rw [if_pos h]
    have hh := h
    have hhi := hi_bd h
    obtain ⟨⟨a0, a1⟩, b0, b1⟩ := hh
    have m2 := muldiv_neg (raw + 1) 1000000000 (1000000000 - tol) (by omega) (by omega) (by decide) (by decide) (by omega) (by omega)
    unfold elHi at *
    generalize cdiv (raw + 1) 1000000000 (1000000000 - tol) = q at *
    by_cases h0 : raw = 0
    · have m1 := muldiv_neg 1 1000000000 (1000000000 + tol) (by omega) (by omega) (by decide) (by decide) (by omega) (by omega)
      rw [cdiv_one (by omega)] at m1
      unfold elLo
      rw [if_pos h0]
      subst h0
      refine Runs.mk tabOK Try.call51 Try.func51 rfl Try.ntmps51 Try.results51 rfl ?_
      (repeat' (first
    | (intro Q h; refine h ?_; clear h Q)
    | (refine bcase_mk (fun hb => ?_) (fun hb => ?_) <;> (try simp only [nS, nT, eq_self, reduceCtorEq] at hb))
    | refine seq_go ?_
    | ((first | apply call0 (m1) ); (focus ((iterate 2 (all_goals (repeat' (first | exact subL_nil | refine subL_cons ?_ ?_ | exact sub_refl_val _ _ | ((first | refine sub_int ?_ ); first | with_reducible rfl | omega | ((try simp only [wS]); omega) | rfl) | refine sub_int ?_ )))); done)))
    | ((first | apply call0 (m2) ); (focus ((iterate 2 (all_goals (repeat' (first | exact subL_nil | refine subL_cons ?_ ?_ | exact sub_refl_val _ _ | ((first | refine sub_int ?_ ); first | with_reducible rfl | omega | ((try simp only [wS]); omega) | rfl) )))); done)))
    | (apply ret_mk []; (focus (iterate 2 (all_goals (repeat' (first | exact subL_nil | exact trivial | refine And.intro ?_ ?_ | refine subL_cons ?_ ?_ | refine sub_tup ?_ | exact sub_refl_val _ _ | ((first | refine sub_int ?_ ); first | with_reducible rfl | omega | ((try simp only [wS]); omega) | rfl) ))))); (any_goals (apply okIx_mk; rfl)))
    ))
    · have m1 := muldiv_pos (raw - 1) 1000000000 (1000000000 + tol) (by omega) (by omega) (by decide) (by decide) (by omega) (by omega)
      have hlo := lo_bd h h0
      unfold elLo
      rw [if_neg h0]
      generalize (raw - 1) * 1000000000 / (1000000000 + tol) = p at *
      refine Runs.mk tabOK Try.call51 Try.func51 rfl Try.ntmps51 Try.results51 rfl ?_
      (repeat' (first
    | (intro Q h; refine h ?_; clear h Q)
    | (refine bcase_mk (fun hb => ?_) (fun hb => ?_) <;> (try simp only [nS, nT, eq_self, reduceCtorEq] at hb))
    | refine seq_go ?_
    | ((first | apply call0 (m1) ); (focus ((iterate 2 (all_goals (repeat' (first | exact subL_nil | refine subL_cons ?_ ?_ | exact sub_refl_val _ _ | ((first | refine sub_int ?_ ); first | with_reducible rfl | omega | ((try simp only [wS]); omega) | rfl) | refine sub_int ?_ )))); done)))
    | ((first | apply call0 (m2) ); (focus ((iterate 2 (all_goals (repeat' (first | exact subL_nil | refine subL_cons ?_ ?_ | exact sub_refl_val _ _ | ((first | refine sub_int ?_ ); first | with_reducible rfl | omega | ((try simp only [wS]); omega) | rfl) )))); done)))
    | (apply ret_mk []; (focus (iterate 2 (all_goals (repeat' (first | exact subL_nil | exact trivial | refine And.intro ?_ ?_ | refine subL_cons ?_ ?_ | refine sub_tup ?_ | exact sub_refl_val _ _ | ((first | refine sub_int ?_ ); first | with_reducible rfl | omega | ((try simp only [wS]); omega) | rfl) ))))); (any_goals (apply okIx_mk; rfl)))
    ))
  · rw [if_neg h]
    have hh : ¬ ((0 ≤ raw ∧ raw ≤ 2251799813685248) ∧ (0 ≤ tol ∧ tol ≤ 500000)) := h
    refine Runs.mk tabOK Try.call51 Try.func51 rfl Try.ntmps51 Try.results51 rfl ?_
    (repeat' (first
    | (intro Q h; refine h ?_; clear h Q)
    | (refine bcase_mk (fun hb => ?_) (fun hb => ?_) <;> (try simp only [nS, nT, eq_self, reduceCtorEq] at hb))
    | refine seq_go ?_
    | (apply ret_mk []; (focus (iterate 2 (all_goals (repeat' (first | exact subL_nil | exact trivial | refine And.intro ?_ ?_ | refine subL_cons ?_ ?_ | refine sub_tup ?_ | exact sub_refl_val _ _ ))))); (any_goals (apply okIx_mk; rfl)))
    | omega))
theorem relapsed_ok (raw tol : Int) (hr : -4611686018427387904 ≤ raw ∧ raw ≤ 4611686018427387904) (ht : -4611686018427387904 ≤ tol ∧ tol ≤ 4611686018427387904) : Runs Try.prog 35 [.val (.int .i64 raw), .val (.int .i64 tol)] [] (Det (elA raw tol) []) := by
  unfold elA
  by_cases h : elOK raw tol
  · rw [if_pos h]
    have hh := h
    have hhi := hi_bd h
    obtain ⟨⟨a0, a1⟩, b0, b1⟩ := hh
    have m2 := rmuldiv_neg (raw + 1) 1000000000 (1000000000 - tol) (by omega) (by omega) (by decide) (by decide) (by omega) (by omega)
    unfold elHi at *
    generalize cdiv (raw + 1) 1000000000 (1000000000 - tol) = q at *
    by_cases h0 : raw = 0
    · have m1 := rmuldiv_neg 1 1000000000 (1000000000 + tol) (by omega) (by omega) (by decide) (by decide) (by omega) (by omega)
      rw [cdiv_one (by omega)] at m1
      unfold elLo
      rw [if_pos h0]
      subst h0
      refine Runs.mk tabOK Try.call35 Try.func35 rfl Try.ntmps35 Try.results35 rfl ?_
      (repeat' (first
    | (intro Q h; refine h ?_; clear h Q)
    | (refine bcase_mk (fun hb => ?_) (fun hb => ?_) <;> (try simp only [nS, nT, eq_self, reduceCtorEq] at hb))
    | refine seq_go ?_
    | ((first | apply call0 (m1) ); (focus ((iterate 2 (all_goals (repeat' (first | exact subL_nil | refine subL_cons ?_ ?_ | exact sub_refl_val _ _ | ((first | refine sub_int ?_ ); first | with_reducible rfl | omega | ((try simp only [wS]); omega) | rfl) | refine sub_int ?_ )))); done)))
    | ((first | apply call0 (m2) ); (focus ((iterate 2 (all_goals (repeat' (first | exact subL_nil | refine subL_cons ?_ ?_ | exact sub_refl_val _ _ | ((first | refine sub_int ?_ ); first | with_reducible rfl | omega | ((try simp only [wS]); omega) | rfl) )))); done)))
    | (apply ret_mk []; (focus (iterate 2 (all_goals (repeat' (first | exact subL_nil | exact trivial | refine And.intro ?_ ?_ | refine subL_cons ?_ ?_ | refine sub_tup ?_ | exact sub_refl_val _ _ | ((first | refine sub_int ?_ ); first | with_reducible rfl | omega | ((try simp only [wS]); omega) | rfl) ))))); (any_goals (apply okIx_mk; rfl)))
    ))
    · have m1 := rmuldiv_pos (raw - 1) 1000000000 (1000000000 + tol) (by omega) (by omega) (by decide) (by decide) (by omega) (by omega)
      have hlo := lo_bd h h0
      unfold elLo
      rw [if_neg h0]
      generalize (raw - 1) * 1000000000 / (1000000000 + tol) = p at *
      refine Runs.mk tabOK Try.call35 Try.func35 rfl Try.ntmps35 Try.results35 rfl ?_
      (repeat' (first
    | (intro Q h; refine h ?_; clear h Q)
    | (refine bcase_mk (fun hb => ?_) (fun hb => ?_) <;> (try simp only [nS, nT, eq_self, reduceCtorEq] at hb))
    | refine seq_go ?_
    | ((first | apply call0 (m1) ); (focus ((iterate 2 (all_goals (repeat' (first | exact subL_nil | refine subL_cons ?_ ?_ | exact sub_refl_val _ _ | ((first | refine sub_int ?_ ); first | with_reducible rfl | omega | ((try simp only [wS]); omega) | rfl) | refine sub_int ?_ )))); done)))
    | ((first | apply call0 (m2) ); (focus ((iterate 2 (all_goals (repeat' (first | exact subL_nil | refine subL_cons ?_ ?_ | exact sub_refl_val _ _ | ((first | refine sub_int ?_ ); first | with_reducible rfl | omega | ((try simp only [wS]); omega) | rfl) )))); done)))
    | (apply ret_mk []; (focus (iterate 2 (all_goals (repeat' (first | exact subL_nil | exact trivial | refine And.intro ?_ ?_ | refine subL_cons ?_ ?_ | refine sub_tup ?_ | exact sub_refl_val _ _ | ((first | refine sub_int ?_ ); first | with_reducible rfl | omega | ((try simp only [wS]); omega) | rfl) ))))); (any_goals (apply okIx_mk; rfl)))
    ))
  · rw [if_neg h]
    have hh : ¬ ((0 ≤ raw ∧ raw ≤ 2251799813685248) ∧ (0 ≤ tol ∧ tol ≤ 500000)) := h
    refine Runs.mk tabOK Try.call35 Try.func35 rfl Try.ntmps35 Try.results35 rfl ?_
    (repeat' (first
    | (intro Q h; refine h ?_; clear h Q)
    | (refine bcase_mk (fun hb => ?_) (fun hb => ?_) <;> (try simp only [nS, nT, eq_self, reduceCtorEq] at hb))
    | refine seq_go ?_
    | (apply ret_mk []; (focus (iterate 2 (all_goals (repeat' (first | exact subL_nil | exact trivial | refine And.intro ?_ ?_ | refine subL_cons ?_ ?_ | refine sub_tup ?_ | exact sub_refl_val _ _ ))))); (any_goals (apply okIx_mk; rfl)))
    | omega))
end Go.Vx.L53

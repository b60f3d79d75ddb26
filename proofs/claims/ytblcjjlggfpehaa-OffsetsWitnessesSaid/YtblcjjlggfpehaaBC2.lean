/- Lemmas of a small executor for the model, and contracts of functions, used for the law that this claim proves. No condition. -/
import Derived.Test.YtblcjjlggfpehaaBC1
set_option linter.unusedSimpArgs false
set_option linter.unusedVariables false
set_option maxRecDepth 100000
namespace Go.Vx.L53
open Go Go.Proofs
theorem uw_id {a : Int} (h0 : 0 ≤ a) (h1 : a < 18446744073709551616) : IntKind.u64.wrap a = a := by rw [uw]; omega
theorem tdiv_nn {a : Int} (b : Int) (h0 : 0 ≤ a) : a.tdiv b = a / b := Int.tdiv_eq_ediv_of_nonneg h0
theorem tmod_nn {a : Int} (b : Int) (h0 : 0 ≤ a) : a.tmod b = a % b := Int.tmod_eq_emod_of_nonneg h0
theorem parts (x y : Int) (h0 : 0 ≤ x) (h1 : x ≤ 4503599627370496) (h2 : 0 ≤ y) (h3 : y ≤ 1000000000) :
    ∃ p q : Int, x % 4294967296 * y = p ∧ x / 4294967296 * y = q ∧ x * y = q * 4294967296 + p ∧ (0 ≤ p ∧ p ≤ 4294967296000000000) ∧ (0 ≤ q ∧ q ≤ 1048576000000000) := by
  refine ⟨_, _, rfl, rfl, ?_, ⟨?_, ?_⟩, ⟨?_, ?_⟩⟩
  · have h := Int.mul_ediv_add_emod x 4294967296
    calc x * y = (4294967296 * (x / 4294967296) + x % 4294967296) * y := by rw [h]
      _ = _ := by rw [Int.add_mul, Int.mul_assoc, Int.mul_comm]
  · exact Int.mul_nonneg (by omega) h2
  · have : x % 4294967296 * y ≤ 4294967296 * 1000000000 := Int.mul_le_mul (by omega) h3 h2 (by decide)
    omega
  · exact Int.mul_nonneg (by omega) h2
  · have : x / 4294967296 * y ≤ 1048576 * 1000000000 := Int.mul_le_mul (by omega) h3 h2 (by decide)
    omega
theorem mul64_ok (x y : Int) (h0 : 0 ≤ x) (h1 : x ≤ 4503599627370496) (h2 : 0 ≤ y) (h3 : y ≤ 1000000000) :
    Runs Try.prog 85 [.val (.int .u64 x), .val (.int .u64 y)] [] (Det (.tup [.val (.int .u64 (x * y / 18446744073709551616)), .val (.int .u64 (x * y % 18446744073709551616))]) []) := by
  obtain ⟨p, q, hp, hq, hxy, bp, bq⟩ := parts x y h0 h1 h2 h3
  have e1 : y / 4294967296 = 0 := by omega
  have e2 : y % 4294967296 = y := by omega
  refine Runs.mk tabOK Try.call85 Try.func85 rfl Try.ntmps85 Try.results85 rfl ?_
  (repeat' (first
    | (intro Q h; refine h ?_; clear h Q)
    | refine And.intro (by first | omega | ((try simp only [wS]); omega) | rfl | decide) ?_
    | (apply ret_mk []; (focus (iterate 2 (all_goals (repeat' (first | exact subL_nil | exact trivial | refine And.intro ?_ ?_ | refine subL_cons ?_ ?_ | refine sub_tup ?_ | exact sub_refl_val _ _ | refine sub_int ?_ ))))); (any_goals (apply okIx_mk; rfl)))
    ))
  all_goals
    rw [hxy]
    (try (simp (disch := omega) only [and_mask, shr32, e1, e2, hp, hq, Int.mul_zero, Int.add_zero, uw_id]))
  all_goals (first | omega )
theorem product_ok (x y : Int) (h0 : 0 ≤ x) (h1 : x ≤ 4503599627370496) (h2 : 0 ≤ y) (h3 : y ≤ 1000000000) :
    Runs Try.prog 68 [.val (.int .u64 x), .val (.int .u64 y)] [] (Det (.tup [.val (.int .u64 (x * y / 18446744073709551616)), .val (.int .u64 (x * y % 18446744073709551616))]) []) := by
  obtain ⟨p, q, hp, hq, hxy, bp, bq⟩ := parts x y h0 h1 h2 h3
  have e1 : y / 4294967296 = 0 := by omega
  have e2 : y % 4294967296 = y := by omega
  refine Runs.mk tabOK Try.call68 Try.func68 rfl Try.ntmps68 Try.results68 rfl ?_
  (repeat' (first
    | (intro Q h; refine h ?_; clear h Q)
    | refine And.intro (by first | omega | ((try simp only [wS]); omega) | rfl | decide) ?_
    | (apply ret_mk []; (focus (iterate 2 (all_goals (repeat' (first | exact subL_nil | exact trivial | refine And.intro ?_ ?_ | refine subL_cons ?_ ?_ | refine sub_tup ?_ | refine sub_int ?_ ))))); (any_goals (apply okIx_mk; rfl)))
    ))
  all_goals
    rw [hxy]
    (try (simp (disch := omega) only [tdiv_nn, tmod_nn, e1, e2, hp, hq, Int.mul_zero, Int.add_zero, Int.zero_add, uw_id]))
  all_goals omega
theorem div64_lo (x y : Int) (h0 : 0 ≤ x) (h1 : x ≤ 18446744073709551615) (h2 : 0 < y) (h3 : y ≤ 9223372036854775807) :
    Runs Try.prog 87 [.val (.int .u64 0), .val (.int .u64 x), .val (.int .u64 y)] [] (Det (.tup [.val (.int .u64 (x / y)), .val (.int .u64 (x % y))]) []) := by
  have k0 : 0 ≤ x / y := Int.ediv_nonneg h0 (by omega)
  have k1 : x / y ≤ x := Int.ediv_le_self _ h0
  refine Runs.mk tabOK Try.call87 Try.func87 rfl Try.ntmps87 Try.results87 rfl ?_
  (repeat' (first
    | (intro Q h; refine h ?_; clear h Q)
    | (refine bcase_mk (fun hb => ?_) (fun hb => ?_) <;> (try simp only [nS, nT, eq_self, reduceCtorEq] at hb))
    | refine draw_mk (by decide +kernel) ?_
    | refine seq_go ?_
    | refine And.intro (by first | omega | ((try simp only [wS]); omega) | rfl | decide) ?_
    | (apply ret_mk []; (focus (iterate 2 (all_goals (repeat' (first | exact subL_nil | exact trivial | refine And.intro ?_ ?_ | refine subL_cons ?_ ?_ | refine sub_tup ?_ | refine sub_int ?_ ))))); (any_goals (apply okIx_mk; rfl)))
    | omega))
  · rw [tdiv_nn _ h0, uw_id k0 (by omega)]
  · rw [tmod_nn _ h0]
end Go.Vx.L53

/- Lemmas of a small executor for the model, and contracts of functions, used for the law that this claim proves. No condition. -/
import Derived.Test.YtblcjjlggfpehaaBC3
set_option linter.unusedSimpArgs false
set_option linter.unusedVariables false
set_option maxRecDepth 100000
namespace Go.Vx.L53
open Go Go.Proofs
def cdiv (d b c : Int) : Int := (d * b + c - 1) / c
theorem cdiv_zero {P c : Int} (hc : 0 < c) (h : P % c = 0) : (P + c - 1) / c = P / c := by
  have e := Int.mul_ediv_add_emod P c
  have : P + c - 1 = (c - 1) + c * (P / c) := by omega
  rw [this, Int.add_mul_ediv_left _ _ (by omega), Int.ediv_eq_zero_of_lt (by omega) (by omega), Int.zero_add]
theorem cdiv_pos {P c : Int} (hc : 0 < c) (h : ¬ P % c = 0) : (P + c - 1) / c = P / c + 1 := by
  have e := Int.mul_ediv_add_emod P c
  have h1 := Int.emod_nonneg P (show c ≠ 0 by omega)
  have h2 := Int.emod_lt_of_pos P hc
  have e2 : c * (P / c + 1) = c * (P / c) + c := by rw [Int.mul_add, Int.mul_one]
  have : P + c - 1 = (P % c - 1) + c * (P / c + 1) := by omega
  rw [this, Int.add_mul_ediv_left _ _ (by omega), Int.ediv_eq_zero_of_lt (by omega) (by omega), Int.zero_add]
theorem size_n (n : Int) (h : 0 ≤ n) (h1 : n ≤ 9223372036854775807) : Runs Try.prog 86 [.val (.int .i64 (-n))] [] (Det (.val (.int .u64 n)) []) := by
  by_cases h0 : n = 0
  · subst h0; exact size_pos 0 (by omega) (by omega)
  · exact size_neg n (by omega) h1
theorem rsize_n (n : Int) (h : 0 ≤ n) (h1 : n ≤ 9223372036854775807) : Runs Try.prog 69 [.val (.int .i64 (-n))] [] (Det (.val (.int .u64 n)) []) := by
  by_cases h0 : n = 0
  · subst h0; exact rsize_pos 0 (by omega) (by omega)
  · exact rsize_neg n (by omega) h1
theorem prod_bd (d b : Int) (h0 : 0 ≤ d) (h1 : d ≤ 4503599627370496) (h2 : 0 ≤ b) (h3 : b ≤ 1000000000) : 0 ≤ d * b ∧ d * b ≤ 4503599627370496000000000 :=
  ⟨Int.mul_nonneg h0 h2, by have := Int.mul_le_mul h1 h3 h2 (show (0:Int) ≤ 4503599627370496 by decide); omega⟩
/-- What the division gives. -/
theorem div_ok (P c : Int) (h0 : 0 ≤ P) (h1 : P ≤ 4503599627370496000000000) (c0 : 999500000 ≤ c) (c1 : c ≤ 1000500000) :
    Runs Try.prog 87 [.val (.int .u64 (P / 18446744073709551616)), .val (.int .u64 (P % 18446744073709551616)), .val (.int .u64 c)] [] (Det (.tup [.val (.int .u64 (P / c)), .val (.int .u64 (P % c))]) []) := by
  by_cases h : P < 18446744073709551616
  · have e1 : P / 18446744073709551616 = 0 := by omega
    have e2 : P % 18446744073709551616 = P := by omega
    rw [e1, e2]
    exact div64_lo P c h0 (by omega) (by omega) (by omega)
  · have := div64_hi (P / 18446744073709551616) (P % 18446744073709551616) c (by omega) (by omega) (by omega) (by omega) c0 c1
    have e : P / 18446744073709551616 * 18446744073709551616 + P % 18446744073709551616 = P := by omega
    rw [e] at this
    exact this
theorem quo_bd {P c : Int} (h0 : 0 ≤ P) (h1 : P ≤ 4503599627370496000000000) (c0 : 999500000 ≤ c) : 0 ≤ P / c ∧ P / c ≤ 4505852553647320 := by
  have k0 : 0 ≤ P / c := Int.ediv_nonneg h0 (by omega)
  refine ⟨k0, ?_⟩
  have e := Int.mul_ediv_add_emod P c
  have e1 := Int.emod_nonneg P (show c ≠ 0 by omega)
  have e2 : 999500000 * (P / c) ≤ c * (P / c) := Int.mul_le_mul_of_nonneg_right c0 k0
  omega
theorem neg_of {d b c : Int} (h2 : 0 ≤ b) (hc : 0 < c) : (!(!decide (-d < 0) == decide (b < 0)) == decide (c < 0)) = decide (0 < d) := by
  have e1 : decide (b < 0) = false := decide_eq_false (by omega)
  have e2 : decide (c < 0) = false := decide_eq_false (by omega)
  have e3 : decide (-d < 0) = decide (0 < d) := decide_eq_decide.2 (by omega)
  rw [e1, e2, e3]
  cases decide (0 < d) <;> rfl
theorem pos_of {d b c : Int} (h0 : 0 ≤ d) (h2 : 0 ≤ b) (hc : 0 < c) : (!(!decide (d < 0) == decide (b < 0)) == decide (c < 0)) = false := by
  have e1 : decide (b < 0) = false := decide_eq_false (by omega)
  have e2 : decide (c < 0) = false := decide_eq_false (by omega)
  have e3 : decide (d < 0) = false := decide_eq_false (by omega)
  rw [e1, e2, e3]
  rfl
set_option maxHeartbeats 1000000 in
theorem muldiv_neg (d b c : Int) (h0 : 0 ≤ d) (h1 : d ≤ 4503599627370496) (h2 : 0 ≤ b) (h3 : b ≤ 1000000000) (c0 : 999500000 ≤ c) (c1 : c ≤ 1000500000) :
    Runs Try.prog 65 [.val (.int .i64 (-d)), .val (.int .i64 b), .val (.int .i64 c)] [] (Det (.tup [.val (.int .i64 (-(cdiv d b c))), .sb true]) []) := by
  obtain ⟨p0, p1⟩ := prod_bd d b h0 h1 h2 h3
  have m1 := mul64_ok d b h0 h1 h2 h3
  have m2 := div_ok (d * b) c p0 p1 c0 c1
  have s1 := size_n d h0 (by omega)
  have s2 := size_pos b h2 (by omega)
  have s3 := size_pos c (by omega) (by omega)
  obtain ⟨k0, k1⟩ := quo_bd p0 p1 c0
  have k2 := Int.emod_nonneg (d * b) (show c ≠ 0 by omega)
  have hd0 : d = 0 → d * b / c = 0 ∧ d * b % c = 0 := by rintro rfl; simp
  have hneg := neg_of (d := d) h2 (show 0 < c by omega)
  unfold cdiv
  generalize d * b = P at *
  have hcp : 0 < c := by omega
  by_cases hr : P % c = 0
  · rw [cdiv_zero hcp hr]
    rw [hr] at m2
    generalize P / c = q at *
    have s4 := signed_ok q k0 (by omega)
    refine Runs.mk tabOK Try.call65 Try.func65 rfl Try.ntmps65 Try.results65 rfl ?_
    (repeat' (first
    | (intro Q h; refine h ?_; clear h Q)
    | (refine bcase_mk (fun hb => ?_) (fun hb => ?_) <;> (try simp only [nS, nT, eq_self, reduceCtorEq] at hb))
    | refine seq_go ?_
    | ((first | apply call0 (s1) ); (focus ((iterate 2 (all_goals (repeat' (first | exact subL_nil | refine subL_cons ?_ ?_ | exact sub_refl_val _ _ | refine sub_int ?_ )))); done)))
    | ((first | apply call0 (s2) ); (focus ((iterate 2 (all_goals (repeat' (first | exact subL_nil | refine subL_cons ?_ ?_ | exact sub_refl_val _ _ | refine sub_int ?_ )))); done)))
    | ((first | apply call0 (s3) ); (focus ((iterate 2 (all_goals (repeat' (first | exact subL_nil | refine subL_cons ?_ ?_ | exact sub_refl_val _ _ )))); done)))
    | ((first | apply call0 (m1) ); (focus ((iterate 2 (all_goals (repeat' (first | exact subL_nil | refine subL_cons ?_ ?_ | exact sub_refl_val _ _ )))); done)))
    | ((first | apply call0 (m2) ); (focus ((iterate 2 (all_goals (repeat' (first | exact subL_nil | refine subL_cons ?_ ?_ | exact sub_refl_val _ _ )))); done)))
    | ((first | apply call0 (s4 _) ); (focus (iterate 2 (all_goals (repeat' (first | exact subL_nil | refine subL_cons ?_ ?_ | exact sub_refl_val _ _ | exact sub_sb rfl ))))))
    | (apply ret_mk []; (focus (iterate 2 (all_goals (repeat' (first | exact subL_nil | exact trivial | refine And.intro ?_ ?_ | refine subL_cons ?_ ?_ | refine sub_tup ?_ | exact sub_sb rfl | ((first | refine sub_int ?_ ); first | with_reducible rfl | omega | ((try simp only [wS]); omega) | rfl) | refine sub_int ?_ | refine sub_sbl ?_ ))))); (any_goals (apply okIx_mk; rfl)))
    | omega))
    all_goals
      rw [hneg]
      by_cases hd : 0 < d
      · rw [decide_eq_true hd]; rfl
      · have := (hd0 (by omega)).1; subst this; rw [decide_eq_false hd]; rfl
  · rw [cdiv_pos hcp hr]
    generalize P % c = r at *
    generalize P / c = q at *
    have hd : 0 < d := by
      rcases Int.lt_or_le 0 d with h | h
      · exact h
      · exact absurd (hd0 (by omega)).2 hr
    rw [decide_eq_true hd] at hneg
    have s4 := signed_ok (IntKind.u64.wrap (q + 1)) (by rw [uw]; omega) (by rw [uw]; omega)
    refine Runs.mk tabOK Try.call65 Try.func65 rfl Try.ntmps65 Try.results65 rfl ?_
    (repeat' (first
    | (intro Q h; refine h ?_; clear h Q)
    | (refine bcase_mk (fun hb => ?_) (fun hb => ?_) <;> (try simp only [nS, nT, eq_self, reduceCtorEq] at hb))
    | refine seq_go ?_
    | ((first | apply call0 (s1) ); (focus ((iterate 2 (all_goals (repeat' (first | exact subL_nil | refine subL_cons ?_ ?_ | exact sub_refl_val _ _ | refine sub_int ?_ )))); done)))
    | ((first | apply call0 (s2) ); (focus ((iterate 2 (all_goals (repeat' (first | exact subL_nil | refine subL_cons ?_ ?_ | exact sub_refl_val _ _ | refine sub_int ?_ )))); done)))
    | ((first | apply call0 (s3) ); (focus ((iterate 2 (all_goals (repeat' (first | exact subL_nil | refine subL_cons ?_ ?_ | exact sub_refl_val _ _ )))); done)))
    | ((first | apply call0 (m1) ); (focus ((iterate 2 (all_goals (repeat' (first | exact subL_nil | refine subL_cons ?_ ?_ | exact sub_refl_val _ _ )))); done)))
    | ((first | apply call0 (m2) ); (focus ((iterate 2 (all_goals (repeat' (first | exact subL_nil | refine subL_cons ?_ ?_ | exact sub_refl_val _ _ )))); done)))
    | ((first | apply call0 (s4 _) ); (focus (iterate 2 (all_goals (repeat' (first | exact subL_nil | refine subL_cons ?_ ?_ | exact sub_refl_val _ _ | exact sub_sb rfl | ((first | refine sub_int ?_ ); first | with_reducible rfl | omega | ((try simp only [wS]); omega) | rfl) | refine sub_int ?_ ))))))
    | (apply ret_mk []; (focus (iterate 2 (all_goals (repeat' (first | exact subL_nil | exact trivial | refine And.intro ?_ ?_ | refine subL_cons ?_ ?_ | refine sub_tup ?_ | exact sub_sb rfl | ((first | refine sub_int ?_ ); first | with_reducible rfl | omega | ((try simp only [wS]); omega) | rfl) | refine sub_int ?_ | refine sub_sbl ?_ ))))); (any_goals (apply okIx_mk; rfl)))
    | omega))
    · rw [hneg, cond_true, uw]; omega
    all_goals
      exfalso
      rw [hb] at hneg
      simp at hneg
set_option maxHeartbeats 1000000 in
theorem muldiv_pos (d b c : Int) (h0 : 0 ≤ d) (h1 : d ≤ 4503599627370496) (h2 : 0 ≤ b) (h3 : b ≤ 1000000000) (c0 : 999500000 ≤ c) (c1 : c ≤ 1000500000) :
    Runs Try.prog 65 [.val (.int .i64 d), .val (.int .i64 b), .val (.int .i64 c)] [] (Det (.tup [.val (.int .i64 (d * b / c)), .sb true]) []) := by
  obtain ⟨p0, p1⟩ := prod_bd d b h0 h1 h2 h3
  have m1 := mul64_ok d b h0 h1 h2 h3
  have m2 := div_ok (d * b) c p0 p1 c0 c1
  have s1 := size_pos d h0 (by omega)
  have s2 := size_pos b h2 (by omega)
  have s3 := size_pos c (by omega) (by omega)
  obtain ⟨k0, k1⟩ := quo_bd p0 p1 c0
  have hneg := pos_of (d := d) h0 h2 (show 0 < c by omega)
  have hn' : (!decide (d < 0) == decide (b < 0)) = decide (c < 0) := by
    cases h1 : (!decide (d < 0) == decide (b < 0)) <;> cases h2 : decide (c < 0) <;> rw [h1, h2] at hneg <;> first | rfl | cases hneg
  generalize d * b = P at *
  generalize P % c = r at *
  generalize P / c = q at *
  have s4 := signed_ok q k0 (by omega)
  refine Runs.mk tabOK Try.call65 Try.func65 rfl Try.ntmps65 Try.results65 rfl ?_
  (repeat' (first
    | (intro Q h; refine h ?_; clear h Q)
    | (refine bcase_mk (fun hb => ?_) (fun hb => ?_) <;> (try simp only [nS, nT, eq_self, reduceCtorEq] at hb))
    | refine seq_go ?_
    | ((first | apply call0 (s1) ); (focus ((iterate 2 (all_goals (repeat' (first | exact subL_nil | refine subL_cons ?_ ?_ | exact sub_refl_val _ _ | refine sub_int ?_ )))); done)))
    | ((first | apply call0 (s2) ); (focus ((iterate 2 (all_goals (repeat' (first | exact subL_nil | refine subL_cons ?_ ?_ | exact sub_refl_val _ _ | refine sub_int ?_ )))); done)))
    | ((first | apply call0 (s3) ); (focus ((iterate 2 (all_goals (repeat' (first | exact subL_nil | refine subL_cons ?_ ?_ | exact sub_refl_val _ _ )))); done)))
    | ((first | apply call0 (m1) ); (focus ((iterate 2 (all_goals (repeat' (first | exact subL_nil | refine subL_cons ?_ ?_ | exact sub_refl_val _ _ )))); done)))
    | ((first | apply call0 (m2) ); (focus ((iterate 2 (all_goals (repeat' (first | exact subL_nil | refine subL_cons ?_ ?_ | exact sub_refl_val _ _ )))); done)))
    | ((first | apply call0 (s4 _) ); (focus (iterate 2 (all_goals (repeat' (first | exact subL_nil | refine subL_cons ?_ ?_ | exact sub_refl_val _ _ | exact sub_sb rfl | refine sub_int ?_ ))))))
    | (apply ret_mk []; (focus (iterate 2 (all_goals (repeat' (first | exact subL_nil | exact trivial | refine And.intro ?_ ?_ | refine subL_cons ?_ ?_ | refine sub_tup ?_ | exact sub_sb rfl | ((first | refine sub_int ?_ ); first | with_reducible rfl | omega | ((try simp only [wS]); omega) | rfl) | refine sub_int ?_ | refine sub_sbl ?_ ))))); (any_goals (apply okIx_mk; rfl)))
    | omega))
  all_goals first
    | (rw [hneg]; rfl)
    | exact absurd hn' ‹¬(!decide (d < 0) == decide (b < 0)) = decide (c < 0)›
    | (exfalso; rw [hneg] at hb; cases hb)
    | fail
end Go.Vx.L53

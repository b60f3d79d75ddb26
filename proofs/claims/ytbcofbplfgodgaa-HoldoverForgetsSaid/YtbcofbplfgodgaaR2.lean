/- Lemmas of a small executor for the model, and contracts of functions, used for the law that this claim proves. No condition. -/
import Derived.Test.YtbcofbplfgodgaaR1
set_option linter.unusedSimpArgs false
set_option linter.unusedVariables false
set_option maxRecDepth 100000
namespace Go.Vx.L14
open Go Go.Proofs
theorem uw_id {a : Int} (h0 : 0 ≤ a) (h1 : a < 18446744073709551616) : IntKind.u64.wrap a = a := by rw [uw]; omega
theorem tdiv_nn {a : Int} (b : Int) (h0 : 0 ≤ a) : a.tdiv b = a / b := Int.tdiv_eq_ediv_of_nonneg h0
theorem tmod_nn {a : Int} (b : Int) (h0 : 0 ≤ a) : a.tmod b = a % b := Int.tmod_eq_emod_of_nonneg h0
theorem parts (x y : Int) (h0 : 0 ≤ x) (h1 : x ≤ 1125899906842624) (h2 : 0 ≤ y) (h3 : y ≤ 500000) :
    ∃ p q : Int, x % 4294967296 * y = p ∧ x / 4294967296 * y = q ∧ x * y = q * 4294967296 + p ∧ (0 ≤ p ∧ p ≤ 2147483648000000) ∧ (0 ≤ q ∧ q ≤ 131072000000) := by
  refine ⟨_, _, rfl, rfl, ?_, ⟨?_, ?_⟩, ⟨?_, ?_⟩⟩
  · have h := Int.mul_ediv_add_emod x 4294967296
    calc x * y = (4294967296 * (x / 4294967296) + x % 4294967296) * y := by rw [h]
      _ = _ := by rw [Int.add_mul, Int.mul_assoc, Int.mul_comm]
  · exact Int.mul_nonneg (by omega) h2
  · have : x % 4294967296 * y ≤ 4294967296 * 500000 := Int.mul_le_mul (by omega) h3 h2 (by decide)
    omega
  · exact Int.mul_nonneg (by omega) h2
  · have : x / 4294967296 * y ≤ 262144 * 500000 := Int.mul_le_mul (by omega) h3 h2 (by decide)
    omega
theorem mul64_ok (x y : Int) (h0 : 0 ≤ x) (h1 : x ≤ 1125899906842624) (h2 : 0 ≤ y) (h3 : y ≤ 500000) :
    Runs Try.prog 35 [.val (.int .u64 x), .val (.int .u64 y)] [] (Det (.tup [.val (.int .u64 (x * y / 18446744073709551616)), .val (.int .u64 (x * y % 18446744073709551616))]) []) := by
  obtain ⟨p, q, hp, hq, hxy, bp, bq⟩ := parts x y h0 h1 h2 h3
  have e1 : y / 4294967296 = 0 := by omega
  have e2 : y % 4294967296 = y := by omega
  refine Runs.mk tabOK Try.call35 Try.func35 rfl Try.ntmps35 Try.results35 rfl ?_
  (repeat' (first
    | (intro Q h; refine h ?_; clear h Q)
    | (with_reducible refine bcase_true ?_)
    | (with_reducible refine bcase_false ?_)
    | (refine bcase_mk (fun hb => ?_) (fun hb => ?_) <;> (try simp only [decide_eq_true_eq, decide_eq_false_iff_not, beq_iff_eq, beq_eq_false_iff_ne, bne_iff_ne, bne_eq_false_iff_eq, Bool.not_eq_true', Bool.not_eq_false', Bool.and_eq_true, Bool.or_eq_true, ne_eq, Int.not_lt, Int.not_le, eq_self, not_true_eq_false, not_false_eq_true, reduceCtorEq, Bool.and_true, Bool.true_and, beq_self_eq_true, bne_self_eq_false, Bool.false_eq_true, Bool.and_false, Bool.not_true, Bool.not_false] at hb))
    | refine nil_mk (fun hz => ?_) ?_
    | refine draw_mk (by decide +kernel) ?_
    | refine seq_go ?_
    | refine And.intro (by first | omega | ((try simp only [IntKind.wrap_i64, List.length_append, List.length_cons, List.length_nil, List.length_take, List.length_map, Int.toNat_natCast]); omega) | rfl | decide) ?_
    | (apply ret_mk []; (focus (iterate 2 (all_goals (repeat' (first | exact sub_dead | exact subL_nil | exact trivial | (intro Q h; refine h ?_; clear h Q) | refine And.intro ?_ ?_ | refine subL_cons ?_ ?_ | refine sub_agg ?_ | refine sub_tup ?_ | refine sub_fn ?_ | refine var_mk ?_ | refine rd_var ?_ rfl | refine rd_rd ?_ | exact sub_ptr rfl rfl | exact sub_sl rfl rfl rfl | exact sub_refl_val _ _ | (refine sub_int ?_; first | with_reducible rfl | omega | ((try simp only [IntKind.wrap_i64, List.length_append, List.length_cons, List.length_nil, List.length_take, List.length_map, Int.toNat_natCast]); omega) | rfl) | exact sub_sb rfl | exact sub_sbl rfl | exact row_same rfl rfl rfl | exact row_ren rfl rfl rfl | (refine sub_sl rfl rfl ?_; first | with_reducible rfl | omega | ((try simp only [IntKind.wrap_i64, List.length_append, List.length_cons, List.length_nil, List.length_take, List.length_map, Int.toNat_natCast]); omega) | rfl) | exact sub_nil rfl | (refine sub_nil ?_; first | with_reducible rfl | omega | ((try simp only [IntKind.wrap_i64, List.length_append, List.length_cons, List.length_nil, List.length_take, List.length_map, Int.toNat_natCast]); omega) | rfl) | (refine virt_mk ?_; first | with_reducible rfl | omega | ((try simp only [IntKind.wrap_i64, List.length_append, List.length_cons, List.length_nil, List.length_take, List.length_map, Int.toNat_natCast]); omega) | rfl) | apply row_app1 | apply row_app2 | apply row_app1r | refine cells_succ ?_ ?_ | exact cell0 | with_reducible rfl | (refine And.left (b := True) ⟨?_, True.intro⟩; assumption) | (show (_ : Nat) = _; first | with_reducible rfl | omega | ((try simp only [IntKind.wrap_i64, List.length_append, List.length_cons, List.length_nil, List.length_take, List.length_map, Int.toNat_natCast]); omega) | rfl) | refine sub_int ?_ | refine sub_sb ?_ | refine sub_sbl ?_ | refine sub_sl rfl rfl ?_ | (apply row_lit rfl; (focus (refine cells_succ ?_ ?_))) | refine row_same rfl ?_ ?_ | refine row_ren rfl ?_ ?_))))); (any_goals (apply okIx_mk; rfl)))
    | omega))
  all_goals
    rw [hxy]
    (try (simp (disch := omega) only [and_mask, shr32, e1, e2, hp, hq, Int.mul_zero, Int.add_zero, uw_id]))
  all_goals (first | omega | (rw [uw]; done) | (rw [hxy, uw]; done))
theorem product_ok (x y : Int) (h0 : 0 ≤ x) (h1 : x ≤ 1125899906842624) (h2 : 0 ≤ y) (h3 : y ≤ 500000) :
    Runs Try.prog 39 [.val (.int .u64 x), .val (.int .u64 y)] [] (Det (.tup [.val (.int .u64 (x * y / 18446744073709551616)), .val (.int .u64 (x * y % 18446744073709551616))]) []) := by
  obtain ⟨p, q, hp, hq, hxy, bp, bq⟩ := parts x y h0 h1 h2 h3
  have e1 : y / 4294967296 = 0 := by omega
  have e2 : y % 4294967296 = y := by omega
  refine Runs.mk tabOK Try.call39 Try.func39 rfl Try.ntmps39 Try.results39 rfl ?_
  (repeat' (first
    | (intro Q h; refine h ?_; clear h Q)
    | (with_reducible refine bcase_true ?_)
    | (with_reducible refine bcase_false ?_)
    | (refine bcase_mk (fun hb => ?_) (fun hb => ?_) <;> (try simp only [decide_eq_true_eq, decide_eq_false_iff_not, beq_iff_eq, beq_eq_false_iff_ne, bne_iff_ne, bne_eq_false_iff_eq, Bool.not_eq_true', Bool.not_eq_false', Bool.and_eq_true, Bool.or_eq_true, ne_eq, Int.not_lt, Int.not_le, eq_self, not_true_eq_false, not_false_eq_true, reduceCtorEq, Bool.and_true, Bool.true_and, beq_self_eq_true, bne_self_eq_false, Bool.false_eq_true, Bool.and_false, Bool.not_true, Bool.not_false] at hb))
    | refine nil_mk (fun hz => ?_) ?_
    | refine draw_mk (by decide +kernel) ?_
    | refine seq_go ?_
    | refine And.intro (by first | omega | ((try simp only [IntKind.wrap_i64, List.length_append, List.length_cons, List.length_nil, List.length_take, List.length_map, Int.toNat_natCast]); omega) | rfl | decide) ?_
    | (apply ret_mk []; (focus (iterate 2 (all_goals (repeat' (first | exact sub_dead | exact subL_nil | exact trivial | (intro Q h; refine h ?_; clear h Q) | refine And.intro ?_ ?_ | refine subL_cons ?_ ?_ | refine sub_agg ?_ | refine sub_tup ?_ | refine sub_fn ?_ | refine var_mk ?_ | refine rd_var ?_ rfl | refine rd_rd ?_ | exact sub_ptr rfl rfl | exact sub_sl rfl rfl rfl | exact sub_refl_val _ _ | (refine sub_int ?_; first | with_reducible rfl | omega | ((try simp only [IntKind.wrap_i64, List.length_append, List.length_cons, List.length_nil, List.length_take, List.length_map, Int.toNat_natCast]); omega) | rfl) | exact sub_sb rfl | exact sub_sbl rfl | exact row_same rfl rfl rfl | exact row_ren rfl rfl rfl | (refine sub_sl rfl rfl ?_; first | with_reducible rfl | omega | ((try simp only [IntKind.wrap_i64, List.length_append, List.length_cons, List.length_nil, List.length_take, List.length_map, Int.toNat_natCast]); omega) | rfl) | exact sub_nil rfl | (refine sub_nil ?_; first | with_reducible rfl | omega | ((try simp only [IntKind.wrap_i64, List.length_append, List.length_cons, List.length_nil, List.length_take, List.length_map, Int.toNat_natCast]); omega) | rfl) | (refine virt_mk ?_; first | with_reducible rfl | omega | ((try simp only [IntKind.wrap_i64, List.length_append, List.length_cons, List.length_nil, List.length_take, List.length_map, Int.toNat_natCast]); omega) | rfl) | apply row_app1 | apply row_app2 | apply row_app1r | refine cells_succ ?_ ?_ | exact cell0 | with_reducible rfl | (refine And.left (b := True) ⟨?_, True.intro⟩; assumption) | (show (_ : Nat) = _; first | with_reducible rfl | omega | ((try simp only [IntKind.wrap_i64, List.length_append, List.length_cons, List.length_nil, List.length_take, List.length_map, Int.toNat_natCast]); omega) | rfl) | refine sub_int ?_ | refine sub_sb ?_ | refine sub_sbl ?_ | refine sub_sl rfl rfl ?_ | (apply row_lit rfl; (focus (refine cells_succ ?_ ?_))) | refine row_same rfl ?_ ?_ | refine row_ren rfl ?_ ?_))))); (any_goals (apply okIx_mk; rfl)))
    | omega))
  all_goals
    rw [hxy]
    (try (simp (disch := omega) only [tdiv_nn, tmod_nn, e1, e2, hp, hq, Int.mul_zero, Int.add_zero, Int.zero_add, uw_id]))
  all_goals omega
theorem div64_lo (x y : Int) (h0 : 0 ≤ x) (h1 : x ≤ 18446744073709551615) (h2 : 0 < y) (h3 : y ≤ 9223372036854775807) :
    Runs Try.prog 37 [.val (.int .u64 0), .val (.int .u64 x), .val (.int .u64 y)] [] (Det (.tup [.val (.int .u64 (x / y)), .val (.int .u64 (x % y))]) []) := by
  have k0 : 0 ≤ x / y := Int.ediv_nonneg h0 (by omega)
  have k1 : x / y ≤ x := Int.ediv_le_self _ h0
  refine Runs.mk tabOK Try.call37 Try.func37 rfl Try.ntmps37 Try.results37 rfl ?_
  (repeat' (first
    | (intro Q h; refine h ?_; clear h Q)
    | (with_reducible refine bcase_true ?_)
    | (with_reducible refine bcase_false ?_)
    | (refine bcase_mk (fun hb => ?_) (fun hb => ?_) <;> (try simp only [decide_eq_true_eq, decide_eq_false_iff_not, beq_iff_eq, beq_eq_false_iff_ne, bne_iff_ne, bne_eq_false_iff_eq, Bool.not_eq_true', Bool.not_eq_false', Bool.and_eq_true, Bool.or_eq_true, ne_eq, Int.not_lt, Int.not_le, eq_self, not_true_eq_false, not_false_eq_true, reduceCtorEq, Bool.and_true, Bool.true_and, beq_self_eq_true, bne_self_eq_false, Bool.false_eq_true, Bool.and_false, Bool.not_true, Bool.not_false] at hb))
    | refine nil_mk (fun hz => ?_) ?_
    | refine draw_mk (by decide +kernel) ?_
    | refine seq_go ?_
    | refine And.intro (by first | omega | ((try simp only [IntKind.wrap_i64, List.length_append, List.length_cons, List.length_nil, List.length_take, List.length_map, Int.toNat_natCast]); omega) | rfl | decide) ?_
    | (apply ret_mk []; (focus (iterate 2 (all_goals (repeat' (first | exact sub_dead | exact subL_nil | exact trivial | (intro Q h; refine h ?_; clear h Q) | refine And.intro ?_ ?_ | refine subL_cons ?_ ?_ | refine sub_agg ?_ | refine sub_tup ?_ | refine sub_fn ?_ | refine var_mk ?_ | refine rd_var ?_ rfl | refine rd_rd ?_ | exact sub_ptr rfl rfl | exact sub_sl rfl rfl rfl | exact sub_refl_val _ _ | (refine sub_int ?_; first | with_reducible rfl | omega | ((try simp only [IntKind.wrap_i64, List.length_append, List.length_cons, List.length_nil, List.length_take, List.length_map, Int.toNat_natCast]); omega) | rfl) | exact sub_sb rfl | exact sub_sbl rfl | exact row_same rfl rfl rfl | exact row_ren rfl rfl rfl | (refine sub_sl rfl rfl ?_; first | with_reducible rfl | omega | ((try simp only [IntKind.wrap_i64, List.length_append, List.length_cons, List.length_nil, List.length_take, List.length_map, Int.toNat_natCast]); omega) | rfl) | exact sub_nil rfl | (refine sub_nil ?_; first | with_reducible rfl | omega | ((try simp only [IntKind.wrap_i64, List.length_append, List.length_cons, List.length_nil, List.length_take, List.length_map, Int.toNat_natCast]); omega) | rfl) | (refine virt_mk ?_; first | with_reducible rfl | omega | ((try simp only [IntKind.wrap_i64, List.length_append, List.length_cons, List.length_nil, List.length_take, List.length_map, Int.toNat_natCast]); omega) | rfl) | apply row_app1 | apply row_app2 | apply row_app1r | refine cells_succ ?_ ?_ | exact cell0 | with_reducible rfl | (refine And.left (b := True) ⟨?_, True.intro⟩; assumption) | (show (_ : Nat) = _; first | with_reducible rfl | omega | ((try simp only [IntKind.wrap_i64, List.length_append, List.length_cons, List.length_nil, List.length_take, List.length_map, Int.toNat_natCast]); omega) | rfl) | refine sub_int ?_ | refine sub_sb ?_ | refine sub_sbl ?_ | refine sub_sl rfl rfl ?_ | (apply row_lit rfl; (focus (refine cells_succ ?_ ?_))) | refine row_same rfl ?_ ?_ | refine row_ren rfl ?_ ?_))))); (any_goals (apply okIx_mk; rfl)))
    | omega))
  · rw [tdiv_nn _ h0, uw_id k0 (by omega)]
  · rw [tmod_nn _ h0]
end Go.Vx.L14

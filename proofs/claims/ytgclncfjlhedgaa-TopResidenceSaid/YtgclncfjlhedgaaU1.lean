/- Lemmas of a small executor for the model, and contracts of functions, used for the law that this claim proves. No condition. -/
import Derived.Test.YtgclncfjlhedgaaT21
import Derived.Test.YtgclncfjlhedgaaW2
import Derived.Handy
set_option linter.unusedSimpArgs false
set_option linter.unusedVariables false
set_option maxRecDepth 100000
namespace Go.Vx.L21
open Go Go.Proofs
theorem uw (n : Int) : IntKind.u64.wrap n = n % 18446744073709551616 := by rw [IntKind.wrap_u64]
theorem bv_toNat {a : Int} (h0 : 0 ≤ a) (h1 : a < 18446744073709551616) : (BitVec.ofInt IntKind.u64.bits a).toNat = a.toNat := by
  rw [BitVec.toNat_ofInt]
  show (a % ((2:Int)^64)).toNat = a.toNat
  congr 1
  exact Int.emod_eq_of_lt h0 h1
theorem and_mask {a : Int} (h0 : 0 ≤ a) (h1 : a < 18446744073709551616) : IntKind.u64.wrap ((BitVec.ofInt IntKind.u64.bits a &&& BitVec.ofInt IntKind.u64.bits 4294967295).toNat : Int) = a % 4294967296 := by
  rw [BitVec.toNat_and, bv_toNat h0 h1, bv_toNat (by decide) (by decide)]
  have : (4294967295 : Int).toNat = 2 ^ 32 - 1 := by decide
  rw [this, Nat.and_two_pow_sub_one_eq_mod, uw]
  omega
theorem or_add {a b : Int} (k : Nat) (hk : k ≤ 64) (h0 : 0 ≤ a) (h1 : a < 18446744073709551616) (h2 : 0 ≤ b) (h3 : b < 2 ^ k) (h4 : a % 2 ^ k = 0) :
    IntKind.u64.wrap ((BitVec.ofInt IntKind.u64.bits a ||| BitVec.ofInt IntKind.u64.bits b).toNat : Int) = a + b := by
  have hb : b < 18446744073709551616 := Int.lt_of_lt_of_le h3 (by
    have : (2:Int) ^ k = ((2 ^ k : Nat) : Int) := by simp
    rw [this]
    have h := Nat.pow_le_pow_right (show 0 < 2 by decide) hk
    have : (2:Nat)^64 = 18446744073709551616 := by decide
    omega)
  have hor : (a.toNat ||| b.toNat) < 2 ^ 64 := Nat.or_lt_two_pow (by omega) (by omega)
  rw [BitVec.toNat_or, bv_toNat h0 h1, bv_toNat h2 hb, uw, Int.emod_eq_of_lt (by omega) (by omega)]
  obtain ⟨A, rfl⟩ := Int.eq_ofNat_of_zero_le h0
  obtain ⟨B, rfl⟩ := Int.eq_ofNat_of_zero_le h2
  have hp : (2:Int) ^ k = ((2 ^ k : Nat) : Int) := by simp
  rw [hp] at h3 h4
  have h5 : A % 2 ^ k = 0 := by exact_mod_cast h4
  have h6 : B < 2 ^ k := by exact_mod_cast h3
  have h7 := Nat.div_add_mod A (2 ^ k)
  rw [h5, Nat.add_zero] at h7
  simp only [Int.toNat_natCast]
  rw [← h7, ← Nat.two_pow_add_eq_or_of_lt h6]
  simp
theorem shr32 (a : Int) (h : 0 ≤ a) : a.fdiv (2 ^ (min (Int.toNat 32) IntKind.u64.bits)) = a / 4294967296 := by
  have : ((2:Int) ^ (min (Int.toNat 32) IntKind.u64.bits)) = 4294967296 := by decide
  rw [this, Int.fdiv_eq_ediv_of_nonneg _ (by decide)]
theorem size_pos (n : Int) (h : 0 ≤ n) (h1 : n ≤ 9223372036854775807) : Runs Try.prog 41 [.val (.int .i64 n)] [] (Det (.val (.int .u64 n)) []) := by
  refine Runs.mk tabOK Try.call41 Try.func41 rfl Try.ntmps41 Try.results41 rfl ?_
  (repeat' (first
    | (intro Q h; refine h ?_; clear h Q)
    | (with_reducible refine bcase_true ?_)
    | (with_reducible refine bcase_false ?_)
    | (refine bcase_mk (fun hb => ?_) (fun hb => ?_) <;> (try simp only [decide_eq_true_eq, decide_eq_false_iff_not, beq_iff_eq, beq_eq_false_iff_ne, bne_iff_ne, bne_eq_false_iff_eq, Bool.not_eq_true', Bool.not_eq_false', Bool.and_eq_true, Bool.or_eq_true, ne_eq, Int.not_lt, Int.not_le, eq_self, not_true_eq_false, not_false_eq_true, reduceCtorEq, Bool.and_true, Bool.true_and, beq_self_eq_true, bne_self_eq_false, Bool.false_eq_true, Bool.and_false, Bool.not_true, Bool.not_false] at hb))
    | refine nil_mk (fun hz => ?_) ?_
    | refine draw_mk (by decide +kernel) ?_
    | refine seq_go ?_
    | refine And.intro (by first | omega | ((try simp only [IntKind.wrap_i64, List.length_append, List.length_cons, List.length_nil, List.length_take, List.length_map, Int.toNat_natCast]); omega) | rfl | decide) ?_
    | (apply ret_mk []; (focus (iterate 2 (all_goals (repeat' (first | exact sub_dead | exact subL_nil | exact trivial | (intro Q h; refine h ?_; clear h Q) | refine And.intro ?_ ?_ | refine subL_cons ?_ ?_ | refine sub_agg ?_ | refine sub_tup ?_ | refine sub_fn ?_ | refine sub_bfn ?_ ?_ | refine var_mk ?_ | refine rd_var ?_ rfl | refine rd_rd ?_ | exact sub_ptr rfl rfl | exact sub_sl rfl rfl rfl | exact sub_refl_val _ _ | (refine sub_int ?_; first | with_reducible rfl | omega | ((try simp only [IntKind.wrap_i64, List.length_append, List.length_cons, List.length_nil, List.length_take, List.length_map, Int.toNat_natCast]); omega) | rfl) | exact sub_sb rfl | exact sub_sbl rfl | exact row_same rfl rfl rfl | exact row_ren rfl rfl rfl | (refine sub_sl rfl rfl ?_; first | with_reducible rfl | omega | ((try simp only [IntKind.wrap_i64, List.length_append, List.length_cons, List.length_nil, List.length_take, List.length_map, Int.toNat_natCast]); omega) | rfl) | exact sub_nil rfl | (refine sub_nil ?_; first | with_reducible rfl | omega | ((try simp only [IntKind.wrap_i64, List.length_append, List.length_cons, List.length_nil, List.length_take, List.length_map, Int.toNat_natCast]); omega) | rfl) | (refine virt_mk ?_; first | with_reducible rfl | omega | ((try simp only [IntKind.wrap_i64, List.length_append, List.length_cons, List.length_nil, List.length_take, List.length_map, Int.toNat_natCast]); omega) | rfl) | apply row_app1 | apply row_app2 | apply row_app1r | refine cells_succ ?_ ?_ | exact cell0 | with_reducible rfl | (refine And.left (b := True) ⟨?_, True.intro⟩; assumption) | (show (_ : Nat) = _; first | with_reducible rfl | omega | ((try simp only [IntKind.wrap_i64, List.length_append, List.length_cons, List.length_nil, List.length_take, List.length_map, Int.toNat_natCast]); omega) | rfl) | refine sub_int ?_ | refine sub_sb ?_ | refine sub_sbl ?_ | refine sub_sl rfl rfl ?_ | (apply row_lit rfl; (focus (refine cells_succ ?_ ?_))) | refine row_same rfl ?_ ?_ | refine row_ren rfl ?_ ?_))))); (any_goals (apply okIx_mk; rfl)))
    | omega))
  all_goals (simp only [uw, IntKind.wrap_i64, cond_true, cond_false]; omega)
theorem size_neg (n : Int) (h : 0 < n) (h1 : n ≤ 9223372036854775807) : Runs Try.prog 41 [.val (.int .i64 (-n))] [] (Det (.val (.int .u64 n)) []) := by
  refine Runs.mk tabOK Try.call41 Try.func41 rfl Try.ntmps41 Try.results41 rfl ?_
  (repeat' (first
    | (intro Q h; refine h ?_; clear h Q)
    | (with_reducible refine bcase_true ?_)
    | (with_reducible refine bcase_false ?_)
    | (refine bcase_mk (fun hb => ?_) (fun hb => ?_) <;> (try simp only [decide_eq_true_eq, decide_eq_false_iff_not, beq_iff_eq, beq_eq_false_iff_ne, bne_iff_ne, bne_eq_false_iff_eq, Bool.not_eq_true', Bool.not_eq_false', Bool.and_eq_true, Bool.or_eq_true, ne_eq, Int.not_lt, Int.not_le, eq_self, not_true_eq_false, not_false_eq_true, reduceCtorEq, Bool.and_true, Bool.true_and, beq_self_eq_true, bne_self_eq_false, Bool.false_eq_true, Bool.and_false, Bool.not_true, Bool.not_false] at hb))
    | refine nil_mk (fun hz => ?_) ?_
    | refine draw_mk (by decide +kernel) ?_
    | refine seq_go ?_
    | refine And.intro (by first | omega | ((try simp only [IntKind.wrap_i64, List.length_append, List.length_cons, List.length_nil, List.length_take, List.length_map, Int.toNat_natCast]); omega) | rfl | decide) ?_
    | (apply ret_mk []; (focus (iterate 2 (all_goals (repeat' (first | exact sub_dead | exact subL_nil | exact trivial | (intro Q h; refine h ?_; clear h Q) | refine And.intro ?_ ?_ | refine subL_cons ?_ ?_ | refine sub_agg ?_ | refine sub_tup ?_ | refine sub_fn ?_ | refine sub_bfn ?_ ?_ | refine var_mk ?_ | refine rd_var ?_ rfl | refine rd_rd ?_ | exact sub_ptr rfl rfl | exact sub_sl rfl rfl rfl | exact sub_refl_val _ _ | (refine sub_int ?_; first | with_reducible rfl | omega | ((try simp only [IntKind.wrap_i64, List.length_append, List.length_cons, List.length_nil, List.length_take, List.length_map, Int.toNat_natCast]); omega) | rfl) | exact sub_sb rfl | exact sub_sbl rfl | exact row_same rfl rfl rfl | exact row_ren rfl rfl rfl | (refine sub_sl rfl rfl ?_; first | with_reducible rfl | omega | ((try simp only [IntKind.wrap_i64, List.length_append, List.length_cons, List.length_nil, List.length_take, List.length_map, Int.toNat_natCast]); omega) | rfl) | exact sub_nil rfl | (refine sub_nil ?_; first | with_reducible rfl | omega | ((try simp only [IntKind.wrap_i64, List.length_append, List.length_cons, List.length_nil, List.length_take, List.length_map, Int.toNat_natCast]); omega) | rfl) | (refine virt_mk ?_; first | with_reducible rfl | omega | ((try simp only [IntKind.wrap_i64, List.length_append, List.length_cons, List.length_nil, List.length_take, List.length_map, Int.toNat_natCast]); omega) | rfl) | apply row_app1 | apply row_app2 | apply row_app1r | refine cells_succ ?_ ?_ | exact cell0 | with_reducible rfl | (refine And.left (b := True) ⟨?_, True.intro⟩; assumption) | (show (_ : Nat) = _; first | with_reducible rfl | omega | ((try simp only [IntKind.wrap_i64, List.length_append, List.length_cons, List.length_nil, List.length_take, List.length_map, Int.toNat_natCast]); omega) | rfl) | refine sub_int ?_ | refine sub_sb ?_ | refine sub_sbl ?_ | refine sub_sl rfl rfl ?_ | (apply row_lit rfl; (focus (refine cells_succ ?_ ?_))) | refine row_same rfl ?_ ?_ | refine row_ren rfl ?_ ?_))))); (any_goals (apply okIx_mk; rfl)))
    | omega))
  all_goals (simp only [uw, IntKind.wrap_i64, cond_true, cond_false]; omega)
theorem signed_ok (m : Int) (h : 0 ≤ m) (h1 : m ≤ 9223372036854775807) (neg : Bool) : Runs Try.prog 43 [.val (.int .u64 m), .sb neg] [] (Det (.tup [.val (.int .i64 (bif neg then -m else m)), .sb true]) []) := by
  cases neg
  · refine Runs.mk tabOK Try.call43 Try.func43 rfl Try.ntmps43 Try.results43 rfl ?_
    (repeat' (first
    | (intro Q h; refine h ?_; clear h Q)
    | (with_reducible refine bcase_true ?_)
    | (with_reducible refine bcase_false ?_)
    | (refine bcase_mk (fun hb => ?_) (fun hb => ?_) <;> (try simp only [decide_eq_true_eq, decide_eq_false_iff_not, beq_iff_eq, beq_eq_false_iff_ne, bne_iff_ne, bne_eq_false_iff_eq, Bool.not_eq_true', Bool.not_eq_false', Bool.and_eq_true, Bool.or_eq_true, ne_eq, Int.not_lt, Int.not_le, eq_self, not_true_eq_false, not_false_eq_true, reduceCtorEq, Bool.and_true, Bool.true_and, beq_self_eq_true, bne_self_eq_false, Bool.false_eq_true, Bool.and_false, Bool.not_true, Bool.not_false] at hb))
    | refine nil_mk (fun hz => ?_) ?_
    | refine draw_mk (by decide +kernel) ?_
    | refine seq_go ?_
    | refine And.intro (by first | omega | ((try simp only [IntKind.wrap_i64, List.length_append, List.length_cons, List.length_nil, List.length_take, List.length_map, Int.toNat_natCast]); omega) | rfl | decide) ?_
    | (apply ret_mk []; (focus (iterate 2 (all_goals (repeat' (first | exact sub_dead | exact subL_nil | exact trivial | (intro Q h; refine h ?_; clear h Q) | refine And.intro ?_ ?_ | refine subL_cons ?_ ?_ | refine sub_agg ?_ | refine sub_tup ?_ | refine sub_fn ?_ | refine sub_bfn ?_ ?_ | refine var_mk ?_ | refine rd_var ?_ rfl | refine rd_rd ?_ | exact sub_ptr rfl rfl | exact sub_sl rfl rfl rfl | exact sub_refl_val _ _ | (refine sub_int ?_; first | with_reducible rfl | omega | ((try simp only [IntKind.wrap_i64, List.length_append, List.length_cons, List.length_nil, List.length_take, List.length_map, Int.toNat_natCast]); omega) | rfl) | exact sub_sb rfl | exact sub_sbl rfl | exact row_same rfl rfl rfl | exact row_ren rfl rfl rfl | (refine sub_sl rfl rfl ?_; first | with_reducible rfl | omega | ((try simp only [IntKind.wrap_i64, List.length_append, List.length_cons, List.length_nil, List.length_take, List.length_map, Int.toNat_natCast]); omega) | rfl) | exact sub_nil rfl | (refine sub_nil ?_; first | with_reducible rfl | omega | ((try simp only [IntKind.wrap_i64, List.length_append, List.length_cons, List.length_nil, List.length_take, List.length_map, Int.toNat_natCast]); omega) | rfl) | (refine virt_mk ?_; first | with_reducible rfl | omega | ((try simp only [IntKind.wrap_i64, List.length_append, List.length_cons, List.length_nil, List.length_take, List.length_map, Int.toNat_natCast]); omega) | rfl) | apply row_app1 | apply row_app2 | apply row_app1r | refine cells_succ ?_ ?_ | exact cell0 | with_reducible rfl | (refine And.left (b := True) ⟨?_, True.intro⟩; assumption) | (show (_ : Nat) = _; first | with_reducible rfl | omega | ((try simp only [IntKind.wrap_i64, List.length_append, List.length_cons, List.length_nil, List.length_take, List.length_map, Int.toNat_natCast]); omega) | rfl) | refine sub_int ?_ | refine sub_sb ?_ | refine sub_sbl ?_ | refine sub_sl rfl rfl ?_ | (apply row_lit rfl; (focus (refine cells_succ ?_ ?_))) | refine row_same rfl ?_ ?_ | refine row_ren rfl ?_ ?_))))); (any_goals (apply okIx_mk; rfl)))
    | omega))
    all_goals (simp only [uw, IntKind.wrap_i64, cond_true, cond_false]; omega)
  · refine Runs.mk tabOK Try.call43 Try.func43 rfl Try.ntmps43 Try.results43 rfl ?_
    (repeat' (first
    | (intro Q h; refine h ?_; clear h Q)
    | (with_reducible refine bcase_true ?_)
    | (with_reducible refine bcase_false ?_)
    | (refine bcase_mk (fun hb => ?_) (fun hb => ?_) <;> (try simp only [decide_eq_true_eq, decide_eq_false_iff_not, beq_iff_eq, beq_eq_false_iff_ne, bne_iff_ne, bne_eq_false_iff_eq, Bool.not_eq_true', Bool.not_eq_false', Bool.and_eq_true, Bool.or_eq_true, ne_eq, Int.not_lt, Int.not_le, eq_self, not_true_eq_false, not_false_eq_true, reduceCtorEq, Bool.and_true, Bool.true_and, beq_self_eq_true, bne_self_eq_false, Bool.false_eq_true, Bool.and_false, Bool.not_true, Bool.not_false] at hb))
    | refine nil_mk (fun hz => ?_) ?_
    | refine draw_mk (by decide +kernel) ?_
    | refine seq_go ?_
    | refine And.intro (by first | omega | ((try simp only [IntKind.wrap_i64, List.length_append, List.length_cons, List.length_nil, List.length_take, List.length_map, Int.toNat_natCast]); omega) | rfl | decide) ?_
    | (apply ret_mk []; (focus (iterate 2 (all_goals (repeat' (first | exact sub_dead | exact subL_nil | exact trivial | (intro Q h; refine h ?_; clear h Q) | refine And.intro ?_ ?_ | refine subL_cons ?_ ?_ | refine sub_agg ?_ | refine sub_tup ?_ | refine sub_fn ?_ | refine sub_bfn ?_ ?_ | refine var_mk ?_ | refine rd_var ?_ rfl | refine rd_rd ?_ | exact sub_ptr rfl rfl | exact sub_sl rfl rfl rfl | exact sub_refl_val _ _ | (refine sub_int ?_; first | with_reducible rfl | omega | ((try simp only [IntKind.wrap_i64, List.length_append, List.length_cons, List.length_nil, List.length_take, List.length_map, Int.toNat_natCast]); omega) | rfl) | exact sub_sb rfl | exact sub_sbl rfl | exact row_same rfl rfl rfl | exact row_ren rfl rfl rfl | (refine sub_sl rfl rfl ?_; first | with_reducible rfl | omega | ((try simp only [IntKind.wrap_i64, List.length_append, List.length_cons, List.length_nil, List.length_take, List.length_map, Int.toNat_natCast]); omega) | rfl) | exact sub_nil rfl | (refine sub_nil ?_; first | with_reducible rfl | omega | ((try simp only [IntKind.wrap_i64, List.length_append, List.length_cons, List.length_nil, List.length_take, List.length_map, Int.toNat_natCast]); omega) | rfl) | (refine virt_mk ?_; first | with_reducible rfl | omega | ((try simp only [IntKind.wrap_i64, List.length_append, List.length_cons, List.length_nil, List.length_take, List.length_map, Int.toNat_natCast]); omega) | rfl) | apply row_app1 | apply row_app2 | apply row_app1r | refine cells_succ ?_ ?_ | exact cell0 | with_reducible rfl | (refine And.left (b := True) ⟨?_, True.intro⟩; assumption) | (show (_ : Nat) = _; first | with_reducible rfl | omega | ((try simp only [IntKind.wrap_i64, List.length_append, List.length_cons, List.length_nil, List.length_take, List.length_map, Int.toNat_natCast]); omega) | rfl) | refine sub_int ?_ | refine sub_sb ?_ | refine sub_sbl ?_ | refine sub_sl rfl rfl ?_ | (apply row_lit rfl; (focus (refine cells_succ ?_ ?_))) | refine row_same rfl ?_ ?_ | refine row_ren rfl ?_ ?_))))); (any_goals (apply okIx_mk; rfl)))
    | omega))
    all_goals (simp only [uw, IntKind.wrap_i64, cond_true, cond_false]; omega)
theorem uw_id {a : Int} (h0 : 0 ≤ a) (h1 : a < 18446744073709551616) : IntKind.u64.wrap a = a := by rw [uw]; omega
theorem tdiv_nn {a : Int} (b : Int) (h0 : 0 ≤ a) : a.tdiv b = a / b := Int.tdiv_eq_ediv_of_nonneg h0
theorem tmod_nn {a : Int} (b : Int) (h0 : 0 ≤ a) : a.tmod b = a % b := Int.tmod_eq_emod_of_nonneg h0
theorem parts (x y : Int) (h0 : 0 ≤ x) (h1 : x ≤ 1125899906842624) (h2 : 0 ≤ y) (h3 : y ≤ 4294967295) :
    ∃ p q : Int, x % 4294967296 * y = p ∧ x / 4294967296 * y = q ∧ x * y = q * 4294967296 + p ∧ (0 ≤ p ∧ p ≤ 18446744069414584320) ∧ (0 ≤ q ∧ q ≤ 1125899906580480) := by
  refine ⟨_, _, rfl, rfl, ?_, ⟨?_, ?_⟩, ⟨?_, ?_⟩⟩
  · have h := Int.mul_ediv_add_emod x 4294967296
    calc x * y = (4294967296 * (x / 4294967296) + x % 4294967296) * y := by rw [h]
      _ = _ := by rw [Int.add_mul, Int.mul_assoc, Int.mul_comm]
  · exact Int.mul_nonneg (by omega) h2
  · have : x % 4294967296 * y ≤ 4294967296 * 4294967295 := Int.mul_le_mul (by omega) h3 h2 (by decide)
    omega
  · exact Int.mul_nonneg (by omega) h2
  · have : x / 4294967296 * y ≤ 262144 * 4294967295 := Int.mul_le_mul (by omega) h3 h2 (by decide)
    omega
theorem mul64_ok (x y : Int) (h0 : 0 ≤ x) (h1 : x ≤ 1125899906842624) (h2 : 0 ≤ y) (h3 : y ≤ 4294967295) :
    Runs Try.prog 40 [.val (.int .u64 x), .val (.int .u64 y)] [] (Det (.tup [.val (.int .u64 (x * y / 18446744073709551616)), .val (.int .u64 (x * y % 18446744073709551616))]) []) := by
  obtain ⟨p, q, hp, hq, hxy, bp, bq⟩ := parts x y h0 h1 h2 h3
  have e1 : y / 4294967296 = 0 := by omega
  have e2 : y % 4294967296 = y := by omega
  refine Runs.mk tabOK Try.call40 Try.func40 rfl Try.ntmps40 Try.results40 rfl ?_
  (repeat' (first
    | (intro Q h; refine h ?_; clear h Q)
    | (with_reducible refine bcase_true ?_)
    | (with_reducible refine bcase_false ?_)
    | (refine bcase_mk (fun hb => ?_) (fun hb => ?_) <;> (try simp only [decide_eq_true_eq, decide_eq_false_iff_not, beq_iff_eq, beq_eq_false_iff_ne, bne_iff_ne, bne_eq_false_iff_eq, Bool.not_eq_true', Bool.not_eq_false', Bool.and_eq_true, Bool.or_eq_true, ne_eq, Int.not_lt, Int.not_le, eq_self, not_true_eq_false, not_false_eq_true, reduceCtorEq, Bool.and_true, Bool.true_and, beq_self_eq_true, bne_self_eq_false, Bool.false_eq_true, Bool.and_false, Bool.not_true, Bool.not_false] at hb))
    | refine nil_mk (fun hz => ?_) ?_
    | refine draw_mk (by decide +kernel) ?_
    | refine seq_go ?_
    | refine And.intro (by first | omega | ((try simp only [IntKind.wrap_i64, List.length_append, List.length_cons, List.length_nil, List.length_take, List.length_map, Int.toNat_natCast]); omega) | rfl | decide) ?_
    | (apply ret_mk []; (focus (iterate 2 (all_goals (repeat' (first | exact sub_dead | exact subL_nil | exact trivial | (intro Q h; refine h ?_; clear h Q) | refine And.intro ?_ ?_ | refine subL_cons ?_ ?_ | refine sub_agg ?_ | refine sub_tup ?_ | refine sub_fn ?_ | refine sub_bfn ?_ ?_ | refine var_mk ?_ | refine rd_var ?_ rfl | refine rd_rd ?_ | exact sub_ptr rfl rfl | exact sub_sl rfl rfl rfl | exact sub_refl_val _ _ | (refine sub_int ?_; first | with_reducible rfl | omega | ((try simp only [IntKind.wrap_i64, List.length_append, List.length_cons, List.length_nil, List.length_take, List.length_map, Int.toNat_natCast]); omega) | rfl) | exact sub_sb rfl | exact sub_sbl rfl | exact row_same rfl rfl rfl | exact row_ren rfl rfl rfl | (refine sub_sl rfl rfl ?_; first | with_reducible rfl | omega | ((try simp only [IntKind.wrap_i64, List.length_append, List.length_cons, List.length_nil, List.length_take, List.length_map, Int.toNat_natCast]); omega) | rfl) | exact sub_nil rfl | (refine sub_nil ?_; first | with_reducible rfl | omega | ((try simp only [IntKind.wrap_i64, List.length_append, List.length_cons, List.length_nil, List.length_take, List.length_map, Int.toNat_natCast]); omega) | rfl) | (refine virt_mk ?_; first | with_reducible rfl | omega | ((try simp only [IntKind.wrap_i64, List.length_append, List.length_cons, List.length_nil, List.length_take, List.length_map, Int.toNat_natCast]); omega) | rfl) | apply row_app1 | apply row_app2 | apply row_app1r | refine cells_succ ?_ ?_ | exact cell0 | with_reducible rfl | (refine And.left (b := True) ⟨?_, True.intro⟩; assumption) | (show (_ : Nat) = _; first | with_reducible rfl | omega | ((try simp only [IntKind.wrap_i64, List.length_append, List.length_cons, List.length_nil, List.length_take, List.length_map, Int.toNat_natCast]); omega) | rfl) | refine sub_int ?_ | refine sub_sb ?_ | refine sub_sbl ?_ | refine sub_sl rfl rfl ?_ | (apply row_lit rfl; (focus (refine cells_succ ?_ ?_))) | refine row_same rfl ?_ ?_ | refine row_ren rfl ?_ ?_))))); (any_goals (apply okIx_mk; rfl)))
    | omega))
  all_goals
    rw [hxy]
    (try (simp (disch := omega) only [and_mask, shr32, e1, e2, hp, hq, Int.mul_zero, Int.add_zero, uw_id]))
  all_goals (first | omega | (rw [uw]; done) | (rw [hxy, uw]; done))
theorem div64_lo (x y : Int) (h0 : 0 ≤ x) (h1 : x ≤ 18446744073709551615) (h2 : 0 < y) (h3 : y ≤ 9223372036854775807) :
    Runs Try.prog 42 [.val (.int .u64 0), .val (.int .u64 x), .val (.int .u64 y)] [] (Det (.tup [.val (.int .u64 (x / y)), .val (.int .u64 (x % y))]) []) := by
  have k0 : 0 ≤ x / y := Int.ediv_nonneg h0 (by omega)
  have k1 : x / y ≤ x := Int.ediv_le_self _ h0
  refine Runs.mk tabOK Try.call42 Try.func42 rfl Try.ntmps42 Try.results42 rfl ?_
  (repeat' (first
    | (intro Q h; refine h ?_; clear h Q)
    | (with_reducible refine bcase_true ?_)
    | (with_reducible refine bcase_false ?_)
    | (refine bcase_mk (fun hb => ?_) (fun hb => ?_) <;> (try simp only [decide_eq_true_eq, decide_eq_false_iff_not, beq_iff_eq, beq_eq_false_iff_ne, bne_iff_ne, bne_eq_false_iff_eq, Bool.not_eq_true', Bool.not_eq_false', Bool.and_eq_true, Bool.or_eq_true, ne_eq, Int.not_lt, Int.not_le, eq_self, not_true_eq_false, not_false_eq_true, reduceCtorEq, Bool.and_true, Bool.true_and, beq_self_eq_true, bne_self_eq_false, Bool.false_eq_true, Bool.and_false, Bool.not_true, Bool.not_false] at hb))
    | refine nil_mk (fun hz => ?_) ?_
    | refine draw_mk (by decide +kernel) ?_
    | refine seq_go ?_
    | refine And.intro (by first | omega | ((try simp only [IntKind.wrap_i64, List.length_append, List.length_cons, List.length_nil, List.length_take, List.length_map, Int.toNat_natCast]); omega) | rfl | decide) ?_
    | (apply ret_mk []; (focus (iterate 2 (all_goals (repeat' (first | exact sub_dead | exact subL_nil | exact trivial | (intro Q h; refine h ?_; clear h Q) | refine And.intro ?_ ?_ | refine subL_cons ?_ ?_ | refine sub_agg ?_ | refine sub_tup ?_ | refine sub_fn ?_ | refine sub_bfn ?_ ?_ | refine var_mk ?_ | refine rd_var ?_ rfl | refine rd_rd ?_ | exact sub_ptr rfl rfl | exact sub_sl rfl rfl rfl | exact sub_refl_val _ _ | (refine sub_int ?_; first | with_reducible rfl | omega | ((try simp only [IntKind.wrap_i64, List.length_append, List.length_cons, List.length_nil, List.length_take, List.length_map, Int.toNat_natCast]); omega) | rfl) | exact sub_sb rfl | exact sub_sbl rfl | exact row_same rfl rfl rfl | exact row_ren rfl rfl rfl | (refine sub_sl rfl rfl ?_; first | with_reducible rfl | omega | ((try simp only [IntKind.wrap_i64, List.length_append, List.length_cons, List.length_nil, List.length_take, List.length_map, Int.toNat_natCast]); omega) | rfl) | exact sub_nil rfl | (refine sub_nil ?_; first | with_reducible rfl | omega | ((try simp only [IntKind.wrap_i64, List.length_append, List.length_cons, List.length_nil, List.length_take, List.length_map, Int.toNat_natCast]); omega) | rfl) | (refine virt_mk ?_; first | with_reducible rfl | omega | ((try simp only [IntKind.wrap_i64, List.length_append, List.length_cons, List.length_nil, List.length_take, List.length_map, Int.toNat_natCast]); omega) | rfl) | apply row_app1 | apply row_app2 | apply row_app1r | refine cells_succ ?_ ?_ | exact cell0 | with_reducible rfl | (refine And.left (b := True) ⟨?_, True.intro⟩; assumption) | (show (_ : Nat) = _; first | with_reducible rfl | omega | ((try simp only [IntKind.wrap_i64, List.length_append, List.length_cons, List.length_nil, List.length_take, List.length_map, Int.toNat_natCast]); omega) | rfl) | refine sub_int ?_ | refine sub_sb ?_ | refine sub_sbl ?_ | refine sub_sl rfl rfl ?_ | (apply row_lit rfl; (focus (refine cells_succ ?_ ?_))) | refine row_same rfl ?_ ?_ | refine row_ren rfl ?_ ?_))))); (any_goals (apply okIx_mk; rfl)))
    | omega))
  · rw [tdiv_nn _ h0, uw_id k0 (by omega)]
  · rw [tmod_nn _ h0]
theorem relL_vals {ι : Lay} : ∀ (xs cs : List Value), relL ι (xs.map .val) cs → cs = xs
  | [], cs, h => by simpa [relL] using h
  | a :: r, cs, h => by
    simp only [List.map_cons, relL, rel] at h
    obtain ⟨c, r', rfl, rfl, h2⟩ := h
    rw [relL_vals r r' h2]
theorem runs_pure {P : Program} {g : FuncId} {xs : List Value} {v : Value} (hcall : ∀ ys w, (callFunc g ys).run P w = .ok (.enter g ys) w)
    (h : ∀ w, Calls P g xs.toArray w fun e w' => e = .returned v ∧ w' = w) : Runs P g (xs.map .val) [] (Det (.val v) []) := by
  refine ⟨hcall, fun w ι cs hW hdom hrel => ?_⟩
  obtain rfl := relL_vals xs cs hrel
  refine (h w).mono ?_
  rintro e w' ⟨rfl, rfl⟩
  refine ⟨_, _, _, ι, rfl, ⟨rfl, rfl⟩, by simp, rfl, fun _ _ => rfl, fun b hb => hdom b (by simp), fun b hb => ?_, hW⟩
  simp [blL, Blk.live] at hb
theorem len_c (w : World) : Calls Try.prog 45 #[.int .u64 1000000000] w fun e w' => e = .returned (.int .i64 30) ∧ w' = w := by
  go_enter Try.func45, Try.ntmps45
  go_wp2
  go_ret
  refine ⟨congrArg Ending.returned (congrArg (Value.int IntKind.i64) ?_), rfl⟩
  decide +kernel
theorem len_ok : Runs Try.prog 45 [.val (.int .u64 1000000000)] [] (Det (.val (.int .i64 30)) []) := runs_pure (xs := [.int .u64 1000000000]) Try.call45 len_c
theorem lz_ok : Runs Try.prog 44 [.val (.int .u64 1000000000)] [] (Det (.val (.int .i64 34)) []) := by
  refine Runs.mk tabOK Try.call44 Try.func44 rfl Try.ntmps44 Try.results44 rfl ?_
  (repeat' (first
    | (intro Q h; refine h ?_; clear h Q)
    | (with_reducible refine bcase_true ?_)
    | (with_reducible refine bcase_false ?_)
    | (refine bcase_mk (fun hb => ?_) (fun hb => ?_) <;> (try simp only [decide_eq_true_eq, decide_eq_false_iff_not, beq_iff_eq, beq_eq_false_iff_ne, bne_iff_ne, bne_eq_false_iff_eq, Bool.not_eq_true', Bool.not_eq_false', Bool.and_eq_true, Bool.or_eq_true, ne_eq, Int.not_lt, Int.not_le, eq_self, not_true_eq_false, not_false_eq_true, reduceCtorEq, Bool.and_true, Bool.true_and, beq_self_eq_true, bne_self_eq_false, Bool.false_eq_true, Bool.and_false, Bool.not_true, Bool.not_false] at hb))
    | refine nil_mk (fun hz => ?_) ?_
    | refine draw_mk (by decide +kernel) ?_
    | refine seq_go ?_
    | refine And.intro (by first | omega | ((try simp only [IntKind.wrap_i64, List.length_append, List.length_cons, List.length_nil, List.length_take, List.length_map, Int.toNat_natCast]); omega) | rfl | decide) ?_
    | ((first | apply call0 (len_ok) | apply calld0 (len_ok)); (focus ((iterate 2 (all_goals (repeat' (first | exact sub_dead | exact subL_nil | exact trivial | (intro Q h; refine h ?_; clear h Q) | refine And.intro ?_ ?_ | refine subL_cons ?_ ?_ | refine sub_agg ?_ | refine sub_tup ?_ | refine sub_fn ?_ | refine sub_bfn ?_ ?_ | refine var_mk ?_ | refine rd_var ?_ rfl | refine rd_rd ?_ | exact sub_ptr rfl rfl | exact sub_sl rfl rfl rfl | exact sub_refl_val _ _ | (refine sub_int ?_; first | with_reducible rfl | omega | ((try simp only [IntKind.wrap_i64, List.length_append, List.length_cons, List.length_nil, List.length_take, List.length_map, Int.toNat_natCast]); omega) | rfl) | exact sub_sb rfl | exact sub_sbl rfl | exact row_same rfl rfl rfl | exact row_ren rfl rfl rfl | (refine sub_sl rfl rfl ?_; first | with_reducible rfl | omega | ((try simp only [IntKind.wrap_i64, List.length_append, List.length_cons, List.length_nil, List.length_take, List.length_map, Int.toNat_natCast]); omega) | rfl) | exact sub_nil rfl | (refine sub_nil ?_; first | with_reducible rfl | omega | ((try simp only [IntKind.wrap_i64, List.length_append, List.length_cons, List.length_nil, List.length_take, List.length_map, Int.toNat_natCast]); omega) | rfl) | (refine virt_mk ?_; first | with_reducible rfl | omega | ((try simp only [IntKind.wrap_i64, List.length_append, List.length_cons, List.length_nil, List.length_take, List.length_map, Int.toNat_natCast]); omega) | rfl) | apply row_app1 | apply row_app2 | apply row_app1r | refine cells_succ ?_ ?_ | exact cell0 | with_reducible rfl | (refine And.left (b := True) ⟨?_, True.intro⟩; assumption) | (show (_ : Nat) = _; first | with_reducible rfl | omega | ((try simp only [IntKind.wrap_i64, List.length_append, List.length_cons, List.length_nil, List.length_take, List.length_map, Int.toNat_natCast]); omega) | rfl) | refine sub_int ?_ | refine sub_sb ?_ | refine sub_sbl ?_ | refine sub_sl rfl rfl ?_ | (apply row_lit rfl; (focus (refine cells_succ ?_ ?_))) | refine row_same rfl ?_ ?_ | refine row_ren rfl ?_ ?_)))); done)))
    | (apply ret_mk []; (focus (iterate 2 (all_goals (repeat' (first | exact sub_dead | exact subL_nil | exact trivial | (intro Q h; refine h ?_; clear h Q) | refine And.intro ?_ ?_ | refine subL_cons ?_ ?_ | refine sub_agg ?_ | refine sub_tup ?_ | refine sub_fn ?_ | refine sub_bfn ?_ ?_ | refine var_mk ?_ | refine rd_var ?_ rfl | refine rd_rd ?_ | exact sub_ptr rfl rfl | exact sub_sl rfl rfl rfl | exact sub_refl_val _ _ | (refine sub_int ?_; first | with_reducible rfl | omega | ((try simp only [IntKind.wrap_i64, List.length_append, List.length_cons, List.length_nil, List.length_take, List.length_map, Int.toNat_natCast]); omega) | rfl) | exact sub_sb rfl | exact sub_sbl rfl | exact row_same rfl rfl rfl | exact row_ren rfl rfl rfl | (refine sub_sl rfl rfl ?_; first | with_reducible rfl | omega | ((try simp only [IntKind.wrap_i64, List.length_append, List.length_cons, List.length_nil, List.length_take, List.length_map, Int.toNat_natCast]); omega) | rfl) | exact sub_nil rfl | (refine sub_nil ?_; first | with_reducible rfl | omega | ((try simp only [IntKind.wrap_i64, List.length_append, List.length_cons, List.length_nil, List.length_take, List.length_map, Int.toNat_natCast]); omega) | rfl) | (refine virt_mk ?_; first | with_reducible rfl | omega | ((try simp only [IntKind.wrap_i64, List.length_append, List.length_cons, List.length_nil, List.length_take, List.length_map, Int.toNat_natCast]); omega) | rfl) | apply row_app1 | apply row_app2 | apply row_app1r | refine cells_succ ?_ ?_ | exact cell0 | with_reducible rfl | (refine And.left (b := True) ⟨?_, True.intro⟩; assumption) | (show (_ : Nat) = _; first | with_reducible rfl | omega | ((try simp only [IntKind.wrap_i64, List.length_append, List.length_cons, List.length_nil, List.length_take, List.length_map, Int.toNat_natCast]); omega) | rfl) | refine sub_int ?_ | refine sub_sb ?_ | refine sub_sbl ?_ | refine sub_sl rfl rfl ?_ | (apply row_lit rfl; (focus (refine cells_succ ?_ ?_))) | refine row_same rfl ?_ ?_ | refine row_ren rfl ?_ ?_))))); (any_goals (apply okIx_mk; rfl)))
    | omega))
set_option maxHeartbeats 1000000 in
theorem div64_hi (h lo : Int) (h0 : 0 < h) (h1 : h ≤ 100) (h2 : 0 ≤ lo) (h3 : lo < 18446744073709551616) :
    Runs Try.prog 42 [.val (.int .u64 h), .val (.int .u64 lo), .val (.int .u64 1000000000)] [] (Det (.tup [.val (.int .u64 ((h * 18446744073709551616 + lo) / 1000000000)), .val (.int .u64 ((h * 18446744073709551616 + lo) % 1000000000))]) []) := by
  have f1 : IntKind.u64.wrap 34 = 34 := by rw [uw]; rfl
  have f2 : IntKind.u64.wrap (1000000000 * 2 ^ (min (Int.toNat 34) IntKind.u64.bits)) = 17179869184000000000 := by rw [uw]; decide +kernel
  have f3 : Int.fdiv 17179869184000000000 (2 ^ (min (Int.toNat 32) IntKind.u64.bits)) = 4000000000 := by decide +kernel
  have f4 : IntKind.u64.wrap ((BitVec.ofInt IntKind.u64.bits 17179869184000000000 &&& BitVec.ofInt IntKind.u64.bits 4294967295).toNat : Int) = 0 := by decide +kernel
  have f5 : (2:Int) ^ (min (Int.toNat 34) IntKind.u64.bits) = 17179869184 := by decide +kernel
  have f6 : (2:Int) ^ (min (Int.toNat (IntKind.u64.wrap (64 - 34))) IntKind.u64.bits) = 1073741824 := by decide +kernel
  have f7 : (2:Int) ^ (min (Int.toNat 32) IntKind.u64.bits) = 4294967296 := by decide +kernel
  have f2' : IntKind.u64.wrap (1000000000 * 17179869184) = 17179869184000000000 := by rw [uw]; decide +kernel
  have f3' : Int.fdiv 17179869184000000000 4294967296 = 4000000000 := by decide +kernel
  have f8 : lo.fdiv 1073741824 = lo / 1073741824 := Int.fdiv_eq_ediv_of_nonneg _ (by decide)
  have g0 : h * 17179869184 % 18446744073709551616 = h * 17179869184 := by omega
  have g1 : IntKind.u64.wrap ((BitVec.ofInt IntKind.u64.bits (h * 17179869184) ||| BitVec.ofInt IntKind.u64.bits (lo / 1073741824)).toNat : Int) = h * 17179869184 + lo / 1073741824 := 
    or_add 34 (by decide) (by omega) (by omega) (by omega) (by omega) (by omega)
  have g2 : IntKind.u64.wrap (h * 17179869184) = h * 17179869184 := by rw [uw, g0]
  have g3 : (IntKind.u64.wrap (lo * 17179869184)).fdiv 4294967296 = lo % 1073741824 * 4 := by rw [Int.fdiv_eq_ediv_of_nonneg _ (by decide), uw]; omega
  have g4 : IntKind.u64.wrap ((BitVec.ofInt IntKind.u64.bits (IntKind.u64.wrap (lo * 17179869184)) &&& BitVec.ofInt IntKind.u64.bits 4294967295).toNat : Int) = 0 := by
    rw [and_mask (by rw [uw]; omega) (by rw [uw]; omega), uw]; omega
  obtain ⟨A, hA⟩ : ∃ A, A = h * 17179869184 + lo / 1073741824 := ⟨_, rfl⟩
  obtain ⟨B, hB⟩ : ∃ B, B = lo % 1073741824 * 4 := ⟨_, rfl⟩
  have bA : 0 ≤ A ∧ A ≤ 1735166787584 := by omega
  have bB : 0 ≤ B ∧ B < 4294967296 := by omega
  have q1 : IntKind.u64.wrap (A.tdiv 4000000000) = A / 4000000000 := by rw [tdiv_nn _ bA.1, uw_id (by omega) (by omega)]
  have q2 : IntKind.u64.wrap (A - IntKind.u64.wrap (A / 4000000000 * 4000000000)) = A % 4000000000 := by rw [uw, uw]; omega
  refine Runs.mk tabOK Try.call42 Try.func42 rfl Try.ntmps42 Try.results42 rfl ?_
  (repeat' (first
    | (intro Q h; refine h ?_; clear h Q)
    | (with_reducible refine bcase_true ?_)
    | (with_reducible refine bcase_false ?_)
    | (refine bcase_mk (fun hb => ?_) (fun hb => ?_) <;> (try simp only [decide_eq_true_eq, decide_eq_false_iff_not, beq_iff_eq, beq_eq_false_iff_ne, bne_iff_ne, bne_eq_false_iff_eq, Bool.not_eq_true', Bool.not_eq_false', Bool.and_eq_true, Bool.or_eq_true, ne_eq, Int.not_lt, Int.not_le, eq_self, not_true_eq_false, not_false_eq_true, reduceCtorEq, Bool.and_true, Bool.true_and, beq_self_eq_true, bne_self_eq_false, Bool.false_eq_true, Bool.and_false, Bool.not_true, Bool.not_false] at hb))
    | refine nil_mk (fun hz => ?_) ?_
    | refine draw_mk (by decide +kernel) ?_
    | refine seq_go ?_
    | refine And.intro (by first | omega | ((try simp only [IntKind.wrap_i64, List.length_append, List.length_cons, List.length_nil, List.length_take, List.length_map, Int.toNat_natCast]); omega) | rfl | decide) ?_
    | ((first | apply call0 (lz_ok) | apply calld0 (lz_ok)); (focus ((iterate 2 (all_goals (repeat' (first | exact sub_dead | exact subL_nil | exact trivial | (intro Q h; refine h ?_; clear h Q) | refine And.intro ?_ ?_ | refine subL_cons ?_ ?_ | refine sub_agg ?_ | refine sub_tup ?_ | refine sub_fn ?_ | refine sub_bfn ?_ ?_ | refine var_mk ?_ | refine rd_var ?_ rfl | refine rd_rd ?_ | exact sub_ptr rfl rfl | exact sub_sl rfl rfl rfl | exact sub_refl_val _ _ | (refine sub_int ?_; first | with_reducible rfl | omega | ((try simp only [IntKind.wrap_i64, List.length_append, List.length_cons, List.length_nil, List.length_take, List.length_map, Int.toNat_natCast]); omega) | rfl) | exact sub_sb rfl | exact sub_sbl rfl | exact row_same rfl rfl rfl | exact row_ren rfl rfl rfl | (refine sub_sl rfl rfl ?_; first | with_reducible rfl | omega | ((try simp only [IntKind.wrap_i64, List.length_append, List.length_cons, List.length_nil, List.length_take, List.length_map, Int.toNat_natCast]); omega) | rfl) | exact sub_nil rfl | (refine sub_nil ?_; first | with_reducible rfl | omega | ((try simp only [IntKind.wrap_i64, List.length_append, List.length_cons, List.length_nil, List.length_take, List.length_map, Int.toNat_natCast]); omega) | rfl) | (refine virt_mk ?_; first | with_reducible rfl | omega | ((try simp only [IntKind.wrap_i64, List.length_append, List.length_cons, List.length_nil, List.length_take, List.length_map, Int.toNat_natCast]); omega) | rfl) | apply row_app1 | apply row_app2 | apply row_app1r | refine cells_succ ?_ ?_ | exact cell0 | with_reducible rfl | (refine And.left (b := True) ⟨?_, True.intro⟩; assumption) | (show (_ : Nat) = _; first | with_reducible rfl | omega | ((try simp only [IntKind.wrap_i64, List.length_append, List.length_cons, List.length_nil, List.length_take, List.length_map, Int.toNat_natCast]); omega) | rfl) | refine sub_int ?_ | refine sub_sb ?_ | refine sub_sbl ?_ | refine sub_sl rfl rfl ?_ | (apply row_lit rfl; (focus (refine cells_succ ?_ ?_))) | refine row_same rfl ?_ ?_ | refine row_ren rfl ?_ ?_)))); done)))
    | (apply ret_mk []; (focus (iterate 2 (all_goals (repeat' (first | exact sub_dead | exact subL_nil | exact trivial | (intro Q h; refine h ?_; clear h Q) | refine And.intro ?_ ?_ | refine subL_cons ?_ ?_ | refine sub_agg ?_ | refine sub_tup ?_ | refine sub_fn ?_ | refine sub_bfn ?_ ?_ | refine var_mk ?_ | refine rd_var ?_ rfl | refine rd_rd ?_ | exact sub_ptr rfl rfl | exact sub_sl rfl rfl rfl | exact sub_refl_val _ _ | (refine sub_int ?_; first | with_reducible rfl | omega | ((try simp only [IntKind.wrap_i64, List.length_append, List.length_cons, List.length_nil, List.length_take, List.length_map, Int.toNat_natCast]); omega) | rfl) | exact sub_sb rfl | exact sub_sbl rfl | exact row_same rfl rfl rfl | exact row_ren rfl rfl rfl | (refine sub_sl rfl rfl ?_; first | with_reducible rfl | omega | ((try simp only [IntKind.wrap_i64, List.length_append, List.length_cons, List.length_nil, List.length_take, List.length_map, Int.toNat_natCast]); omega) | rfl) | exact sub_nil rfl | (refine sub_nil ?_; first | with_reducible rfl | omega | ((try simp only [IntKind.wrap_i64, List.length_append, List.length_cons, List.length_nil, List.length_take, List.length_map, Int.toNat_natCast]); omega) | rfl) | (refine virt_mk ?_; first | with_reducible rfl | omega | ((try simp only [IntKind.wrap_i64, List.length_append, List.length_cons, List.length_nil, List.length_take, List.length_map, Int.toNat_natCast]); omega) | rfl) | apply row_app1 | apply row_app2 | apply row_app1r | refine cells_succ ?_ ?_ | exact cell0 | with_reducible rfl | (refine And.left (b := True) ⟨?_, True.intro⟩; assumption) | (show (_ : Nat) = _; first | with_reducible rfl | omega | ((try simp only [IntKind.wrap_i64, List.length_append, List.length_cons, List.length_nil, List.length_take, List.length_map, Int.toNat_natCast]); omega) | rfl) | refine sub_int ?_ | refine sub_sb ?_ | refine sub_sbl ?_ | refine sub_sl rfl rfl ?_ | (apply row_lit rfl; (focus (refine cells_succ ?_ ?_))) | refine row_same rfl ?_ ?_ | refine row_ren rfl ?_ ?_))))); (any_goals (apply okIx_mk; rfl)))
    | omega))
  refine loop_inv (σ := Unit) (fun x => True) (fun x => ⟨[(2, .val (.int .u64 17179869184000000000)), (8, .val (.int .u64 34)), (9, .val (.int .u64 4000000000)), (10, .val (.int .u64 0)), (11, .val (.int .u64 A)), (13, .val (.int .u64 B)), (14, .val (.int .u64 0)), (15, .val (.int .u64 (A / 4000000000))), (16, .val (.int .u64 (A % 4000000000)))], []⟩) (fun x => 0) (()) ?_ ?_ ?_
  · trivial
  · (apply le_mk []; (focus (iterate 2 (all_goals (repeat' (first | exact sub_dead | exact subL_nil | exact trivial | (intro Q h; refine h ?_; clear h Q) | refine And.intro ?_ ?_ | refine subL_cons ?_ ?_ | refine sub_agg ?_ | refine sub_tup ?_ | refine sub_fn ?_ | refine sub_bfn ?_ ?_ | refine var_mk ?_ | refine rd_var ?_ rfl | refine rd_rd ?_ | exact sub_ptr rfl rfl | exact sub_sl rfl rfl rfl | exact sub_refl_val _ _ | (refine sub_int ?_; first | with_reducible rfl | omega | ((try simp only [IntKind.wrap_i64, List.length_append, List.length_cons, List.length_nil, List.length_take, List.length_map, Int.toNat_natCast]); omega) | rfl) | exact sub_sb rfl | exact sub_sbl rfl | exact row_same rfl rfl rfl | exact row_ren rfl rfl rfl | (refine sub_sl rfl rfl ?_; first | with_reducible rfl | omega | ((try simp only [IntKind.wrap_i64, List.length_append, List.length_cons, List.length_nil, List.length_take, List.length_map, Int.toNat_natCast]); omega) | rfl) | exact sub_nil rfl | (refine sub_nil ?_; first | with_reducible rfl | omega | ((try simp only [IntKind.wrap_i64, List.length_append, List.length_cons, List.length_nil, List.length_take, List.length_map, Int.toNat_natCast]); omega) | rfl) | (refine virt_mk ?_; first | with_reducible rfl | omega | ((try simp only [IntKind.wrap_i64, List.length_append, List.length_cons, List.length_nil, List.length_take, List.length_map, Int.toNat_natCast]); omega) | rfl) | apply row_app1 | apply row_app2 | apply row_app1r | refine cells_succ ?_ ?_ | exact cell0 | with_reducible rfl | (refine And.left (b := True) ⟨?_, True.intro⟩; assumption) | (show (_ : Nat) = _; first | with_reducible rfl | omega | ((try simp only [IntKind.wrap_i64, List.length_append, List.length_cons, List.length_nil, List.length_take, List.length_map, Int.toNat_natCast]); omega) | rfl) | refine sub_int ?_ | refine sub_sb ?_ | refine sub_sbl ?_ | refine sub_sl rfl rfl ?_ | (apply row_lit rfl; (focus (refine cells_succ ?_ ?_))) | refine row_same rfl ?_ ?_ | refine row_ren rfl ?_ ?_))))); (any_goals (apply okIx_mk; rfl)))
    all_goals (simp only [f1, f2, f2', f3', f3, f4, f5, f6, f7, f8, g2, g1, g3, g4, ← hA, ← hB, q1, q2])
  rintro _ -
  (repeat' (first
    | (intro Q h; refine h ?_; clear h Q)
    | (with_reducible refine bcase_true ?_)
    | (with_reducible refine bcase_false ?_)
    | (refine bcase_mk (fun hb => ?_) (fun hb => ?_) <;> (try simp only [decide_eq_true_eq, decide_eq_false_iff_not, beq_iff_eq, beq_eq_false_iff_ne, bne_iff_ne, bne_eq_false_iff_eq, Bool.not_eq_true', Bool.not_eq_false', Bool.and_eq_true, Bool.or_eq_true, ne_eq, Int.not_lt, Int.not_le, eq_self, not_true_eq_false, not_false_eq_true, reduceCtorEq, Bool.and_true, Bool.true_and, beq_self_eq_true, bne_self_eq_false, Bool.false_eq_true, Bool.and_false, Bool.not_true, Bool.not_false] at hb))
    | refine nil_mk (fun hz => ?_) ?_
    | refine draw_mk (by decide +kernel) ?_
    | refine seq_go ?_
    | refine And.intro (by first | omega | ((try simp only [IntKind.wrap_i64, List.length_append, List.length_cons, List.length_nil, List.length_take, List.length_map, Int.toNat_natCast]); omega) | rfl | decide) ?_
    | (apply ret_mk []; (focus (iterate 2 (all_goals (repeat' (first | exact sub_dead | exact subL_nil | exact trivial | (intro Q h; refine h ?_; clear h Q) | refine And.intro ?_ ?_ | refine subL_cons ?_ ?_ | refine sub_agg ?_ | refine sub_tup ?_ | refine sub_fn ?_ | refine sub_bfn ?_ ?_ | refine var_mk ?_ | refine rd_var ?_ rfl | refine rd_rd ?_ | exact sub_ptr rfl rfl | exact sub_sl rfl rfl rfl | exact sub_refl_val _ _ | (refine sub_int ?_; first | with_reducible rfl | omega | ((try simp only [IntKind.wrap_i64, List.length_append, List.length_cons, List.length_nil, List.length_take, List.length_map, Int.toNat_natCast]); omega) | rfl) | exact sub_sb rfl | exact sub_sbl rfl | exact row_same rfl rfl rfl | exact row_ren rfl rfl rfl | (refine sub_sl rfl rfl ?_; first | with_reducible rfl | omega | ((try simp only [IntKind.wrap_i64, List.length_append, List.length_cons, List.length_nil, List.length_take, List.length_map, Int.toNat_natCast]); omega) | rfl) | exact sub_nil rfl | (refine sub_nil ?_; first | with_reducible rfl | omega | ((try simp only [IntKind.wrap_i64, List.length_append, List.length_cons, List.length_nil, List.length_take, List.length_map, Int.toNat_natCast]); omega) | rfl) | (refine virt_mk ?_; first | with_reducible rfl | omega | ((try simp only [IntKind.wrap_i64, List.length_append, List.length_cons, List.length_nil, List.length_take, List.length_map, Int.toNat_natCast]); omega) | rfl) | apply row_app1 | apply row_app2 | apply row_app1r | refine cells_succ ?_ ?_ | exact cell0 | with_reducible rfl | (refine And.left (b := True) ⟨?_, True.intro⟩; assumption) | (show (_ : Nat) = _; first | with_reducible rfl | omega | ((try simp only [IntKind.wrap_i64, List.length_append, List.length_cons, List.length_nil, List.length_take, List.length_map, Int.toNat_natCast]); omega) | rfl) | refine sub_int ?_ | refine sub_sb ?_ | refine sub_sbl ?_ | refine sub_sl rfl rfl ?_ | (apply row_lit rfl; (focus (refine cells_succ ?_ ?_))) | refine row_same rfl ?_ ?_ | refine row_ren rfl ?_ ?_))))); (any_goals (apply okIx_mk; rfl)))
    | omega))
  · exfalso
    have := ‹IntKind.u64.wrap (A / 4000000000 * 0) > _›
    simp only [Int.mul_zero, uw] at this
    omega
  · exfalso
    have := ‹IntKind.u64.wrap (A / 4000000000 * 0) > _›
    simp only [Int.mul_zero, uw] at this
    omega
  obtain ⟨C, hC⟩ : ∃ C, C = A % 4000000000 * 4294967296 + B := ⟨_, rfl⟩
  have bC : 0 ≤ C ∧ C < 17179869184000000000 := by omega
  have c1 : IntKind.u64.wrap (IntKind.u64.wrap (IntKind.u64.wrap (A * 4294967296) + B) - IntKind.u64.wrap (A / 4000000000 * 17179869184000000000)) = C := by
    simp only [uw]; omega
  have c2 : IntKind.u64.wrap (C.tdiv 4000000000) = C / 4000000000 := by rw [tdiv_nn _ bC.1, uw_id (by omega) (by omega)]
  have c3 : IntKind.u64.wrap (C - IntKind.u64.wrap (C / 4000000000 * 4000000000)) = C % 4000000000 := by rw [uw, uw]; omega
  refine loop_inv (σ := Unit) (fun x => True) (fun x => ⟨[(2, .val (.int .u64 17179869184000000000)), (8, .val (.int .u64 34)), (9, .val (.int .u64 4000000000)), (10, .val (.int .u64 0)), (14, .val (.int .u64 0)), (15, .val (.int .u64 (A / 4000000000))), (16, .val (.int .u64 (C % 4000000000))), (17, .val (.int .u64 C)), (18, .val (.int .u64 (C / 4000000000)))], []⟩) (fun x => 0) (()) ?_ ?_ ?_
  · trivial
  · (apply le_mk []; (focus (iterate 2 (all_goals (repeat' (first | exact sub_dead | exact subL_nil | exact trivial | (intro Q h; refine h ?_; clear h Q) | refine And.intro ?_ ?_ | refine subL_cons ?_ ?_ | refine sub_agg ?_ | refine sub_tup ?_ | refine sub_fn ?_ | refine sub_bfn ?_ ?_ | refine var_mk ?_ | refine rd_var ?_ rfl | refine rd_rd ?_ | exact sub_ptr rfl rfl | exact sub_sl rfl rfl rfl | exact sub_refl_val _ _ | (refine sub_int ?_; first | with_reducible rfl | omega | ((try simp only [IntKind.wrap_i64, List.length_append, List.length_cons, List.length_nil, List.length_take, List.length_map, Int.toNat_natCast]); omega) | rfl) | exact sub_sb rfl | exact sub_sbl rfl | exact row_same rfl rfl rfl | exact row_ren rfl rfl rfl | (refine sub_sl rfl rfl ?_; first | with_reducible rfl | omega | ((try simp only [IntKind.wrap_i64, List.length_append, List.length_cons, List.length_nil, List.length_take, List.length_map, Int.toNat_natCast]); omega) | rfl) | exact sub_nil rfl | (refine sub_nil ?_; first | with_reducible rfl | omega | ((try simp only [IntKind.wrap_i64, List.length_append, List.length_cons, List.length_nil, List.length_take, List.length_map, Int.toNat_natCast]); omega) | rfl) | (refine virt_mk ?_; first | with_reducible rfl | omega | ((try simp only [IntKind.wrap_i64, List.length_append, List.length_cons, List.length_nil, List.length_take, List.length_map, Int.toNat_natCast]); omega) | rfl) | apply row_app1 | apply row_app2 | apply row_app1r | refine cells_succ ?_ ?_ | exact cell0 | with_reducible rfl | (refine And.left (b := True) ⟨?_, True.intro⟩; assumption) | (show (_ : Nat) = _; first | with_reducible rfl | omega | ((try simp only [IntKind.wrap_i64, List.length_append, List.length_cons, List.length_nil, List.length_take, List.length_map, Int.toNat_natCast]); omega) | rfl) | refine sub_int ?_ | refine sub_sb ?_ | refine sub_sbl ?_ | refine sub_sl rfl rfl ?_ | (apply row_lit rfl; (focus (refine cells_succ ?_ ?_))) | refine row_same rfl ?_ ?_ | refine row_ren rfl ?_ ?_))))); (any_goals (apply okIx_mk; rfl)))
    all_goals (simp only [c1, c2, c3])
  rintro _ -
  (repeat' (first
    | (intro Q h; refine h ?_; clear h Q)
    | (with_reducible refine bcase_true ?_)
    | (with_reducible refine bcase_false ?_)
    | (refine bcase_mk (fun hb => ?_) (fun hb => ?_) <;> (try simp only [decide_eq_true_eq, decide_eq_false_iff_not, beq_iff_eq, beq_eq_false_iff_ne, bne_iff_ne, bne_eq_false_iff_eq, Bool.not_eq_true', Bool.not_eq_false', Bool.and_eq_true, Bool.or_eq_true, ne_eq, Int.not_lt, Int.not_le, eq_self, not_true_eq_false, not_false_eq_true, reduceCtorEq, Bool.and_true, Bool.true_and, beq_self_eq_true, bne_self_eq_false, Bool.false_eq_true, Bool.and_false, Bool.not_true, Bool.not_false] at hb))
    | refine nil_mk (fun hz => ?_) ?_
    | refine draw_mk (by decide +kernel) ?_
    | refine seq_go ?_
    | refine And.intro (by first | omega | ((try simp only [IntKind.wrap_i64, List.length_append, List.length_cons, List.length_nil, List.length_take, List.length_map, Int.toNat_natCast]); omega) | rfl | decide) ?_
    | (apply ret_mk []; (focus (iterate 2 (all_goals (repeat' (first | exact sub_dead | exact subL_nil | exact trivial | (intro Q h; refine h ?_; clear h Q) | refine And.intro ?_ ?_ | refine subL_cons ?_ ?_ | refine sub_agg ?_ | refine sub_tup ?_ | refine sub_fn ?_ | refine sub_bfn ?_ ?_ | refine var_mk ?_ | refine rd_var ?_ rfl | refine rd_rd ?_ | exact sub_ptr rfl rfl | exact sub_sl rfl rfl rfl | exact sub_refl_val _ _ | (refine sub_int ?_; first | with_reducible rfl | omega | ((try simp only [IntKind.wrap_i64, List.length_append, List.length_cons, List.length_nil, List.length_take, List.length_map, Int.toNat_natCast]); omega) | rfl) | exact sub_sb rfl | exact sub_sbl rfl | exact row_same rfl rfl rfl | exact row_ren rfl rfl rfl | (refine sub_sl rfl rfl ?_; first | with_reducible rfl | omega | ((try simp only [IntKind.wrap_i64, List.length_append, List.length_cons, List.length_nil, List.length_take, List.length_map, Int.toNat_natCast]); omega) | rfl) | exact sub_nil rfl | (refine sub_nil ?_; first | with_reducible rfl | omega | ((try simp only [IntKind.wrap_i64, List.length_append, List.length_cons, List.length_nil, List.length_take, List.length_map, Int.toNat_natCast]); omega) | rfl) | (refine virt_mk ?_; first | with_reducible rfl | omega | ((try simp only [IntKind.wrap_i64, List.length_append, List.length_cons, List.length_nil, List.length_take, List.length_map, Int.toNat_natCast]); omega) | rfl) | apply row_app1 | apply row_app2 | apply row_app1r | refine cells_succ ?_ ?_ | exact cell0 | with_reducible rfl | (refine And.left (b := True) ⟨?_, True.intro⟩; assumption) | (show (_ : Nat) = _; first | with_reducible rfl | omega | ((try simp only [IntKind.wrap_i64, List.length_append, List.length_cons, List.length_nil, List.length_take, List.length_map, Int.toNat_natCast]); omega) | rfl) | refine sub_int ?_ | refine sub_sb ?_ | refine sub_sbl ?_ | refine sub_sl rfl rfl ?_ | (apply row_lit rfl; (focus (refine cells_succ ?_ ?_))) | refine row_same rfl ?_ ?_ | refine row_ren rfl ?_ ?_))))); (any_goals (apply okIx_mk; rfl)))
    | omega))
  all_goals first
    | (exfalso; have := ‹IntKind.u64.wrap (C / 4000000000 * 0) > _›; simp only [Int.mul_zero, uw] at this; omega)
    | skip
  · simp only [uw]; omega
  · rw [f5, Int.fdiv_eq_ediv_of_nonneg _ (by decide)]
    simp only [uw]
    omega
end Go.Vx.L21

/- Lemmas of a small executor for the model, and contracts of functions, used for the law that this claim proves. No condition. -/
import Derived.Test.YtblcjjlggfpehaaBT53
import Derived.Test.YtblcjjlggfpehaaBW3
set_option linter.unusedSimpArgs false
set_option linter.unusedVariables false
set_option maxRecDepth 100000
namespace Go.Vx.L53
open Go Go.Proofs
theorem uw (n : Int) : IntKind.u64.wrap n = n % 18446744073709551616 := by rw [IntKind.wrap_u64]
theorem bv_toNat {a : Int} (h0 : 0 ≤ a) (h1 : a < 18446744073709551616) : (BitVec.ofInt IntKind.u64.bits a).toNat = a.toNat := by
  rw [BitVec.toNat_ofInt]
  show (a % ((2:Int)^64)).toNat = a.toNat
  congr 1
  exact Int.emod_eq_of_lt h0 h1
theorem and_mask {a : Int} (h0 : 0 ≤ a) (h1 : a < 18446744073709551616) : IntKind.u64.wrap ((BitVec.ofInt IntKind.u64.bits a &&& BitVec.ofInt IntKind.u64.bits 4294967295).toNat : Int) = a % 4294967296 := by
  rw [BitVec.toNat_and, bv_toNat h0 h1, bv_toNat (by decide) (by decide)]
  have : (4294967295 : Int).toNat = 2 ^ 32 - 1 := by decide
  rw [this, Nat.and_two_pow_sub_one_eq_mod, uw]
  omega
theorem or_add {a b : Int} (k : Nat) (hk : k ≤ 64) (h0 : 0 ≤ a) (h1 : a < 18446744073709551616) (h2 : 0 ≤ b) (h3 : b < 2 ^ k) (h4 : a % 2 ^ k = 0) :
    IntKind.u64.wrap ((BitVec.ofInt IntKind.u64.bits a ||| BitVec.ofInt IntKind.u64.bits b).toNat : Int) = a + b := by
  have hb : b < 18446744073709551616 := Int.lt_of_lt_of_le h3 (by
    have : (2:Int) ^ k = ((2 ^ k : Nat) : Int) := by simp
    rw [this]
    have h := Nat.pow_le_pow_right (show 0 < 2 by decide) hk
    have : (2:Nat)^64 = 18446744073709551616 := by decide
    omega)
  have hor : (a.toNat ||| b.toNat) < 2 ^ 64 := Nat.or_lt_two_pow (by omega) (by omega)
  rw [BitVec.toNat_or, bv_toNat h0 h1, bv_toNat h2 hb, uw, Int.emod_eq_of_lt (by omega) (by omega)]
  obtain ⟨A, rfl⟩ := Int.eq_ofNat_of_zero_le h0
  obtain ⟨B, rfl⟩ := Int.eq_ofNat_of_zero_le h2
  have hp : (2:Int) ^ k = ((2 ^ k : Nat) : Int) := by simp
  rw [hp] at h3 h4
  have h5 : A % 2 ^ k = 0 := by exact_mod_cast h4
  have h6 : B < 2 ^ k := by exact_mod_cast h3
  have h7 := Nat.div_add_mod A (2 ^ k)
  rw [h5, Nat.add_zero] at h7
  simp only [Int.toNat_natCast]
  rw [← h7, ← Nat.two_pow_add_eq_or_of_lt h6]
  simp
theorem shr32 (a : Int) (h : 0 ≤ a) : a.fdiv (2 ^ (min (Int.toNat 32) IntKind.u64.bits)) = a / 4294967296 := by
  have : ((2:Int) ^ (min (Int.toNat 32) IntKind.u64.bits)) = 4294967296 := by decide
  rw [this, Int.fdiv_eq_ediv_of_nonneg _ (by decide)]
theorem size_pos (n : Int) (h : 0 ≤ n) (h1 : n ≤ 9223372036854775807) : Runs Try.prog 86 [.val (.int .i64 n)] [] (Det (.val (.int .u64 n)) []) := by
  refine Runs.mk tabOK Try.call86 Try.func86 rfl Try.ntmps86 Try.results86 rfl ?_
  (repeat' (first
    | (intro Q h; refine h ?_; clear h Q)
    | (refine bcase_mk (fun hb => ?_) (fun hb => ?_) <;> (try simp only [nS, nT, eq_self, reduceCtorEq] at hb))
    | refine seq_go ?_
    | (apply ret_mk []; (focus (iterate 2 (all_goals (repeat' (first | exact trivial | refine And.intro ?_ ?_ | ((first | refine sub_int ?_ ); first | with_reducible rfl | omega | ((try simp only [wS]); omega) | rfl) | refine sub_int ?_ ))))); (any_goals (apply okIx_mk; rfl)))
    ))
  all_goals (simp only [uw, IntKind.wrap_i64, cond_true, cond_false]; omega)
theorem size_neg (n : Int) (h : 0 < n) (h1 : n ≤ 9223372036854775807) : Runs Try.prog 86 [.val (.int .i64 (-n))] [] (Det (.val (.int .u64 n)) []) := by
  refine Runs.mk tabOK Try.call86 Try.func86 rfl Try.ntmps86 Try.results86 rfl ?_
  (repeat' (first
    | (intro Q h; refine h ?_; clear h Q)
    | (refine bcase_mk (fun hb => ?_) (fun hb => ?_) <;> (try simp only [nS, nT, eq_self, reduceCtorEq] at hb))
    | refine seq_go ?_
    | (apply ret_mk []; (focus (iterate 2 (all_goals (repeat' (first | exact trivial | refine And.intro ?_ ?_ | ((first | refine sub_int ?_ ); first | with_reducible rfl | omega | ((try simp only [wS]); omega) | rfl) | refine sub_int ?_ ))))); (any_goals (apply okIx_mk; rfl)))
    ))
  all_goals (simp only [uw, IntKind.wrap_i64, cond_true, cond_false]; omega)
theorem rsize_pos (n : Int) (h : 0 ≤ n) (h1 : n ≤ 9223372036854775807) : Runs Try.prog 69 [.val (.int .i64 n)] [] (Det (.val (.int .u64 n)) []) := by
  refine Runs.mk tabOK Try.call69 Try.func69 rfl Try.ntmps69 Try.results69 rfl ?_
  (repeat' (first
    | (intro Q h; refine h ?_; clear h Q)
    | (refine bcase_mk (fun hb => ?_) (fun hb => ?_) <;> (try simp only [nS, nT, eq_self, reduceCtorEq] at hb))
    | refine seq_go ?_
    | (apply ret_mk []; (focus (iterate 2 (all_goals (repeat' (first | exact trivial | refine And.intro ?_ ?_ | ((first | refine sub_int ?_ ); first | with_reducible rfl | omega | ((try simp only [wS]); omega) | rfl) | refine sub_int ?_ ))))); (any_goals (apply okIx_mk; rfl)))
    ))
  all_goals (simp only [uw, IntKind.wrap_i64, cond_true, cond_false]; omega)
theorem rsize_neg (n : Int) (h : 0 < n) (h1 : n ≤ 9223372036854775807) : Runs Try.prog 69 [.val (.int .i64 (-n))] [] (Det (.val (.int .u64 n)) []) := by
  refine Runs.mk tabOK Try.call69 Try.func69 rfl Try.ntmps69 Try.results69 rfl ?_
  (repeat' (first
    | (intro Q h; refine h ?_; clear h Q)
    | (refine bcase_mk (fun hb => ?_) (fun hb => ?_) <;> (try simp only [nS, nT, eq_self, reduceCtorEq] at hb))
    | refine seq_go ?_
    | (apply ret_mk []; (focus (iterate 2 (all_goals (repeat' (first | exact trivial | refine And.intro ?_ ?_ | ((first | refine sub_int ?_ ); first | with_reducible rfl | omega | ((try simp only [wS]); omega) | rfl) | refine sub_int ?_ ))))); (any_goals (apply okIx_mk; rfl)))
    ))
  all_goals (simp only [uw, IntKind.wrap_i64, cond_true, cond_false]; omega)
theorem signed_ok (m : Int) (h : 0 ≤ m) (h1 : m ≤ 9223372036854775807) (neg : Bool) : Runs Try.prog 88 [.val (.int .u64 m), .sb neg] [] (Det (.tup [.val (.int .i64 (bif neg then -m else m)), .sb true]) []) := by
  cases neg
  · refine Runs.mk tabOK Try.call88 Try.func88 rfl Try.ntmps88 Try.results88 rfl ?_
    (repeat' (first
    | (intro Q h; refine h ?_; clear h Q)
    | (with_reducible refine bcase_false ?_)
    | (refine bcase_mk (fun hb => ?_) (fun hb => ?_) <;> (try simp only [nS, nT, eq_self, reduceCtorEq] at hb))
    | refine seq_go ?_
    | (apply ret_mk []; (focus (iterate 2 (all_goals (repeat' (first | exact subL_nil | exact trivial | refine And.intro ?_ ?_ | refine subL_cons ?_ ?_ | refine sub_tup ?_ | exact sub_sbl rfl | ((first | refine sub_int ?_ ); first | with_reducible rfl | omega | ((try simp only [wS]); omega) | rfl) | refine sub_int ?_ | refine sub_sbl ?_ ))))); (any_goals (apply okIx_mk; rfl)))
    | omega))
    all_goals (simp only [uw, IntKind.wrap_i64, cond_true, cond_false]; omega)
  · refine Runs.mk tabOK Try.call88 Try.func88 rfl Try.ntmps88 Try.results88 rfl ?_
    (repeat' (first
    | (intro Q h; refine h ?_; clear h Q)
    | (with_reducible refine bcase_true ?_)
    | (refine bcase_mk (fun hb => ?_) (fun hb => ?_) <;> (try simp only [nS, nT, eq_self, reduceCtorEq] at hb))
    | refine seq_go ?_
    | (apply ret_mk []; (focus (iterate 2 (all_goals (repeat' (first | exact subL_nil | exact trivial | refine And.intro ?_ ?_ | refine subL_cons ?_ ?_ | refine sub_tup ?_ | exact sub_sbl rfl | ((first | refine sub_int ?_ ); first | with_reducible rfl | omega | ((try simp only [wS]); omega) | rfl) | refine sub_int ?_ | refine sub_sbl ?_ ))))); (any_goals (apply okIx_mk; rfl)))
    | omega))
    all_goals (simp only [uw, IntKind.wrap_i64, cond_true, cond_false]; omega)
theorem rsigned_ok (m : Int) (h : 0 ≤ m) (h1 : m ≤ 9223372036854775807) (neg : Bool) : Runs Try.prog 71 [.sb neg, .val (.int .u64 0), .val (.int .u64 m)] [] (Det (.tup [.val (.int .i64 (bif neg then -m else m)), .sb true]) []) := by
  cases neg
  · refine Runs.mk tabOK Try.call71 Try.func71 rfl Try.ntmps71 Try.results71 rfl ?_
    (repeat' (first
    | (intro Q h; refine h ?_; clear h Q)
    | (refine bcase_mk (fun hb => ?_) (fun hb => ?_) <;> (try simp only [nS, nT, eq_self, reduceCtorEq] at hb))
    | refine seq_go ?_
    | (apply ret_mk []; (focus (iterate 2 (all_goals (repeat' (first | exact subL_nil | exact trivial | refine And.intro ?_ ?_ | refine subL_cons ?_ ?_ | refine sub_tup ?_ | exact sub_sbl rfl | ((first | refine sub_int ?_ ); first | with_reducible rfl | omega | ((try simp only [wS]); omega) | rfl) | refine sub_int ?_ | refine sub_sbl ?_ ))))); (any_goals (apply okIx_mk; rfl)))
    | omega))
    all_goals (simp only [uw, IntKind.wrap_i64, cond_true, cond_false]; omega)
  · refine Runs.mk tabOK Try.call71 Try.func71 rfl Try.ntmps71 Try.results71 rfl ?_
    (repeat' (first
    | (intro Q h; refine h ?_; clear h Q)
    | (refine bcase_mk (fun hb => ?_) (fun hb => ?_) <;> (try simp only [nS, nT, eq_self, reduceCtorEq] at hb))
    | refine seq_go ?_
    | (apply ret_mk []; (focus (iterate 2 (all_goals (repeat' (first | exact subL_nil | exact trivial | refine And.intro ?_ ?_ | refine subL_cons ?_ ?_ | refine sub_tup ?_ | exact sub_sbl rfl | ((first | refine sub_int ?_ ); first | with_reducible rfl | omega | ((try simp only [wS]); omega) | rfl) | refine sub_int ?_ | refine sub_sbl ?_ ))))); (any_goals (apply okIx_mk; rfl)))
    | omega))
    all_goals (simp only [uw, IntKind.wrap_i64, cond_true, cond_false]; omega)
end Go.Vx.L53

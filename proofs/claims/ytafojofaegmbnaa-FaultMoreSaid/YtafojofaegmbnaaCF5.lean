/- Lemmas of a small executor for the model, and contracts of functions, used for the law that this claim proves. No condition. -/
import Derived.Test.YtafojofaegmbnaaCF4
set_option linter.unusedSimpArgs false
set_option linter.unusedVariables false
set_option maxRecDepth 100000
namespace Go.Vx.L55
open Go Go.Proofs
theorem uw (n : Int) : IntKind.u64.wrap n = n % 18446744073709551616 := by rw [IntKind.wrap_u64]
theorem bv_toNat {a : Int} (h0 : 0 ≤ a) (h1 : a < 18446744073709551616) : (BitVec.ofInt IntKind.u64.bits a).toNat = a.toNat := by
  rw [BitVec.toNat_ofInt]
  show (a % ((2:Int)^64)).toNat = a.toNat
  congr 1
  exact Int.emod_eq_of_lt h0 h1
theorem and_mask {a : Int} (h0 : 0 ≤ a) (h1 : a < 18446744073709551616) : IntKind.u64.wrap ((BitVec.ofInt IntKind.u64.bits a &&& BitVec.ofInt IntKind.u64.bits 4294967295).toNat : Int) = a % 4294967296 := by
  rw [BitVec.toNat_and, bv_toNat h0 h1, bv_toNat (by decide) (by decide)]
  have : (4294967295 : Int).toNat = 2 ^ 32 - 1 := by decide
  rw [this, Nat.and_two_pow_sub_one_eq_mod, uw]
  omega
theorem or_add {a b : Int} (k : Nat) (hk : k ≤ 64) (h0 : 0 ≤ a) (h1 : a < 18446744073709551616) (h2 : 0 ≤ b) (h3 : b < 2 ^ k) (h4 : a % 2 ^ k = 0) :
    IntKind.u64.wrap ((BitVec.ofInt IntKind.u64.bits a ||| BitVec.ofInt IntKind.u64.bits b).toNat : Int) = a + b := by
  have hb : b < 18446744073709551616 := Int.lt_of_lt_of_le h3 (by
    have : (2:Int) ^ k = ((2 ^ k : Nat) : Int) := by simp
    rw [this]
    have h := Nat.pow_le_pow_right (show 0 < 2 by decide) hk
    have : (2:Nat)^64 = 18446744073709551616 := by decide
    omega)
  have hor : (a.toNat ||| b.toNat) < 2 ^ 64 := Nat.or_lt_two_pow (by omega) (by omega)
  rw [BitVec.toNat_or, bv_toNat h0 h1, bv_toNat h2 hb, uw, Int.emod_eq_of_lt (by omega) (by omega)]
  obtain ⟨A, rfl⟩ := Int.eq_ofNat_of_zero_le h0
  obtain ⟨B, rfl⟩ := Int.eq_ofNat_of_zero_le h2
  have hp : (2:Int) ^ k = ((2 ^ k : Nat) : Int) := by simp
  rw [hp] at h3 h4
  have h5 : A % 2 ^ k = 0 := by exact_mod_cast h4
  have h6 : B < 2 ^ k := by exact_mod_cast h3
  have h7 := Nat.div_add_mod A (2 ^ k)
  rw [h5, Nat.add_zero] at h7
  simp only [Int.toNat_natCast]
  rw [← h7, ← Nat.two_pow_add_eq_or_of_lt h6]
  simp
theorem shr32 (a : Int) (h : 0 ≤ a) : a.fdiv (2 ^ (min (Int.toNat 32) IntKind.u64.bits)) = a / 4294967296 := by
  have : ((2:Int) ^ (min (Int.toNat 32) IntKind.u64.bits)) = 4294967296 := by decide
  rw [this, Int.fdiv_eq_ediv_of_nonneg _ (by decide)]
theorem size_pos (n : Int) (h : 0 ≤ n) (h1 : n ≤ 9223372036854775807) : Runs Try.prog 68 [.val (.int .i64 n)] [] (Det (.val (.int .u64 n)) []) := by
  refine Runs.mk tabOK Try.call68 Try.func68 rfl Try.ntmps68 Try.results68 rfl ?_
  (repeat' (first
    | (intro Q h; refine h ?_; clear h Q)
    | (with_reducible refine bcase_true ?_)
    | (with_reducible refine bcase_false ?_)
    | (refine bcase_mk (fun hb => ?_) (fun hb => ?_) <;> (try simp only [nS, nT, eq_self, reduceCtorEq] at hb))
    | refine draw_mk (by decide +kernel) ?_
    | refine seq_go ?_
    | refine And.intro (by first | omega | ((try simp only [wS]); omega) | rfl | decide) ?_
    | (apply ret_mk []; (focus (iterate 2 (all_goals (repeat' (first | exact sub_dead | exact subL_nil | exact trivial | (intro Q h; refine h ?_; clear h Q) | refine And.intro ?_ ?_ | refine subL_cons ?_ ?_ | refine sub_agg ?_ | refine sub_tup ?_ | exact sub_refl_val _ _ | (refine sub_int ?_; first | with_reducible rfl | omega | ((try simp only [wS]); omega) | rfl) | exact sub_sb rfl | exact sub_sbl rfl | with_reducible rfl | refine sub_int ?_ | refine sub_sb ?_ | refine sub_sbl ?_))))); (any_goals (apply okIx_mk; rfl)))
    | omega))
  all_goals (simp only [uw, IntKind.wrap_i64, cond_true, cond_false]; omega)
theorem size_neg (n : Int) (h : 0 < n) (h1 : n ≤ 9223372036854775807) : Runs Try.prog 68 [.val (.int .i64 (-n))] [] (Det (.val (.int .u64 n)) []) := by
  refine Runs.mk tabOK Try.call68 Try.func68 rfl Try.ntmps68 Try.results68 rfl ?_
  (repeat' (first
    | (intro Q h; refine h ?_; clear h Q)
    | (with_reducible refine bcase_true ?_)
    | (with_reducible refine bcase_false ?_)
    | (refine bcase_mk (fun hb => ?_) (fun hb => ?_) <;> (try simp only [nS, nT, eq_self, reduceCtorEq] at hb))
    | refine draw_mk (by decide +kernel) ?_
    | refine seq_go ?_
    | refine And.intro (by first | omega | ((try simp only [wS]); omega) | rfl | decide) ?_
    | (apply ret_mk []; (focus (iterate 2 (all_goals (repeat' (first | exact sub_dead | exact subL_nil | exact trivial | (intro Q h; refine h ?_; clear h Q) | refine And.intro ?_ ?_ | refine subL_cons ?_ ?_ | refine sub_agg ?_ | refine sub_tup ?_ | exact sub_refl_val _ _ | (refine sub_int ?_; first | with_reducible rfl | omega | ((try simp only [wS]); omega) | rfl) | exact sub_sb rfl | exact sub_sbl rfl | with_reducible rfl | refine sub_int ?_ | refine sub_sb ?_ | refine sub_sbl ?_))))); (any_goals (apply okIx_mk; rfl)))
    | omega))
  all_goals (simp only [uw, IntKind.wrap_i64, cond_true, cond_false]; omega)
theorem uw_id {a : Int} (h0 : 0 ≤ a) (h1 : a < 18446744073709551616) : IntKind.u64.wrap a = a := by rw [uw]; omega
theorem tdiv_nn {a : Int} (b : Int) (h0 : 0 ≤ a) : a.tdiv b = a / b := Int.tdiv_eq_ediv_of_nonneg h0
theorem tmod_nn {a : Int} (b : Int) (h0 : 0 ≤ a) : a.tmod b = a % b := Int.tmod_eq_emod_of_nonneg h0
theorem parts (x y : Int) (h0 : 0 ≤ x) (h1 : x ≤ 1125899906842624) (h2 : 0 ≤ y) (h3 : y ≤ 4294967295) :
    ∃ p q : Int, x % 4294967296 * y = p ∧ x / 4294967296 * y = q ∧ x * y = q * 4294967296 + p ∧ (0 ≤ p ∧ p ≤ 18446744069414584320) ∧ (0 ≤ q ∧ q ≤ 1125899906580480) := by
  refine ⟨_, _, rfl, rfl, ?_, ⟨?_, ?_⟩, ⟨?_, ?_⟩⟩
  · have h := Int.mul_ediv_add_emod x 4294967296
    calc x * y = (4294967296 * (x / 4294967296) + x % 4294967296) * y := by rw [h]
      _ = _ := by rw [Int.add_mul, Int.mul_assoc, Int.mul_comm]
  · exact Int.mul_nonneg (by omega) h2
  · have : x % 4294967296 * y ≤ 4294967296 * 4294967295 := Int.mul_le_mul (by omega) h3 h2 (by decide)
    omega
  · exact Int.mul_nonneg (by omega) h2
  · have : x / 4294967296 * y ≤ 262144 * 4294967295 := Int.mul_le_mul (by omega) h3 h2 (by decide)
    omega
theorem mul64_ok (x y : Int) (h0 : 0 ≤ x) (h1 : x ≤ 1125899906842624) (h2 : 0 ≤ y) (h3 : y ≤ 4294967295) :
    Runs Try.prog 67 [.val (.int .u64 x), .val (.int .u64 y)] [] (Det (.tup [.val (.int .u64 (x * y / 18446744073709551616)), .val (.int .u64 (x * y % 18446744073709551616))]) []) := by
  obtain ⟨p, q, hp, hq, hxy, bp, bq⟩ := parts x y h0 h1 h2 h3
  have e1 : y / 4294967296 = 0 := by omega
  have e2 : y % 4294967296 = y := by omega
  refine Runs.mk tabOK Try.call67 Try.func67 rfl Try.ntmps67 Try.results67 rfl ?_
  (repeat' (first
    | (intro Q h; refine h ?_; clear h Q)
    | (with_reducible refine bcase_true ?_)
    | (with_reducible refine bcase_false ?_)
    | (refine bcase_mk (fun hb => ?_) (fun hb => ?_) <;> (try simp only [nS, nT, eq_self, reduceCtorEq] at hb))
    | refine draw_mk (by decide +kernel) ?_
    | refine seq_go ?_
    | refine And.intro (by first | omega | ((try simp only [wS]); omega) | rfl | decide) ?_
    | (apply ret_mk []; (focus (iterate 2 (all_goals (repeat' (first | exact sub_dead | exact subL_nil | exact trivial | (intro Q h; refine h ?_; clear h Q) | refine And.intro ?_ ?_ | refine subL_cons ?_ ?_ | refine sub_agg ?_ | refine sub_tup ?_ | exact sub_refl_val _ _ | (refine sub_int ?_; first | with_reducible rfl | omega | ((try simp only [wS]); omega) | rfl) | exact sub_sb rfl | exact sub_sbl rfl | with_reducible rfl | refine sub_int ?_ | refine sub_sb ?_ | refine sub_sbl ?_))))); (any_goals (apply okIx_mk; rfl)))
    | omega))
  all_goals
    rw [hxy]
    (try (simp (disch := omega) only [and_mask, shr32, e1, e2, hp, hq, Int.mul_zero, Int.add_zero, uw_id]))
  all_goals (first | omega | (rw [uw]; done) | (rw [hxy, uw]; done))
theorem cw (n : Int) : IntKind.i64.wrap n = (n + 9223372036854775808) % 18446744073709551616 - 9223372036854775808 := by rw [IntKind.wrap_i64]
theorem tdivB (t : Int) : t.tdiv 1000000000 = if 0 ≤ t then t / 1000000000 else -((-t) / 1000000000) := by
  split
  · rename_i h; exact Int.tdiv_eq_ediv_of_nonneg h
  · rename_i h
    have := Int.tdiv_eq_ediv_of_nonneg (a := -t) (b := 1000000000) (by omega)
    rw [Int.neg_tdiv] at this; omega
theorem tmodB (t : Int) : t.tmod 1000000000 = if 0 ≤ t then t % 1000000000 else -((-t) % 1000000000) := by
  split
  · rename_i h; exact Int.tmod_eq_emod_of_nonneg h
  · rename_i h
    have := Int.tmod_eq_emod_of_nonneg (a := -t) (b := 1000000000) (by omega)
    rw [Int.neg_tmod] at this; omega
abbrev R64 (n : Int) : Prop := -9223372036854775808 ≤ n ∧ n ≤ 9223372036854775807
theorem divideB_ok (t : Int) (h : R64 t) : Runs Try.prog 90 [.val (.int .i64 t), .val (.int .i64 1000000000)] [] (Det (.tup [.val (.int .i64 (t.tdiv 1000000000)), .val (.int .i64 (t.tmod 1000000000)), .sb true]) []) := by
  have e : IntKind.i64.wrap (t.tdiv 1000000000) = t.tdiv 1000000000 := cwrap (by rw [tdivB]; split <;> omega) (by rw [tdivB]; split <;> omega)
  refine Runs.mk tabOK Try.call90 Try.func90 rfl Try.ntmps90 Try.results90 rfl ?_
  (repeat' (first
    | (intro Q h; refine h ?_; clear h Q)
    | (with_reducible refine bcase_true ?_)
    | (with_reducible refine bcase_false ?_)
    | (refine bcase_mk (fun hb => ?_) (fun hb => ?_) <;> (try simp only [nS, nT, eq_self, reduceCtorEq] at hb))
    | refine draw_mk (by decide +kernel) ?_
    | refine seq_go ?_
    | refine And.intro (by first | omega | ((try simp only [wS]); omega) | rfl | decide) ?_
    | (apply ret_mk []; (focus (iterate 2 (all_goals (repeat' (first | exact sub_dead | exact subL_nil | exact trivial | (intro Q h; refine h ?_; clear h Q) | refine And.intro ?_ ?_ | refine subL_cons ?_ ?_ | refine sub_agg ?_ | refine sub_tup ?_ | exact sub_refl_val _ _ | (refine sub_int ?_; first | with_reducible rfl | omega | ((try simp only [wS]); omega) | rfl) | exact sub_sb rfl | exact sub_sbl rfl | with_reducible rfl | refine sub_int ?_ | refine sub_sb ?_ | refine sub_sbl ?_))))); (any_goals (apply okIx_mk; rfl)))
    | omega))
  all_goals (first | exact e | skip)
theorem floorB_ok (t : Int) (h : R64 t) : Runs Try.prog 66 [.val (.int .i64 t), .val (.int .i64 1000000000)] [] (Det (.tup [.val (.int .i64 (t / 1000000000)), .sb true]) []) := by
  have d := divideB_ok t h
  refine Runs.mk tabOK Try.call66 Try.func66 rfl Try.ntmps66 Try.results66 rfl ?_
  (repeat' (first
    | (intro Q h; refine h ?_; clear h Q)
    | (with_reducible refine bcase_true ?_)
    | (with_reducible refine bcase_false ?_)
    | (refine bcase_mk (fun hb => ?_) (fun hb => ?_) <;> (try simp only [nS, nT, eq_self, reduceCtorEq] at hb))
    | refine draw_mk (by decide +kernel) ?_
    | refine seq_go ?_
    | refine And.intro (by first | omega | ((try simp only [wS]); omega) | rfl | decide) ?_
    | ((first | apply call0 (d) | apply calld0 (d)); (focus ((iterate 2 (all_goals (repeat' (first | exact sub_dead | exact subL_nil | exact trivial | (intro Q h; refine h ?_; clear h Q) | refine And.intro ?_ ?_ | refine subL_cons ?_ ?_ | refine sub_agg ?_ | refine sub_tup ?_ | exact sub_refl_val _ _ | (refine sub_int ?_; first | with_reducible rfl | omega | ((try simp only [wS]); omega) | rfl) | exact sub_sb rfl | exact sub_sbl rfl | with_reducible rfl | refine sub_int ?_ | refine sub_sb ?_ | refine sub_sbl ?_)))); done)))
    | (apply ret_mk []; (focus (iterate 2 (all_goals (repeat' (first | exact sub_dead | exact subL_nil | exact trivial | (intro Q h; refine h ?_; clear h Q) | refine And.intro ?_ ?_ | refine subL_cons ?_ ?_ | refine sub_agg ?_ | refine sub_tup ?_ | exact sub_refl_val _ _ | (refine sub_int ?_; first | with_reducible rfl | omega | ((try simp only [wS]); omega) | rfl) | exact sub_sb rfl | exact sub_sbl rfl | with_reducible rfl | refine sub_int ?_ | refine sub_sb ?_ | refine sub_sbl ?_))))); (any_goals (apply okIx_mk; rfl)))
    | omega))
  all_goals
    simp only [tdivB, tmodB, decide_eq_decide, cw] at *
    by_cases h0 : 0 ≤ t
    · simp only [if_pos h0] at * <;> omega
    · simp only [if_neg h0] at * <;> omega
theorem p32 : ((2:Int) ^ (min (Int.toNat 32) IntKind.u64.bits)) = 4294967296 := by decide
theorem q32 : ((2:Int) ^ (min (Int.toNat 32) IntKind.i64.bits)) = 4294967296 := by decide
theorem fd32 (a : Int) : a.fdiv 4294967296 = a / 4294967296 := Int.fdiv_eq_ediv_of_nonneg _ (by decide)
theorem iand_mask (a : Int) : IntKind.i64.wrap ((BitVec.ofInt IntKind.i64.bits a &&& BitVec.ofInt IntKind.i64.bits 4294967295).toNat : Int) = a % 4294967296 := by
  rw [BitVec.toNat_and, BitVec.toNat_ofInt, BitVec.toNat_ofInt]
  show IntKind.i64.wrap ((((a % ((2:Int)^64)).toNat &&& ((4294967295 : Int) % ((2:Int)^64)).toNat : Nat) : Nat) : Int) = _
  have e1 : ((4294967295 : Int) % ((2:Int)^64)).toNat = 2 ^ 32 - 1 := by decide
  have e2 : ((2:Int)^64) = 18446744073709551616 := by decide
  rw [e1, e2, Nat.and_two_pow_sub_one_eq_mod, cw]
  omega
/-- Nanoseconds of a second, in units of 2^-32 s. -/
def fracF (r : Int) : Int := r * 4294967296 / 1000000000
theorem frac_bd (t : Int) : 0 ≤ fracF (t % 1000000000) ∧ fracF (t % 1000000000) < 4294967296 := by unfold fracF; omega
def ofF (t : Int) : Int := t / 1000000000 % 4294967296 * 4294967296 + fracF (t % 1000000000)
theorem of_bd (t : Int) : 0 ≤ ofF t ∧ ofF t < 18446744073709551616 := by have := frac_bd t; unfold ofF; omega
theorem split_ok (t : Int) (h : R64 t) : Runs Try.prog 42 [.val (.int .i64 t)] [] (Det (.tup [.val (.int .i64 (t / 1000000000)), .val (.int .i64 (fracF (t % 1000000000)))]) []) := by
  have d := floorB_ok t h
  have e1 : IntKind.i64.wrap (t - IntKind.i64.wrap (t / 1000000000 * 1000000000)) = t % 1000000000 := by simp only [cw]; omega
  have e2 : IntKind.i64.wrap (t % 1000000000 * 4294967296) = t % 1000000000 * 4294967296 := by simp only [cw]; omega
  have e3 : IntKind.i64.wrap ((t % 1000000000 * 4294967296).tdiv 1000000000) = fracF (t % 1000000000) := by rw [Int.tdiv_eq_ediv_of_nonneg (by omega)]; unfold fracF; rw [cw]; omega
  refine Runs.mk tabOK Try.call42 Try.func42 rfl Try.ntmps42 Try.results42 rfl ?_
  (repeat' (first
    | (intro Q h; refine h ?_; clear h Q)
    | (with_reducible refine bcase_true ?_)
    | (with_reducible refine bcase_false ?_)
    | (refine bcase_mk (fun hb => ?_) (fun hb => ?_) <;> (try simp only [nS, nT, eq_self, reduceCtorEq] at hb))
    | refine draw_mk (by decide +kernel) ?_
    | refine seq_go ?_
    | refine And.intro (by first | omega | ((try simp only [wS]); omega) | rfl | decide) ?_
    | ((first | apply call0 (d) | apply calld0 (d)); (focus ((iterate 2 (all_goals (repeat' (first | exact sub_dead | exact subL_nil | exact trivial | (intro Q h; refine h ?_; clear h Q) | refine And.intro ?_ ?_ | refine subL_cons ?_ ?_ | refine sub_agg ?_ | refine sub_tup ?_ | exact sub_refl_val _ _ | (refine sub_int ?_; first | with_reducible rfl | omega | ((try simp only [wS]); omega) | rfl) | exact sub_sb rfl | exact sub_sbl rfl | with_reducible rfl | refine sub_int ?_ | refine sub_sb ?_ | refine sub_sbl ?_)))); done)))
    | (apply ret_mk []; (focus (iterate 2 (all_goals (repeat' (first | exact sub_dead | exact subL_nil | exact trivial | (intro Q h; refine h ?_; clear h Q) | refine And.intro ?_ ?_ | refine subL_cons ?_ ?_ | refine sub_agg ?_ | refine sub_tup ?_ | exact sub_refl_val _ _ | (refine sub_int ?_; first | with_reducible rfl | omega | ((try simp only [wS]); omega) | rfl) | exact sub_sb rfl | exact sub_sbl rfl | with_reducible rfl | refine sub_int ?_ | refine sub_sb ?_ | refine sub_sbl ?_))))); (any_goals (apply okIx_mk; rfl)))
    | omega))
  all_goals (rw [e1, q32, e2, e3])
theorem ofs_ok (t : Int) (h : R64 t) : Runs Try.prog 25 [.val (.int .i64 t)] [] (Det (.val (.int .u64 (ofF t))) []) := by
  have d := split_ok t h
  have hb := frac_bd t
  have e1 : IntKind.u64.wrap (IntKind.u64.wrap (t / 1000000000) * 4294967296) = t / 1000000000 % 4294967296 * 4294967296 := by simp only [uw]; omega
  have e2 : IntKind.u64.wrap (fracF (t % 1000000000)) = fracF (t % 1000000000) := by rw [uw]; omega
  have e3 := or_add (a := t / 1000000000 % 4294967296 * 4294967296) (b := fracF (t % 1000000000)) 32 (by decide) (by omega) (by omega) hb.1 hb.2 (by omega)
  refine Runs.mk tabOK Try.call25 Try.func25 rfl Try.ntmps25 Try.results25 rfl ?_
  (repeat' (first
    | (intro Q h; refine h ?_; clear h Q)
    | (with_reducible refine bcase_true ?_)
    | (with_reducible refine bcase_false ?_)
    | (refine bcase_mk (fun hb => ?_) (fun hb => ?_) <;> (try simp only [nS, nT, eq_self, reduceCtorEq] at hb))
    | refine draw_mk (by decide +kernel) ?_
    | refine seq_go ?_
    | refine And.intro (by first | omega | ((try simp only [wS]); omega) | rfl | decide) ?_
    | ((first | apply call0 (d) | apply calld0 (d)); (focus ((iterate 2 (all_goals (repeat' (first | exact sub_dead | exact subL_nil | exact trivial | (intro Q h; refine h ?_; clear h Q) | refine And.intro ?_ ?_ | refine subL_cons ?_ ?_ | refine sub_agg ?_ | refine sub_tup ?_ | exact sub_refl_val _ _ | (refine sub_int ?_; first | with_reducible rfl | omega | ((try simp only [wS]); omega) | rfl) | exact sub_sb rfl | exact sub_sbl rfl | with_reducible rfl | refine sub_int ?_ | refine sub_sb ?_ | refine sub_sbl ?_)))); done)))
    | (apply ret_mk []; (focus (iterate 2 (all_goals (repeat' (first | exact sub_dead | exact subL_nil | exact trivial | (intro Q h; refine h ?_; clear h Q) | refine And.intro ?_ ?_ | refine subL_cons ?_ ?_ | refine sub_agg ?_ | refine sub_tup ?_ | exact sub_refl_val _ _ | (refine sub_int ?_; first | with_reducible rfl | omega | ((try simp only [wS]); omega) | rfl) | exact sub_sb rfl | exact sub_sbl rfl | with_reducible rfl | refine sub_int ?_ | refine sub_sb ?_ | refine sub_sbl ?_))))); (any_goals (apply okIx_mk; rfl)))
    | omega))
  all_goals (rw [p32, e1, e2, e3]; rfl)
theorem diff_ok (a b : Int) : Runs Try.prog 43 [.val (.int .u64 a), .val (.int .u64 b)] [] (Det (.val (.int .i64 (IntKind.i64.wrap (IntKind.u64.wrap (a - b))))) []) := by
  refine Runs.mk tabOK Try.call43 Try.func43 rfl Try.ntmps43 Try.results43 rfl ?_
  (repeat' (first
    | (intro Q h; refine h ?_; clear h Q)
    | (with_reducible refine bcase_true ?_)
    | (with_reducible refine bcase_false ?_)
    | (refine bcase_mk (fun hb => ?_) (fun hb => ?_) <;> (try simp only [nS, nT, eq_self, reduceCtorEq] at hb))
    | refine draw_mk (by decide +kernel) ?_
    | refine seq_go ?_
    | refine And.intro (by first | omega | ((try simp only [wS]); omega) | rfl | decide) ?_
    | (apply ret_mk []; (focus (iterate 2 (all_goals (repeat' (first | exact sub_dead | exact subL_nil | exact trivial | (intro Q h; refine h ?_; clear h Q) | refine And.intro ?_ ?_ | refine subL_cons ?_ ?_ | refine sub_agg ?_ | refine sub_tup ?_ | exact sub_refl_val _ _ | (refine sub_int ?_; first | with_reducible rfl | omega | ((try simp only [wS]); omega) | rfl) | exact sub_sb rfl | exact sub_sbl rfl | with_reducible rfl | refine sub_int ?_ | refine sub_sb ?_ | refine sub_sbl ?_))))); (any_goals (apply okIx_mk; rfl)))
    | omega))
theorem rdiff_ok (a b : Int) : Runs Try.prog 100 [.val (.int .u64 a), .val (.int .u64 b)] [] (Det (.val (.int .i64 (IntKind.i64.wrap (IntKind.u64.wrap (a - b))))) []) := by
  refine Runs.mk tabOK Try.call100 Try.func100 rfl Try.ntmps100 Try.results100 rfl ?_
  (repeat' (first
    | (intro Q h; refine h ?_; clear h Q)
    | (with_reducible refine bcase_true ?_)
    | (with_reducible refine bcase_false ?_)
    | (refine bcase_mk (fun hb => ?_) (fun hb => ?_) <;> (try simp only [nS, nT, eq_self, reduceCtorEq] at hb))
    | refine draw_mk (by decide +kernel) ?_
    | refine seq_go ?_
    | refine And.intro (by first | omega | ((try simp only [wS]); omega) | rfl | decide) ?_
    | (apply ret_mk []; (focus (iterate 2 (all_goals (repeat' (first | exact sub_dead | exact subL_nil | exact trivial | (intro Q h; refine h ?_; clear h Q) | refine And.intro ?_ ?_ | refine subL_cons ?_ ?_ | refine sub_agg ?_ | refine sub_tup ?_ | exact sub_refl_val _ _ | (refine sub_int ?_; first | with_reducible rfl | omega | ((try simp only [wS]); omega) | rfl) | exact sub_sb rfl | exact sub_sbl rfl | with_reducible rfl | refine sub_int ?_ | refine sub_sb ?_ | refine sub_sbl ?_))))); (any_goals (apply okIx_mk; rfl)))
    | omega))
def fitB (n : Int) : Bool := decide (-9223372036854775808 ≤ n ∧ n ≤ 9223372036854775807)
def okI (n : Int) : Int := bif fitB n then n else 0
theorem add_ok (a b : Int) (ha : R64 a) (hb' : R64 b) : Runs Try.prog 45 [.val (.int .i64 a), .val (.int .i64 b)] [] (Det (.tup [.val (.int .i64 (okI (a + b))), .sb (fitB (a + b))]) []) := by
  by_cases h : -9223372036854775808 ≤ a + b ∧ a + b ≤ 9223372036854775807
  · have e1 : fitB (a + b) = true := decide_eq_true h
    have e2 : okI (a + b) = a + b := by unfold okI; rw [e1]; rfl
    have e3 : IntKind.i64.wrap (a + b) = a + b := cwrap h.1 h.2
    rw [e1, e2]
    refine Runs.mk tabOK Try.call45 Try.func45 rfl Try.ntmps45 Try.results45 rfl ?_
    (repeat' (first
    | (intro Q h; refine h ?_; clear h Q)
    | (with_reducible refine bcase_true ?_)
    | (with_reducible refine bcase_false ?_)
    | (refine bcase_mk (fun hb => ?_) (fun hb => ?_) <;> (try simp only [nS, nT, eq_self, reduceCtorEq] at hb))
    | refine draw_mk (by decide +kernel) ?_
    | refine seq_go ?_
    | refine And.intro (by first | omega | ((try simp only [wS]); omega) | rfl | decide) ?_
    | (apply ret_mk []; (focus (iterate 2 (all_goals (repeat' (first | exact sub_dead | exact subL_nil | exact trivial | (intro Q h; refine h ?_; clear h Q) | refine And.intro ?_ ?_ | refine subL_cons ?_ ?_ | refine sub_agg ?_ | refine sub_tup ?_ | exact sub_refl_val _ _ | (refine sub_int ?_; first | with_reducible rfl | omega | ((try simp only [wS]); omega) | rfl) | exact sub_sb rfl | exact sub_sbl rfl | with_reducible rfl | refine sub_int ?_ | refine sub_sb ?_ | refine sub_sbl ?_))))); (any_goals (apply okIx_mk; rfl)))
    | omega))
    all_goals (clear e1 e2; simp only [e3, decide_eq_decide] at *; omega)
  · have e1 : fitB (a + b) = false := decide_eq_false h
    have e2 : okI (a + b) = 0 := by unfold okI; rw [e1]; rfl
    rw [e1, e2]
    refine Runs.mk tabOK Try.call45 Try.func45 rfl Try.ntmps45 Try.results45 rfl ?_
    (repeat' (first
    | (intro Q h; refine h ?_; clear h Q)
    | (with_reducible refine bcase_true ?_)
    | (with_reducible refine bcase_false ?_)
    | (refine bcase_mk (fun hb => ?_) (fun hb => ?_) <;> (try simp only [nS, nT, eq_self, reduceCtorEq] at hb))
    | refine draw_mk (by decide +kernel) ?_
    | refine seq_go ?_
    | refine And.intro (by first | omega | ((try simp only [wS]); omega) | rfl | decide) ?_
    | (apply ret_mk []; (focus (iterate 2 (all_goals (repeat' (first | exact sub_dead | exact subL_nil | exact trivial | (intro Q h; refine h ?_; clear h Q) | refine And.intro ?_ ?_ | refine subL_cons ?_ ?_ | refine sub_agg ?_ | refine sub_tup ?_ | exact sub_refl_val _ _ | (refine sub_int ?_; first | with_reducible rfl | omega | ((try simp only [wS]); omega) | rfl) | exact sub_sb rfl | exact sub_sbl rfl | with_reducible rfl | refine sub_int ?_ | refine sub_sb ?_ | refine sub_sbl ?_))))); (any_goals (apply okIx_mk; rfl)))
    | omega))
    all_goals (exfalso; clear e1 e2; simp only [cw, decide_eq_decide] at *; omega)
theorem radd_ok (a b : Int) (ha : R64 a) (hb' : R64 b) : Runs Try.prog 87 [.val (.int .i64 a), .val (.int .i64 b)] [] (Det (.tup [.val (.int .i64 (okI (a + b))), .sb (fitB (a + b))]) []) := by
  by_cases h : -9223372036854775808 ≤ a + b ∧ a + b ≤ 9223372036854775807
  · have e1 : fitB (a + b) = true := decide_eq_true h
    have e2 : okI (a + b) = a + b := by unfold okI; rw [e1]; rfl
    have e3 : IntKind.i64.wrap (a + b) = a + b := cwrap h.1 h.2
    rw [e1, e2]
    refine Runs.mk tabOK Try.call87 Try.func87 rfl Try.ntmps87 Try.results87 rfl ?_
    (repeat' (first
    | (intro Q h; refine h ?_; clear h Q)
    | (with_reducible refine bcase_true ?_)
    | (with_reducible refine bcase_false ?_)
    | (refine bcase_mk (fun hb => ?_) (fun hb => ?_) <;> (try simp only [nS, nT, eq_self, reduceCtorEq] at hb))
    | refine draw_mk (by decide +kernel) ?_
    | refine seq_go ?_
    | refine And.intro (by first | omega | ((try simp only [wS]); omega) | rfl | decide) ?_
    | (apply ret_mk []; (focus (iterate 2 (all_goals (repeat' (first | exact sub_dead | exact subL_nil | exact trivial | (intro Q h; refine h ?_; clear h Q) | refine And.intro ?_ ?_ | refine subL_cons ?_ ?_ | refine sub_agg ?_ | refine sub_tup ?_ | exact sub_refl_val _ _ | (refine sub_int ?_; first | with_reducible rfl | omega | ((try simp only [wS]); omega) | rfl) | exact sub_sb rfl | exact sub_sbl rfl | with_reducible rfl | refine sub_int ?_ | refine sub_sb ?_ | refine sub_sbl ?_))))); (any_goals (apply okIx_mk; rfl)))
    | omega))
    all_goals first
      | (rw [e3]; done)
      | (simp only [cw] at *; omega)
  · have e1 : fitB (a + b) = false := decide_eq_false h
    have e2 : okI (a + b) = 0 := by unfold okI; rw [e1]; rfl
    rw [e1, e2]
    refine Runs.mk tabOK Try.call87 Try.func87 rfl Try.ntmps87 Try.results87 rfl ?_
    (repeat' (first
    | (intro Q h; refine h ?_; clear h Q)
    | (with_reducible refine bcase_true ?_)
    | (with_reducible refine bcase_false ?_)
    | (refine bcase_mk (fun hb => ?_) (fun hb => ?_) <;> (try simp only [nS, nT, eq_self, reduceCtorEq] at hb))
    | refine draw_mk (by decide +kernel) ?_
    | refine seq_go ?_
    | refine And.intro (by first | omega | ((try simp only [wS]); omega) | rfl | decide) ?_
    | (apply ret_mk []; (focus (iterate 2 (all_goals (repeat' (first | exact sub_dead | exact subL_nil | exact trivial | (intro Q h; refine h ?_; clear h Q) | refine And.intro ?_ ?_ | refine subL_cons ?_ ?_ | refine sub_agg ?_ | refine sub_tup ?_ | exact sub_refl_val _ _ | (refine sub_int ?_; first | with_reducible rfl | omega | ((try simp only [wS]); omega) | rfl) | exact sub_sb rfl | exact sub_sbl rfl | with_reducible rfl | refine sub_int ?_ | refine sub_sb ?_ | refine sub_sbl ?_))))); (any_goals (apply okIx_mk; rfl)))
    | omega))
    all_goals (simp only [cw] at *; omega)
theorem nanos_ok (f : Int) (h0 : 0 ≤ f) (h1 : f < 4294967296) : Runs Try.prog 46 [.val (.int .i64 f)] [] (Det (.val (.int .i64 ((f * 1000000000 + 4294967295) / 4294967296))) []) := by
  refine Runs.mk tabOK Try.call46 Try.func46 rfl Try.ntmps46 Try.results46 rfl ?_
  (repeat' (first
    | (intro Q h; refine h ?_; clear h Q)
    | (with_reducible refine bcase_true ?_)
    | (with_reducible refine bcase_false ?_)
    | (refine bcase_mk (fun hb => ?_) (fun hb => ?_) <;> (try simp only [nS, nT, eq_self, reduceCtorEq] at hb))
    | refine draw_mk (by decide +kernel) ?_
    | refine seq_go ?_
    | refine And.intro (by first | omega | ((try simp only [wS]); omega) | rfl | decide) ?_
    | (apply ret_mk []; (focus (iterate 2 (all_goals (repeat' (first | exact sub_dead | exact subL_nil | exact trivial | (intro Q h; refine h ?_; clear h Q) | refine And.intro ?_ ?_ | refine subL_cons ?_ ?_ | refine sub_agg ?_ | refine sub_tup ?_ | exact sub_refl_val _ _ | (refine sub_int ?_; first | with_reducible rfl | omega | ((try simp only [wS]); omega) | rfl) | exact sub_sb rfl | exact sub_sbl rfl | with_reducible rfl | refine sub_int ?_ | refine sub_sb ?_ | refine sub_sbl ?_))))); (any_goals (apply okIx_mk; rfl)))
    | omega))
  all_goals (rw [q32, fd32]; simp only [cw]; omega)
theorem above_ok (f : Int) (h0 : 0 ≤ f) (h1 : f < 4294967296) : Runs Try.prog 101 [.val (.int .i64 f)] [] (Det (.val (.int .i64 ((f * 1000000000 + 4294967295) / 4294967296))) []) := by
  have e : IntKind.i64.wrap (IntKind.i64.wrap (f * 1000000000) + 4294967295) = f * 1000000000 + 4294967295 := by simp only [cw]; omega
  refine Runs.mk tabOK Try.call101 Try.func101 rfl Try.ntmps101 Try.results101 rfl ?_
  (repeat' (first
    | (intro Q h; refine h ?_; clear h Q)
    | (with_reducible refine bcase_true ?_)
    | (with_reducible refine bcase_false ?_)
    | (refine bcase_mk (fun hb => ?_) (fun hb => ?_) <;> (try simp only [nS, nT, eq_self, reduceCtorEq] at hb))
    | refine draw_mk (by decide +kernel) ?_
    | refine seq_go ?_
    | refine And.intro (by first | omega | ((try simp only [wS]); omega) | rfl | decide) ?_
    | (apply ret_mk []; (focus (iterate 2 (all_goals (repeat' (first | exact sub_dead | exact subL_nil | exact trivial | (intro Q h; refine h ?_; clear h Q) | refine And.intro ?_ ?_ | refine subL_cons ?_ ?_ | refine sub_agg ?_ | refine sub_tup ?_ | exact sub_refl_val _ _ | (refine sub_int ?_; first | with_reducible rfl | omega | ((try simp only [wS]); omega) | rfl) | exact sub_sb rfl | exact sub_sbl rfl | with_reducible rfl | refine sub_int ?_ | refine sub_sb ?_ | refine sub_sbl ?_))))); (any_goals (apply okIx_mk; rfl)))
    | omega))
  all_goals (rw [e, Int.tdiv_eq_ediv_of_nonneg (by omega), cw]; omega)
theorem signedP_ok (m : Int) (h : 0 ≤ m) (h1 : m < 18446744073709551616) : Runs Try.prog 69 [.val (.int .u64 m), .sb false] [] (Det (.tup [.val (.int .i64 (okI m)), .sb (fitB m)]) []) := by
  by_cases h2 : m ≤ 9223372036854775807
  · have e1 : fitB m = true := decide_eq_true ⟨by omega, h2⟩
    have e2 : okI m = m := by unfold okI; rw [e1]; rfl
    rw [e1, e2]
    refine Runs.mk tabOK Try.call69 Try.func69 rfl Try.ntmps69 Try.results69 rfl ?_
    (repeat' (first
    | (intro Q h; refine h ?_; clear h Q)
    | refine bcase_t (by first | exact beq_self_eq_true _ | decide) ?_
    | refine bcase_f (by decide) ?_
    | (with_reducible refine bcase_true ?_)
    | (with_reducible refine bcase_false ?_)
    | (refine bcase_mk (fun hb => ?_) (fun hb => ?_) <;> (try simp only [nS, nT, eq_self, reduceCtorEq] at hb))
    | refine draw_mk (by decide +kernel) ?_
    | refine seq_go ?_
    | refine And.intro (by first | omega | ((try simp only [wS]); omega) | rfl | decide) ?_
    | (apply ret_mk []; (focus (iterate 2 (all_goals (repeat' (first | exact sub_dead | exact subL_nil | exact trivial | (intro Q h; refine h ?_; clear h Q) | refine And.intro ?_ ?_ | refine subL_cons ?_ ?_ | refine sub_agg ?_ | refine sub_tup ?_ | exact sub_refl_val _ _ | (refine sub_int ?_; first | with_reducible rfl | omega | ((try simp only [wS]); omega) | rfl) | exact sub_sb rfl | exact sub_sbl rfl | with_reducible rfl | refine sub_int ?_ | refine sub_sb ?_ | refine sub_sbl ?_))))); (any_goals (apply okIx_mk; rfl)))
    | omega))
    all_goals (simp only [cw, uw]; omega)
  · have e1 : fitB m = false := decide_eq_false (by omega)
    have e2 : okI m = 0 := by unfold okI; rw [e1]; rfl
    rw [e1, e2]
    refine Runs.mk tabOK Try.call69 Try.func69 rfl Try.ntmps69 Try.results69 rfl ?_
    (repeat' (first
    | (intro Q h; refine h ?_; clear h Q)
    | refine bcase_t (by first | exact beq_self_eq_true _ | decide) ?_
    | refine bcase_f (by decide) ?_
    | (with_reducible refine bcase_true ?_)
    | (with_reducible refine bcase_false ?_)
    | (refine bcase_mk (fun hb => ?_) (fun hb => ?_) <;> (try simp only [nS, nT, eq_self, reduceCtorEq] at hb))
    | refine draw_mk (by decide +kernel) ?_
    | refine seq_go ?_
    | refine And.intro (by first | omega | ((try simp only [wS]); omega) | rfl | decide) ?_
    | (apply ret_mk []; (focus (iterate 2 (all_goals (repeat' (first | exact sub_dead | exact subL_nil | exact trivial | (intro Q h; refine h ?_; clear h Q) | refine And.intro ?_ ?_ | refine subL_cons ?_ ?_ | refine sub_agg ?_ | refine sub_tup ?_ | exact sub_refl_val _ _ | (refine sub_int ?_; first | with_reducible rfl | omega | ((try simp only [wS]); omega) | rfl) | exact sub_sb rfl | exact sub_sbl rfl | with_reducible rfl | refine sub_int ?_ | refine sub_sb ?_ | refine sub_sbl ?_))))); (any_goals (apply okIx_mk; rfl)))
    | omega))
theorem signedN_ok (m : Int) (h : 0 ≤ m) (h1 : m < 18446744073709551616) : Runs Try.prog 69 [.val (.int .u64 m), .sb true] [] (Det (.tup [.val (.int .i64 (okI (-m))), .sb (fitB (-m))]) []) := by
  by_cases h2 : m ≤ 9223372036854775808
  · have e1 : fitB (-m) = true := decide_eq_true (by omega)
    have e2 : okI (-m) = -m := by unfold okI; rw [e1]; rfl
    rw [e1, e2]
    refine Runs.mk tabOK Try.call69 Try.func69 rfl Try.ntmps69 Try.results69 rfl ?_
    (repeat' (first
    | (intro Q h; refine h ?_; clear h Q)
    | refine bcase_t (by first | exact beq_self_eq_true _ | decide) ?_
    | refine bcase_f (by decide) ?_
    | (with_reducible refine bcase_true ?_)
    | (with_reducible refine bcase_false ?_)
    | (refine bcase_mk (fun hb => ?_) (fun hb => ?_) <;> (try simp only [nS, nT, eq_self, reduceCtorEq] at hb))
    | refine draw_mk (by decide +kernel) ?_
    | refine seq_go ?_
    | refine And.intro (by first | omega | ((try simp only [wS]); omega) | rfl | decide) ?_
    | (apply ret_mk []; (focus (iterate 2 (all_goals (repeat' (first | exact sub_dead | exact subL_nil | exact trivial | (intro Q h; refine h ?_; clear h Q) | refine And.intro ?_ ?_ | refine subL_cons ?_ ?_ | refine sub_agg ?_ | refine sub_tup ?_ | exact sub_refl_val _ _ | (refine sub_int ?_; first | with_reducible rfl | omega | ((try simp only [wS]); omega) | rfl) | exact sub_sb rfl | exact sub_sbl rfl | with_reducible rfl | refine sub_int ?_ | refine sub_sb ?_ | refine sub_sbl ?_))))); (any_goals (apply okIx_mk; rfl)))
    | omega))
    all_goals (simp only [cw, uw]; omega)
  · have e1 : fitB (-m) = false := decide_eq_false (by omega)
    have e2 : okI (-m) = 0 := by unfold okI; rw [e1]; rfl
    rw [e1, e2]
    refine Runs.mk tabOK Try.call69 Try.func69 rfl Try.ntmps69 Try.results69 rfl ?_
    (repeat' (first
    | (intro Q h; refine h ?_; clear h Q)
    | refine bcase_t (by first | exact beq_self_eq_true _ | decide) ?_
    | refine bcase_f (by decide) ?_
    | (with_reducible refine bcase_true ?_)
    | (with_reducible refine bcase_false ?_)
    | (refine bcase_mk (fun hb => ?_) (fun hb => ?_) <;> (try simp only [nS, nT, eq_self, reduceCtorEq] at hb))
    | refine draw_mk (by decide +kernel) ?_
    | refine seq_go ?_
    | refine And.intro (by first | omega | ((try simp only [wS]); omega) | rfl | decide) ?_
    | (apply ret_mk []; (focus (iterate 2 (all_goals (repeat' (first | exact sub_dead | exact subL_nil | exact trivial | (intro Q h; refine h ?_; clear h Q) | refine And.intro ?_ ?_ | refine subL_cons ?_ ?_ | refine sub_agg ?_ | refine sub_tup ?_ | exact sub_refl_val _ _ | (refine sub_int ?_; first | with_reducible rfl | omega | ((try simp only [wS]); omega) | rfl) | exact sub_sb rfl | exact sub_sbl rfl | with_reducible rfl | refine sub_int ?_ | refine sub_sb ?_ | refine sub_sbl ?_))))); (any_goals (apply okIx_mk; rfl)))
    | omega))
theorem mulB_ok (a : Int) (h0 : -11000000000 ≤ a) (h1 : a ≤ 11000000000) : Runs Try.prog 44 [.val (.int .i64 a), .val (.int .i64 1000000000)] [] (Det (.tup [.val (.int .i64 (okI (a * 1000000000))), .sb (fitB (a * 1000000000))]) []) := by
  have s2 := size_pos 1000000000 (by omega) (by omega)
  have e0 : decide ((1000000000 : Int) < 0) = false := by decide
  by_cases hn : 0 ≤ a
  · have s1 := size_pos a hn (by omega)
    have m := mul64_ok a 1000000000 hn (by omega) (by omega) (by omega)
    rw [show a * 1000000000 / 18446744073709551616 = 0 from by omega, show a * 1000000000 % 18446744073709551616 = a * 1000000000 from by omega] at m
    have s4 := signedP_ok (a * 1000000000) (by omega) (by omega)
    have e1 : decide (a < 0) = false := decide_eq_false (by omega)
    refine Runs.mk tabOK Try.call44 Try.func44 rfl Try.ntmps44 Try.results44 rfl ?_
    (repeat' (first
    | (intro Q h; refine h ?_; clear h Q)
    | refine bcase_t (by first | exact beq_self_eq_true _ | decide) ?_
    | refine bcase_f (by decide) ?_
    | (with_reducible refine bcase_true ?_)
    | (with_reducible refine bcase_false ?_)
    | (refine bcase_mk (fun hb => ?_) (fun hb => ?_) <;> (try simp only [nS, nT, eq_self, reduceCtorEq] at hb))
    | refine draw_mk (by decide +kernel) ?_
    | refine seq_go ?_
    | refine And.intro (by first | omega | ((try simp only [wS]); omega) | rfl | decide) ?_
    | ((first | apply call0 (s1) | apply calld0 (s1)); (focus ((iterate 2 (all_goals (repeat' (first | exact sub_dead | exact subL_nil | exact trivial | (intro Q h; refine h ?_; clear h Q) | refine And.intro ?_ ?_ | refine subL_cons ?_ ?_ | refine sub_agg ?_ | refine sub_tup ?_ | exact sub_refl_val _ _ | (refine sub_int ?_; first | with_reducible rfl | omega | ((try simp only [wS]); omega) | rfl) | exact sub_sb rfl | exact sub_sbl rfl | with_reducible rfl | refine sub_int ?_ | refine sub_sb ?_ | refine sub_sbl ?_)))); done)))
    | ((first | apply call0 (s2) | apply calld0 (s2)); (focus ((iterate 2 (all_goals (repeat' (first | exact sub_dead | exact subL_nil | exact trivial | (intro Q h; refine h ?_; clear h Q) | refine And.intro ?_ ?_ | refine subL_cons ?_ ?_ | refine sub_agg ?_ | refine sub_tup ?_ | exact sub_refl_val _ _ | (refine sub_int ?_; first | with_reducible rfl | omega | ((try simp only [wS]); omega) | rfl) | exact sub_sb rfl | exact sub_sbl rfl | with_reducible rfl | refine sub_int ?_ | refine sub_sb ?_ | refine sub_sbl ?_)))); done)))
    | ((first | apply call0 (m) | apply calld0 (m)); (focus ((iterate 2 (all_goals (repeat' (first | exact sub_dead | exact subL_nil | exact trivial | (intro Q h; refine h ?_; clear h Q) | refine And.intro ?_ ?_ | refine subL_cons ?_ ?_ | refine sub_agg ?_ | refine sub_tup ?_ | exact sub_refl_val _ _ | (refine sub_int ?_; first | with_reducible rfl | omega | ((try simp only [wS]); omega) | rfl) | exact sub_sb rfl | exact sub_sbl rfl | with_reducible rfl | refine sub_int ?_ | refine sub_sb ?_ | refine sub_sbl ?_)))); done)))
    | ((first | apply call0 (s4) | apply calld0 (s4)); (focus (iterate 2 (all_goals (repeat' (first | exact sub_dead | exact subL_nil | exact trivial | (intro Q h; refine h ?_; clear h Q) | refine And.intro ?_ ?_ | refine subL_cons ?_ ?_ | refine sub_agg ?_ | refine sub_tup ?_ | exact sub_refl_val _ _ | (refine sub_int ?_; first | with_reducible rfl | omega | ((try simp only [wS]); omega) | rfl) | exact sub_sb rfl | exact sub_sbl rfl | with_reducible rfl | refine sub_int ?_ | refine sub_sb ?_ | refine sub_sbl ?_))))))
    | (apply ret_mk []; (focus (iterate 2 (all_goals (repeat' (first | exact sub_dead | exact subL_nil | exact trivial | (intro Q h; refine h ?_; clear h Q) | refine And.intro ?_ ?_ | refine subL_cons ?_ ?_ | refine sub_agg ?_ | refine sub_tup ?_ | exact sub_refl_val _ _ | (refine sub_int ?_; first | with_reducible rfl | omega | ((try simp only [wS]); omega) | rfl) | exact sub_sb rfl | exact sub_sbl rfl | with_reducible rfl | refine sub_int ?_ | refine sub_sb ?_ | refine sub_sbl ?_))))); (any_goals (apply okIx_mk; rfl)))
    | omega))
    all_goals (first | (rw [e0, e1]; done) | (rw [e0, e1]; rfl) | (simp [e0, e1]; done) | skip)
  · obtain ⟨b, rfl⟩ : ∃ b, a = -b := ⟨-a, by omega⟩
    have s1 := size_neg b (by omega) (by omega)
    have m := mul64_ok b 1000000000 (by omega) (by omega) (by omega) (by omega)
    rw [show b * 1000000000 / 18446744073709551616 = 0 from by omega, show b * 1000000000 % 18446744073709551616 = b * 1000000000 from by omega] at m
    have s4 := signedN_ok (b * 1000000000) (by omega) (by omega)
    have e1 : decide (-b < 0) = true := decide_eq_true (by omega)
    rw [show -(b * 1000000000) = -b * 1000000000 from by omega] at s4
    refine Runs.mk tabOK Try.call44 Try.func44 rfl Try.ntmps44 Try.results44 rfl ?_
    (repeat' (first
    | (intro Q h; refine h ?_; clear h Q)
    | refine bcase_t (by first | exact beq_self_eq_true _ | decide) ?_
    | refine bcase_f (by decide) ?_
    | (with_reducible refine bcase_true ?_)
    | (with_reducible refine bcase_false ?_)
    | (refine bcase_mk (fun hb => ?_) (fun hb => ?_) <;> (try simp only [nS, nT, eq_self, reduceCtorEq] at hb))
    | refine draw_mk (by decide +kernel) ?_
    | refine seq_go ?_
    | refine And.intro (by first | omega | ((try simp only [wS]); omega) | rfl | decide) ?_
    | ((first | apply call0 (s1) | apply calld0 (s1)); (focus ((iterate 2 (all_goals (repeat' (first | exact sub_dead | exact subL_nil | exact trivial | (intro Q h; refine h ?_; clear h Q) | refine And.intro ?_ ?_ | refine subL_cons ?_ ?_ | refine sub_agg ?_ | refine sub_tup ?_ | exact sub_refl_val _ _ | (refine sub_int ?_; first | with_reducible rfl | omega | ((try simp only [wS]); omega) | rfl) | exact sub_sb rfl | exact sub_sbl rfl | with_reducible rfl | refine sub_int ?_ | refine sub_sb ?_ | refine sub_sbl ?_)))); done)))
    | ((first | apply call0 (s2) | apply calld0 (s2)); (focus ((iterate 2 (all_goals (repeat' (first | exact sub_dead | exact subL_nil | exact trivial | (intro Q h; refine h ?_; clear h Q) | refine And.intro ?_ ?_ | refine subL_cons ?_ ?_ | refine sub_agg ?_ | refine sub_tup ?_ | exact sub_refl_val _ _ | (refine sub_int ?_; first | with_reducible rfl | omega | ((try simp only [wS]); omega) | rfl) | exact sub_sb rfl | exact sub_sbl rfl | with_reducible rfl | refine sub_int ?_ | refine sub_sb ?_ | refine sub_sbl ?_)))); done)))
    | ((first | apply call0 (m) | apply calld0 (m)); (focus ((iterate 2 (all_goals (repeat' (first | exact sub_dead | exact subL_nil | exact trivial | (intro Q h; refine h ?_; clear h Q) | refine And.intro ?_ ?_ | refine subL_cons ?_ ?_ | refine sub_agg ?_ | refine sub_tup ?_ | exact sub_refl_val _ _ | (refine sub_int ?_; first | with_reducible rfl | omega | ((try simp only [wS]); omega) | rfl) | exact sub_sb rfl | exact sub_sbl rfl | with_reducible rfl | refine sub_int ?_ | refine sub_sb ?_ | refine sub_sbl ?_)))); done)))
    | ((first | apply call0 (s4) | apply calld0 (s4)); (focus (iterate 2 (all_goals (repeat' (first | exact sub_dead | exact subL_nil | exact trivial | (intro Q h; refine h ?_; clear h Q) | refine And.intro ?_ ?_ | refine subL_cons ?_ ?_ | refine sub_agg ?_ | refine sub_tup ?_ | exact sub_refl_val _ _ | (refine sub_int ?_; first | with_reducible rfl | omega | ((try simp only [wS]); omega) | rfl) | exact sub_sb rfl | exact sub_sbl rfl | with_reducible rfl | refine sub_int ?_ | refine sub_sb ?_ | refine sub_sbl ?_))))))
    | (apply ret_mk []; (focus (iterate 2 (all_goals (repeat' (first | exact sub_dead | exact subL_nil | exact trivial | (intro Q h; refine h ?_; clear h Q) | refine And.intro ?_ ?_ | refine subL_cons ?_ ?_ | refine sub_agg ?_ | refine sub_tup ?_ | exact sub_refl_val _ _ | (refine sub_int ?_; first | with_reducible rfl | omega | ((try simp only [wS]); omega) | rfl) | exact sub_sb rfl | exact sub_sbl rfl | with_reducible rfl | refine sub_int ?_ | refine sub_sb ?_ | refine sub_sbl ?_))))); (any_goals (apply okIx_mk; rfl)))
    | omega))
    all_goals (first | (rw [e0, e1]; done) | (rw [e0, e1]; rfl) | (simp [e0, e1]; done) | skip)
end Go.Vx.L55

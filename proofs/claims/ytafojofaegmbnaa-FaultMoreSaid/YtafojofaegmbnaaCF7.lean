/- Lemmas of a small executor for the model, and contracts of functions, used for the law that this claim proves. No condition. -/
import Derived.Test.YtafojofaegmbnaaCF6
set_option linter.unusedSimpArgs false
set_option linter.unusedVariables false
set_option maxRecDepth 100000
namespace Go.Vx.L55
open Go Go.Proofs
theorem rsize_pos (n : Int) (h : 0 ≤ n) (h1 : n ≤ 9223372036854775807) : Runs Try.prog 105 [.val (.int .i64 n)] [] (Det (.val (.int .u64 n)) []) := by
  refine Runs.mk tabOK Try.call105 Try.func105 rfl Try.ntmps105 Try.results105 rfl ?_
  (repeat' (first
    | (intro Q h; refine h ?_; clear h Q)
    | (with_reducible refine bcase_true ?_)
    | (with_reducible refine bcase_false ?_)
    | (refine bcase_mk (fun hb => ?_) (fun hb => ?_) <;> (try simp only [nS, nT, eq_self, reduceCtorEq] at hb))
    | refine draw_mk (by decide +kernel) ?_
    | refine seq_go ?_
    | refine And.intro (by first | omega | ((try simp only [wS]); omega) | rfl | decide) ?_
    | (apply ret_mk []; (focus (iterate 2 (all_goals (repeat' (first | exact sub_dead | exact subL_nil | exact trivial | (intro Q h; refine h ?_; clear h Q) | refine And.intro ?_ ?_ | refine subL_cons ?_ ?_ | refine sub_agg ?_ | refine sub_tup ?_ | exact sub_refl_val _ _ | (refine sub_int ?_; first | with_reducible rfl | omega | ((try simp only [wS]); omega) | rfl) | exact sub_sb rfl | exact sub_sbl rfl | with_reducible rfl | refine sub_int ?_ | refine sub_sb ?_ | refine sub_sbl ?_))))); (any_goals (apply okIx_mk; rfl)))
    | omega))
  all_goals (simp only [uw, IntKind.wrap_i64, cond_true, cond_false]; omega)
theorem rsize_neg (n : Int) (h : 0 < n) (h1 : n ≤ 9223372036854775807) : Runs Try.prog 105 [.val (.int .i64 (-n))] [] (Det (.val (.int .u64 n)) []) := by
  refine Runs.mk tabOK Try.call105 Try.func105 rfl Try.ntmps105 Try.results105 rfl ?_
  (repeat' (first
    | (intro Q h; refine h ?_; clear h Q)
    | (with_reducible refine bcase_true ?_)
    | (with_reducible refine bcase_false ?_)
    | (refine bcase_mk (fun hb => ?_) (fun hb => ?_) <;> (try simp only [nS, nT, eq_self, reduceCtorEq] at hb))
    | refine draw_mk (by decide +kernel) ?_
    | refine seq_go ?_
    | refine And.intro (by first | omega | ((try simp only [wS]); omega) | rfl | decide) ?_
    | (apply ret_mk []; (focus (iterate 2 (all_goals (repeat' (first | exact sub_dead | exact subL_nil | exact trivial | (intro Q h; refine h ?_; clear h Q) | refine And.intro ?_ ?_ | refine subL_cons ?_ ?_ | refine sub_agg ?_ | refine sub_tup ?_ | exact sub_refl_val _ _ | (refine sub_int ?_; first | with_reducible rfl | omega | ((try simp only [wS]); omega) | rfl) | exact sub_sb rfl | exact sub_sbl rfl | with_reducible rfl | refine sub_int ?_ | refine sub_sb ?_ | refine sub_sbl ?_))))); (any_goals (apply okIx_mk; rfl)))
    | omega))
  all_goals (simp only [uw, IntKind.wrap_i64, cond_true, cond_false]; omega)
theorem rsize_n (n : Int) (h : 0 ≤ n) (h1 : n ≤ 9223372036854775807) : Runs Try.prog 105 [.val (.int .i64 (-n))] [] (Det (.val (.int .u64 n)) []) := by
  by_cases h0 : n = 0
  · subst h0; exact rsize_pos 0 (by omega) (by omega)
  · exact rsize_neg n (by omega) h1
theorem rsigned_ok (m : Int) (h : 0 ≤ m) (h1 : m ≤ 9223372036854775807) (neg : Bool) : Runs Try.prog 107 [.sb neg, .val (.int .u64 0), .val (.int .u64 m)] [] (Det (.tup [.val (.int .i64 (bif neg then -m else m)), .sb true]) []) := by
  cases neg
  · refine Runs.mk tabOK Try.call107 Try.func107 rfl Try.ntmps107 Try.results107 rfl ?_
    (repeat' (first
    | (intro Q h; refine h ?_; clear h Q)
    | (with_reducible refine bcase_true ?_)
    | (with_reducible refine bcase_false ?_)
    | (refine bcase_mk (fun hb => ?_) (fun hb => ?_) <;> (try simp only [nS, nT, eq_self, reduceCtorEq] at hb))
    | refine draw_mk (by decide +kernel) ?_
    | refine seq_go ?_
    | refine And.intro (by first | omega | ((try simp only [wS]); omega) | rfl | decide) ?_
    | (apply ret_mk []; (focus (iterate 2 (all_goals (repeat' (first | exact sub_dead | exact subL_nil | exact trivial | (intro Q h; refine h ?_; clear h Q) | refine And.intro ?_ ?_ | refine subL_cons ?_ ?_ | refine sub_agg ?_ | refine sub_tup ?_ | exact sub_refl_val _ _ | (refine sub_int ?_; first | with_reducible rfl | omega | ((try simp only [wS]); omega) | rfl) | exact sub_sb rfl | exact sub_sbl rfl | with_reducible rfl | refine sub_int ?_ | refine sub_sb ?_ | refine sub_sbl ?_))))); (any_goals (apply okIx_mk; rfl)))
    | omega))
    all_goals (simp only [uw, IntKind.wrap_i64, cond_true, cond_false]; omega)
  · refine Runs.mk tabOK Try.call107 Try.func107 rfl Try.ntmps107 Try.results107 rfl ?_
    (repeat' (first
    | (intro Q h; refine h ?_; clear h Q)
    | (with_reducible refine bcase_true ?_)
    | (with_reducible refine bcase_false ?_)
    | (refine bcase_mk (fun hb => ?_) (fun hb => ?_) <;> (try simp only [nS, nT, eq_self, reduceCtorEq] at hb))
    | refine draw_mk (by decide +kernel) ?_
    | refine seq_go ?_
    | refine And.intro (by first | omega | ((try simp only [wS]); omega) | rfl | decide) ?_
    | (apply ret_mk []; (focus (iterate 2 (all_goals (repeat' (first | exact sub_dead | exact subL_nil | exact trivial | (intro Q h; refine h ?_; clear h Q) | refine And.intro ?_ ?_ | refine subL_cons ?_ ?_ | refine sub_agg ?_ | refine sub_tup ?_ | exact sub_refl_val _ _ | (refine sub_int ?_; first | with_reducible rfl | omega | ((try simp only [wS]); omega) | rfl) | exact sub_sb rfl | exact sub_sbl rfl | with_reducible rfl | refine sub_int ?_ | refine sub_sb ?_ | refine sub_sbl ?_))))); (any_goals (apply okIx_mk; rfl)))
    | omega))
    all_goals (simp only [uw, IntKind.wrap_i64, cond_true, cond_false]; omega)
structure DS where
  k : Nat
  hi : Int
  lo : Int
  q : Int
  r : Int
structure DInv (P c : Int) (s : DS) : Prop where
  k : s.k ≤ 128
  hi : 0 ≤ s.hi ∧ s.hi < 18446744073709551616
  lo : 0 ≤ s.lo ∧ s.lo < 18446744073709551616
  q : 0 ≤ s.q ∧ s.q ≤ 9223372036854775807
  r : 0 ≤ s.r ∧ s.r < c
  e : P * 2 ^ s.k = (c * s.q + s.r) * 340282366920938463463374607431768211456 + s.hi * 18446744073709551616 + s.lo
theorem q_bd {P c : Int} (h1 : P ≤ 18446744073709551615) (h0 : 0 ≤ P) (hc : 2 ≤ c) {k : Nat} (hk : k ≤ 128) {q r M : Int} (hr : 0 ≤ r) (hM : 0 ≤ M) (hq : 0 ≤ q)
    (e : P * 2 ^ k = (c * q + r) * 340282366920938463463374607431768211456 + M) : q ≤ 9223372036854775807 := by
  have h2 : (2:Int) ^ k ≤ 2 ^ 128 := by
    have := Nat.pow_le_pow_right (show 0 < 2 by decide) hk
    exact_mod_cast this
  have h3 : P * 2 ^ k ≤ P * 2 ^ 128 := Int.mul_le_mul_of_nonneg_left h2 h0
  have h4 : (2:Int) ^ 128 = 340282366920938463463374607431768211456 := by decide +kernel
  rw [h4] at h3
  have h5 : 2 * q ≤ c * q := Int.mul_le_mul_of_nonneg_right hc hq
  omega
theorem dstep1 {P c : Int} (h1 : P ≤ 18446744073709551615) (h0 : 0 ≤ P) (hc : 2 ≤ c) {s : DS} (h : DInv P c s) (hk : s.k < 128) (hr : c ≤ s.r * 2 + s.hi / 9223372036854775808) :
    DInv P c ⟨s.k + 1, s.hi * 2 % 18446744073709551616 + s.lo / 9223372036854775808, s.lo * 2 % 18446744073709551616, s.q * 2 + 1, s.r * 2 + s.hi / 9223372036854775808 - c⟩ := by
  obtain ⟨k, hi, lo, q, r⟩ := s
  obtain ⟨a1, a2, a3, a4, a5, a6⟩ := h
  simp only at *
  have e2 : P * 2 ^ (k + 1) = (c * (q * 2 + 1) + (r * 2 + hi / 9223372036854775808 - c)) * 340282366920938463463374607431768211456 + (hi * 2 % 18446744073709551616 + lo / 9223372036854775808) * 18446744073709551616 + lo * 2 % 18446744073709551616 := by
    have : P * 2 ^ (k + 1) = P * 2 ^ k * 2 := by rw [Int.pow_succ, Int.mul_assoc]
    rw [this, a6]
    have : c * (q * 2 + 1) = c * q * 2 + c := by rw [Int.mul_add, Int.mul_one, Int.mul_assoc]
    rw [this]
    omega
  have e3 : (r * 2 + hi / 9223372036854775808 - c) ≥ 0 := by omega
  refine ⟨by simp only; omega, by simp only; omega, by simp only; omega, ⟨by simp only; omega, q_bd h1 h0 hc (show k + 1 ≤ 128 by omega) e3 (q := q * 2 + 1) (M := (hi * 2 % 18446744073709551616 + lo / 9223372036854775808) * 18446744073709551616 + lo * 2 % 18446744073709551616) (by omega) (by omega) (by rw [e2]; omega)⟩, by simp only; omega, e2⟩
theorem dstep0 {P c : Int} (h1 : P ≤ 18446744073709551615) (h0 : 0 ≤ P) (hc : 2 ≤ c) {s : DS} (h : DInv P c s) (hk : s.k < 128) (hr : s.r * 2 + s.hi / 9223372036854775808 < c) :
    DInv P c ⟨s.k + 1, s.hi * 2 % 18446744073709551616 + s.lo / 9223372036854775808, s.lo * 2 % 18446744073709551616, s.q * 2, s.r * 2 + s.hi / 9223372036854775808⟩ := by
  obtain ⟨k, hi, lo, q, r⟩ := s
  obtain ⟨a1, a2, a3, a4, a5, a6⟩ := h
  simp only at *
  have e2 : P * 2 ^ (k + 1) = (c * (q * 2) + (r * 2 + hi / 9223372036854775808)) * 340282366920938463463374607431768211456 + (hi * 2 % 18446744073709551616 + lo / 9223372036854775808) * 18446744073709551616 + lo * 2 % 18446744073709551616 := by
    have : P * 2 ^ (k + 1) = P * 2 ^ k * 2 := by rw [Int.pow_succ, Int.mul_assoc]
    rw [this, a6]
    have : c * (q * 2) = c * q * 2 := by rw [Int.mul_assoc]
    rw [this]
    omega
  refine ⟨by simp only; omega, by simp only; omega, by simp only; omega, ⟨by simp only; omega, q_bd h1 h0 hc (show k + 1 ≤ 128 by omega) (r := r * 2 + hi / 9223372036854775808) (q := q * 2) (by omega) (M := (hi * 2 % 18446744073709551616 + lo / 9223372036854775808) * 18446744073709551616 + lo * 2 % 18446744073709551616) (by omega) (by omega) (by rw [e2]; omega)⟩, by simp only; omega, e2⟩
theorem dend {P c : Int} (hc : 2 ≤ c) {s : DS} (h : DInv P c s) (hk : s.k = 128) : s.q = P / c ∧ s.r = P % c := by
  obtain ⟨k, hi, lo, q, r⟩ := s
  obtain ⟨a1, a2, a3, a4, a5, a6⟩ := h
  simp only at *
  subst hk
  have h4 : (2:Int) ^ 128 = 340282366920938463463374607431768211456 := by decide +kernel
  rw [h4] at a6
  have e : P = r + c * q := by omega
  subst e
  refine ⟨?_, ?_⟩
  · rw [Int.add_mul_ediv_left _ _ (by omega), Int.ediv_eq_zero_of_lt a5.1 a5.2, Int.zero_add]
  · rw [Int.add_mul_emod_self_left, Int.emod_eq_of_lt a5.1 a5.2]
set_option maxHeartbeats 1000000 in
theorem rdivide_ok (P c : Int) (h0 : 0 ≤ P) (h1 : P ≤ 18446744073709551615) (hc : 2 ≤ c) (hc2 : c ≤ 4611686018427387904) :
    Runs Try.prog 106 [.val (.int .u64 (P / 18446744073709551616)), .val (.int .u64 (P % 18446744073709551616)), .val (.int .u64 c)] [] (Det (.tup [.val (.int .u64 0), .val (.int .u64 (P / c)), .val (.int .u64 (P % c))]) []) := by
  refine Runs.mk tabOK Try.call106 Try.func106 rfl Try.ntmps106 Try.results106 rfl ?_
  (intro Q h; refine h ?_; clear h Q; repeat (refine seq_go ?_; intro Q h; refine h ?_; clear h Q))
  refine loop_inv (σ := DS) (fun x => DInv P c x) (fun x => ⟨[(0, .val (.int .u64 x.hi)), (1, .val (.int .u64 x.lo)), (2, .val (.int .u64 c)), (9, .val (.int .u64 0)), (10, .val (.int .u64 x.q)), (11, .val (.int .u64 x.r)), (12, .val (.int .i64 x.k))], []⟩) (fun x => 128 - x.k) (⟨0, P / 18446744073709551616, P % 18446744073709551616, 0, 0⟩) ?_ ?_ ?_
  · refine ⟨by simp only; omega, by simp only; omega, by simp only; omega, by simp only; omega, by simp only; omega, by simp only; omega⟩
  · (apply le_mk []; (focus (iterate 2 (all_goals (repeat' (first | exact sub_dead | exact subL_nil | exact trivial | (intro Q h; refine h ?_; clear h Q) | refine And.intro ?_ ?_ | refine subL_cons ?_ ?_ | refine sub_agg ?_ | refine sub_tup ?_ | exact sub_refl_val _ _ | (refine sub_int ?_; first | with_reducible rfl | omega | ((try simp only [wS]); omega) | rfl) | exact sub_sb rfl | exact sub_sbl rfl | with_reducible rfl | refine sub_int ?_ | refine sub_sb ?_ | refine sub_sbl ?_))))); (any_goals (apply okIx_mk; rfl)))
  intro s hs
  have ⟨a1, a2, a3, a4, a5, a6⟩ := hs
  have w1 : (2:Int) ^ (min (Int.toNat 63) IntKind.u64.bits) = 9223372036854775808 := by decide +kernel
  have w2 : (2:Int) ^ (min (Int.toNat 1) IntKind.u64.bits) = 2 := by decide +kernel
  have w3 : IntKind.u64.wrap (0 * 2) = 0 := by decide +kernel
  have w4 : IntKind.u64.wrap ((BitVec.ofInt IntKind.u64.bits 0 ||| BitVec.ofInt IntKind.u64.bits 0).toNat : Int) = 0 := by decide +kernel
  have v1 : s.hi.fdiv 9223372036854775808 = s.hi / 9223372036854775808 := Int.fdiv_eq_ediv_of_nonneg _ (by decide)
  have v2 : s.lo.fdiv 9223372036854775808 = s.lo / 9223372036854775808 := Int.fdiv_eq_ediv_of_nonneg _ (by decide)
  have v3 : s.r.fdiv 9223372036854775808 = 0 := by rw [Int.fdiv_eq_ediv_of_nonneg _ (by decide)]; omega
  have v4 : s.q.fdiv 9223372036854775808 = 0 := by rw [Int.fdiv_eq_ediv_of_nonneg _ (by decide)]; omega
  have u1 : IntKind.u64.wrap (s.r * 2) = s.r * 2 := by rw [uw]; omega
  have u2 : IntKind.u64.wrap (s.q * 2) = s.q * 2 := by rw [uw]; omega
  have u3 : IntKind.u64.wrap (s.hi * 2) = s.hi * 2 % 18446744073709551616 := by rw [uw]
  have u4 : IntKind.u64.wrap (s.lo * 2) = s.lo * 2 % 18446744073709551616 := by rw [uw]
  have o1 : IntKind.u64.wrap ((BitVec.ofInt IntKind.u64.bits (s.r * 2) ||| BitVec.ofInt IntKind.u64.bits (s.hi / 9223372036854775808)).toNat : Int) = s.r * 2 + s.hi / 9223372036854775808 :=
    or_add 1 (by decide) (by omega) (by omega) (by omega) (by omega) (by omega)
  have o2 : IntKind.u64.wrap ((BitVec.ofInt IntKind.u64.bits (s.q * 2) ||| BitVec.ofInt IntKind.u64.bits 1).toNat : Int) = s.q * 2 + 1 :=
    or_add 1 (by decide) (by omega) (by omega) (by omega) (by omega) (by omega)
  have o3 : IntKind.u64.wrap ((BitVec.ofInt IntKind.u64.bits (s.hi * 2 % 18446744073709551616) ||| BitVec.ofInt IntKind.u64.bits (s.lo / 9223372036854775808)).toNat : Int) = s.hi * 2 % 18446744073709551616 + s.lo / 9223372036854775808 :=
    or_add 1 (by decide) (by omega) (by omega) (by omega) (by omega) (by omega)
  (repeat' (first
    | (intro Q h; refine h ?_; clear h Q)
    | (with_reducible refine bcase_true ?_)
    | (with_reducible refine bcase_false ?_)
    | (refine bcase_mk (fun hb => ?_) (fun hb => ?_) <;> (try simp only [nS, nT, eq_self, reduceCtorEq] at hb))
    | refine draw_mk (by decide +kernel) ?_
    | refine seq_go ?_
    | refine And.intro (by first | omega | ((try simp only [wS]); omega) | rfl | decide) ?_
    | (apply ret_mk []; (focus (iterate 2 (all_goals (repeat' (first | exact sub_dead | exact subL_nil | exact trivial | (intro Q h; refine h ?_; clear h Q) | refine And.intro ?_ ?_ | refine subL_cons ?_ ?_ | refine sub_agg ?_ | refine sub_tup ?_ | exact sub_refl_val _ _ | (refine sub_int ?_; first | with_reducible rfl | omega | ((try simp only [wS]); omega) | rfl) | exact sub_sb rfl | exact sub_sbl rfl | with_reducible rfl | refine sub_int ?_ | refine sub_sb ?_ | refine sub_sbl ?_))))); (any_goals (apply okIx_mk; rfl)))
    | omega))
  · exfalso; rw [w1, v3] at hb; omega
  · simp only [w1, w2, v1, u1, o1] at hb
    have hb : c ≤ s.r * 2 + s.hi / 9223372036854775808 := hb
    have d1 : IntKind.u64.wrap (s.r * 2 + s.hi / 9223372036854775808 - c) = s.r * 2 + s.hi / 9223372036854775808 - c := by rw [uw]; omega
    refine next_sub (Subtype.mk ⟨s.k + 1, s.hi * 2 % 18446744073709551616 + s.lo / 9223372036854775808, s.lo * 2 % 18446744073709551616, s.q * 2 + 1, s.r * 2 + s.hi / 9223372036854775808 - c⟩ (dstep1 h1 h0 hc hs (by omega) hb)) ?_ (by simp only; omega)
    (apply le_mk []; (focus (iterate 2 (all_goals (repeat' (first | exact sub_dead | exact subL_nil | exact trivial | (intro Q h; refine h ?_; clear h Q) | refine And.intro ?_ ?_ | refine subL_cons ?_ ?_ | refine sub_agg ?_ | refine sub_tup ?_ | exact sub_refl_val _ _ | (refine sub_int ?_; first | with_reducible rfl | omega | ((try simp only [wS]); omega) | rfl) | exact sub_sb rfl | exact sub_sbl rfl | with_reducible rfl | refine sub_int ?_ | refine sub_sb ?_ | refine sub_sbl ?_))))); (any_goals (apply okIx_mk; rfl)))
    all_goals (simp only [w1, w2, w3, w4, v1, v2, v4, u1, u2, u3, u4, o1, o2, o3, d1])
  · simp only [w1, w2, v1, u1, o1] at hb
    have hb : s.r * 2 + s.hi / 9223372036854775808 < c := by omega
    refine next_sub (Subtype.mk ⟨s.k + 1, s.hi * 2 % 18446744073709551616 + s.lo / 9223372036854775808, s.lo * 2 % 18446744073709551616, s.q * 2, s.r * 2 + s.hi / 9223372036854775808⟩ (dstep0 h1 h0 hc hs (by omega) hb)) ?_ (by simp only; omega)
    (apply le_mk []; (focus (iterate 2 (all_goals (repeat' (first | exact sub_dead | exact subL_nil | exact trivial | (intro Q h; refine h ?_; clear h Q) | refine And.intro ?_ ?_ | refine subL_cons ?_ ?_ | refine sub_agg ?_ | refine sub_tup ?_ | exact sub_refl_val _ _ | (refine sub_int ?_; first | with_reducible rfl | omega | ((try simp only [wS]); omega) | rfl) | exact sub_sb rfl | exact sub_sbl rfl | with_reducible rfl | refine sub_int ?_ | refine sub_sb ?_ | refine sub_sbl ?_))))); (any_goals (apply okIx_mk; rfl)))
    all_goals (simp only [w1, w2, w3, w4, v1, v2, v4, u1, u2, u3, u4, o1, o2, o3])
  · exact (dend hc hs (by omega)).1
  · exact (dend hc hs (by omega)).2
theorem product1_ok (x : Int) (h0 : 0 ≤ x) (h1 : x < 18446744073709551616) : Runs Try.prog 104 [.val (.int .u64 x), .val (.int .u64 1)] [] (Det (.tup [.val (.int .u64 0), .val (.int .u64 x)]) []) := by
  have e1 : (1 : Int) / 4294967296 = 0 := by decide
  have e2 : (1 : Int) % 4294967296 = 1 := by decide
  refine Runs.mk tabOK Try.call104 Try.func104 rfl Try.ntmps104 Try.results104 rfl ?_
  (repeat' (first
    | (intro Q h; refine h ?_; clear h Q)
    | (with_reducible refine bcase_true ?_)
    | (with_reducible refine bcase_false ?_)
    | (refine bcase_mk (fun hb => ?_) (fun hb => ?_) <;> (try simp only [nS, nT, eq_self, reduceCtorEq] at hb))
    | refine draw_mk (by decide +kernel) ?_
    | refine seq_go ?_
    | refine And.intro (by first | omega | ((try simp only [wS]); omega) | rfl | decide) ?_
    | (apply ret_mk []; (focus (iterate 2 (all_goals (repeat' (first | exact sub_dead | exact subL_nil | exact trivial | (intro Q h; refine h ?_; clear h Q) | refine And.intro ?_ ?_ | refine subL_cons ?_ ?_ | refine sub_agg ?_ | refine sub_tup ?_ | exact sub_refl_val _ _ | (refine sub_int ?_; first | with_reducible rfl | omega | ((try simp only [wS]); omega) | rfl) | exact sub_sb rfl | exact sub_sbl rfl | with_reducible rfl | refine sub_int ?_ | refine sub_sb ?_ | refine sub_sbl ?_))))); (any_goals (apply okIx_mk; rfl)))
    | omega))
  all_goals (simp (disch := omega) only [tdiv_nn, tmod_nn, e1, e2, Int.mul_zero, Int.mul_one, Int.add_zero, Int.zero_add, uw_id])
  all_goals omega
set_option maxHeartbeats 1000000 in
theorem half_ok (a : Int) (h0 : -8000000000000000000 ≤ a) (h1 : a ≤ 8000000000000000000) : Runs Try.prog 89 [.val (.int .i64 a), .val (.int .i64 2)] [] (Det (.tup [.val (.int .i64 (a / 2)), .sb true]) []) := by
  have m : Runs Try.prog 102 [.val (.int .i64 a), .val (.int .i64 1), .val (.int .i64 2)] [] (Det (.tup [.val (.int .i64 (a / 2)), .sb true]) []) := by
    have s2 := rsize_pos 1 (by omega) (by omega)
    have s3 := rsize_pos 2 (by omega) (by omega)
    have e1 : decide ((1 : Int) < 0) = false := by decide
    have e2 : decide ((2 : Int) < 0) = false := by decide
    by_cases hn : 0 ≤ a
    · have s1 := rsize_pos a hn (by omega)
      have m1 := product1_ok a hn (by omega)
      have m2 := rdivide_ok a 2 hn (by omega) (by omega) (by omega)
      rw [show a / 18446744073709551616 = 0 from by omega, show a % 18446744073709551616 = a from by omega] at m2
      have e0 : decide (a < 0) = false := decide_eq_false (by omega)
      have hneg : (!(!decide (a < 0) == decide ((1 : Int) < 0)) == decide ((2 : Int) < 0)) = false := by rw [e0, e1, e2]; rfl
      have s4 := rsigned_ok (a / 2) (by omega) (by omega) false
      refine Runs.mk tabOK Try.call102 Try.func102 rfl Try.ntmps102 Try.results102 rfl ?_
      (repeat' (first
    | (intro Q h; refine h ?_; clear h Q)
    | refine bcase_t (by first | exact beq_self_eq_true _ | decide) ?_
    | refine bcase_f (by decide) ?_
    | (with_reducible refine bcase_true ?_)
    | (with_reducible refine bcase_false ?_)
    | (refine bcase_mk (fun hb => ?_) (fun hb => ?_) <;> (try simp only [nS, nT, eq_self, reduceCtorEq] at hb))
    | refine draw_mk (by decide +kernel) ?_
    | refine seq_go ?_
    | refine And.intro (by first | omega | ((try simp only [wS]); omega) | rfl | decide) ?_
    | ((first | apply call0 (s1) | apply calld0 (s1)); (focus ((iterate 2 (all_goals (repeat' (first | exact sub_dead | exact subL_nil | exact trivial | (intro Q h; refine h ?_; clear h Q) | refine And.intro ?_ ?_ | refine subL_cons ?_ ?_ | refine sub_agg ?_ | refine sub_tup ?_ | exact sub_refl_val _ _ | (refine sub_int ?_; first | with_reducible rfl | omega | ((try simp only [wS]); omega) | rfl) | exact sub_sb rfl | exact sub_sbl rfl | with_reducible rfl | refine sub_int ?_ | refine sub_sb ?_ | refine sub_sbl ?_)))); done)))
    | ((first | apply call0 (s2) | apply calld0 (s2)); (focus ((iterate 2 (all_goals (repeat' (first | exact sub_dead | exact subL_nil | exact trivial | (intro Q h; refine h ?_; clear h Q) | refine And.intro ?_ ?_ | refine subL_cons ?_ ?_ | refine sub_agg ?_ | refine sub_tup ?_ | exact sub_refl_val _ _ | (refine sub_int ?_; first | with_reducible rfl | omega | ((try simp only [wS]); omega) | rfl) | exact sub_sb rfl | exact sub_sbl rfl | with_reducible rfl | refine sub_int ?_ | refine sub_sb ?_ | refine sub_sbl ?_)))); done)))
    | ((first | apply call0 (s3) | apply calld0 (s3)); (focus ((iterate 2 (all_goals (repeat' (first | exact sub_dead | exact subL_nil | exact trivial | (intro Q h; refine h ?_; clear h Q) | refine And.intro ?_ ?_ | refine subL_cons ?_ ?_ | refine sub_agg ?_ | refine sub_tup ?_ | exact sub_refl_val _ _ | (refine sub_int ?_; first | with_reducible rfl | omega | ((try simp only [wS]); omega) | rfl) | exact sub_sb rfl | exact sub_sbl rfl | with_reducible rfl | refine sub_int ?_ | refine sub_sb ?_ | refine sub_sbl ?_)))); done)))
    | ((first | apply call0 (m1) | apply calld0 (m1)); (focus ((iterate 2 (all_goals (repeat' (first | exact sub_dead | exact subL_nil | exact trivial | (intro Q h; refine h ?_; clear h Q) | refine And.intro ?_ ?_ | refine subL_cons ?_ ?_ | refine sub_agg ?_ | refine sub_tup ?_ | exact sub_refl_val _ _ | (refine sub_int ?_; first | with_reducible rfl | omega | ((try simp only [wS]); omega) | rfl) | exact sub_sb rfl | exact sub_sbl rfl | with_reducible rfl | refine sub_int ?_ | refine sub_sb ?_ | refine sub_sbl ?_)))); done)))
    | ((first | apply call0 (m2) | apply calld0 (m2)); (focus ((iterate 2 (all_goals (repeat' (first | exact sub_dead | exact subL_nil | exact trivial | (intro Q h; refine h ?_; clear h Q) | refine And.intro ?_ ?_ | refine subL_cons ?_ ?_ | refine sub_agg ?_ | refine sub_tup ?_ | exact sub_refl_val _ _ | (refine sub_int ?_; first | with_reducible rfl | omega | ((try simp only [wS]); omega) | rfl) | exact sub_sb rfl | exact sub_sbl rfl | with_reducible rfl | refine sub_int ?_ | refine sub_sb ?_ | refine sub_sbl ?_)))); done)))
    | ((first | apply call0 (s4) | apply calld0 (s4)); (focus (iterate 2 (all_goals (repeat' (first | exact sub_dead | exact subL_nil | exact trivial | (intro Q h; refine h ?_; clear h Q) | refine And.intro ?_ ?_ | refine subL_cons ?_ ?_ | refine sub_agg ?_ | refine sub_tup ?_ | exact sub_refl_val _ _ | (refine sub_int ?_; first | with_reducible rfl | omega | ((try simp only [wS]); omega) | rfl) | exact sub_sb rfl | exact sub_sbl rfl | with_reducible rfl | refine sub_int ?_ | refine sub_sb ?_ | refine sub_sbl ?_))))))
    | (apply ret_mk []; (focus (iterate 2 (all_goals (repeat' (first | exact sub_dead | exact subL_nil | exact trivial | (intro Q h; refine h ?_; clear h Q) | refine And.intro ?_ ?_ | refine subL_cons ?_ ?_ | refine sub_agg ?_ | refine sub_tup ?_ | exact sub_refl_val _ _ | (refine sub_int ?_; first | with_reducible rfl | omega | ((try simp only [wS]); omega) | rfl) | exact sub_sb rfl | exact sub_sbl rfl | with_reducible rfl | refine sub_int ?_ | refine sub_sb ?_ | refine sub_sbl ?_))))); (any_goals (apply okIx_mk; rfl)))
    | omega))
      all_goals first
        | (rw [e0, e1, e2]; rfl)
        | (simp only [cond_true]; omega)
        | (exfalso; clear s1 s2 s3 s4 m1 m2; simp [e0, e1, e2] at *; done)
        | (exfalso; rw [e0, e1, e2] at hb; exact absurd hb (by decide))
        | (exfalso; rename_i hx _; rw [e0, e1, e2] at hx; exact absurd rfl hx)
        | (exfalso; rename_i hx; rw [e0, e1, e2] at hx; exact absurd rfl hx)
        | omega
        | (simp only [uw] at *; omega)
    · obtain ⟨b, rfl⟩ : ∃ b, a = -b := ⟨-a, by omega⟩
      have s1 := rsize_neg b (by omega) (by omega)
      have m1 := product1_ok b (by omega) (by omega)
      have m2 := rdivide_ok b 2 (by omega) (by omega) (by omega) (by omega)
      rw [show b / 18446744073709551616 = 0 from by omega, show b % 18446744073709551616 = b from by omega] at m2
      have e0 : decide (-b < 0) = true := decide_eq_true (by omega)
      have s4 := rsigned_ok (-(-b / 2)) (by omega) (by omega) true
      refine Runs.mk tabOK Try.call102 Try.func102 rfl Try.ntmps102 Try.results102 rfl ?_
      (repeat' (first
    | (intro Q h; refine h ?_; clear h Q)
    | refine bcase_t (by first | exact beq_self_eq_true _ | decide) ?_
    | refine bcase_f (by decide) ?_
    | (with_reducible refine bcase_true ?_)
    | (with_reducible refine bcase_false ?_)
    | (refine bcase_mk (fun hb => ?_) (fun hb => ?_) <;> (try simp only [nS, nT, eq_self, reduceCtorEq] at hb))
    | refine draw_mk (by decide +kernel) ?_
    | refine seq_go ?_
    | refine And.intro (by first | omega | ((try simp only [wS]); omega) | rfl | decide) ?_
    | ((first | apply call0 (s1) | apply calld0 (s1)); (focus ((iterate 2 (all_goals (repeat' (first | exact sub_dead | exact subL_nil | exact trivial | (intro Q h; refine h ?_; clear h Q) | refine And.intro ?_ ?_ | refine subL_cons ?_ ?_ | refine sub_agg ?_ | refine sub_tup ?_ | exact sub_refl_val _ _ | (refine sub_int ?_; first | with_reducible rfl | omega | ((try simp only [wS]); omega) | rfl) | exact sub_sb rfl | exact sub_sbl rfl | with_reducible rfl | refine sub_int ?_ | refine sub_sb ?_ | refine sub_sbl ?_)))); done)))
    | ((first | apply call0 (s2) | apply calld0 (s2)); (focus ((iterate 2 (all_goals (repeat' (first | exact sub_dead | exact subL_nil | exact trivial | (intro Q h; refine h ?_; clear h Q) | refine And.intro ?_ ?_ | refine subL_cons ?_ ?_ | refine sub_agg ?_ | refine sub_tup ?_ | exact sub_refl_val _ _ | (refine sub_int ?_; first | with_reducible rfl | omega | ((try simp only [wS]); omega) | rfl) | exact sub_sb rfl | exact sub_sbl rfl | with_reducible rfl | refine sub_int ?_ | refine sub_sb ?_ | refine sub_sbl ?_)))); done)))
    | ((first | apply call0 (s3) | apply calld0 (s3)); (focus ((iterate 2 (all_goals (repeat' (first | exact sub_dead | exact subL_nil | exact trivial | (intro Q h; refine h ?_; clear h Q) | refine And.intro ?_ ?_ | refine subL_cons ?_ ?_ | refine sub_agg ?_ | refine sub_tup ?_ | exact sub_refl_val _ _ | (refine sub_int ?_; first | with_reducible rfl | omega | ((try simp only [wS]); omega) | rfl) | exact sub_sb rfl | exact sub_sbl rfl | with_reducible rfl | refine sub_int ?_ | refine sub_sb ?_ | refine sub_sbl ?_)))); done)))
    | ((first | apply call0 (m1) | apply calld0 (m1)); (focus ((iterate 2 (all_goals (repeat' (first | exact sub_dead | exact subL_nil | exact trivial | (intro Q h; refine h ?_; clear h Q) | refine And.intro ?_ ?_ | refine subL_cons ?_ ?_ | refine sub_agg ?_ | refine sub_tup ?_ | exact sub_refl_val _ _ | (refine sub_int ?_; first | with_reducible rfl | omega | ((try simp only [wS]); omega) | rfl) | exact sub_sb rfl | exact sub_sbl rfl | with_reducible rfl | refine sub_int ?_ | refine sub_sb ?_ | refine sub_sbl ?_)))); done)))
    | ((first | apply call0 (m2) | apply calld0 (m2)); (focus ((iterate 2 (all_goals (repeat' (first | exact sub_dead | exact subL_nil | exact trivial | (intro Q h; refine h ?_; clear h Q) | refine And.intro ?_ ?_ | refine subL_cons ?_ ?_ | refine sub_agg ?_ | refine sub_tup ?_ | exact sub_refl_val _ _ | (refine sub_int ?_; first | with_reducible rfl | omega | ((try simp only [wS]); omega) | rfl) | exact sub_sb rfl | exact sub_sbl rfl | with_reducible rfl | refine sub_int ?_ | refine sub_sb ?_ | refine sub_sbl ?_)))); done)))
    | ((first | apply call0 (s4) | apply calld0 (s4)); (focus (iterate 2 (all_goals (repeat' (first | exact sub_dead | exact subL_nil | exact trivial | (intro Q h; refine h ?_; clear h Q) | refine And.intro ?_ ?_ | refine subL_cons ?_ ?_ | refine sub_agg ?_ | refine sub_tup ?_ | exact sub_refl_val _ _ | (refine sub_int ?_; first | with_reducible rfl | omega | ((try simp only [wS]); omega) | rfl) | exact sub_sb rfl | exact sub_sbl rfl | with_reducible rfl | refine sub_int ?_ | refine sub_sb ?_ | refine sub_sbl ?_))))))
    | (apply ret_mk []; (focus (iterate 2 (all_goals (repeat' (first | exact sub_dead | exact subL_nil | exact trivial | (intro Q h; refine h ?_; clear h Q) | refine And.intro ?_ ?_ | refine subL_cons ?_ ?_ | refine sub_agg ?_ | refine sub_tup ?_ | exact sub_refl_val _ _ | (refine sub_int ?_; first | with_reducible rfl | omega | ((try simp only [wS]); omega) | rfl) | exact sub_sb rfl | exact sub_sbl rfl | with_reducible rfl | refine sub_int ?_ | refine sub_sb ?_ | refine sub_sbl ?_))))); (any_goals (apply okIx_mk; rfl)))
    | omega))
      all_goals first
        | (rw [e0, e1, e2]; rfl)
        | (simp only [cond_true]; omega)
        | (exfalso; clear s1 s2 s3 s4 m1 m2; simp [e0, e1, e2] at *; done)
        | (exfalso; rw [e0, e1, e2] at hb; exact absurd hb (by decide))
        | (exfalso; rename_i hx _; rw [e0, e1, e2] at hx; exact absurd rfl hx)
        | (exfalso; rename_i hx; rw [e0, e1, e2] at hx; exact absurd rfl hx)
        | omega
        | (simp only [uw] at *; omega)
  refine Runs.mk tabOK Try.call89 Try.func89 rfl Try.ntmps89 Try.results89 rfl ?_
  (repeat' (first
    | (intro Q h; refine h ?_; clear h Q)
    | (with_reducible refine bcase_true ?_)
    | (with_reducible refine bcase_false ?_)
    | (refine bcase_mk (fun hb => ?_) (fun hb => ?_) <;> (try simp only [nS, nT, eq_self, reduceCtorEq] at hb))
    | refine draw_mk (by decide +kernel) ?_
    | refine seq_go ?_
    | refine And.intro (by first | omega | ((try simp only [wS]); omega) | rfl | decide) ?_
    | ((first | apply call0 (m) | apply calld0 (m)); (focus ((iterate 2 (all_goals (repeat' (first | exact sub_dead | exact subL_nil | exact trivial | (intro Q h; refine h ?_; clear h Q) | refine And.intro ?_ ?_ | refine subL_cons ?_ ?_ | refine sub_agg ?_ | refine sub_tup ?_ | exact sub_refl_val _ _ | (refine sub_int ?_; first | with_reducible rfl | omega | ((try simp only [wS]); omega) | rfl) | exact sub_sb rfl | exact sub_sbl rfl | with_reducible rfl | refine sub_int ?_ | refine sub_sb ?_ | refine sub_sbl ?_)))); done)))
    | (apply ret_mk []; (focus (iterate 2 (all_goals (repeat' (first | exact sub_dead | exact subL_nil | exact trivial | (intro Q h; refine h ?_; clear h Q) | refine And.intro ?_ ?_ | refine subL_cons ?_ ?_ | refine sub_agg ?_ | refine sub_tup ?_ | exact sub_refl_val _ _ | (refine sub_int ?_; first | with_reducible rfl | omega | ((try simp only [wS]); omega) | rfl) | exact sub_sb rfl | exact sub_sbl rfl | with_reducible rfl | refine sub_int ?_ | refine sub_sb ?_ | refine sub_sbl ?_))))); (any_goals (apply okIx_mk; rfl)))
    | omega))
def ivck (lo hi : Int) : Int := if hi < lo ∨ lo < -8000000000000000000 ∨ 8000000000000000000 < hi then 3 else 0
theorem ivck_ok (lo hi : Int) : Runs Try.prog 27 [.agg [.val (.int .i64 lo), .val (.int .i64 hi)]] [] (Det (.val (.int .i64 (ivck lo hi))) []) := by
  refine Runs.mk tabOK Try.call27 Try.func27 rfl Try.ntmps27 Try.results27 rfl ?_
  (repeat' (first
    | (intro Q h; refine h ?_; clear h Q)
    | (with_reducible refine bcase_true ?_)
    | (with_reducible refine bcase_false ?_)
    | (refine bcase_mk (fun hb => ?_) (fun hb => ?_) <;> (try simp only [nS, nT, eq_self, reduceCtorEq] at hb))
    | refine draw_mk (by decide +kernel) ?_
    | refine seq_go ?_
    | refine And.intro (by first | omega | ((try simp only [wS]); omega) | rfl | decide) ?_
    | (apply ret_mk []; (focus (iterate 2 (all_goals (repeat' (first | exact sub_dead | exact subL_nil | exact trivial | (intro Q h; refine h ?_; clear h Q) | refine And.intro ?_ ?_ | refine subL_cons ?_ ?_ | refine sub_agg ?_ | refine sub_tup ?_ | exact sub_refl_val _ _ | (refine sub_int ?_; first | with_reducible rfl | omega | ((try simp only [wS]); omega) | rfl) | exact sub_sb rfl | exact sub_sbl rfl | with_reducible rfl | refine sub_int ?_ | refine sub_sb ?_ | refine sub_sbl ?_))))); (any_goals (apply okIx_mk; rfl)))
    | omega))
  all_goals (unfold ivck; split <;> omega)
theorem rivck_ok (lo hi : Int) : Runs Try.prog 63 [.agg [.val (.int .i64 lo), .val (.int .i64 hi)]] [] (Det (.val (.int .i64 (ivck lo hi))) []) := by
  refine Runs.mk tabOK Try.call63 Try.func63 rfl Try.ntmps63 Try.results63 rfl ?_
  (repeat' (first
    | (intro Q h; refine h ?_; clear h Q)
    | (with_reducible refine bcase_true ?_)
    | (with_reducible refine bcase_false ?_)
    | (refine bcase_mk (fun hb => ?_) (fun hb => ?_) <;> (try simp only [nS, nT, eq_self, reduceCtorEq] at hb))
    | refine draw_mk (by decide +kernel) ?_
    | refine seq_go ?_
    | refine And.intro (by first | omega | ((try simp only [wS]); omega) | rfl | decide) ?_
    | (apply ret_mk []; (focus (iterate 2 (all_goals (repeat' (first | exact sub_dead | exact subL_nil | exact trivial | (intro Q h; refine h ?_; clear h Q) | refine And.intro ?_ ?_ | refine subL_cons ?_ ?_ | refine sub_agg ?_ | refine sub_tup ?_ | exact sub_refl_val _ _ | (refine sub_int ?_; first | with_reducible rfl | omega | ((try simp only [wS]); omega) | rfl) | exact sub_sb rfl | exact sub_sbl rfl | with_reducible rfl | refine sub_int ?_ | refine sub_sb ?_ | refine sub_sbl ?_))))); (any_goals (apply okIx_mk; rfl)))
    | omega))
  all_goals (unfold ivck; split <;> omega)
theorem ivck_cases (lo hi : Int) : (ivck lo hi = 0 ∧ lo ≤ hi ∧ -8000000000000000000 ≤ lo ∧ hi ≤ 8000000000000000000) ∨ (ivck lo hi = 3 ∧ ¬ (lo ≤ hi ∧ -8000000000000000000 ≤ lo ∧ hi ≤ 8000000000000000000)) := by
  unfold ivck; split <;> omega
def cdF (lo hi : Int) : (Int × Int) × Int := if ivck lo hi = 0 then ((lo, hi), 0) else ((0, 0), 3)
theorem checked_ok (lo hi : Int) : Runs Try.prog 82 [.val (.int .i64 lo), .val (.int .i64 hi)] [] (Det (.tup [.agg [.val (.int .i64 (cdF lo hi).1.1), .val (.int .i64 (cdF lo hi).1.2)], .val (.int .i64 (cdF lo hi).2)]) []) := by
  have d := ivck_ok lo hi
  rcases ivck_cases lo hi with ⟨h, _⟩ | ⟨h, _⟩
  · have e : cdF lo hi = ((lo, hi), 0) := if_pos h
    rw [e]
    rw [h] at d
    refine Runs.mk tabOK Try.call82 Try.func82 rfl Try.ntmps82 Try.results82 rfl ?_
    (repeat' (first
    | (intro Q h; refine h ?_; clear h Q)
    | refine bcase_t (by first | exact beq_self_eq_true _ | decide) ?_
    | refine bcase_f (by decide) ?_
    | (with_reducible refine bcase_true ?_)
    | (with_reducible refine bcase_false ?_)
    | (refine bcase_mk (fun hb => ?_) (fun hb => ?_) <;> (try simp only [nS, nT, eq_self, reduceCtorEq] at hb))
    | refine draw_mk (by decide +kernel) ?_
    | refine seq_go ?_
    | refine And.intro (by first | omega | ((try simp only [wS]); omega) | rfl | decide) ?_
    | ((first | apply call0 (d) | apply calld0 (d)); (focus ((iterate 2 (all_goals (repeat' (first | exact sub_dead | exact subL_nil | exact trivial | (intro Q h; refine h ?_; clear h Q) | refine And.intro ?_ ?_ | refine subL_cons ?_ ?_ | refine sub_agg ?_ | refine sub_tup ?_ | exact sub_refl_val _ _ | (refine sub_int ?_; first | with_reducible rfl | omega | ((try simp only [wS]); omega) | rfl) | exact sub_sb rfl | exact sub_sbl rfl | with_reducible rfl | refine sub_int ?_ | refine sub_sb ?_ | refine sub_sbl ?_)))); done)))
    | (apply ret_mk []; (focus (iterate 2 (all_goals (repeat' (first | exact sub_dead | exact subL_nil | exact trivial | (intro Q h; refine h ?_; clear h Q) | refine And.intro ?_ ?_ | refine subL_cons ?_ ?_ | refine sub_agg ?_ | refine sub_tup ?_ | exact sub_refl_val _ _ | (refine sub_int ?_; first | with_reducible rfl | omega | ((try simp only [wS]); omega) | rfl) | exact sub_sb rfl | exact sub_sbl rfl | with_reducible rfl | refine sub_int ?_ | refine sub_sb ?_ | refine sub_sbl ?_))))); (any_goals (apply okIx_mk; rfl)))
    | omega))
  · have e : cdF lo hi = ((0, 0), 3) := if_neg (by omega)
    rw [e]
    rw [h] at d
    refine Runs.mk tabOK Try.call82 Try.func82 rfl Try.ntmps82 Try.results82 rfl ?_
    (repeat' (first
    | (intro Q h; refine h ?_; clear h Q)
    | refine bcase_t (by first | exact beq_self_eq_true _ | decide) ?_
    | refine bcase_f (by decide) ?_
    | (with_reducible refine bcase_true ?_)
    | (with_reducible refine bcase_false ?_)
    | (refine bcase_mk (fun hb => ?_) (fun hb => ?_) <;> (try simp only [nS, nT, eq_self, reduceCtorEq] at hb))
    | refine draw_mk (by decide +kernel) ?_
    | refine seq_go ?_
    | refine And.intro (by first | omega | ((try simp only [wS]); omega) | rfl | decide) ?_
    | ((first | apply call0 (d) | apply calld0 (d)); (focus ((iterate 2 (all_goals (repeat' (first | exact sub_dead | exact subL_nil | exact trivial | (intro Q h; refine h ?_; clear h Q) | refine And.intro ?_ ?_ | refine subL_cons ?_ ?_ | refine sub_agg ?_ | refine sub_tup ?_ | exact sub_refl_val _ _ | (refine sub_int ?_; first | with_reducible rfl | omega | ((try simp only [wS]); omega) | rfl) | exact sub_sb rfl | exact sub_sbl rfl | with_reducible rfl | refine sub_int ?_ | refine sub_sb ?_ | refine sub_sbl ?_)))); done)))
    | (apply ret_mk []; (focus (iterate 2 (all_goals (repeat' (first | exact sub_dead | exact subL_nil | exact trivial | (intro Q h; refine h ?_; clear h Q) | refine And.intro ?_ ?_ | refine subL_cons ?_ ?_ | refine sub_agg ?_ | refine sub_tup ?_ | exact sub_refl_val _ _ | (refine sub_int ?_; first | with_reducible rfl | omega | ((try simp only [wS]); omega) | rfl) | exact sub_sb rfl | exact sub_sbl rfl | with_reducible rfl | refine sub_int ?_ | refine sub_sb ?_ | refine sub_sbl ?_))))); (any_goals (apply okIx_mk; rfl)))
    | omega))
theorem rchecked_ok (lo hi : Int) : Runs Try.prog 88 [.val (.int .i64 lo), .val (.int .i64 hi)] [] (Det (.tup [.agg [.val (.int .i64 (cdF lo hi).1.1), .val (.int .i64 (cdF lo hi).1.2)], .val (.int .i64 (cdF lo hi).2)]) []) := by
  have d := rivck_ok lo hi
  rcases ivck_cases lo hi with ⟨h, _⟩ | ⟨h, _⟩
  · have e : cdF lo hi = ((lo, hi), 0) := if_pos h
    rw [e]
    rw [h] at d
    refine Runs.mk tabOK Try.call88 Try.func88 rfl Try.ntmps88 Try.results88 rfl ?_
    (repeat' (first
    | (intro Q h; refine h ?_; clear h Q)
    | refine bcase_t (by first | exact beq_self_eq_true _ | decide) ?_
    | refine bcase_f (by decide) ?_
    | (with_reducible refine bcase_true ?_)
    | (with_reducible refine bcase_false ?_)
    | (refine bcase_mk (fun hb => ?_) (fun hb => ?_) <;> (try simp only [nS, nT, eq_self, reduceCtorEq] at hb))
    | refine draw_mk (by decide +kernel) ?_
    | refine seq_go ?_
    | refine And.intro (by first | omega | ((try simp only [wS]); omega) | rfl | decide) ?_
    | ((first | apply call0 (d) | apply calld0 (d)); (focus ((iterate 2 (all_goals (repeat' (first | exact sub_dead | exact subL_nil | exact trivial | (intro Q h; refine h ?_; clear h Q) | refine And.intro ?_ ?_ | refine subL_cons ?_ ?_ | refine sub_agg ?_ | refine sub_tup ?_ | exact sub_refl_val _ _ | (refine sub_int ?_; first | with_reducible rfl | omega | ((try simp only [wS]); omega) | rfl) | exact sub_sb rfl | exact sub_sbl rfl | with_reducible rfl | refine sub_int ?_ | refine sub_sb ?_ | refine sub_sbl ?_)))); done)))
    | (apply ret_mk []; (focus (iterate 2 (all_goals (repeat' (first | exact sub_dead | exact subL_nil | exact trivial | (intro Q h; refine h ?_; clear h Q) | refine And.intro ?_ ?_ | refine subL_cons ?_ ?_ | refine sub_agg ?_ | refine sub_tup ?_ | exact sub_refl_val _ _ | (refine sub_int ?_; first | with_reducible rfl | omega | ((try simp only [wS]); omega) | rfl) | exact sub_sb rfl | exact sub_sbl rfl | with_reducible rfl | refine sub_int ?_ | refine sub_sb ?_ | refine sub_sbl ?_))))); (any_goals (apply okIx_mk; rfl)))
    | omega))
  · have e : cdF lo hi = ((0, 0), 3) := if_neg (by omega)
    rw [e]
    rw [h] at d
    refine Runs.mk tabOK Try.call88 Try.func88 rfl Try.ntmps88 Try.results88 rfl ?_
    (repeat' (first
    | (intro Q h; refine h ?_; clear h Q)
    | refine bcase_t (by first | exact beq_self_eq_true _ | decide) ?_
    | refine bcase_f (by decide) ?_
    | (with_reducible refine bcase_true ?_)
    | (with_reducible refine bcase_false ?_)
    | (refine bcase_mk (fun hb => ?_) (fun hb => ?_) <;> (try simp only [nS, nT, eq_self, reduceCtorEq] at hb))
    | refine draw_mk (by decide +kernel) ?_
    | refine seq_go ?_
    | refine And.intro (by first | omega | ((try simp only [wS]); omega) | rfl | decide) ?_
    | ((first | apply call0 (d) | apply calld0 (d)); (focus ((iterate 2 (all_goals (repeat' (first | exact sub_dead | exact subL_nil | exact trivial | (intro Q h; refine h ?_; clear h Q) | refine And.intro ?_ ?_ | refine subL_cons ?_ ?_ | refine sub_agg ?_ | refine sub_tup ?_ | exact sub_refl_val _ _ | (refine sub_int ?_; first | with_reducible rfl | omega | ((try simp only [wS]); omega) | rfl) | exact sub_sb rfl | exact sub_sbl rfl | with_reducible rfl | refine sub_int ?_ | refine sub_sb ?_ | refine sub_sbl ?_)))); done)))
    | (apply ret_mk []; (focus (iterate 2 (all_goals (repeat' (first | exact sub_dead | exact subL_nil | exact trivial | (intro Q h; refine h ?_; clear h Q) | refine And.intro ?_ ?_ | refine subL_cons ?_ ?_ | refine sub_agg ?_ | refine sub_tup ?_ | exact sub_refl_val _ _ | (refine sub_int ?_; first | with_reducible rfl | omega | ((try simp only [wS]); omega) | rfl) | exact sub_sb rfl | exact sub_sbl rfl | with_reducible rfl | refine sub_int ?_ | refine sub_sb ?_ | refine sub_sbl ?_))))); (any_goals (apply okIx_mk; rfl)))
    | omega))
/-- An interval moved. -/
def shF (lo hi d : Int) : (Int × Int) × Int := if ivck lo hi ≠ 0 then ((0, 0), 2) else cdF (lo + d) (hi + d)
theorem fit_cases (n : Int) : (fitB n = true ∧ okI n = n ∧ R64 n) ∨ (fitB n = false ∧ okI n = 0 ∧ ¬ R64 n) := by
  by_cases h : R64 n
  · have e : fitB n = true := decide_eq_true h
    exact .inl ⟨e, by unfold okI; rw [e]; rfl, h⟩
  · have e : fitB n = false := decide_eq_false h
    exact .inr ⟨e, by unfold okI; rw [e]; rfl, h⟩
theorem shift_ok (lo hi d : Int) (h1 : R64 lo) (h2 : R64 hi) (h3 : R64 d) : Runs Try.prog 56 [.agg [.val (.int .i64 lo), .val (.int .i64 hi)], .val (.int .i64 d)] []
    (Det (.tup [.agg [.val (.int .i64 (shF lo hi d).1.1), .val (.int .i64 (shF lo hi d).1.2)], .val (.int .i64 (shF lo hi d).2)]) []) := by
  have c := ivck_ok lo hi
  have a1 := add_ok lo d h1 h3
  have a2 := add_ok hi d h2 h3
  have k := checked_ok (lo + d) (hi + d)
  rcases ivck_cases lo hi with ⟨h, q1, q2, q3⟩ | ⟨h, q⟩
  rotate_left
  · rw [h] at c
    have e : shF lo hi d = ((0, 0), 2) := if_pos (by omega)
    rw [e]
    refine Runs.mk tabOK Try.call56 Try.func56 rfl Try.ntmps56 Try.results56 rfl ?_
    (repeat' (first
    | (intro Q h; refine h ?_; clear h Q)
    | refine bcase_t (by first | exact beq_self_eq_true _ | decide) ?_
    | refine bcase_f (by decide) ?_
    | (with_reducible refine bcase_true ?_)
    | (with_reducible refine bcase_false ?_)
    | (refine bcase_mk (fun hb => ?_) (fun hb => ?_) <;> (try simp only [nS, nT, eq_self, reduceCtorEq] at hb))
    | refine draw_mk (by decide +kernel) ?_
    | refine seq_go ?_
    | refine And.intro (by first | omega | ((try simp only [wS]); omega) | rfl | decide) ?_
    | ((first | apply call0 (c) | apply calld0 (c)); (focus ((iterate 2 (all_goals (repeat' (first | exact sub_dead | exact subL_nil | exact trivial | (intro Q h; refine h ?_; clear h Q) | refine And.intro ?_ ?_ | refine subL_cons ?_ ?_ | refine sub_agg ?_ | refine sub_tup ?_ | exact sub_refl_val _ _ | (refine sub_int ?_; first | with_reducible rfl | omega | ((try simp only [wS]); omega) | rfl) | exact sub_sb rfl | exact sub_sbl rfl | with_reducible rfl | refine sub_int ?_ | refine sub_sb ?_ | refine sub_sbl ?_)))); done)))
    | (apply ret_mk []; (focus (iterate 2 (all_goals (repeat' (first | exact sub_dead | exact subL_nil | exact trivial | (intro Q h; refine h ?_; clear h Q) | refine And.intro ?_ ?_ | refine subL_cons ?_ ?_ | refine sub_agg ?_ | refine sub_tup ?_ | exact sub_refl_val _ _ | (refine sub_int ?_; first | with_reducible rfl | omega | ((try simp only [wS]); omega) | rfl) | exact sub_sb rfl | exact sub_sbl rfl | with_reducible rfl | refine sub_int ?_ | refine sub_sb ?_ | refine sub_sbl ?_))))); (any_goals (apply okIx_mk; rfl)))
    | omega))
  rw [h] at c
  have e : shF lo hi d = cdF (lo + d) (hi + d) := if_neg (by omega)
  rw [e]
  have e0 : ¬ (R64 (lo + d) ∧ R64 (hi + d)) → cdF (lo + d) (hi + d) = ((0, 0), 3) := fun hn => by
    unfold cdF
    rcases ivck_cases (lo + d) (hi + d) with ⟨g, _⟩ | ⟨g, _⟩
    · exfalso; apply hn; simp only [R64]; omega
    · rw [if_neg (by omega)]
  rcases fit_cases (lo + d) with ⟨f1, f2, f3⟩ | ⟨f1, f2, f3⟩ <;> rcases fit_cases (hi + d) with ⟨g1, g2, g3⟩ | ⟨g1, g2, g3⟩
  · rw [f1, f2] at a1
    rw [g1, g2] at a2
    refine Runs.mk tabOK Try.call56 Try.func56 rfl Try.ntmps56 Try.results56 rfl ?_
    (repeat' (first
    | (intro Q h; refine h ?_; clear h Q)
    | refine bcase_t (by first | exact beq_self_eq_true _ | decide) ?_
    | refine bcase_f (by decide) ?_
    | (with_reducible refine bcase_true ?_)
    | (with_reducible refine bcase_false ?_)
    | (refine bcase_mk (fun hb => ?_) (fun hb => ?_) <;> (try simp only [nS, nT, eq_self, reduceCtorEq] at hb))
    | refine draw_mk (by decide +kernel) ?_
    | refine seq_go ?_
    | refine And.intro (by first | omega | ((try simp only [wS]); omega) | rfl | decide) ?_
    | ((first | apply call0 (c) | apply calld0 (c)); (focus ((iterate 2 (all_goals (repeat' (first | exact sub_dead | exact subL_nil | exact trivial | (intro Q h; refine h ?_; clear h Q) | refine And.intro ?_ ?_ | refine subL_cons ?_ ?_ | refine sub_agg ?_ | refine sub_tup ?_ | exact sub_refl_val _ _ | (refine sub_int ?_; first | with_reducible rfl | omega | ((try simp only [wS]); omega) | rfl) | exact sub_sb rfl | exact sub_sbl rfl | with_reducible rfl | refine sub_int ?_ | refine sub_sb ?_ | refine sub_sbl ?_)))); done)))
    | ((first | apply call0 (a1) | apply calld0 (a1)); (focus ((iterate 2 (all_goals (repeat' (first | exact sub_dead | exact subL_nil | exact trivial | (intro Q h; refine h ?_; clear h Q) | refine And.intro ?_ ?_ | refine subL_cons ?_ ?_ | refine sub_agg ?_ | refine sub_tup ?_ | exact sub_refl_val _ _ | (refine sub_int ?_; first | with_reducible rfl | omega | ((try simp only [wS]); omega) | rfl) | exact sub_sb rfl | exact sub_sbl rfl | with_reducible rfl | refine sub_int ?_ | refine sub_sb ?_ | refine sub_sbl ?_)))); done)))
    | ((first | apply call0 (a2) | apply calld0 (a2)); (focus ((iterate 2 (all_goals (repeat' (first | exact sub_dead | exact subL_nil | exact trivial | (intro Q h; refine h ?_; clear h Q) | refine And.intro ?_ ?_ | refine subL_cons ?_ ?_ | refine sub_agg ?_ | refine sub_tup ?_ | exact sub_refl_val _ _ | (refine sub_int ?_; first | with_reducible rfl | omega | ((try simp only [wS]); omega) | rfl) | exact sub_sb rfl | exact sub_sbl rfl | with_reducible rfl | refine sub_int ?_ | refine sub_sb ?_ | refine sub_sbl ?_)))); done)))
    | ((first | apply call0 (k) | apply calld0 (k)); (focus ((iterate 2 (all_goals (repeat' (first | exact sub_dead | exact subL_nil | exact trivial | (intro Q h; refine h ?_; clear h Q) | refine And.intro ?_ ?_ | refine subL_cons ?_ ?_ | refine sub_agg ?_ | refine sub_tup ?_ | exact sub_refl_val _ _ | (refine sub_int ?_; first | with_reducible rfl | omega | ((try simp only [wS]); omega) | rfl) | exact sub_sb rfl | exact sub_sbl rfl | with_reducible rfl | refine sub_int ?_ | refine sub_sb ?_ | refine sub_sbl ?_)))); done)))
    | (apply ret_mk []; (focus (iterate 2 (all_goals (repeat' (first | exact sub_dead | exact subL_nil | exact trivial | (intro Q h; refine h ?_; clear h Q) | refine And.intro ?_ ?_ | refine subL_cons ?_ ?_ | refine sub_agg ?_ | refine sub_tup ?_ | exact sub_refl_val _ _ | (refine sub_int ?_; first | with_reducible rfl | omega | ((try simp only [wS]); omega) | rfl) | exact sub_sb rfl | exact sub_sbl rfl | with_reducible rfl | refine sub_int ?_ | refine sub_sb ?_ | refine sub_sbl ?_))))); (any_goals (apply okIx_mk; rfl)))
    | omega))
  all_goals
    rw [f1, f2] at a1
    rw [g1, g2] at a2
    rw [e0 (fun q => by first | exact f3 q.1 | exact g3 q.2)]
    refine Runs.mk tabOK Try.call56 Try.func56 rfl Try.ntmps56 Try.results56 rfl ?_
    (repeat' (first
    | (intro Q h; refine h ?_; clear h Q)
    | refine bcase_t (by first | exact beq_self_eq_true _ | decide) ?_
    | refine bcase_f (by decide) ?_
    | (with_reducible refine bcase_true ?_)
    | (with_reducible refine bcase_false ?_)
    | (refine bcase_mk (fun hb => ?_) (fun hb => ?_) <;> (try simp only [nS, nT, eq_self, reduceCtorEq] at hb))
    | refine draw_mk (by decide +kernel) ?_
    | refine seq_go ?_
    | refine And.intro (by first | omega | ((try simp only [wS]); omega) | rfl | decide) ?_
    | ((first | apply call0 (c) | apply calld0 (c)); (focus ((iterate 2 (all_goals (repeat' (first | exact sub_dead | exact subL_nil | exact trivial | (intro Q h; refine h ?_; clear h Q) | refine And.intro ?_ ?_ | refine subL_cons ?_ ?_ | refine sub_agg ?_ | refine sub_tup ?_ | exact sub_refl_val _ _ | (refine sub_int ?_; first | with_reducible rfl | omega | ((try simp only [wS]); omega) | rfl) | exact sub_sb rfl | exact sub_sbl rfl | with_reducible rfl | refine sub_int ?_ | refine sub_sb ?_ | refine sub_sbl ?_)))); done)))
    | ((first | apply call0 (a1) | apply calld0 (a1)); (focus ((iterate 2 (all_goals (repeat' (first | exact sub_dead | exact subL_nil | exact trivial | (intro Q h; refine h ?_; clear h Q) | refine And.intro ?_ ?_ | refine subL_cons ?_ ?_ | refine sub_agg ?_ | refine sub_tup ?_ | exact sub_refl_val _ _ | (refine sub_int ?_; first | with_reducible rfl | omega | ((try simp only [wS]); omega) | rfl) | exact sub_sb rfl | exact sub_sbl rfl | with_reducible rfl | refine sub_int ?_ | refine sub_sb ?_ | refine sub_sbl ?_)))); done)))
    | ((first | apply call0 (a2) | apply calld0 (a2)); (focus ((iterate 2 (all_goals (repeat' (first | exact sub_dead | exact subL_nil | exact trivial | (intro Q h; refine h ?_; clear h Q) | refine And.intro ?_ ?_ | refine subL_cons ?_ ?_ | refine sub_agg ?_ | refine sub_tup ?_ | exact sub_refl_val _ _ | (refine sub_int ?_; first | with_reducible rfl | omega | ((try simp only [wS]); omega) | rfl) | exact sub_sb rfl | exact sub_sbl rfl | with_reducible rfl | refine sub_int ?_ | refine sub_sb ?_ | refine sub_sbl ?_)))); done)))
    | (apply ret_mk []; (focus (iterate 2 (all_goals (repeat' (first | exact sub_dead | exact subL_nil | exact trivial | (intro Q h; refine h ?_; clear h Q) | refine And.intro ?_ ?_ | refine subL_cons ?_ ?_ | refine sub_agg ?_ | refine sub_tup ?_ | exact sub_refl_val _ _ | (refine sub_int ?_; first | with_reducible rfl | omega | ((try simp only [wS]); omega) | rfl) | exact sub_sb rfl | exact sub_sbl rfl | with_reducible rfl | refine sub_int ?_ | refine sub_sb ?_ | refine sub_sbl ?_))))); (any_goals (apply okIx_mk; rfl)))
    | omega))
theorem rshift_ok (lo hi d : Int) (h1 : R64 lo) (h2 : R64 hi) (h3 : R64 d) : Runs Try.prog 62 [.agg [.val (.int .i64 lo), .val (.int .i64 hi)], .val (.int .i64 d)] []
    (Det (.tup [.agg [.val (.int .i64 (shF lo hi d).1.1), .val (.int .i64 (shF lo hi d).1.2)], .val (.int .i64 (shF lo hi d).2)]) []) := by
  have c := rivck_ok lo hi
  have a1 := radd_ok lo d h1 h3
  have a2 := radd_ok hi d h2 h3
  have k := rchecked_ok (lo + d) (hi + d)
  rcases ivck_cases lo hi with ⟨h, q1, q2, q3⟩ | ⟨h, q⟩
  rotate_left
  · rw [h] at c
    have e : shF lo hi d = ((0, 0), 2) := if_pos (by omega)
    rw [e]
    refine Runs.mk tabOK Try.call62 Try.func62 rfl Try.ntmps62 Try.results62 rfl ?_
    (repeat' (first
    | (intro Q h; refine h ?_; clear h Q)
    | refine bcase_t (by first | exact beq_self_eq_true _ | decide) ?_
    | refine bcase_f (by decide) ?_
    | (with_reducible refine bcase_true ?_)
    | (with_reducible refine bcase_false ?_)
    | (refine bcase_mk (fun hb => ?_) (fun hb => ?_) <;> (try simp only [nS, nT, eq_self, reduceCtorEq] at hb))
    | refine draw_mk (by decide +kernel) ?_
    | refine seq_go ?_
    | refine And.intro (by first | omega | ((try simp only [wS]); omega) | rfl | decide) ?_
    | ((first | apply call0 (c) | apply calld0 (c)); (focus ((iterate 2 (all_goals (repeat' (first | exact sub_dead | exact subL_nil | exact trivial | (intro Q h; refine h ?_; clear h Q) | refine And.intro ?_ ?_ | refine subL_cons ?_ ?_ | refine sub_agg ?_ | refine sub_tup ?_ | exact sub_refl_val _ _ | (refine sub_int ?_; first | with_reducible rfl | omega | ((try simp only [wS]); omega) | rfl) | exact sub_sb rfl | exact sub_sbl rfl | with_reducible rfl | refine sub_int ?_ | refine sub_sb ?_ | refine sub_sbl ?_)))); done)))
    | (apply ret_mk []; (focus (iterate 2 (all_goals (repeat' (first | exact sub_dead | exact subL_nil | exact trivial | (intro Q h; refine h ?_; clear h Q) | refine And.intro ?_ ?_ | refine subL_cons ?_ ?_ | refine sub_agg ?_ | refine sub_tup ?_ | exact sub_refl_val _ _ | (refine sub_int ?_; first | with_reducible rfl | omega | ((try simp only [wS]); omega) | rfl) | exact sub_sb rfl | exact sub_sbl rfl | with_reducible rfl | refine sub_int ?_ | refine sub_sb ?_ | refine sub_sbl ?_))))); (any_goals (apply okIx_mk; rfl)))
    | omega))
  rw [h] at c
  have e : shF lo hi d = cdF (lo + d) (hi + d) := if_neg (by omega)
  rw [e]
  have e0 : ¬ (R64 (lo + d) ∧ R64 (hi + d)) → cdF (lo + d) (hi + d) = ((0, 0), 3) := fun hn => by
    unfold cdF
    rcases ivck_cases (lo + d) (hi + d) with ⟨g, _⟩ | ⟨g, _⟩
    · exfalso; apply hn; simp only [R64]; omega
    · rw [if_neg (by omega)]
  rcases fit_cases (lo + d) with ⟨f1, f2, f3⟩ | ⟨f1, f2, f3⟩ <;> rcases fit_cases (hi + d) with ⟨g1, g2, g3⟩ | ⟨g1, g2, g3⟩
  · rw [f1, f2] at a1
    rw [g1, g2] at a2
    refine Runs.mk tabOK Try.call62 Try.func62 rfl Try.ntmps62 Try.results62 rfl ?_
    (repeat' (first
    | (intro Q h; refine h ?_; clear h Q)
    | refine bcase_t (by first | exact beq_self_eq_true _ | decide) ?_
    | refine bcase_f (by decide) ?_
    | (with_reducible refine bcase_true ?_)
    | (with_reducible refine bcase_false ?_)
    | (refine bcase_mk (fun hb => ?_) (fun hb => ?_) <;> (try simp only [nS, nT, eq_self, reduceCtorEq] at hb))
    | refine draw_mk (by decide +kernel) ?_
    | refine seq_go ?_
    | refine And.intro (by first | omega | ((try simp only [wS]); omega) | rfl | decide) ?_
    | ((first | apply call0 (c) | apply calld0 (c)); (focus ((iterate 2 (all_goals (repeat' (first | exact sub_dead | exact subL_nil | exact trivial | (intro Q h; refine h ?_; clear h Q) | refine And.intro ?_ ?_ | refine subL_cons ?_ ?_ | refine sub_agg ?_ | refine sub_tup ?_ | exact sub_refl_val _ _ | (refine sub_int ?_; first | with_reducible rfl | omega | ((try simp only [wS]); omega) | rfl) | exact sub_sb rfl | exact sub_sbl rfl | with_reducible rfl | refine sub_int ?_ | refine sub_sb ?_ | refine sub_sbl ?_)))); done)))
    | ((first | apply call0 (a1) | apply calld0 (a1)); (focus ((iterate 2 (all_goals (repeat' (first | exact sub_dead | exact subL_nil | exact trivial | (intro Q h; refine h ?_; clear h Q) | refine And.intro ?_ ?_ | refine subL_cons ?_ ?_ | refine sub_agg ?_ | refine sub_tup ?_ | exact sub_refl_val _ _ | (refine sub_int ?_; first | with_reducible rfl | omega | ((try simp only [wS]); omega) | rfl) | exact sub_sb rfl | exact sub_sbl rfl | with_reducible rfl | refine sub_int ?_ | refine sub_sb ?_ | refine sub_sbl ?_)))); done)))
    | ((first | apply call0 (a2) | apply calld0 (a2)); (focus ((iterate 2 (all_goals (repeat' (first | exact sub_dead | exact subL_nil | exact trivial | (intro Q h; refine h ?_; clear h Q) | refine And.intro ?_ ?_ | refine subL_cons ?_ ?_ | refine sub_agg ?_ | refine sub_tup ?_ | exact sub_refl_val _ _ | (refine sub_int ?_; first | with_reducible rfl | omega | ((try simp only [wS]); omega) | rfl) | exact sub_sb rfl | exact sub_sbl rfl | with_reducible rfl | refine sub_int ?_ | refine sub_sb ?_ | refine sub_sbl ?_)))); done)))
    | ((first | apply call0 (k) | apply calld0 (k)); (focus ((iterate 2 (all_goals (repeat' (first | exact sub_dead | exact subL_nil | exact trivial | (intro Q h; refine h ?_; clear h Q) | refine And.intro ?_ ?_ | refine subL_cons ?_ ?_ | refine sub_agg ?_ | refine sub_tup ?_ | exact sub_refl_val _ _ | (refine sub_int ?_; first | with_reducible rfl | omega | ((try simp only [wS]); omega) | rfl) | exact sub_sb rfl | exact sub_sbl rfl | with_reducible rfl | refine sub_int ?_ | refine sub_sb ?_ | refine sub_sbl ?_)))); done)))
    | (apply ret_mk []; (focus (iterate 2 (all_goals (repeat' (first | exact sub_dead | exact subL_nil | exact trivial | (intro Q h; refine h ?_; clear h Q) | refine And.intro ?_ ?_ | refine subL_cons ?_ ?_ | refine sub_agg ?_ | refine sub_tup ?_ | exact sub_refl_val _ _ | (refine sub_int ?_; first | with_reducible rfl | omega | ((try simp only [wS]); omega) | rfl) | exact sub_sb rfl | exact sub_sbl rfl | with_reducible rfl | refine sub_int ?_ | refine sub_sb ?_ | refine sub_sbl ?_))))); (any_goals (apply okIx_mk; rfl)))
    | omega))
  all_goals
    rw [f1, f2] at a1
    rw [g1, g2] at a2
    rw [e0 (fun q => by first | exact f3 q.1 | exact g3 q.2)]
    refine Runs.mk tabOK Try.call62 Try.func62 rfl Try.ntmps62 Try.results62 rfl ?_
    (repeat' (first
    | (intro Q h; refine h ?_; clear h Q)
    | refine bcase_t (by first | exact beq_self_eq_true _ | decide) ?_
    | refine bcase_f (by decide) ?_
    | (with_reducible refine bcase_true ?_)
    | (with_reducible refine bcase_false ?_)
    | (refine bcase_mk (fun hb => ?_) (fun hb => ?_) <;> (try simp only [nS, nT, eq_self, reduceCtorEq] at hb))
    | refine draw_mk (by decide +kernel) ?_
    | refine seq_go ?_
    | refine And.intro (by first | omega | ((try simp only [wS]); omega) | rfl | decide) ?_
    | ((first | apply call0 (c) | apply calld0 (c)); (focus ((iterate 2 (all_goals (repeat' (first | exact sub_dead | exact subL_nil | exact trivial | (intro Q h; refine h ?_; clear h Q) | refine And.intro ?_ ?_ | refine subL_cons ?_ ?_ | refine sub_agg ?_ | refine sub_tup ?_ | exact sub_refl_val _ _ | (refine sub_int ?_; first | with_reducible rfl | omega | ((try simp only [wS]); omega) | rfl) | exact sub_sb rfl | exact sub_sbl rfl | with_reducible rfl | refine sub_int ?_ | refine sub_sb ?_ | refine sub_sbl ?_)))); done)))
    | ((first | apply call0 (a1) | apply calld0 (a1)); (focus ((iterate 2 (all_goals (repeat' (first | exact sub_dead | exact subL_nil | exact trivial | (intro Q h; refine h ?_; clear h Q) | refine And.intro ?_ ?_ | refine subL_cons ?_ ?_ | refine sub_agg ?_ | refine sub_tup ?_ | exact sub_refl_val _ _ | (refine sub_int ?_; first | with_reducible rfl | omega | ((try simp only [wS]); omega) | rfl) | exact sub_sb rfl | exact sub_sbl rfl | with_reducible rfl | refine sub_int ?_ | refine sub_sb ?_ | refine sub_sbl ?_)))); done)))
    | ((first | apply call0 (a2) | apply calld0 (a2)); (focus ((iterate 2 (all_goals (repeat' (first | exact sub_dead | exact subL_nil | exact trivial | (intro Q h; refine h ?_; clear h Q) | refine And.intro ?_ ?_ | refine subL_cons ?_ ?_ | refine sub_agg ?_ | refine sub_tup ?_ | exact sub_refl_val _ _ | (refine sub_int ?_; first | with_reducible rfl | omega | ((try simp only [wS]); omega) | rfl) | exact sub_sb rfl | exact sub_sbl rfl | with_reducible rfl | refine sub_int ?_ | refine sub_sb ?_ | refine sub_sbl ?_)))); done)))
    | (apply ret_mk []; (focus (iterate 2 (all_goals (repeat' (first | exact sub_dead | exact subL_nil | exact trivial | (intro Q h; refine h ?_; clear h Q) | refine And.intro ?_ ?_ | refine subL_cons ?_ ?_ | refine sub_agg ?_ | refine sub_tup ?_ | exact sub_refl_val _ _ | (refine sub_int ?_; first | with_reducible rfl | omega | ((try simp only [wS]); omega) | rfl) | exact sub_sb rfl | exact sub_sbl rfl | with_reducible rfl | refine sub_int ?_ | refine sub_sb ?_ | refine sub_sbl ?_))))); (any_goals (apply okIx_mk; rfl)))
    | omega))
/-- The middle of an interval. -/
def midF (lo hi : Int) : Int := (lo + hi) / 2
theorem middle_ok (lo hi : Int) (h : ivck lo hi = 0) : Runs Try.prog 64 [.agg [.val (.int .i64 lo), .val (.int .i64 hi)]] [] (Det (.val (.int .i64 (midF lo hi))) []) := by
  rcases ivck_cases lo hi with ⟨_, q1, q2, q3⟩ | ⟨q, _⟩
  rotate_left
  · omega
  have a1 := half_ok lo q2 (by omega)
  have a2 := half_ok hi (by omega) q3
  refine Runs.mk tabOK Try.call64 Try.func64 rfl Try.ntmps64 Try.results64 rfl ?_
  (repeat' (first
    | (intro Q h; refine h ?_; clear h Q)
    | (with_reducible refine bcase_true ?_)
    | (with_reducible refine bcase_false ?_)
    | (refine bcase_mk (fun hb => ?_) (fun hb => ?_) <;> (try simp only [nS, nT, eq_self, reduceCtorEq] at hb))
    | refine draw_mk (by decide +kernel) ?_
    | refine seq_go ?_
    | refine And.intro (by first | omega | ((try simp only [wS]); omega) | rfl | decide) ?_
    | ((first | apply call0 (a1) | apply calld0 (a1)); (focus ((iterate 2 (all_goals (repeat' (first | exact sub_dead | exact subL_nil | exact trivial | (intro Q h; refine h ?_; clear h Q) | refine And.intro ?_ ?_ | refine subL_cons ?_ ?_ | refine sub_agg ?_ | refine sub_tup ?_ | exact sub_refl_val _ _ | (refine sub_int ?_; first | with_reducible rfl | omega | ((try simp only [wS]); omega) | rfl) | exact sub_sb rfl | exact sub_sbl rfl | with_reducible rfl | refine sub_int ?_ | refine sub_sb ?_ | refine sub_sbl ?_)))); done)))
    | ((first | apply call0 (a2) | apply calld0 (a2)); (focus ((iterate 2 (all_goals (repeat' (first | exact sub_dead | exact subL_nil | exact trivial | (intro Q h; refine h ?_; clear h Q) | refine And.intro ?_ ?_ | refine subL_cons ?_ ?_ | refine sub_agg ?_ | refine sub_tup ?_ | exact sub_refl_val _ _ | (refine sub_int ?_; first | with_reducible rfl | omega | ((try simp only [wS]); omega) | rfl) | exact sub_sb rfl | exact sub_sbl rfl | with_reducible rfl | refine sub_int ?_ | refine sub_sb ?_ | refine sub_sbl ?_)))); done)))
    | (apply ret_mk []; (focus (iterate 2 (all_goals (repeat' (first | exact sub_dead | exact subL_nil | exact trivial | (intro Q h; refine h ?_; clear h Q) | refine And.intro ?_ ?_ | refine subL_cons ?_ ?_ | refine sub_agg ?_ | refine sub_tup ?_ | exact sub_refl_val _ _ | (refine sub_int ?_; first | with_reducible rfl | omega | ((try simp only [wS]); omega) | rfl) | exact sub_sb rfl | exact sub_sbl rfl | with_reducible rfl | refine sub_int ?_ | refine sub_sb ?_ | refine sub_sbl ?_))))); (any_goals (apply okIx_mk; rfl)))
    | omega))
  all_goals (unfold midF; simp only [cw] at *; omega)
end Go.Vx.L55
